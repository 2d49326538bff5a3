/- The abstract machine, part 2: a reflective interpreter of the program's code over data, with its soundness over the model. -/
import Derived.Test.YtlemhlmemchiaaaGreatEng1
open Bool renaming and_eq_true→Xi,not_eq_true'→Xar,false_eq_true→Xbp
open List renaming nodup_cons→Xaj,getElem?_append_left→Xbc,getD→Xb,getElem?_append_right→Xay,ext_getElem?→Xfj,getElem?_eq_none→Xbg,replicate→Xaa,getElem?_map→Xap,prefix_refl→Xfp,nil_prefix→Xgx,prefix_append_right_inj→Xfe,length_replicate→Xfz,append_nil→Xcz,getElem?_toArray→Xer,append_assoc→Xbn,getElem?_append→Xaz,getElem?_take→Xbl,getElem?_drop→Xbm,getElem?_eq_some_iff→Xt,drop_drop→Xdw,take_append_drop→Xcx,length_take→Xal,mem_cons_self→Xh,mem_cons_of_mem→Xe,mem_map_of_mem→Xan,pairwise_cons→Xz,mem_append_left→Xk,mem_append_right→Xg,length_append→Xae,map_append→Xr,pairwise_append→Xag,mem_append→Xl,mem_map→Xv,mem_cons→Xq,getElem?_of_mem→Xdy,getElem?_eq_getElem→Xp,eq_nil_of_length_eq_zero→Xad,map_toArray→Xea,map_cons→Xam,map_nil→Xcg,append→Xf,take_length→Xdc,mem_singleton→Xx,length→Xc,append_inj→Xfu,length_map→Xy,mem_of_mem_take→Xbw,mem_of_mem_drop→Xfa,nodup_append→Xah,all_eq_true→Xak,nodup_nil→Xcu,length_drop→Xdd,sublist_append_right→Xfm,all_cons→Xcs,mem_of_getElem?→Xaw
open Nat renaming succ_mul→Xcc,mul_le_mul_right→Xbi,add_zero→Xbb,le_trans→Xcr,zero_mul→Xey,le_refl→Xn,min_eq_left→Xci,add_assoc→Xas,lt_succ_self→Xbz,add_mul→Xcy,zero_le→Xbr,eq_of_beq_eq_true→Xce,add_sub_cancel_left→Xbe,le_succ→Xdm
open Array renaming range→Xck,foldl_toList→Xff,length_toList→Xax
open Int renaming mul_le_mul_of_nonneg_right→Xex
open Option renaming map_eq_some_iff→Xab,map_some→Xch,bind_eq_some_iff→Xcb,bind_some→Xd
namespace Go.Sx
set_option linter.unusedVariables false
set_option linter.unusedSimpArgs false
theorem WcK:∀l:List Nat,Wbl l=true↔l.Nodup
 | []=>by simp[Wbl]
 |i::l=>by
  have h:=Wgy i l;simp only[Wbl,Xi,Xar,Xaj,WcK l];constructor
  .rintro⟨h1,h2⟩;exact⟨λhm=>(by rw[h.2 hm]at h1;exact absurd h1 (by simp)),h2⟩
  .rintro⟨h1,h2⟩;refine⟨?_,h2⟩;cases he:WbQ i l with
   |false=>rfl
   |true=>exact absurd (h.1 he) h1
theorem WrI{α:Type}(l:List α)(d:α):∀(n i:Nat),i<n*l.length->(rep l n)[i]?=some (l.getD (i%l.length) d)
 |0,i,h=>by simp at h
 |n+1,i,h=>by
  rw[rep];by_cases hi:i<l.length
  .rw[Xbc hi,Nat.mod_eq_of_lt hi];simp[Xb,hi]
  .have fb:l.length<=i:=by omega
   rw[Xay fb,WrI l d n (i-l.length) (by rw[Xcc]at h;omega)];rw[Nat.mod_eq_sub_mod fb]
theorem WfR(z:Array Value)(n:Nat):((Xck (n*z.size)).map λi=>z[i%z.size]!).toList=rep z.toList n:=by
 apply Xfj;intro i;by_cases hi:i<n*z.size
 .rw[WrI z.toList default n i (by simpa using hi)];have hpos:0<z.size:=Nat.pos_of_ne_zero (λh=>by rw[h]at hi;simp at hi);have hm:i%z.size<z.size:=Nat.mod_lt _ hpos;simp[hi,Xb,hm]
 .have h1:n*z.size<=i:=by omega
  rw[Xbg (by simp;exact h1),Xbg (by rw[Wko];simp;exact h1)]
section
variable{w0:World}{F:CS}{nt:Slots}{G0 G:GH}{ν:Nat->Nu}{objs:Wab}{nx:Nat}{st ah:St}{a:Act}{w w':World}{P:Program}{T:Tab}
theorem WhJ(hh:HRel w0 F G ν objs nx w){e:Ty}(he:e.data=true):
  ∀(l:List (Nat×AVal)) (ps:List (Nat×Value)) (xs ys:List e.den) (vs:Array Value),EncL (Enc G e) xs vs.toList->ps.length=l.length->
   (∀(j:Nat) (p:Nat×AVal) (q:Nat×Value),l[j]?=some p->ps[j]?=some q->p.1=q.1/\AValRel G ν nx p.2 q.2)->WoQ e objs l xs=some ys->
   ∃vs',Instr.fill (λi=>some (i*e.size,e.size)) vs ps=some vs'/\EncL (Enc G e) ys vs'.toList/\ys.length=xs.length
 | [],[],xs,ys,vs,hc,_,_,h=>by simp[WoQ]at h;subst h;exact⟨vs,rfl,hc,rfl⟩
 |(i,x)::l,[],_,_,_,_,hl,_,_=>by simp at hl
 | [],_::_,_,_,_,_,hl,_,_=>by simp at hl
 |(i,x)::l,(i',v)::ps,xs,ys,vs,hc,hl,hp,h=>by
  obtain⟨hi,hx⟩:=hp 0 _ _ rfl rfl;simp only at hi hx;subst hi;simp only[WoQ]at h;split at h
  .rename_i ds gu;split at h
   .rename_i d hf;split at h
    .rename_i hlt;obtain⟨h1,_⟩:=Wdm hx gu;have henc:=Wlu hh h1 he hf;have hlen:v.cells.toList.length=e.size:=Enc_len _ _ _ henc;have eO:vs.toList.length=xs.length*e.size:=EncL_len (λx c hc=>Enc_len e x c hc) _ _ hc;have bS:i*e.size+e.size<=xs.length*e.size:=by rw[←Xcc];exact Xbi _ hlt
     have dO:=Wid v.cells.toList (i*e.size) 0 vs (by simp at hlen eO⊢;omega);simp only[Xbb]at dO;have dX:=Wkm (λx c hc=>Enc_len e x c hc) xs vs.toList i d v.cells.toList hc hlt henc;obtain⟨vs',h4,h5,h6⟩:=WhJ hh he l ps (xs.set i d) ys _ (by rw[dO,hlen];exact dX) (by simpa using hl) (λj p q hj hq=>hp (j+1) p q (by simpa using hj) (by simpa using hq)) h;refine⟨vs',?_,h5,by rw[h6];simp⟩;simp only[Instr.fill];rw[if_neg (by simp at hlen eO⊢;omega)];rw[←h4];congr 1;rw[←Xff];simp
    .simp at h
   .simp at h
  .simp at h
theorem WhA(hT:Waf P T)(hr:Rel w0 F nt G0 G ν st a w){o:Oper}(hd:∀d,o.dst=some d->nt.Ok d){t:TypeId}{n:Nat}{parts:Array (Nat×Operand)}(ho:o.op= .buildSlice t n parts)
  {ty:Ty} {et:TypeId} {te:TE} {ps:List (Nat×AVal)} {xs:List te.ty.den} (hl:look T t=some ⟨ty,false,.slice et⟩) (hle:look T et=some te)
  (h1:ps.length=parts.toList.length) (h2:∀(j:Nat) (p:Nat×AVal) (q:Nat×Operand),ps[j]?=some p->parts.toList[j]?=some q->p.1=q.1/\AValRel G ν st.nx p.2 (a.eval q.2))
  (hf:WoQ te.ty st.objs ps (Xaa n te.ty.dflt)=some xs) (hsz:n*te.ty.size<=16777216) (aZ:te.ty.data=true) (hp:te.plain=true):
  Done P w0 F nt G0 o a w (st.new o.dst (.arr te.ty xs) (.s (.one (.own st.nx)))):=by
 have hu:=(hT _ _ hl).und.2.1;obtain⟨z,hz,du⟩:=WeO (w:=w) (hT _ _ hle);rw[Wbw hp]at du;have fK:z.cells.size=te.ty.size:=by rw[←Xax,du,Wbn]
 have cN:=WfR z.cells n;rw[fK,du]at cN;obtain⟨vs',h3,h4,h5⟩:=WhJ hr.h aZ ps (parts.toList.map λp=>(p.1,a.eval p.2)) _ xs ((Xck (n*te.ty.size)).map λi=>z.cells[i%te.ty.size]!) (by rw[cN];exact Wgj aZ n) (by simp[h1]) (λj p q hp hq=>by
   simp only[Xap]at hq;cases ek:parts.toList[j]? with
   |none=>simp only[Array.getElem?_toList]at ek;simp[ek]at hq
   |some q'=>
    rw[ek]at hq;simp at hq;subst hq;exact h2 j p q' hp ek) hf
 have iE:xs.length=n:=by rw[h5];simp
 have hpos:=Wbq te.ty;have hn:n<=16777216:=Xcr (Nat.le_mul_of_pos_right n hpos) hsz;have rz:vs'.size=n*te.ty.size:=by
  rw[←Xax,EncL_len (λx c hc=>Enc_len te.ty x c hc) _ _ h4,iE]
 obtain⟨⟨ν',h6⟩,_⟩:=WmQ (t:=et) (vs:=vs') hr hd (e:=te.ty) aZ (xs:=xs) (cap:=n) (cs:=vs'.toList) (by omega) (by unfold maxLen;omega) rz h4 (Xfp _) w rfl rfl rfl rfl;rw[iE]at h6;refine⟨_,_,_,G,ν',?_,.inl rfl,h6⟩;have fx:(parts.map λx=>match x with|(i,x)=>(i,a.eval x)).toList=parts.toList.map λp=>(p.1,a.eval p.2):=by simp
 simp only[execOp,ho,Instr.buildSlice,Sem.run_bind,Wc hu,Result.andThen_ok,(hT _ _ hle).sizeOf,WU hp,if_neg (show¬n*te.ty.size>2^24 by omega),Sem.run_pure];by_cases h0:n*te.ty.size=0
 .have so:n=0:=by rcases Nat.mul_eq_zero.1 h0 with h|h<;>omega
  have e1:((Xck (n*te.ty.size)).map λi=>z.cells[i%te.ty.size]!)= #[]:=by rw[h0];simp
  rw[e1]at h3;have e2:∀zz:Array Value,((Xck (n*te.ty.size)).map λi=>zz[i%zz.size]!)= #[]:=λzz=>by rw[h0];simp
  simp only[if_pos h0,Sem.run_pure,Result.andThen_ok,e2,fx,h3,Wcz];rfl
 .simp only[if_neg h0,Sem.run_bind,hz,Result.andThen_ok,Sem.run_pure,fK,fx,h3,Wcz]
theorem WiN(hT:Waf P T)(hr:Rel w0 F nt G0 G ν st a w){o:Oper}(hd:∀d,o.dst=some d->nt.Ok d){t:TypeId}{n c:Operand}(ho:o.op= .makeSlice t n c)
  {ty:Ty} {et:TypeId} {te:TE} {n' c':Int} {k k':IntKind} (hl:look T t=some ⟨ty,false,.slice et⟩) (hle:look T et=some te) (hn:a.eval n= .int k n') (hc:a.eval c= .int k' c')
  (h0:0<=n') (h1:n'<=c') (h2:WA c'.toNat=true) (aZ:te.ty.data=true) (hp:te.plain=true):
  Done P w0 F nt G0 o a w (st.new o.dst (.arr te.ty (Xaa n'.toNat te.ty.dflt)) (.s (.one (.own st.nx)))):=by
 have hu:=(hT _ _ hl).und.2.1;obtain⟨i,z,hi,hs,hz,du,mK⟩:=(hT _ _ hle).info;rw[Wbw hp]at du;rw[WU hp]at hs;have fK:z.cells.size=te.ty.size:=by rw[←Xax,du,Wbn]
 have aA:c'.toNat<=1073741824:=by simpa [WA]using h2
 have cN:=WfR z.cells c'.toNat;rw[fK,du]at cN;have mL:rep (Wbt te.ty) n'.toNat<+:rep (Wbt te.ty) c'.toNat:=by
  have:∀(l:List Value) (p q:Nat),rep l p<+:rep l (p+q):=λl p q=>by
   induction p with
   |zero=>exact Xgx
   |succ p ih=>rw[Nat.succ_add];simp only[rep];exact(Xfe _).2 ih
  have h:=this (Wbt te.ty) n'.toNat (c'.toNat-n'.toNat)
  rwa [show n'.toNat+(c'.toNat-n'.toNat)=c'.toNat by omega]at h
 have hb:(i.bytes:Int)*c'<=281474976710656:=by
  have h3:(i.bytes:Int)*c'<=4096*c':=Xex (by omega) (by omega);omega
 have hm:madeCells z.cells (c'.toNat*i.size)=(Xck (c'.toNat*te.ty.size)).map λi=>z.cells[i%te.ty.size]!:=by
  rw[hs,←fK];rfl
 obtain⟨⟨ν',h6⟩,_⟩:=WmQ (t:=et) (vs:=(Xck (c'.toNat*te.ty.size)).map λi=>z.cells[i%te.ty.size]!) hr hd (e:=te.ty) aZ (xs:=Xaa n'.toNat te.ty.dflt) (cap:=c'.toNat) (cs:=rep (Wbt te.ty) n'.toNat) (by simp;omega) (by unfold maxLen;omega)
  (by simp) (Wgj aZ _) (by rw[cN];exact mL) w rfl rfl rfl rfl
 rw[Xfz]at h6;refine⟨_,_,_,G,ν',?_,.inl rfl,h6⟩;simp only[execOp,ho,hn,hc,Sem.run_bind,run_make (P:=P) w t et i z hu hi hz k k' n' c' h0 h1 hb (by omega),Result.andThen_ok,hm,Sem.run_pure]
theorem Wh0(hT:Waf P T)(hr:Rel w0 F nt G0 G ν st a w){o:Oper}(hd:∀d,o.dst=some d->nt.Ok d){t:TypeId}{n c:Operand}(ho:o.op= .makeSlice t n c)
  {ty:Ty} {et:TypeId} {te:TE} {e:Ty} {n' c':Int} {k k':IntKind} (hl:look T t=some ⟨ty,false,.slice et⟩) (hle:look T et=some te) (hn:a.eval n= .int k n') (hc:a.eval c= .int k' c')
  (h0:0<=n') (h1:n'<=c') (h2:WA c'.toNat=true) (he:e.ro=te.ty) (hp:te.plain=true):
  Done P w0 F nt G0 o a w (st.new o.dst (.arr e (Xaa n'.toNat e.dflt)) (.s (.one (.own st.nx)))):=by
 have hu:=(hT _ _ hl).und.2.1;obtain⟨i,z,hi,hs,hz,du,mK⟩:=(hT _ _ hle).info;rw[Wbw hp]at du;rw[WU hp]at hs;have pj:te.ty.size=e.size:=by rw[←he,WbC]
 have fK:z.cells.size=te.ty.size:=by rw[←Xax,du,Wbn]
 have aA:c'.toNat<=1073741824:=by simpa [WA]using h2
 have cN:=WfR z.cells c'.toNat;rw[fK,du]at cN;have mL:rep (Wbt te.ty) n'.toNat<+:rep (Wbt te.ty) c'.toNat:=by
  have:∀(l:List Value) (p q:Nat),rep l p<+:rep l (p+q):=λl p q=>by
   induction p with
   |zero=>exact Xgx
   |succ p ih=>rw[Nat.succ_add];simp only[rep];exact(Xfe _).2 ih
  have h:=this (Wbt te.ty) n'.toNat (c'.toNat-n'.toNat)
  rwa [show n'.toNat+(c'.toNat-n'.toNat)=c'.toNat by omega]at h
 have hb:(i.bytes:Int)*c'<=281474976710656:=by
  have h3:(i.bytes:Int)*c'<=4096*c':=Xex (by omega) (by omega);omega
 have hm:madeCells z.cells (c'.toNat*i.size)=(Xck (c'.toNat*te.ty.size)).map λi=>z.cells[i%te.ty.size]!:=by
  rw[hs,←fK];rfl
 obtain⟨⟨ν',h6⟩,_⟩:=Whq (t:=et) (vs:=(Xck (c'.toNat*te.ty.size)).map λi=>z.cells[i%te.ty.size]!) hr hd [] (e:=e) (xs:=Xaa n'.toNat e.dflt) (cap:=c'.toNat) (cs:=rep (Wbt te.ty) n'.toNat) (by simp;omega) (by unfold maxLen;omega)
  (by simp[pj]) (λφ _=>by
   obtain⟨ps,g1,g2⟩:=WtV (G:=G) (w:=w) e n'.toNat;rw[he]at g1;exact⟨ps,g1,WmE ps g2,λp hp b o hh=>by rw[g2 p hp]at hh;exact hh.elim⟩) (by rw[cN];exact mL) w rfl rfl rfl rfl
 rw[Xfz]at h6;refine⟨_,_,_,G,ν',?_,.inl rfl,h6⟩;simp only[execOp,ho,hn,hc,Sem.run_bind,run_make (P:=P) w t et i z hu hi hz k k' n' c' h0 h1 hb (by omega),Result.andThen_ok,hm,Sem.run_pure]
theorem Wli(hT:Waf P T)(hr:Rel w0 F nt G0 G ν st a w){o:Oper}(hd:∀d,o.dst=some d->nt.Ok d){t:TypeId}{parts:Array (Nat×Operand)}{x:Operand}(ho:o.op= .buildSlice t 1 parts)(cb:parts.toList= [(0,x)])
  {ty:Ty} {et:TypeId} {te:TE} {e:Ty} {xv:AVal} {ds:List Cell} {d:e.den} {m:List Nat} (hl:look T t=some ⟨ty,false,.slice et⟩) (hle:look T et=some te) (hx:AValRel G ν st.nx xv (a.eval x)) (gu:WgF xv=some ds)
  (hf:Wao e ds st.objs=some (d,m,[])) (hm:m.Nodup) (he:e.ro=te.ty) (hp:te.plain=true) (hsz:te.ty.size<=16777216):
  Done P w0 F nt G0 o a w (({env:=st.env,objs:=(st.nx,.arr e [d])::kill st.objs m,nx:=st.nx+1}:St).put o.dst (.s (.one (.own st.nx)))):=by
 have hu:=(hT _ _ hl).und.2.1;obtain⟨z,hz,du⟩:=WeO (w:=w) (hT _ _ hle);rw[Wbw hp]at du;have pj:te.ty.size=e.size:=by rw[←he,WbC]
 have fK:z.cells.size=te.ty.size:=by rw[←Xax,du,Wbn]
 have cN:=WfR z.cells 1;rw[fK,du]at cN;simp only[rep,Xcz,Nat.one_mul]at cN;obtain⟨h1,h2⟩:=Wdm hx gu;have dO:∀φ,HR w0 F G ν φ st.objs st.nx w->∃ps,EncP (TyRel G w e) [d] (a.eval x).cells.toList ps/\Sep (ps.map Pc.fp)/\∀p∈ps,CS.le p.fp (FromL φ st.objs m):=λφ hφ=>by
  obtain⟨ns,g1,g2,g3,_⟩:=Wae (G':=G) hφ (λ_ _ _ hh=>hh) e ds _ d m [] h1 (λi hi=>by simp at hi) hm hf;exact⟨ns,Woy.2 g1,g2,g3⟩
 have hlen:(a.eval x).cells.size=e.size:=by
  obtain⟨φ,hφ⟩:=hr.h;obtain⟨ps,g1,_⟩:=dO φ hφ;have:=Wx _ _ _ _ (Woy.1 g1);simpa using this
 have wM:((Xck te.ty.size).map λi=>z.cells[i%te.ty.size]!).size=te.ty.size:=by simp
 have dX:=Wid (a.eval x).cells.toList 0 0 ((Xck te.ty.size).map λi=>z.cells[i%te.ty.size]!) (by simp;omega);have oi:((Xck te.ty.size).map λi=>z.cells[i%te.ty.size]!).toList.length=e.size:=by simp[pj]
 have eO:((a.eval x).cells.toList.zipIdx.foldl (λcs (c,j)=>cs.setIfInBounds (0+j) c) ((Xck te.ty.size).map λi=>z.cells[i%te.ty.size]!)).toList=(a.eval x).cells.toList:=by
  rw[dX];simp only[Nat.zero_add,List.take_zero,List.nil_append];rw[List.drop_eq_nil_of_le (by rw[oi];simp;omega),Xcz]
 generalize hV:(a.eval x).cells.toList.zipIdx.foldl (λcs (c,j)=>cs.setIfInBounds (0+j) c) ((Xck te.ty.size).map λi=>z.cells[i%te.ty.size]!)=V at eO;have hVs:V.size=1*e.size:=by rw[←Xax,eO];simp[hlen]
 obtain⟨⟨ν',h6⟩,_⟩:=Whq (t:=et) (vs:=V) hr hd m (e:=e) (xs:=[d]) (cap:=1) (cs:=(a.eval x).cells.toList) (by simp) (by unfold maxLen;omega) hVs dO (by rw[eO];exact Xfp _) w rfl rfl rfl rfl;refine⟨_,_,_,G,ν',?_,.inl rfl,h6⟩;have pm:Instr.fill (λi=>some (i*te.ty.size,te.ty.size)) ((Xck te.ty.size).map λi=>z.cells[i%te.ty.size]!) [(0,a.eval x)]=some V:=by
  simp only[Instr.fill,Xey];rw[if_neg (by simp;omega),←hV];congr 1;rw[←Xff];simp
 have fx:(parts.map λx=>match x with|(i,x)=>(i,a.eval x)).toList= [(0,a.eval x)]:=by simp[cb]
 have hpos:=Wbq te.ty;simp only[execOp,ho,Instr.buildSlice,Sem.run_bind,Wc hu,Result.andThen_ok,(hT _ _ hle).sizeOf,WU hp,Nat.one_mul,if_neg (show¬te.ty.size>2^24 by omega),if_neg (show¬te.ty.size=0 by omega),Sem.run_pure,hz,fK,fx,pm,Wcz];rfl
theorem Wev{t:TypeId}{te:TE}(bF:TEok P T t te){b off:Nat}{v:Value}{cur:Array Value}{TT:TypeId}(hg:w.heap[b]?=some (.cells cur TT (0,0)))(hsz:te.size=v.cells.size)(bS:off+v.cells.size<=cur.size)(h1:∀u∈v.cells.toList,u.oneCell'=true):
  (storeVar t ⟨b,off,none⟩ v).run P w= .ok () (w.setRow b (cur.toList.take off++v.cells.toList++cur.toList.drop (off+v.cells.size)).toArray):=by
 have h:=run_storeCells_at P b off TT v.cells.toList 0 cur w hg (by simpa using bS) h1;simp only[Xbb,Xax]at h;simp[storeVar,bF.sizeOf,hsz,h]
theorem WcG{b k:Nat}{vs:Array Value}{T:TypeId}{news:List Value}(h:w.heap[b]?=some (Obj.cells vs T (0,0)))(bS:k+news.length<=vs.size):
  WLe (rng b k news.length) w (w.setRow b (vs.toList.take k++news++vs.toList.drop (k+news.length)).toArray)/\Mem (w.setRow b (vs.toList.take k++news++vs.toList.drop (k+news.length)).toArray) b k news:=by
 have hk:(vs.toList.take k).length=k:=by simp;omega
 constructor
 .refine WLe.setRow h (by simp;omega) (λo hn=>?_);have sq:¬(k<=o/\o<k+news.length):=λ⟨h1,h2⟩=>hn ⟨rfl,h1,h2⟩;simp only[Xer,Xbn];rw[Xaz,hk];split
  .rename_i hlt;rw[Xbl,if_pos hlt];simp
  .rw[Xaz];split
   .omega
   .rw[Xbm,show k+news.length+(o-k-news.length)=o by omega];simp
 .intro j v hj;rw[cell_of_row _ b _ _ T (0,0) (setRow_heap w b vs _ T (0,0) h)];have hlt:j<news.length:=(Xt.1 hj).1;simp only[Xer,Xbn];rw[Xay (by omega),hk,Xbc (by omega),show k+j-k=j by omega];exact hj
theorem WeM{b o k:Nat}{vs us:List Value}(hm:Mem w b o vs)(hw:WLe (rng b (o+k) us.length) w w')(hu:Mem w' b (o+k) us)(hk:k+us.length<=vs.length):Mem w' b o (vs.take k++us++vs.drop (k+us.length)):=λj v hj=>by
 have gd:∀v',vs[j]?=some v'->¬(k<=j/\j<k+us.length)->w'.cell? ⟨b,o+j,none⟩=some v':=λv' hv hn=>by
  have h1:=hm j v' hv;rw[hw.cell b (o+j) (block_lt_of_cell h1) (λ⟨_,h2,h3⟩=>hn ⟨by omega,by omega⟩)];exact h1
 have d6:(vs.take k).length=k:=by simp;omega
 rw[Xbn,Xaz,d6]at hj;split at hj
 .rename_i hlt;rw[Xbl,if_pos hlt]at hj;exact gd v hj (by omega)
 .rw[Xaz]at hj;split at hj
  .have:=hu (j-k) v hj;rw[show o+j=o+k+(j-k) by omega];exact this
  .rw[Xbm,show k+us.length+(j-k-us.length)=j by omega]at hj;exact gd v hj (by omega)
theorem HR.turn{φ:Nat->CS}(h:HR w0 F G ν φ objs nx w){id:Nat}{ob cq:Ob}{m:List Nat}(ho:look objs id=some ob)(hd:ob≠ .dead){S:CS}(hw:WLe S w w')(hs:CS.le S (φ id))
  (cM:Wcq G ν nx w' id (λb o=>φ id b o\/FromL φ objs m b o) cq):HRel w0 F G ν ((id,cq)::kill objs m) nx w':=by
 have hl:Live objs id:=⟨ob,ho,hd⟩;exact⟨_,h.put (ν':=ν) (λ_ _=>rfl) (Xn _) (h.lt id hl) (hw.mono λb o hh=>⟨id,.inl rfl,hl,hs b o hh⟩) (λb o hh=>by
  rcases hh with hh|⟨i,hi,h1,h2⟩
  .exact .inl ⟨id,.inl rfl,hl,hh⟩
  .exact .inl ⟨i,.inr hi,h1,h2⟩) (λ_=>cM)⟩
theorem Wo0(hT:Waf P T)(hr:Rel w0 F nt G0 G ν st a w){o:Oper}{t:TypeId}{x y:Operand}(ho:o.op= .store t x y)(iF:o.dst=none){p v:AVal}(hx:AValRel G ν st.nx p (a.eval x))(hy:AValRel G ν st.nx v (a.eval y))
  (h:WcF T st t p v=some ah):Done P w0 F nt G0 o a w ah:=by
 unfold WcF at h;split at h
 .rename_i te id off ds hl gu;obtain⟨gJ,kR⟩:=Wdm hy gu;split at h
  .rename_i cs az;split at h
   .rename_i bs;simp only[Xi,decide_eq_true_eq]at bs;obtain⟨⟨hs,eN⟩,bS⟩:=bs;injection h with h;subst h;obtain⟨⟨_,b,hb,iG⟩,_⟩:=hx;obtain⟨φ,hφ⟩:=hr.h;obtain⟨b',vs,hb',⟨row,TT,fy,hrow⟩,hmem,br,eP⟩:=hφ.ob _ _ az;rw[hb]at hb';injection hb' with hb';subst hb';have hlen:(a.eval y).cells.size=ds.length:=by have:=gJ.1;simpa using this
    have hrun:=Wev (w:=w) (hT _ _ hl) (b:=b) (off:=(ν id).off+off) (v:=a.eval y) fy (by rw[WU eN,hlen];exact hs) (by omega) kR;obtain⟨hw,hm⟩:=WcG (k:=(ν id).off+off) (news:=(a.eval y).cells.toList) fy (by simp;omega);simp only[Xax]at hw hm;generalize w.setRow b (row.toList.take ((ν id).off+off)++(a.eval y).cells.toList++row.toList.drop ((ν id).off+off+(a.eval y).cells.size)).toArray=W at hrun hw hm;have cM:HRel w0 F G ν ((id,.box (WdV cs off ds))::st.objs) st.nx W:=by
     refine hφ.turn (m:=[]) az (by simp) hw (λb' o ⟨e,h1,h2⟩=>eP b' o ⟨e,by omega,by omega⟩) ?_;refine⟨b,_,hb,by rw[Wex bS];exact hw.rows.row _ _ ⟨row,TT,fy,hrow⟩,WeM hmem (us:=(a.eval y).cells.toList) (by rw[Xax];exact hw) hm (by rw[br.1];simp;omega),WeQ br gJ,λb o hh=>.inl (eP b o (by rw[Wex bS]at hh;exact hh))⟩
    refine⟨.skip,undef,W,G,ν,?_,.inr ⟨rfl,rfl⟩,?_⟩
    .simp only[execOp,ho,iG,Instr.storeAt,Instr.sureAddr,Sem.run_bind,Sem.run_pure,Result.andThen_ok,hrun]
    .rw[iF];exact hr.on (λ_ _ _ hh=>hh) (λ_ _=>rfl) (Xn _) cM hr.gx
   .simp at h
  .simp at h
 .rename_i te id i off ds hl gu;obtain⟨gJ,kR⟩:=Wdm hy gu;split at h
  .rename_i e xs az;split at h
   .rename_i bs;simp only[Xi,decide_eq_true_eq]at bs;obtain⟨⟨⟨hs,eN⟩,bS⟩,aZ⟩:=bs;split at h
    .rename_i d hf;injection h with h;subst h;obtain⟨⟨_,sr,b,hb,iG⟩,_⟩:=hx;obtain⟨φ,hφ⟩:=hr.h;have hown:OwnL w (TyRel G w e) e.size (ν id) xs (φ id):=hφ.ob _ _ az;obtain⟨iE,h4,h5,jK,cs,h7,h8,h9⟩:=Wdf aZ hown hb;obtain⟨row,TT,fy,hrow⟩:=jK;have bR:=hown.2.1;have hlt:i<xs.length:=by omega
     have hlen:(a.eval y).cells.toList.length=ds.length:=gJ.1;have bK:(a.eval y).cells.size=ds.length:=by simpa using hlen
     have hcl:cs.length=xs.length*e.size:=EncL_len (λx c hc=>Enc_len e x c hc) _ _ h7;have wN:i*e.size+e.size<=xs.length*e.size:=by rw[←Xcc];exact Xbi _ hlt
     have wO:xs.length*e.size<=(ν id).cap*e.size:=Xbi _ h4;have ss:=Wma (λx c hc=>Enc_len e x c hc) xs cs i e.dflt h7 hlt;have su:=WeQ (off:=off) (Way (G:=G) (ν:=ν) (nx:=st.nx) e _ _ ss) gJ;have henc:=Wlu hr.h su aZ hf;have dX:=Wkm (λx c hc=>Enc_len e x c hc) xs cs i d _ h7 hlt henc;have hrun:=Wev (w:=w) (hT _ _ hl) (b:=b) (off:=(ν id).off+(i*e.size+off)) (v:=a.eval y) fy (by rw[WU eN];omega) (by omega) kR;obtain⟨hw,hm⟩:=WcG (k:=(ν id).off+(i*e.size+off)) (news:=(a.eval y).cells.toList) fy (by omega);simp only[Xax]at hw hm;generalize w.setRow b (row.toList.take ((ν id).off+(i*e.size+off))++(a.eval y).cells.toList++row.toList.drop ((ν id).off+(i*e.size+off)+(a.eval y).cells.size)).toArray=W at hrun hw hm;have mM:cs.take (i*e.size+off)++(a.eval y).cells.toList++cs.drop (i*e.size+off+(a.eval y).cells.toList.length)=
       cs.take (i*e.size)++(((cs.drop (i*e.size)).take e.size).take off++(a.eval y).cells.toList++((cs.drop (i*e.size)).take e.size).drop (off+(a.eval y).cells.toList.length))++cs.drop (i*e.size+e.size):=by
      rw[hlen];have e1:cs.take (i*e.size+off)=cs.take (i*e.size)++((cs.drop (i*e.size)).take e.size).take off:=by
       rw[List.take_take,Xci (by omega),←List.take_add]
      have e2:cs.drop (i*e.size+off+ds.length)=((cs.drop (i*e.size)).take e.size).drop (off+ds.length)++cs.drop (i*e.size+e.size):=by
       rw[List.drop_take,Xdw];have:cs.drop (i*e.size+e.size)=(cs.drop (i*e.size+(off+ds.length))).drop (e.size-(off+ds.length)):=by rw[Xdw];congr 1;omega
       rw[this,Xcx];congr 1;omega
      rw[e1,e2];simp
     have cM:HRel w0 F G ν ((id,.arr e (xs.set i d))::st.objs) st.nx W:=by
      refine hφ.turn (m:=[]) az (by simp) hw (λb' o ⟨e',h1,h2⟩=>h9 b' o ⟨e',by omega,by omega⟩) ?_;refine Wla aZ hb (by simpa using iE) bR (by simpa using h4) h5 (hw.rows.row _ _ ⟨row,TT,fy,hrow⟩) dX ?_ (λb o hh=>.inl (h9 b o hh));rw[←mM];exact WeM h8 (us:=(a.eval y).cells.toList) (by rw[Xax];exact hw) hm (by omega)
     refine⟨.skip,undef,W,G,ν,?_,.inr ⟨rfl,rfl⟩,?_⟩
     .simp only[execOp,ho,iG,bR,Instr.storeAt,Instr.sureAddr,Sem.run_bind,Sem.run_pure,Result.andThen_ok,hrun]
     .rw[iF];exact hr.on (λ_ _ _ hh=>hh) (λ_ _=>rfl) (Xn _) cM hr.gx
    .simp at h
   .split at h
    .rename_i bs;simp only[Xi,decide_eq_true_eq]at bs;obtain⟨⟨⟨hs,eN⟩,sw⟩,wP⟩:=bs;subst sw;split at h
     .rename_i d m hf;split at h
      .rename_i aW;injection h with h;subst h;have aW:(id::m).Nodup:=(WcK _).1 aW;obtain⟨rD,wQ⟩:=Xaj.1 aW;obtain⟨⟨_,sr,b,hb,iG⟩,_⟩:=hx;obtain⟨φ,hφ⟩:=hr.h;have hown:OwnL w (TyRel G w e) e.size (ν id) xs (φ id):=hφ.ob _ _ az;have aB:Live st.objs id:=⟨_,az,by simp⟩;obtain⟨iE,bR,h3⟩:=hown;simp only[hb]at h3;obtain⟨h4,h5,jK,cs,ps,h7,h8,h9,ca⟩:=h3;obtain⟨row,TT,fy,hrow⟩:=jK;have hlt:i<xs.length:=by omega
       have hlen:(a.eval y).cells.toList.length=ds.length:=gJ.1;have bK:(a.eval y).cells.size=ds.length:=by simpa using hlen
       have wN:i*e.size+e.size<=xs.length*e.size:=by rw[←Xcc];exact Xbi _ hlt
       have wO:xs.length*e.size<=(ν id).cap*e.size:=Xbi _ h4;obtain⟨c1,c,c2,p1,pc,p2,g1,g2,g3,g4,g5⟩:=WnJ h7 e.dflt hlt;have l1:=WaQ (λx c q hx=>Wx e x c q hx) _ _ _ g3;rw[Xal,Xci (by omega)]at l1;have lc:=Wx _ _ _ _ g4;obtain⟨ns,t1,t2,t3,t4,_⟩:=Wae (G':=G) hφ (λ_ _ _ hh=>hh) e ds _ d m [] gJ (λi hi=>by simp at hi) wQ hf;have hrun:=Wev (w:=w) (hT _ _ hl) (b:=b) (off:=(ν id).off+(i*e.size+0)) (v:=a.eval y) fy (by rw[WU eN];omega) (by omega) kR;obtain⟨hw,hm⟩:=WcG (k:=(ν id).off+(i*e.size+0)) (news:=(a.eval y).cells.toList) fy (by omega);simp only[Xax]at hw hm;generalize w.setRow b (row.toList.take ((ν id).off+(i*e.size+0))++(a.eval y).cells.toList++row.toList.drop ((ν id).off+(i*e.size+0)+(a.eval y).cells.size)).toArray=W at hrun hw hm;have gK:CS.le (rng b ((ν id).off+(i*e.size+0)) (a.eval y).cells.size) (rng b (ν id).off ((ν id).cap*e.size)):=λb' o ⟨e',k1,k2⟩=>⟨e',by omega,by omega⟩;have fL:=ca _ (Xh ..);have hbl:∀p∈p1++(pc++p2),∀b o,p.fp b o->b<w.heap.size:=λp hp b o hh=>hφ.bl id b o aB (ca p.fp (Xe _ (Xan (by rw[g2];exact hp))) b o hh);obtain⟨q1,q2⟩:=Xz.1 h9;have ic:∀p∈p1++(pc++p2),Same p.fp w W:=λp hp=>hw.same ((q1 p.fp (Xan (by rw[g2];exact hp))).mono gK (λ_ _ hh=>hh)) (hbl p hp);have jL:∀p∈ns,Same p.fp w W:=λp hp=>hw.same (λb o k1 k2=>by
        obtain⟨j,hj,k3,k4⟩:=t3 p hp b o k2;have:=hφ.inj id j b o aB k3 (fL b o (gK b o k1)) k4;subst this;exact rD hj) (λb o hh=>by
        obtain⟨j,hj,k3,k4⟩:=t3 p hp b o hh;exact hφ.bl j b o k3 k4)
       have hEnc:EncP (TyRel G W e) (xs.set i d) (c1++((a.eval y).cells.toList++c2)) (p1++(ns++p2)):=by
        refine WnW hlt ?_ (Wau (λ_ _ _ hh=>hh) e _ _ _ jL t1) ?_
        .exact WbL (Q:=λq=>Same q.fp w W) (λx c q hq hx=>Wau (λ_ _ _ hh=>hh) e x c q hq hx) _ _ _ (λq hq=>ic q (Xk _ hq)) g3
        .exact WbL (Q:=λq=>Same q.fp w W) (λx c q hq hx=>Wau (λ_ _ _ hh=>hh) e x c q hq hx) _ _ _ (λq hq=>ic q (Xg _ (Xg _ hq))) g5
       have hMem:Mem W b (ν id).off (c1++((a.eval y).cells.toList++c2)):=by
        have:=WeM h8 (k:=i*e.size+0) (us:=(a.eval y).cells.toList) (by rw[Xax];exact hw) hm (by rw[g1];simp;omega);rw[g1,Xbb,List.take_append_of_le_length (by omega),List.take_of_length_le (by omega)]at this;have pn:(c1++(c++c2)).drop (i*e.size+(a.eval y).cells.toList.length)=c2:=by
         rw[←Xbn,show i*e.size+(a.eval y).cells.toList.length=(c1++c).length by rw[Xae];omega,List.drop_left]
        rw[pn,Xbn]at this;exact this
       have cM:HRel w0 F G ν ((id,.arr e (xs.set i d))::kill st.objs m) st.nx W:=by
        refine hφ.turn az (by simp) hw (λb' o hh=>fL b' o (gK b' o hh)) ?_;refine⟨by simpa using iE,bR,?_⟩;simp only[hb];rw[g2,Xr,Xr]at q2 q1;have qA:=Xag.1 q2;have qB:=Xag.1 qA.2.1;have mN:∀p∈ns,∀s,CS.le s (φ id)->CS.disj p.fp s:=λp hp s hs b o k1 k2=>by
         obtain⟨j,hj,k3,k4⟩:=t3 p hp b o k1;have:=hφ.inj id j b o aB k3 (hs b o k2) k4;subst this;exact rD hj
        have cb:∀p∈p1++(pc++p2),CS.le p.fp (φ id):=λp hp=>ca p.fp (Xe _ (Xan (by rw[g2];exact hp)));refine⟨by simpa using h4,h5,hw.rows.row _ _ ⟨row,TT,fy,hrow⟩,_,p1++(ns++p2),hEnc,hMem,Xz.2 ⟨λs hs=>?_,?_⟩,λs hs=>?_⟩
        .simp only[Xr,Xl]at hs;rcases hs with hs|hs|hs
         .exact q1 s (Xk _ hs)
         .obtain⟨p,hp,rfl⟩:=Xv.1 hs;exact(mN p hp _ fL).symm
         .exact q1 s (Xg _ (Xg _ hs))
        .rw[Xr,Xr];refine Wld (Xag.2 ⟨qA.1,qB.2.1,λs hs t ht=>qA.2.2 s hs t (Xg _ ht)⟩) t2 (λs hs t ht=>?_);obtain⟨p,hp,rfl⟩:=Xv.1 hs;rcases Xl.1 ht with ht|ht
         .obtain⟨q,hq,rfl⟩:=Xv.1 ht;exact mN p hp _ (cb q (Xk _ hq))
         .obtain⟨q,hq,rfl⟩:=Xv.1 ht;exact mN p hp _ (cb q (Xg _ (Xg _ hq)))
        .intro b o hh;rcases Xq.1 hs with rfl|hs
         .exact .inl (fL b o hh)
         .simp only[Xr,Xl]at hs;rcases hs with hs|hs|hs
          .obtain⟨q,hq,rfl⟩:=Xv.1 hs;exact .inl (cb q (Xk _ hq) b o hh)
          .obtain⟨q,hq,rfl⟩:=Xv.1 hs;exact .inr (t3 q hq b o hh)
          .obtain⟨q,hq,rfl⟩:=Xv.1 hs;exact .inl (cb q (Xg _ (Xg _ hq)) b o hh)
       refine⟨.skip,undef,W,G,ν,?_,.inr ⟨rfl,rfl⟩,?_⟩
       .simp only[execOp,ho,iG,bR,Instr.storeAt,Instr.sureAddr,Sem.run_bind,Sem.run_pure,Result.andThen_ok,hrun]
       .rw[iF];exact hr.on (λ_ _ _ hh=>hh) (λ_ _=>rfl) (Xn _) cM hr.gx
      .simp at h
     .simp at h
    .simp at h
  .simp at h
 .simp at h
end
end Go.Sx
namespace Go.Sx
set_option linter.unusedVariables false
set_option linter.unusedSimpArgs false
theorem Wun{G:GH}(t:Ty)(d:t.den)(cs:List Value)(h:Enc G t d cs):∀u∈cs,u.oneCell'=true:=λu hu=>by
 obtain⟨j,hj⟩:=Xdy hu;have hc:=Way (ν:=λ_=>⟨none,0,0,0,0⟩) (nx:=0) t d cs h;have hlt:j<(split t d).length:=by rw[←hc.1];exact(Xt.1 hj).1
 exact(hc.2 j _ u (Xp hlt) hj).2
theorem Wol{G:GH}{t:Ty}:∀(l:List t.den) (cs:List Value),EncL (Enc G t) l cs->∀u∈cs,u.oneCell'=true
 | [],cs,h,u,hu=>by simp[EncL]at h;subst h;simp at hu
 |x::l,cs,⟨c1,c2,he,h1,h2⟩,u,hu=>by
  subst he;rcases Xl.1 hu with hu|hu
  .exact Wun t x c1 h1 u hu
  .exact Wol l c2 h2 u hu
theorem Wr8{G:GH}{w:World}(t:Ty)(d:t.den)(cs:List Value)(ps:List Pc)(h:TyRel G w t d cs ps):∀u∈cs,u.oneCell'=true:=λu hu=>by
 obtain⟨j,hj⟩:=Xdy hu;have hc:=Wht (ν:=λ_=>⟨none,0,0,0,0⟩) (nx:=0) t d cs ps h;have hlt:j<(split t d).length:=by rw[←hc.1];exact(Xt.1 hj).1
 exact(hc.2 j _ u (Xp hlt) hj).2
theorem WmL{G:GH}{w:World}{t:Ty}:∀(l:List t.den) (cs:List Value) (ps:List Pc),EncP (TyRel G w t) l cs ps->∀u∈cs,u.oneCell'=true
 | [],cs,ps,h,u,hu=>by rw[h.1]at hu;simp at hu
 |x::l,cs,ps,⟨c1,c2,p1,p2,he,hp,h1,h2⟩,u,hu=>by
  subst he;rcases Xl.1 hu with hu|hu
  .exact Wr8 t x c1 p1 h1 u hu
  .exact WmL l c2 p2 h2 u hu
section
variable{w0:World}{F:CS}{nt:Slots}{G0 G:GH}{ν:Nat->Nu}{φ:Nat->CS}{objs:Wab}{nx:Nat}{st ah:St}{a:Act}{w w':World}{P:Program}{T:Tab}
structure Src(w0:World)(F:CS)(G:GH)(ν:Nat->Nu)(st:St)(w:World)(e:Ty)(l:List e.den)(m:List Nat)(v:Value)(news:List Value):Prop where
 enc:∀φ,HR w0 F G ν φ st.objs st.nx w->∃ps,EncP (TyRel G w e) l news ps/\Sep (ps.map Pc.fp)/\∀p∈ps,CS.le p.fp (FromL φ st.objs m)
 rd:(v= .slice none 0 0/\l= [])\/∃(p:Addr) (c:Nat),v= .slice (some p) l.length c/\∀(j:Nat) (u:Value),news[j]?=some u->w.cell? (p.add j)=some u
theorem Wcw{e:Ty}(he:e.data=true){l:List e.den}{m:List Nat}{v:Value}{news:List Value}(h:EncL (Enc G e) l news)
  (rd:(v= .slice none 0 0/\l= [])\/∃(p:Addr) (c:Nat),v= .slice (some p) l.length c/\∀(j:Nat) (u:Value),news[j]?=some u->w.cell? (p.add j)=some u):Src w0 F G ν st w e l m v news:=
 ⟨λφ _=>⟨[],(EncP_data he l news []).2 ⟨h,rfl⟩,List.Pairwise.nil,by simp⟩,rd⟩
theorem Wik(hr:Rel w0 F nt G0 G ν st a w){e:Ty}(he:e.data=true){x:AVal}{u:Value}{l:List e.den}(m:List Nat)(hx:AValRel G ν st.nx x u)(h:Wui st e x=some l):∃news,Src w0 F G ν st w e l m u news:=by
 unfold Wui at h;split at h
 .rename_i e' d';obtain⟨ew,hd⟩:=Wap h;subst ew;simp only at hd;subst hd;obtain⟨⟨v,hv,hs⟩,_⟩:=hx;simp at hv;subst hv;rcases hs with⟨rfl,hn⟩|⟨b,off,cap,cs,rfl,h1,h2,h3,h4⟩|⟨a',cap,rfl,hn⟩
  rotate_left 2
  .exact⟨[],Wcw he (by rw[hn];rfl) (.inr ⟨a',cap,by rw[hn];rfl,λj u hj=>by simp at hj⟩)⟩
  .exact⟨[],Wcw he (by rw[hn];rfl) (.inl ⟨rfl,hn⟩)⟩
  .exact⟨cs,Wcw he h3 (.inr ⟨⟨b,off,none⟩,cap,rfl,λj u hj=>by rw[WaO];exact hr.h.g (h4 j u hj)⟩)⟩
 .injection h with h;subst h;obtain⟨hv,_⟩:=hx;simp only[CellRel]at hv;subst hv;exact⟨[],Wcw he rfl (.inl ⟨rfl,rfl⟩)⟩
 .rename_i id;split at h
  .rename_i e' xs ho;obtain⟨ew,hd⟩:=Wap h;subst ew;simp only at hd;subst hd;obtain⟨⟨_,hv⟩,_⟩:=hx;subst hv;obtain⟨S,az⟩:=hr.h.obj ho;unfold Nu.hdr;cases hb:(ν id).blk with
   |none=>have:=Wce az hb;exact⟨[],Wcw he (by rw[this];rfl) (.inl ⟨rfl,this⟩)⟩
   |some b=>
    obtain⟨h1,h2,h3,h4,cs,h5,h6,h7⟩:=Wdf he az hb;exact⟨cs,Wcw he h5 (.inr ⟨⟨b,(ν id).off,none⟩,(ν id).cap,by rw[h1],λj u hj=>by rw[WaO];exact h6 j u hj⟩)⟩
  .simp at h
 .rename_i id lo hi;split at h
  .rename_i e' xs ho;obtain⟨ys,hc,h⟩:=Xab.1 h;subst h;obtain⟨ew,hd⟩:=Wap hc;subst ew;simp only at hd;subst hd;obtain⟨⟨_,g1,g2,g3,hv⟩,_⟩:=hx;subst hv;obtain⟨S,az⟩:=hr.h.obj ho;have bR:=az.2.1;have uD:=az.1;unfold Nu.vhdr;cases hb:(ν id).blk with
   |none=>
    have:=Wce az hb;subst this;exact⟨[],Wcw he (by simp;rfl) (.inl ⟨rfl,by simp⟩)⟩
   |some b=>
    obtain⟨h1,h2,h3,h4,cs,h5,h6,h7⟩:=Wdf he az hb;have hl:((xs.take hi).drop lo).length=hi-lo:=by simp;omega
    by_cases sy:(ν id).cap=lo
    .have h0:(xs.take hi).drop lo= []:=Xad (by omega);exact⟨[],Wcw he (by rw[h0];rfl) (.inr ⟨_,_,by rw[hl],λj u hj=>by simp at hj⟩)⟩
    .refine⟨(cs.take (hi*e'.size)).drop (lo*e'.size),Wcw he (Wel (λx c hc=>Enc_len e' x c hc) _ _ lo (Wd7 (λx c hc=>Enc_len e' x c hc) _ _ hi h5)) (.inr ⟨_,_,by rw[hl,if_neg sy],λj u hj=>?_⟩)⟩;rw[Xbm,Xbl]at hj;rw[WaO,bR,Xas];split at hj
     .exact h6 _ u hj
     .simp at hj
  .simp at h
 .simp at h
theorem WrB(hr:Rel w0 F nt G0 G ν st a w){dst:Option Tmp}(hd:∀d,dst=some d->nt.Ok d)(e:Ty)(m:List Nat):
  ∃ν',Rel w0 F nt G0 G ν' (({env:=st.env,objs:=(st.nx,.arr e [])::kill st.objs m,nx:=st.nx+1}:St).put dst (.s (.one (.own st.nx)))) (a.put dst (.slice none 0 0)) w:=by
 refine⟨upd ν st.nx ⟨none,0,0,0,e.size⟩,hr.fresh hd m (.arr e []) _ (λ_ _ _=>False) _ _ (λφ _=>WLe.refl _ w) (λφ _ b o hh=>hh.elim) (λφ _=>?_) ⟨⟨Xbz _,by rw[Wbo];rfl⟩,rfl⟩⟩;show OwnL _ _ _ (upd ν st.nx ⟨none,0,0,0,e.size⟩ st.nx) _ _;rw[Wbo];exact⟨rfl,rfl,rfl⟩
theorem Wii(t ty e TT:TypeId)(i:TypeInfo)(ht:P.underlying t=some (.slice e))(hi:P.info? e=some i)
  (g off sLen sCap:Nat) (cur:Array Value) (hg:w.heap[g]?=some (.cells cur TT (0,0)))
  (p:Addr) (m c:Nat) (news:List Value) (hl:news.length=m*i.size) (po:∀j u,news[j]?=some u->w.cell? (p.add j)=some u) (h1:∀u∈news,u.oneCell'=true)
  (aA:sLen+m<=sCap) (bS:off+sLen*i.size+news.length<=cur.size):
  (Builtin.append_ #[t,t] ty #[.slice (some ⟨g,off,none⟩) sLen sCap,.slice (some p) m c]).run P w=
   .ok (.slice (some ⟨g,off,none⟩) (sLen+m) sCap) (w.setRow g (cur.toList.take (off+sLen*i.size)++news++cur.toList.drop (off+sLen*i.size+news.length)).toArray):=by
 have hf:=run_firstCells_some (P:=P) w i.size m p m c news hl po;have aM:=run_storeCells_at P g (off+sLen*i.size) TT news 0 cur w hg (by simpa using bS) h1;simp only[Xbb]at aM;simp[Builtin.append_,Wc ht,sizeOf,typeInfo,hi,Builtin.lenOf,aA,hf,WaO,aM]
theorem Wd0(t ty e:TypeId)(i:TypeInfo)(ht:P.underlying t=some (.slice e))(hi:P.info? e=some i)(base:Option Addr)(n cap:Nat)(h:n<=cap):
  (Builtin.append_ #[t,t] ty #[.slice base n cap,.slice none 0 0]).run P w= .ok (.slice base n cap) w:=by
 cases base<;>simp[Builtin.append_,Wc ht,sizeOf,typeInfo,hi,Builtin.lenOf,h,Builtin.firstCells,storeCells]
theorem WhD(t ty e:TypeId)(i:TypeInfo)(ht:P.underlying t=some (.slice e))(hi:P.info? e=some i)(p:Addr)(c:Nat):
  (Builtin.append_ #[t,t] ty #[.slice none 0 0,.slice (some p) 0 c]).run P w= .ok (.slice none 0 0) w:=by
 simp[Builtin.append_,Wc ht,sizeOf,typeInfo,hi,Builtin.lenOf,Builtin.firstCells,loadCells,loadCellsFrom]
theorem Wb2{o:Oper}{c:Call}(ho:o.op= .call c){s x:Operand}{t:TypeId}(hc:c.callee= .builtin .append)(ha:c.args.toList= [s,x])(cZ:c.argTypes.toList= [t,t]){v:Value}
  (hrun:(Builtin.append_ #[t,t] o.type #[a.eval s,a.eval x]).run P w= .ok v w'):(execOp a.eval o).run P w= .ok (.value v) w':=by
 obtain⟨callee,args,argTypes⟩:=c;obtain⟨args⟩:=args;obtain⟨argTypes⟩:=argTypes;simp only at hc ha cZ;subst hc ha cZ;simp only[execOp,ho,resolve,invoke,builtin,Sem.run_bind,Sem.run_pure,Result.andThen_ok,Xea,Xam,Xcg,hrun]
theorem WtS(w:World)(need old:Nat)(e:TypeId)(h:WA need=true):need<=grownCap w need old e/\grownCap w need old e<=maxLen:=
 ⟨grownCap_ge w need old e,grownCap_le_maxLen w need old e (by simp[WA]at h;unfold maxLen;omega)⟩
theorem Wjq(hr:Rel w0 F nt G0 G ν st a w){dst:Option Tmp}(hd:∀d,dst=some d->nt.Ok d)(m:List Nat){e:Ty}{xs:List e.den}{cs:List Value}(hl:cs.length=xs.length*e.size)
  (hc:∀φ,HR w0 F G ν φ st.objs st.nx w->∃ps,EncP (TyRel G w e) xs cs ps/\Sep (ps.map Pc.fp)/\∀p∈ps,CS.le p.fp (FromL φ st.objs m)) {cap:Nat} (gH:xs.length<=cap) (kS:cap<=maxLen) (z:Array Value) (hz:z.size=e.size) (t:TypeId):
  ∃ν',Rel w0 F nt G0 G ν' (({env:=st.env,objs:=(st.nx,.arr e xs)::kill st.objs m,nx:=st.nx+1}:St).put dst (.s (.one (.own st.nx)))) (a.put dst (.slice (some ⟨w.heap.size,0,none⟩) xs.length cap)) (w.drew.alloc (.cells (cs.toArray++Builtin.zeroCells z (cap-xs.length)) t)):=by
 refine(Whq hr hd m (e:=e) (xs:=xs) (cap:=cap) (cs:=cs) (vs:=cs.toArray++Builtin.zeroCells z (cap-xs.length)) (t:=t) gH kS ?_ hc ?_ w.drew rfl rfl rfl rfl).1
 .simp only[Array.size_append,List.size_toArray,size_zeroCells,hz,hl,←Xcy];congr 1;omega
 .simp
structure ElT(P:Program)(t et:TypeId)(e:Ty):Prop where
 u:P.underlying t=some (.slice et)
 i:∃i z,P.info? et=some i/\i.size=e.size/\i.zero=some z/\z.cells.size=e.size/\i.bytes<=4096
theorem elT(hT:Waf P T){t et:TypeId}{ty:Ty}{ag:Bool}{te:TE}{e:Ty}(hl:look T t=some ⟨ty,ag,.slice et⟩)(hle:look T et=some te)(hp:te.plain=true)(he:te.ty.size=e.size):ElT P t et e:=by
 obtain⟨i,z,hi,hsz,hz,du,mK⟩:=(hT _ _ hle).info;rw[WU hp]at hsz;rw[Wbw hp]at du;exact⟨(hT _ _ hl).und.2.1,i,z,hi,by rw[hsz,he],hz,by rw[←Xax,du,Wbn,he],mK⟩
theorem Wbj(hr:Rel w0 F nt G0 G ν st a w){o:Oper}(hd:∀d,o.dst=some d->nt.Ok d){c:Call}{s x:Operand}{t et:TypeId}{e:Ty}(hE:ElT P t et e)
  (ho:o.op= .call c) (hc:c.callee= .builtin .append) (ha:c.args.toList= [s,x]) (cZ:c.argTypes.toList= [t,t]) (cU:a.eval s= .slice none 0 0)
  {l:List e.den} {m m':List Nat} {news:List Value} (hx:Src w0 F G ν st w e l m (a.eval x) news) (hm:∀i∈m,i∈m') (aA:WA l.length=true):
  Done P w0 F nt G0 o a w (({env:=st.env,objs:=(st.nx,.arr e l)::kill st.objs m',nx:=st.nx+1}:St).put o.dst (.s (.one (.own st.nx)))):=by
 obtain⟨hu,i,z,hi,hsz,hz,fK,mK⟩:=hE;have sA:l.length<=1073741824:=by simpa [WA]using aA
 have hpos:=Wbq e;rcases hx.rd with⟨aQ,bB⟩|⟨pa,cc,aQ,aq⟩
 .subst bB;obtain⟨ν',hh⟩:=WrB hr hd e m';exact⟨_,_,_,G,ν',Wb2 ho hc ha cZ (by rw[cU,aQ];exact Wd0 t _ et i hu hi none 0 0 (Xn _)),.inl rfl,hh⟩
 .by_cases h0:l.length=0
  .have bB:l= []:=Xad h0;subst bB;obtain⟨ν',hh⟩:=WrB hr hd e m';exact⟨_,_,_,G,ν',Wb2 ho hc ha cZ (by rw[cU,aQ];exact WhD t _ et i hu hi _ _),.inl rfl,hh⟩
  .obtain⟨φ,hφ⟩:=hr.h;obtain⟨wR,e0,_⟩:=hx.enc φ hφ;have ie:news.length=l.length*e.size:=WaQ (λx c q hx=>Wx e x c q hx) _ _ _ e0;obtain⟨kx,ep⟩:=WtS w l.length 0 et aA;obtain⟨ν',hh⟩:=Wjq hr hd m' ie (λφ hφ=>by
    obtain⟨ps,k1,k2,k3⟩:=hx.enc φ hφ;exact⟨ps,k1,k2,λp hp b o hh=>FromL.mono hm b o (k3 p hp b o hh)⟩) kx ep z.cells fK et
   have sB:l.length*i.bytes<=281474976710656:=by
    have:=Nat.mul_le_mul sA mK;omega
   refine⟨_,_,_,G,ν',Wb2 ho hc ha cZ ?_,.inl rfl,hh⟩;rw[cU,aQ];exact run_append_nil (P:=P) w t _ et i z hu hi hz pa l.length cc news (by rw[hsz];exact ie) (λj v hj=>aq j v hj) (by omega) (by omega) sB
theorem Wdi{e:Ty}{nu:Nu}{xs:List e.den}{S:CS}{b k:Nat}(h:OwnL w (TyRel G w e) e.size nu xs S)(hb:nu.blk=some b)(hk:k<=xs.length):
  ∃c1 p1,EncP (TyRel G w e) (xs.take k) c1 p1/\c1.length=k*e.size/\Mem w b nu.off c1/\Sep (rng b nu.off (nu.cap*e.size)::p1.map Pc.fp)/\(∀s∈rng b nu.off (nu.cap*e.size)::p1.map Pc.fp,CS.le s S):=by
 obtain⟨h1,h2,h3⟩:=h;simp only[hb]at h3;obtain⟨h4,h5,h6,cs,ps,h7,h8,h9,ca⟩:=h3;obtain⟨c1,c2,p1,p2,g1,g2,g3,g4⟩:=Wen xs cs ps k h7;have hl:=WaQ (λx c q hx=>Wx e x c q hx) _ _ _ g3;rw[Xal,Xci hk]at hl;obtain⟨q1,q2⟩:=Xz.1 h9;rw[g2,Xr]at q1 q2 ca;refine⟨c1,p1,g3,hl,by rw[g1]at h8;exact h8.left,Xz.2 ⟨λs hs=>q1 s (Xk _ hs),(Xag.1 q2).1⟩,λs hs=>?_⟩;rcases Xq.1 hs with rfl|hs
 .exact ca _ (Xh ..)
 .exact ca s (Xe _ (Xk _ hs))
theorem Wda(hr:Rel w0 F nt G0 G ν st a w){o:Oper}(hd:∀d,o.dst=some d->nt.Ok d){c:Call}{s x:Operand}{t et:TypeId}{e:Ty}(hE:ElT P t et e)
  (ho:o.op= .call c) (hc:c.callee= .builtin .append) (ha:c.args.toList= [s,x]) (cZ:c.argTypes.toList= [t,t])
  {id g k:Nat} {xs:List e.den} (az:look st.objs id=some (.arr e xs)) (bb:(ν id).blk=some g) (hk:k<=xs.length) (cU:a.eval s= .slice (some ⟨g,(ν id).off,none⟩) k (ν id).cap)
  {l:List e.den} {m:List Nat} {news:List Value} (hx:Src w0 F G ν st w e l m (a.eval x) news) (hm:id∉m) (aA:WA (k+l.length)=true):
  Done P w0 F nt G0 o a w (({env:=st.env,objs:=(st.nx,.arr e (Xf (xs.take k) l))::kill st.objs (id::m),nx:=st.nx+1}:St).put o.dst (.s (.one (.own st.nx)))):=by
 obtain⟨hu,i,z,hi,hsz,hz,fK,mK⟩:=hE;have sA:k+l.length<=1073741824:=by simpa [WA]using aA
 have hpos:=Wbq e;have hlen:(Xf (xs.take k) l).length=k+l.length:=by show(xs.take k++l).length=_;rw[Xae,Xal,Xci hk]
 obtain⟨φ0,hφ0⟩:=hr.h;have ig:OwnL w (TyRel G w e) e.size (ν id) xs (φ0 id):=hφ0.ob _ _ az;have lU:=ig.2.2;simp only[bb]at lU;obtain⟨hxc,kS,⟨row,TT,fy,hrow⟩,_⟩:=lU;obtain⟨c1,p10,_,pq,pr,_,_⟩:=Wdi ig bb hk;obtain⟨wR,e0,_⟩:=hx.enc φ0 hφ0;have ie:news.length=l.length*e.size:=WaQ (λx c q hx=>Wx e x c q hx) _ _ _ e0;have aB:Live st.objs id:=⟨_,az,by simp⟩;have pt:∀{c2:List Value},c2.length=k*e.size->Mem w g (ν id).off c2->c2=c1:=λ{c2} h1 h2=>Xfj λj=>by
  by_cases hj:j<k*e.size
  .have mO:j<c2.length:=by omega
   have pu:j<c1.length:=by omega
   have a1:=h2 j _ (Xp mO);have a2:=pr j _ (Xp pu);rw[a1]at a2;rw[Xp mO,Xp pu];exact a2
  .rw[Xbg (by omega),Xbg (by omega)]
 have inplace:∀(W:World),WLe (rng g ((ν id).off+k*e.size) (l.length*e.size)) w W->Mem W g ((ν id).off+k*e.size) news->k+l.length<=(ν id).cap->
   ∃ν',Rel w0 F nt G0 G ν' (({env:=st.env,objs:=(st.nx,.arr e (Xf (xs.take k) l))::kill st.objs (id::m),nx:=st.nx+1}:St).put o.dst (.s (.one (.own st.nx)))) (a.put o.dst (.slice (some ⟨g,(ν id).off,none⟩) (k+l.length) (ν id).cap)) W:=by
  intro W hW hM bS;have jH:(k+l.length)*e.size<=(ν id).cap*e.size:=Xbi _ bS;rw[Xcy]at jH;have gK:CS.le (rng g ((ν id).off+k*e.size) (l.length*e.size)) (rng g (ν id).off ((ν id).cap*e.size)):=λb o ⟨k0,k1,k2⟩=>⟨k0,by omega,by omega⟩;refine⟨upd ν st.nx ⟨some g,(ν id).off,k+l.length,(ν id).cap,e.size⟩,hr.fresh hd (id::m) (.arr e (Xf (xs.take k) l)) _ (λφ b o=>φ id b o\/FromL φ st.objs m b o) _ _ (λφ hφ=>?_) (λφ hφ b o hh=>?_) (λφ hφ=>?_) ⟨⟨Xbz _,by rw[Wbo];rfl⟩,rfl⟩⟩
  .have hown:OwnL w (TyRel G w e) e.size (ν id) xs (φ id):=hφ.ob _ _ az;obtain⟨_,_,_,_,_,_,hle⟩:=Wdi hown bb hk;exact hW.mono λb o hh=>⟨id,.inr (Xh ..),aB,hle _ (Xh ..) b o (gK b o hh)⟩
  .rcases hh with hh|⟨j,hj,h1,h2⟩
   .exact .inl ⟨id,.inr (Xh ..),aB,hh⟩
   .exact .inl ⟨j,.inr (Xe _ hj),h1,h2⟩
  .have hown:OwnL w (TyRel G w e) e.size (ν id) xs (φ id):=hφ.ob _ _ az;obtain⟨oj,p1,g3,g4,g5,g6,g7⟩:=Wdi hown bb hk;obtain⟨ps,k1,k2,k3⟩:=hx.enc φ hφ;obtain⟨q1,q2⟩:=Xz.1 g6;have fL:=g7 _ (Xh ..);have kT:∀p∈p1,CS.le p.fp (φ id):=λp hp=>g7 _ (Xe _ (Xan hp));have jM:∀p∈ps,∀S,CS.le S (φ id)->CS.disj S p.fp:=λp hp S hS b o h1 h2=>by
    obtain⟨j,hj,h3,h4⟩:=k3 p hp b o h2;have:=hφ.inj id j b o aB h3 (hS b o h1) h4;subst this;exact hm hj
   have ic:∀p∈p1,Same p.fp w W:=λp hp=>hW.same ((q1 p.fp (Xan hp)).mono gK (λ_ _ hh=>hh)) (λb o hh=>hφ.bl id b o aB (kT p hp b o hh));have jL:∀p∈ps,Same p.fp w W:=λp hp=>hW.same (jM p hp _ (λb o hh=>fL b o (gK b o hh))) (λb o hh=>by
    obtain⟨j,hj,h3,h4⟩:=k3 p hp b o hh;exact hφ.bl j b o h3 h4)
   show OwnL W (TyRel G W e) e.size (upd ν st.nx ⟨some g,(ν id).off,k+l.length,(ν id).cap,e.size⟩ st.nx) _ _;rw[Wbo];refine⟨hlen,rfl,by rw[hlen];exact bS,kS,hW.rows.row _ _ ⟨row,TT,fy,hrow⟩,oj++news,p1++ps,WdM _ _ _ _ _ _ ?_ ?_,?_,Xz.2 ⟨λs hs=>?_,?_⟩,λs hs b o hh=>?_⟩
   .exact WbL (Q:=λq=>Same q.fp w W) (λx c q hq hx=>Wau (λ_ _ _ hh=>hh) e x c q hq hx) _ _ _ ic g3
   .exact WbL (Q:=λq=>Same q.fp w W) (λx c q hq hx=>Wau (λ_ _ _ hh=>hh) e x c q hq hx) _ _ _ jL k1
   .refine Mem.app (n:=k*e.size) (λj v hj=>?_) hM g4;have h1:=g5 j v hj;have hj':j<oj.length:=(Xt.1 hj).1;rw[hW.cell g ((ν id).off+j) (block_lt_of_cell h1) (λ⟨_,h2,_⟩=>by omega)];exact h1
   .rw[Xr]at hs;rcases Xl.1 hs with hs|hs
    .exact q1 s hs
    .obtain⟨p,hp,rfl⟩:=Xv.1 hs;exact jM p hp _ fL
   .rw[Xr];refine Xag.2 ⟨q2,k2,λs hs t ht=>?_⟩;obtain⟨p,hp,rfl⟩:=Xv.1 hs;obtain⟨q,hq,rfl⟩:=Xv.1 ht;exact jM q hq _ (kT p hp)
   .rcases Xq.1 hs with rfl|hs
    .exact .inl (fL b o hh)
    .rw[Xr]at hs;rcases Xl.1 hs with hs|hs
     .obtain⟨p,hp,rfl⟩:=Xv.1 hs;exact .inl (kT p hp b o hh)
     .obtain⟨q,hq,rfl⟩:=Xv.1 hs;exact .inr (k3 q hq b o hh)
 rcases hx.rd with⟨aQ,bB⟩|⟨pa,cc,aQ,aq⟩
 .have hl0:l.length=0:=by rw[bB];rfl
  have so:news= []:=Xad (by rw[ie,hl0];simp);obtain⟨ν',hh⟩:=inplace w (WLe.refl _ w) (by rw[so];exactλj v hj=>by simp at hj) (by omega);refine⟨_,_,_,G,ν',Wb2 ho hc ha cZ ?_,.inl rfl,hh⟩;rw[cU,aQ,Wd0 t _ et i hu hi _ _ _ (by omega),hl0];rfl
 .by_cases bS:k+l.length<=(ν id).cap
  .have sC:(k+l.length)*e.size<=(ν id).cap*e.size:=Xbi _ bS;rw[Xcy]at sC;have hrun:=Wii (P:=P) (w:=w) t o.type et TT i hu hi g (ν id).off k (ν id).cap row fy pa l.length cc news (by rw[hsz];exact ie) (λj v hj=>aq j v hj) (WmL _ _ _ e0) bS (by rw[hsz,ie];omega);obtain⟨hw,kU⟩:=WcG (k:=(ν id).off+k*i.size) (news:=news) fy (by rw[hsz,ie];omega);generalize w.setRow g (row.toList.take ((ν id).off+k*i.size)++news++row.toList.drop ((ν id).off+k*i.size+news.length)).toArray=W at hrun hw kU;rw[hsz]at hw kU;rw[ie]at hw;obtain⟨ν',hh⟩:=inplace W hw kU bS;exact⟨_,_,_,G,ν',Wb2 ho hc ha cZ (by rw[cU,aQ,hrun]),.inl rfl,hh⟩
  .obtain⟨kx,ep⟩:=WtS w (k+l.length) (ν id).cap et aA;have hcl:(c1++news).length=(Xf (xs.take k) l).length*e.size:=by rw[Xae,pq,ie,hlen,Xcy]
   obtain⟨ν',hh⟩:=Wjq hr hd (id::m) (xs:=Xf (xs.take k) l) hcl (λφ hφ=>by
    have hown:OwnL w (TyRel G w e) e.size (ν id) xs (φ id):=hφ.ob _ _ az;obtain⟨oj,p1,g3,g4,g5,g6,g7⟩:=Wdi hown bb hk;obtain⟨ps,k1,k2,k3⟩:=hx.enc φ hφ;have:=pt g4 g5;subst this;obtain⟨q1,q2⟩:=Xz.1 g6;have kT:∀p∈p1,CS.le p.fp (φ id):=λp hp=>g7 _ (Xe _ (Xan hp));refine⟨p1++ps,WdM _ _ _ _ _ _ g3 k1,?_,λp hp b o hh=>?_⟩
    .rw[Xr];refine Xag.2 ⟨q2,k2,λs hs t ht=>?_⟩;obtain⟨p,hp,rfl⟩:=Xv.1 hs;obtain⟨q,hq,rfl⟩:=Xv.1 ht;intro b o h1 h2;obtain⟨j,hj,h3,h4⟩:=k3 q hq b o h2;have:=hφ.inj id j b o aB h3 (kT p hp b o h1) h4;subst this;exact hm hj
    .rcases Xl.1 hp with hp|hp
     .exact⟨id,Xh ..,aB,kT p hp b o hh⟩
     .exact FromL.mono (λi hi=>Xe _ hi) b o (k3 p hp b o hh)) (by rw[hlen];exact kx) ep z.cells fK et
   have sB:(k+l.length)*i.bytes<=140737488355328:=by
    have:=Nat.mul_le_mul sA mK;omega
   have hrun:=run_append_grow (P:=P) w t o.type et i z hu hi hz ⟨g,(ν id).off,none⟩ k (ν id).cap c1 (by rw[hsz];exact pq) (λj v hj=>by rw[WaO];exact pr j v hj) pa l.length cc news (by rw[hsz];exact ie) (λj v hj=>aq j v hj) (by omega) (by omega) (growslice_fits (by omega) sB);refine⟨_,_,_,G,ν',Wb2 ho hc ha cZ ?_,.inl rfl,hh⟩;rw[cU,aQ,hrun,hlen];simp
theorem WjN{id:Nat}{e:Ty}{xs:List e.den}(hh:HRel w0 F G ν objs nx w)(az:look objs id=some (.arr e xs)):
  ((ν id).blk=none/\xs= []/\(ν id).hdr= .slice none 0 0)\/∃g,(ν id).blk=some g/\(ν id).hdr= .slice (some ⟨g,(ν id).off,none⟩) xs.length (ν id).cap:=by
 obtain⟨S,ho⟩:=hh.obj az;unfold Nu.hdr;cases hb:(ν id).blk with
 |none=>exact .inl ⟨rfl,Wce ho hb,rfl⟩
 |some g=>exact .inr ⟨g,rfl,by rw[ho.1]⟩
theorem Wlt(hT:Waf P T)(hr:Rel w0 F nt G0 G ν st a w){o:Oper}(hd:∀d,o.dst=some d->nt.Ok d){c:Call}{s x:Operand}{t et:TypeId}{ty:Ty}{te:TE}{sv xv:AVal}{R:Type}{k:St->Option R}{r:R}
  (hl:look T t=some ⟨ty,false,.slice et⟩) (hle:look T et=some te) (hp:te.plain=true)
  (ho:o.op= .call c) (hc:c.callee= .builtin .append) (ha:c.args.toList= [s,x]) (cZ:c.argTypes.toList= [t,t]) (hs:ev st s=some sv) (hx:ev st x=some xv)
  (h:Wer st te.ty sv xv (λx objs nx=>k (({env:=st.env,objs:=objs,nx:=nx}:St).put o.dst x))=some r):∃ah,k ah=some r/\Done P w0 F nt G0 o a w ah:=by
 have move:∀(e:Ty) (l:List e.den) (m:List Nat),WsM st e xv=some (l,m)->∃news,Src w0 F G ν st w e l m (a.eval x) news:=λe l m ge=>by
  unfold WsM at ge;split at ge
  .simp only[Option.some.injEq,Prod.mk.injEq]at ge;obtain⟨rfl,rfl⟩:=ge;obtain⟨hv,_⟩:=WE hr x _ hx;exact⟨[],λφ _=>⟨[],⟨rfl,rfl⟩,List.Pairwise.nil,by simp⟩,.inl ⟨hv,rfl⟩⟩
  .rename_i id;split at ge
   .rename_i e' xs az;obtain⟨ys,bt,ge⟩:=Xab.1 ge;have h2:=Prod.mk.inj ge;obtain⟨h3,h4⟩:=h2;subst h3 h4;obtain⟨ew,gL⟩:=Wap bt;subst ew;simp only at gL;subst gL;obtain⟨⟨_,hv⟩,_⟩:=WE hr x _ hx;have aB:Live st.objs id:=⟨_,az,by simp⟩;rcases WjN hr.h az with⟨hb,bB,hh⟩|⟨g,hb,hh⟩
    .subst bB;exact⟨[],λφ _=>⟨[],⟨rfl,rfl⟩,List.Pairwise.nil,by simp⟩,.inl ⟨by rw[hv,hh],rfl⟩⟩
    .obtain⟨φ0,hφ0⟩:=hr.h;have ig:OwnL w (TyRel G w e') e'.size (ν id) xs (φ0 id):=hφ0.ob _ _ az;obtain⟨c1,p1,g1,g2,g3,g4,g5⟩:=Wdi ig hb (Xn _);refine⟨c1,λφ hφ=>?_,.inr ⟨⟨g,(ν id).off,none⟩,(ν id).cap,by rw[hv,hh],λj u hj=>by rw[WaO];exact g3 j u hj⟩⟩;have hown:OwnL w (TyRel G w e') e'.size (ν id) xs (φ id):=hφ.ob _ _ az;obtain⟨oj,wS,k1,k2,k3,k4,k5⟩:=Wdi hown hb (Xn _);have:oj=c1:=Xfj λj=>by
      by_cases hj:j<xs.length*e'.size
      .have mO:j<oj.length:=by omega
       have pu:j<c1.length:=by omega
       have a1:=k3 j _ (Xp mO);have a2:=g3 j _ (Xp pu);rw[a1]at a2;rw[Xp mO,Xp pu];exact a2
      .rw[Xbg (by omega),Xbg (by omega)]
     subst this;rw[Xdc]at k1;exact⟨wS,k1,(Xz.1 k4).2,λp hp b o hh=>⟨id,Xx.2 rfl,aB,k5 _ (Xe _ (Xan hp)) b o hh⟩⟩
   .simp at ge
  .simp at ge
 unfold Wer at h;split at h
 .split at h
  .rename_i e hel;split at h
   .rename_i he;split at h
    .rename_i l m ge;obtain⟨news,de⟩:=move e l m ge;cases aA:WA l.length with
     |false=>simp[aA]at h
     |true=>
      simp[aA]at h;obtain⟨cU,_⟩:=WE hr s _ hs;exact⟨_,h,Wbj hr hd (elT hT hl hle hp (by rw[←he,WbC])) ho hc ha cZ cU de (λi hi=>hi) aA⟩
    .simp at h
   .simp at h
  .simp at h
 .rename_i id;split at h
  .rename_i e xs az;split at h
   .rename_i he;split at h
    .rename_i l m ge;obtain⟨news,de⟩:=move e l m ge;split at h
     .rename_i aW;have aW:=(Xaj.1 ((WcK _).1 aW)).1;cases aA:WA (xs.length+l.length)with
      |false=>simp[aA]at h
      |true=>
       simp[aA]at h;refine⟨_,h,?_⟩;have hE:ElT P t et e:=elT hT hl hle hp (by rw[←he,WbC]);obtain⟨⟨_,cU⟩,_⟩:=WE hr s _ hs;rcases WjN hr.h az with⟨hb,bB,hh⟩|⟨g,hb,hh⟩
       .subst bB;exact Wbj hr hd hE ho hc ha cZ (by rw[cU,hh]) de (λi hi=>Xe _ hi) (by simpa [WA]using aA)
       .have:=Wda hr hd hE ho hc ha cZ az hb (Xn _) (by rw[cU,hh]) de aW aA;rw[Xdc]at this;exact this
     .simp at h
    .simp at h
   .simp at h
  .simp at h
 .simp at h
theorem Wnb(hT:Waf P T)(hr:Rel w0 F nt G0 G ν st a w){o:Oper}(hd:∀d,o.dst=some d->nt.Ok d){c:Call}{s x:Operand}{t t2:TypeId}{sv xv:AVal}{R:Type}{k:St->Option R}{r:R}
  (ho:o.op= .call c) (hc:c.callee= .builtin .append) (ha:c.args.toList= [s,x]) (cZ:c.argTypes.toList= [t,t2]) (hs:ev st s=some sv) (hx:ev st x=some xv)
  (h:WdL T st t t2 sv xv (λx objs nx=>k (({env:=st.env,objs:=objs,nx:=nx}:St).put o.dst x))=some r):∃ah,k ah=some r/\Done P w0 F nt G0 o a w ah:=by
 unfold WdL at h;split at h
 .rename_i ty et _ hl _;split at h
  .rename_i te hle;split at h
   .rename_i bs;obtain⟨rfl,hp,aZ⟩:=bs;have hE:ElT P t et te.ty:=elT hT hl hle hp rfl;cases fM:Wtn st sv xv with
    |false=>
     simp only[fM,Bool.not_false,cond_true]at h;exact Wlt hT hr hd hl hle hp ho hc ha cZ hs hx h
    |true=>
    simp only[fM,Bool.not_true,cond_false]at h;split at h
    .rename_i l bK;cases aA:WA l.length with
     |false=>simp[aA]at h
     |true=>
      simp[aA]at h;obtain⟨cU,_⟩:=WE hr s _ hs;obtain⟨news,de⟩:=Wik hr aZ [] (WE hr x _ hx) bK;exact⟨_,h,Wbj (m':=[]) hr hd hE ho hc ha cZ cU de (λi hi=>hi) aA⟩
    .rename_i id l bK;split at h
     .rename_i e0 xs az;split at h
      .rename_i ys bt;obtain⟨he,hy⟩:=Wff bt;injection he with he;subst he;simp only at hy;subst hy;cases aA:WA (Xc xs+l.length)with
       |false=>simp[aA]at h
       |true=>
        simp[aA]at h;refine⟨_,h,?_⟩;obtain⟨⟨_,cU⟩,_⟩:=WE hr s _ hs;obtain⟨news,de⟩:=Wik hr aZ [] (WE hr x _ hx) bK;rcases WjN hr.h az with⟨hb,bB,hh⟩|⟨g,hb,hh⟩
        .subst bB;exact Wbj (m':=[id]) hr hd hE ho hc ha cZ (by rw[cU,hh]) de (λi hi=>by simp at hi) (by simpa [WA]using aA)
        .have:=Wda hr hd hE ho hc ha cZ az hb (Xn _) (by rw[cU,hh]) de (by simp) aA;rw[Xdc]at this;exact this
      .simp at h
     .simp at h
    .rename_i id hi l bK;split at h
     .rename_i e0 xs az;split at h
      .rename_i ys bt;obtain⟨he,hy⟩:=Wff bt;injection he with he;subst he;simp only at hy;subst hy;cases aA:WA (hi+l.length)with
       |false=>simp[aA]at h
       |true=>
        simp[aA]at h;refine⟨_,h,?_⟩;obtain⟨⟨_,g1,g2,g3,cU⟩,_⟩:=WE hr s _ hs;obtain⟨news,de⟩:=Wik hr aZ [] (WE hr x _ hx) bK;obtain⟨S,hown⟩:=hr.h.obj az;unfold Nu.vhdr at cU;cases hb:(ν id).blk with
        |none=>
         have bB:=Wce hown hb;simp only[hb]at cU;have h0:=g3 hb;subst h0;show Done P w0 F nt G0 o a w (({env:=st.env,objs:=(st.nx,.arr te.ty l)::(id,.dead)::st.objs,nx:=st.nx+1}:St).put o.dst (.s (.one (.own st.nx))));exact Wbj (m':=[id]) hr hd hE ho hc ha cZ cU de (λi hi=>by simp at hi) (by simpa [WA]using aA)
        |some g=>
         simp only[hb,Nat.sub_zero,Xey,Xbb,ite_self]at cU;exact Wda hr hd hE ho hc ha cZ az hb (by rw[hown.1];exact g2) cU de (by simp) aA
      .simp at h
     .simp at h
    .simp at h
   .simp at h
  .simp at h
 .simp at h
end
end Go.Sx
namespace Go.Sx
set_option linter.unusedVariables false
set_option linter.unusedSimpArgs false
section
variable{w0:World}{F:CS}{nt:Slots}{G0 G:GH}{ν:Nat->Nu}{φ:Nat->CS}{objs:Wab}{nx:Nat}{st ah:St}{a:Act}{w w':World}{P:Program}{T:Tab}
theorem WhW{t et:TypeId}{te:TE}{nu:Nu}{n:Nat}{lo hi:Option Int}{vl vh:Option Value}(hu:P.underlying t=some (.slice et))(bF:TEok P T et te)(hp:te.plain=true)(bR:nu.esz=te.ty.size)
  (hc:n<=nu.cap) (hn:n=nu.len) (bb:nu.blk=none->n=0) (hl:BRel lo vl) (hh:BRel hi vh) (hb:(WcA n lo hi).1=true):
  (Instr.sliceAt t nu.hdr vl vh none).run P w= .ok (nu.vhdr (WcA n lo hi).2.1 (WcA n lo hi).2.2) w/\(WcA n lo hi).2.1<=(WcA n lo hi).2.2/\(WcA n lo hi).2.2<=n:=by
 unfold Nu.hdr Nu.vhdr;cases hk:nu.blk with
 |none=>
  have h0:=bb hk;subst h0;obtain⟨hr,h3,h4⟩:=WcB (P:=P) (w:=w) (isSlice:=true) (cap:=0) hl hh (Xn _) hb;have e1:(WcA 0 lo hi).2.2=0:=by omega
  have e2:(WcA 0 lo hi).2.1=0:=by omega
  rw[e1,e2]at hr⊢;refine⟨?_,Xn _,Xn _⟩;simp[Instr.sliceAt,Instr.slice,Wc hu,hr,bF.sizeOf]
 |some b=>
  obtain⟨hr,h7,h8⟩:=WcB (P:=P) (w:=w) (isSlice:=true) (cap:=nu.cap) hl hh hc hb;refine⟨?_,h7,h8⟩;rw[←hn];generalize (WcA n lo hi).2.1=p at*;generalize (WcA n lo hi).2.2=q at*;have hsz:te.size=nu.esz:=by rw[WU hp,bR]
  simp only[Instr.sliceAt,Instr.slice,Sem.run_bind,Wc hu,Result.andThen_ok,hr,bF.sizeOf,Sem.run_pure,hsz,Xch,WaO];split<;>rfl
theorem WqC{id:Nat}{e:Ty}{xs:List e.den}{S:CS}(h:Wcq G ν nx w id S (.arr e xs)):((ν id).blk=none->xs.length=0)/\((ν id).blk≠none->xs.length<=(ν id).cap):=by
 refine⟨λhb=>by rw[Wce h hb];rfl,λhb=>?_⟩;obtain⟨_,_,h3⟩:=h;cases hk:(ν id).blk with
 |none=>exact absurd hk hb
 |some b=>simp only[hk]at h3;exact h3.1
theorem WlM{t et:TypeId}{te:TE}{id:Nat}{e:Ty}{xs:List e.den}{S:CS}(ho:Wcq G ν nx w id S (.arr e xs)){lo hi:Option Int}{vl vh:Option Value}(hu:P.underlying t=some (.slice et))(bF:TEok P T et te)(hp:te.plain=true)(he:te.ty.size=e.size)
  (hl:BRel lo vl) (hh:BRel hi vh) (hb:(WcA xs.length lo hi).1=true):
  (Instr.sliceAt t (ν id).hdr vl vh none).run P w= .ok ((ν id).vhdr (WcA xs.length lo hi).2.1 (WcA xs.length lo hi).2.2) w/\(WcA xs.length lo hi).2.1<=(WcA xs.length lo hi).2.2/\(WcA xs.length lo hi).2.2<=xs.length:=by
 obtain⟨h1,h2⟩:=WqC ho;have hlen:=ho.1;have bR:=ho.2.1;cases hk:(ν id).blk with
 |some b=>exact WhW hu bF hp (by rw[bR,he]) (h2 (by rw[hk];simp)) hlen (λh=>by rw[hk]at h;cases h) hl hh hb
 |none=>
  have h0:=h1 hk;have bB:xs= []:=Xad h0;have e0:(ν id).hdr=(⟨none,(ν id).off,(ν id).len,0,(ν id).esz⟩:Nu).hdr:=by unfold Nu.hdr;simp only[hk]
  have e1:∀p q,(ν id).vhdr p q=(⟨none,(ν id).off,(ν id).len,0,(ν id).esz⟩:Nu).vhdr p q:=λp q=>by unfold Nu.vhdr;simp only[hk]
  rw[e0,e1];exact WhW hu bF hp (by show(ν id).esz=_;rw[bR,he]) (by rw[h0];exact Xn _) hlen (λ_=>h0) hl hh hb
theorem Wgz{o:Oper}{t:TypeId}{x:Operand}{lo hi:Option Operand}{v:Value}(ho:o.op= .slice t x lo hi none)(h:(Instr.sliceAt t (a.eval x) (lo.map a.eval) (hi.map a.eval) none).run P w= .ok v w):(execOp a.eval o).run P w= .ok (.value v) w:=by
 simp only[execOp,ho,Option.map_none,Sem.run_bind,h,Result.andThen_ok,Sem.run_pure]
theorem Wqb(hT:Waf P T)(hr:Rel w0 F nt G0 G ν st a w){o:Oper}(hd:∀d,o.dst=some d->nt.Ok d){t et:TypeId}{ty:Ty}{te:TE}{x:Operand}{lo hi:Option Operand}(ho:o.op= .slice t x lo hi none)
  {id:Nat} {l h:Option Int} {R:Type} {k:St->Option R} {r:R} (hx:ev st x=some (.s (.one (.own id)))) (hl:look T t=some ⟨ty,false,.slice et⟩) (hle:look T et=some te) (hp:te.plain=true) (h1:Wk6 st lo=some l) (h2:Wk6 st hi=some h)
  (hk:WeV st te.ty id l h (λx objs nx=>k (({env:=st.env,objs:=objs,nx:=nx}:St).put o.dst x))=some r):∃ah,k ah=some r/\Done P w0 F nt G0 o a w ah:=by
 unfold WeV at hk;split at hk
 .rename_i e xs az;split at hk
  case isFalse=>simp at hk
  rename_i pj;cases hb:(WcA (Xc xs) l h).1 with
  |false=>simp[hb]at hk
  |true=>
   simp only[hb,cond_true]at hk;refine⟨_,hk,?_⟩;obtain⟨⟨bE,cU⟩,_⟩:=WE hr x _ hx;obtain⟨S,hown⟩:=hr.h.obj az;have hbl:=Wc6 hr lo _ h1;have px:=Wc6 hr hi _ h2;obtain⟨g1,g2,g3⟩:=WlM (w:=w) hown (hT _ _ hl).und.2.1 (hT _ _ hle) hp (by rw[pj,WbC]) hbl px hb;refine⟨_,_,w,G,ν,Wgz ho (by rw[cU];exact g1),.inl rfl,hr.put hd ⟨⟨bE,g2,by rw[←hown.1];exact g3,λpy=>?_,rfl⟩,Wn8 _ _ _⟩⟩;have:=(WqC hown).1 py;omega
 .simp at hk
theorem Wsz(n:Nu)(h:Nat):n.part 0 h=⟨n.blk,n.off,h,n.cap,n.esz⟩:=by
 unfold Nu.part;simp
theorem Wvh(n:Nu)(h:Nat):n.vhdr 0 h=(⟨n.blk,n.off,h,n.cap,n.esz⟩:Nu).hdr:=by
 rw[←Wsz,Wkg]
theorem Wpm(hT:Waf P T)(hr:Rel w0 F nt G0 G ν st a w){o:Oper}(hd:∀d,o.dst=some d->nt.Ok d){t et:TypeId}{ty:Ty}{x:Operand}{lo hi:Option Operand}(ho:o.op= .slice t x lo hi none)
  {id:Nat} {e:Ty} {xs:List e.den} {te:TE} {h:Int} (hx:ev st x=some (.s (.one (.own id)))) (hl:look T t=some ⟨ty,false,.slice et⟩) (hle:look T et=some te) (hp:te.plain=true) (he:te.ty=e.ro) (az:look st.objs id=some (.arr e xs)) (ba:Wk6 st lo=some none) (hh:Wk6 st hi=some (some h))
  (h0:0<=h) (h1:h<=(xs.length:Int)):Done P w0 F nt G0 o a w (({env:=st.env,objs:=(st.nx,.arr e (xs.take h.toNat))::kill st.objs [id],nx:=st.nx+1}:St).put o.dst (.s (.one (.own st.nx)))):=by
 obtain⟨⟨bE,cU⟩,_⟩:=WE hr x _ hx;obtain⟨S,hown⟩:=hr.h.obj az;have hbl:=Wc6 hr lo _ ba;have px:=Wc6 hr hi _ hh;have hb:(WcA xs.length none (some h)).1=true:=by simp[WcA,h0,h1]
 obtain⟨g1,g2,g3⟩:=WlM (w:=w) hown (hT _ _ hl).und.2.1 (hT _ _ hle) hp (by rw[he,WbC]) hbl px hb;have e1:(WcA xs.length none (some h)).2.1=0:=rfl;have e2:(WcA xs.length none (some h)).2.2=h.toNat:=rfl;rw[e1,e2,Wvh]at g1;refine⟨_,_,w,G,upd ν st.nx ((ν id).part 0 h.toNat),Wgz ho (by rw[cU];exact g1),.inl rfl,?_⟩;have aB:Live st.objs id:=⟨_,az,by simp⟩;refine hr.fresh hd [id] (.arr e (xs.take h.toNat)) _ (λφ=>φ id) _ _ (λφ _=>WLe.refl _ w) (λφ _ b o hh=>.inl ⟨id,.inr (Xx.2 rfl),aB,hh⟩) (λφ hφ=>?_) ⟨⟨Xbz _,by rw[Wbo,Wsz]⟩,Wio _⟩;show OwnL w (TyRel G w e) e.size (upd ν st.nx ((ν id).part 0 h.toNat) st.nx) (xs.take h.toNat) (φ id);rw[Wbo];have hown':OwnL w (TyRel G w e) e.size (ν id) xs (φ id):=hφ.ob _ _ az;have:=Won (lo:=0) (hi:=h.toNat) hown' (Xbr _) (by rw[←hown'.1];omega);simpa using this
theorem WiH(hT:Waf P T)(hr:Rel w0 F nt G0 G ν st a w){o:Oper}(hd:∀d,o.dst=some d->nt.Ok d){t et:TypeId}{ty:Ty}{x:Operand}{lo hi:Option Operand}(ho:o.op= .slice t x lo hi none)
  {id i p:Nat} {e:Ty} {xs:List e.den} {te:TE} {h:Int} (hx:ev st x=some (.s (.one (.own id)))) (hl:look T t=some ⟨ty,false,.slice et⟩) (hle:look T et=some te) (hp:te.plain=true) (he:te.ty=e.ro) (az:look st.objs id=some (.hole e xs i p)) (kV:WqP (look st.objs p) e.size=true) (ba:Wk6 st lo=some none) (hh:Wk6 st hi=some (some h))
  (h0:0<=h) (h1:h<=(xs.length:Int)) (h2:h<=(i:Int)):Done P w0 F nt G0 o a w (({env:=st.env,objs:=(st.nx,.arr e (xs.take h.toNat))::kill st.objs [id,p],nx:=st.nx+1}:St).put o.dst (.s (.one (.own st.nx)))):=by
 obtain⟨⟨bE,cU⟩,_⟩:=WE hr x _ hx;obtain⟨S,kN,hole⟩:=hr.h.obj az;have fe:∃cs,look st.objs p=some (.box cs)/\cs.length=e.size:=by
  unfold WqP at kV;split at kV
  .rename_i cs fe;exact⟨cs,fe,Xce kV⟩
  .cases kV
 obtain⟨pcs,fe,eN⟩:=fe;have hbl:=Wc6 hr lo _ ba;have px:=Wc6 hr hi _ hh;have hb:(WcA xs.length none (some h)).1=true:=by simp[WcA,h0,h1]
 obtain⟨k1,k2,k3,b,k4,k5,k6,k7,k8,k9,_⟩:=hole;obtain⟨g1,g2,g3⟩:=WhW (w:=w) (nu:=ν id) (hT _ _ hl).und.2.1 (hT _ _ hle) hp (by rw[k2,he,WbC]) k7 k1 (λhn=>by rw[hn]at k4;cases k4) hbl px hb;have e1:(WcA xs.length none (some h)).2.1=0:=rfl;have e2:(WcA xs.length none (some h)).2.2=h.toNat:=rfl;rw[e1,e2,Wvh]at g1;refine⟨_,_,w,G,upd ν st.nx ((ν id).part 0 h.toNat),Wgz ho (by rw[cU];exact g1),.inl rfl,?_⟩;have aB:Live st.objs id:=⟨_,az,by simp⟩;have dw:Live st.objs p:=⟨_,fe,by simp⟩;refine hr.fresh hd [id,p] (.arr e (xs.take h.toNat)) _ (λφ b o=>φ id b o\/φ p b o) _ _ (λφ _=>WLe.refl _ w) (λφ _ b o hh=>?_) (λφ hφ=>?_) ⟨⟨Xbz _,by rw[Wbo,Wsz]⟩,Wio _⟩
 .rcases hh with hh|hh
  .exact .inl ⟨id,.inr (by simp),aB,hh⟩
  .exact .inl ⟨p,.inr (by simp),dw,hh⟩
 .show OwnL w (TyRel G w e) e.size (upd ν st.nx ((ν id).part 0 h.toNat) st.nx) (xs.take h.toNat) _;rw[Wbo,Wsz];obtain⟨kN,hole⟩:p<st.nx/\Whi w (TyRel G w e) e.size (ν id) (ν p) xs i (φ id):=hφ.ob _ _ az;obtain⟨_,_,_,b',rE,k5',_,_,_,_,c1,c2,p1,p2,j1,j2,j3,j4,j5,j6⟩:=hole;rw[k4]at rE;injection rE with rE;subst rE;obtain⟨b2,vs,q1,q2,q3,q4,q5⟩:Wcq G ν st.nx w p (φ p) (.box pcs):=hφ.ob _ _ fe;rw[k5]at q1;injection q1 with q1;subst q1;rw[eN,k6]at q5;obtain⟨d1,d2,r1,r2,t1,t2,t3,t4⟩:=Wen _ _ _ h.toNat j1;rw[List.take_take,Xci (by omega)]at t3;have gA:=j6 _ (Xh ..);have gC:=j6 _ (Xe _ (Xh ..));obtain⟨s1,s2⟩:=Xz.1 j5;obtain⟨s3,s4⟩:=Xz.1 s2;have dv:∀s∈r1.map Pc.fp,s∈(p1++p2).map Pc.fp:=λs hs=>by rw[t2,Xr,Xr];exact Xk _ (Xk _ hs)
  have gp:∀s∈r1.map Pc.fp,CS.le s (φ id):=λs hs=>j6 s (Xe _ (Xe _ (dv s hs)));have sD:∀b o,φ id b o->φ p b o->False:=λb o x1 x2=>by
   have:=hφ.inj id p b o aB dw x1 x2;subst this;rw[az]at fe;cases fe
  refine⟨by simp;omega,k2,?_⟩;simp only[k4];refine⟨by simp;omega,k8,k9,d1,r1,t3,by rw[t1]at j3;exact j3.left,Xz.2 ⟨λs hs=>?_,?_⟩,λs hs=>?_⟩
  .exactλb' o dn gv=>(Wgb (show i<(ν id).cap by omega) (S:=λb o=>¬s b o) (λb o hh gv=>s1 s (Xe _ (dv s hs)) b o hh gv) (λb o hh gv=>sD b o (gp s hs b o gv) (q5 b o hh)) (λb o hh gv=>s3 s (dv s hs) b o hh gv) b' o dn) gv
  .rw[t2,Xr,Xr]at s4;exact(Xag.1 (Xag.1 s4).1).1
  .rcases Xq.1 hs with rfl|hs
   .exact Wgb (show i<(ν id).cap by omega) (λb o hh=>.inl (gA b o hh)) (λb o hh=>.inr (q5 b o hh)) (λb o hh=>.inl (gC b o hh))
   .exactλb o hh=>.inl (gp s hs b o hh)
theorem Wo7(hT:Waf P T)(hr:Rel w0 F nt G0 G ν st a w){o:Oper}(hd:∀d,o.dst=some d->nt.Ok d){c:Call}{x:Operand}{t et:TypeId}{ty:Ty}{te:TE}{e:Ty}{xs:List e.den}{id lo hi:Nat}
  (ho:o.op= .call c) (hc:c.callee= .builtin .clear) (ha:c.args.toList= [x]) (cZ:c.argTypes.toList= [t]) (hx:ev st x=some (.s (.one (.vw id lo hi)))) (hl:look T t=some ⟨ty,false,.slice et⟩) (hle:look T et=some te)
  (az:look st.objs id=some (.arr e xs)) (he:te.ty=e) (hp:te.plain=true) (aZ:e.data=true):
  Done P w0 F nt G0 o a w (({env:=st.env,objs:=(id,.arr e (xs.take lo++Xaa (hi-lo) e.dflt++xs.drop hi))::st.objs,nx:=st.nx}:St).put o.dst (.tup [])):=by
 have hu:=(hT _ _ hl).und.2.1;obtain⟨⟨bE,g1,g2,g3,hv⟩,_⟩:=WE hr x _ hx;obtain⟨φ,hφ⟩:=hr.h;have hown:OwnL w (TyRel G w e) e.size (ν id) xs (φ id):=hφ.ob _ _ az;have aB:Live st.objs id:=⟨_,az,by simp⟩;have pA:∀W,(Builtin.clear_ #[t] o.type #[a.eval x]).run P w= .ok (.tuple #[]) W->(execOp a.eval o).run P w= .ok (.value (.tuple #[])) W:=λW hrun=>by
  obtain⟨callee,args,argTypes⟩:=c;obtain⟨args⟩:=args;obtain⟨argTypes⟩:=argTypes;simp only at hc ha cZ;subst hc ha cZ;simp only[execOp,ho,resolve,invoke,builtin,Sem.run_bind,Sem.run_pure,Result.andThen_ok,Xea,Xam,Xcg,hrun]
 have ff:∀W,(Builtin.clear_ #[t] o.type #[a.eval x]).run P w= .ok (.tuple #[]) W->HRel w0 F G ν ((id,.arr e (xs.take lo++Xaa (hi-lo) e.dflt++xs.drop hi))::st.objs) st.nx W->
   Done P w0 F nt G0 o a w (({env:=st.env,objs:=(id,.arr e (xs.take lo++Xaa (hi-lo) e.dflt++xs.drop hi))::st.objs,nx:=st.nx}:St).put o.dst (.tup [])):=λW hrun hH=>
  ⟨_,_,W,G,ν,pA W hrun,.inl rfl,(hr.on (λ_ _ _ hh=>hh) (λ_ _=>rfl) (Xn _) hH hr.gx).put hd ⟨[],rfl,rfl,λj x v hj=>by simp at hj⟩⟩
 by_cases h0:hi-lo=0
 .have rF:hi=lo:=by omega
  have e1:xs.take lo++Xaa (hi-lo) e.dflt++xs.drop hi=xs:=by
   rw[h0,rF];simp
  refine ff w ?_ ?_
  .rw[hv];unfold Nu.vhdr;rw[h0];cases(ν id).blk<;>simp[Builtin.clear_,Wc hu]
  .rw[e1];exact⟨_,hφ.put (m:=[]) (ν':=ν) (λ_ _=>rfl) (Xn _) (hφ.lt id aB) (WLe.refl _ w) (λb o hh=>.inl ⟨id,.inl rfl,aB,hh⟩) (λ_=>hown)⟩
 .cases bb:(ν id).blk with
  |none=>have:=g3 bb;omega
  |some b=>
   obtain⟨iE,h4,h5,⟨row,TT,fy,hrow⟩,cs,h7,h8,h9⟩:=Wdf aZ hown bb;obtain⟨z,hz,du⟩:=WeO (w:=w) (hT _ _ hle);rw[Wbw hp,he]at du;have fK:z.cells.size=e.size:=by rw[←Xax,du,Wbn]
   have bR:=hown.2.1;have hcl:cs.length=xs.length*e.size:=EncL_len (λx c hc=>Enc_len e x c hc) _ _ h7;have uE:(Builtin.zeroCells z.cells (hi-lo)).toList=rep (Wbt e) (hi-lo):=by rw[←du];exact WfR z.cells (hi-lo)
   have dx:(rep (Wbt e) (hi-lo)).length=(hi-lo)*e.size:=by rw[Wko,Wbn]
   have sE:lo*e.size+(hi-lo)*e.size=hi*e.size:=by rw[←Xcy];congr 1;omega
   have ol:hi*e.size<=xs.length*e.size:=Xbi _ (by omega);have uF:xs.length*e.size<=(ν id).cap*e.size:=Xbi _ h4;have dY:∀u∈rep (Wbt e) (hi-lo),u.oneCell'=true:=Wol (G:=G) _ _ (Wgj aZ (hi-lo));have aM:=run_storeCells_at P b ((ν id).off+lo*e.size) TT (rep (Wbt e) (hi-lo)) 0 row w fy (by rw[dx];omega) dY;simp only[Xbb]at aM;obtain⟨hw,hm⟩:=WcG (k:=(ν id).off+lo*e.size) (news:=rep (Wbt e) (hi-lo)) fy (by rw[dx];omega);have hrun:(Builtin.clear_ #[t] o.type #[a.eval x]).run P w= .ok (.tuple #[]) (w.setRow b (row.toList.take ((ν id).off+lo*e.size)++rep (Wbt e) (hi-lo)++row.toList.drop ((ν id).off+lo*e.size+(rep (Wbt e) (hi-lo)).length)).toArray):=by
    rw[hv];unfold Nu.vhdr;simp only[bb,bR];rw[if_neg (by omega)];obtain⟨n,hn⟩:∃n,hi-lo=n+1:=⟨hi-lo-1,by omega⟩;simp only[Builtin.clear_,Sem.run_bind,Wc hu,Result.andThen_ok,Xer,List.getElem?_cons_zero];rw[hn]at aM uE⊢;simp only[Sem.run_bind,hz,Result.andThen_ok,uE,aM,Sem.run_pure]
   generalize w.setRow b (row.toList.take ((ν id).off+lo*e.size)++rep (Wbt e) (hi-lo)++row.toList.drop ((ν id).off+lo*e.size+(rep (Wbt e) (hi-lo)).length)).toArray=W at hrun hw hm;refine ff W hrun (hφ.turn (m:=[]) az (by simp) hw (λb' o ⟨k0,k1,k2⟩=>h9 b' o ⟨k0,by omega,by omega⟩) ?_);have lV:(xs.take lo++Xaa (hi-lo) e.dflt++xs.drop hi).length=xs.length:=by simp;omega
   have henc:EncL (Enc G e) (xs.take lo++Xaa (hi-lo) e.dflt++xs.drop hi) (cs.take (lo*e.size)++rep (Wbt e) (hi-lo)++cs.drop (hi*e.size)):=
    WdJ _ _ _ _ (WdJ _ _ _ _ (Wd7 (λx c hc=>Enc_len e x c hc) _ _ lo h7) (Wgj aZ _)) (Wel (λx c hc=>Enc_len e x c hc) _ _ hi h7)
   refine Wla aZ bb (by rw[lV];exact iE) bR (by rw[lV];exact h4) h5 (hw.rows.row _ _ ⟨row,TT,fy,hrow⟩) henc ?_ (λb o hh=>.inl (h9 b o hh));have:=WeM h8 hw hm (by rw[dx];omega);rw[dx,sE]at this;exact this
end
end Go.Sx
namespace Go.Sx
set_option linter.unusedVariables false
set_option linter.unusedSimpArgs false
def WiE(G:GH)(w:World)(t:Ty)(agg:Bool)(d:t.den)(v:Value)(ns:List Pc):Prop:=
 if agg then∃us:List Value,v= .agg us.toArray/\TyRel G w t d us ns else TyRel G w t d [v] ns
def Wb5(b o:Nat):Nu:=⟨some b,o,0,0,0⟩
def WeX(G:GH)(w:World)(t:Ty)(d:t.den)(b o:Nat)(ns:List Pc):Prop:=∃us,Row w b (o+t.size)/\Mem w b o us/\TyRel G w t d us ns
def fps(ns:List Pc):List CS:=ns.map Pc.fp
def nus(ns:List Pc):List Nu:=ns.map Pc.nu
def Wbf(G:GH)(w:World):(ps:List PTy)->WeW ps->List Value->List Pc->List Nu->Prop
 | [],_,vs,ns,ks=>vs= []/\ns= []/\ks= []
 | .v t agg::ps,d,vs,ns,ks=>∃v vs' n1 n2,vs=v::vs'/\ns=n1++n2/\WiE G w t agg d.1 v n1/\Wbf G w ps d.2 vs' n2 ks
 | .box t::ps,d,vs,ns,ks=>∃b o vs' n1 n2 ks',vs= .pointer (some ⟨b,o,none⟩)::vs'/\ns=⟨Wb5 b o,rng b o t.size⟩::(n1++n2)/\ks=Wb5 b o::ks'/\WeX G w t d.1 b o n1/\Wbf G w ps d.2 vs' n2 ks'
 | .mut e::ps,d,vs,ns,ks=>∃pc vs' n2 ks',vs=pc.nu.hdr::vs'/\ns=pc::n2/\ks=pc.nu::ks'/\OwnL w (TyRel G w e) e.size pc.nu d.1 pc.fp/\Wbf G w ps d.2 vs' n2 ks'
 | .clos g n::ps,d,vs,ns,ks=>∃cvs vs':List Value,vs= .func (.func g) #[] cvs.toArray::vs'/\cvs.length=n/\(∀u∈cvs,u.oneCell'=true)/\Wbf G w ps d (cvs++vs') ns ks
 | .kv t agg::ps,d,vs,ns,ks=>∃v vs' n1 n2 ks',vs=v::vs'/\ns=n1++n2/\ks=nus n1++ks'/\WiE G w t agg d.1 v n1/\Wbf G w ps d.2 vs' n2 ks'
 | .rp t::ps,d,vs,ns,ks=>∃b o us vs',vs= .pointer (some ⟨b,o,none⟩)::vs'/\Enc G t d.1 us/\We7 G b o us/\Wbf G w ps d.2 vs' ns ks
 | .vj _::_,_,_,_,_=>False
 | .boxal t lf::ps,d,vs,ns,ks=>∃b o b' pc vs' n1 n2 ks',vs= .pointer (some ⟨b,o,none⟩):: .pointer (some ⟨b',pc.nu.off+(d.2.1*pc.nu.esz+0),none⟩)::vs'/\ns=⟨Wb5 b o,rng b o t.size⟩::(n1++n2)/\ks=Wb5 b o::ks'/\
   WeX G w t d.1 b o n1/\n1[lf]?=some pc/\pc.nu.blk=some b'/\d.2.1<pc.nu.len/\Wbf G w ps d.2.2 vs' n2 ks'
def Wbu(G:GH)(w:World):(ps:List PTy)->WfB ps->List Nu->List CS->List Pc->Prop
 | [],_,ks,kf,ns=>ks= []/\kf= []/\ns= []
 | .v _ _::ps,o,ks,kf,ns=>Wbu G w ps o ks kf ns
 | .box t::ps,o,ks,kf,ns=>∃b off ks' c8 n1 n2,ks=Wb5 b off::ks'/\kf=rng b off t.size::c8/\ns=n1++n2/\WeX G w t o.1 b off n1/\Wbu G w ps o.2 ks' c8 n2
 | .mut e::ps,o,ks,kf,ns=>∃pc:Pc,∃ks' c8,ks=pc.nu::ks'/\kf=pc.fp::c8/\OwnL w (TyRel G w e) e.size pc.nu o.1 pc.fp/\Wbu G w ps o.2 ks' c8 ns
 | .clos _ _::ps,o,ks,kf,ns=>Wbu G w ps o ks kf ns
 | .kv t _::ps,o,ks,kf,ns=>∃n1 ks' c8 us,ks=nus n1++ks'/\kf=fps n1++c8/\TyRel G w t o.1 us n1/\Wbu G w ps o.2 ks' c8 ns
 | .rp _::ps,o,ks,kf,ns=>Wbu G w ps o ks kf ns
 | .vj _::_,_,_,_,_=>False
 | .boxal t _::ps,o,ks,kf,ns=>∃b off ks' c8 n1 n2,ks=Wb5 b off::ks'/\kf=rng b off t.size::c8/\ns=n1++n2/\WeX G w t o.1 b off n1/\Wbu G w ps o.2 ks' c8 n2
def WfO(G:GH)(w:World):(rs:List PTy)->Wgw rs->List Value->List Pc->Prop
 | [],_,vs,ns=>vs= []/\ns= []
 | .v t agg::rs,d,vs,ns=>∃v vs' n1 n2,vs=v::vs'/\ns=n1++n2/\WiE G w t agg d.1 v n1/\WfO G w rs d.2 vs' n2
 | .box t::rs,d,vs,ns=>∃b o vs' n1 n2,vs= .pointer (some ⟨b,o,none⟩)::vs'/\ns=⟨Wb5 b o,rng b o t.size⟩::(n1++n2)/\WeX G w t d.1 b o n1/\WfO G w rs d.2 vs' n2
 | .mut _::_,_,_,_=>False
 | .clos _ _::_,_,_,_=>False
 | .kv _ _::_,_,_,_=>False
 | .rp _::_,_,_,_=>False
 | .vj t::rs,d,vs,ns=>∃us u vs' n1 n2,vs= .agg (us++ [u]).toArray::vs'/\u.oneCell'=true/\ns=n1++n2/\TyRel G w t d.1 us n1/\WfO G w rs d.2 vs' n2
 | .boxal _ _::_,_,_,_=>False
def Wij:List Value->Value
 | [v]=>v
 |vs=>.tuple vs.toArray
def Of(ns:List Pc):CS:=λb o=>∃q∈ns,q.fp b o
structure After(sg:Sig)(o:WfB sg.ps×Wgw sg.rs)(G:GH)(w:World)(ns:List Pc)(ks:List Nu)(rv:List Value)(kf:List CS)(ms cF:List Pc)(G':GH)(w':World):Prop where
 res:WfO G' w' sg.rs o.2 rv cF
 outs:Wbu G' w' sg.ps o.1 ks kf ms
 sep:Sep (kf++fps (ms++cF))
 own:∀S∈kf++fps (ms++cF),∀b off,S b off->G' b off=none/\(Of ns b off\/w.heap.size<=b)/\b<w'.heap.size
 gx:GExt w.heap.size (Of ns) G G'
 g:∀b o v,G' b o=some v->w'.cell? ⟨b,o,none⟩=some v
 le:WLe (Of ns) w w'
def Good(P:Program)(k:FuncId)(sg:Sig):Prop:=
 ∀(d:WeW sg.ps) (o:WfB sg.ps×Wgw sg.rs),sg.run d=some o->∀(G:GH) (w:World) (vs:List Value) (ns:List Pc) (ks:List Nu),Wbf G w sg.ps d vs ns ks->Sep (fps ns)->
  (∀q∈ns,∀b off,q.fp b off->G b off=none/\b<w.heap.size)->(∀b o v,G b o=some v->w.cell? ⟨b,o,none⟩=some v)->
  Calls P k vs.toArray w λe w'=>∃rv kf ms cF G',e= .returned (Wij rv)/\After sg o G w ns ks rv kf ms cF G' w'
def WfI(P:Program)(k:FuncId):Prop:=∃fn,P.funcs[k]?=some fn∧fn.body.isNone=false∧(fn.name== "runtime.NumGoroutine")=false
def WeT(P:Program)(Γ:Ctx):Prop:=∀k sg,look Γ k=some sg->Good P k sg/\WfI P k
section
variable{w0:World}{F:CS}{nt:Slots}{G0 G G':GH}{ν:Nat->Nu}{φ:Nat->CS}{objs:Wab}{nx:Nat}{st ah:St}{a:Act}{w w':World}{P:Program}{T:Tab}
theorem WaE:∀(t:Ty) (d:t.den) (nx:Nat),(unfold t d nx).2.2=nx+t.owns
 | .prod a b,d,nx=>by simp only[unfold,WaE a,WaE b,Ty.owns,Xas]
 | .own _,_,_=>rfl
 | .int _,_,_| .bool,_,_| .str,_,_| .slice _,_,_=>rfl
theorem WD{α:Type}{l m:List (Nat×α)}{i:Nat}{x:α}(h:look (l++m) i=some x):look l i=some x\/look m i=some x:=by
 rw[Wbz]at h;cases hl:look l i with
 |none=>simp[hl]at h;exact .inr h
 |some y=>simp[hl]at h;subst h;exact .inl rfl
def At(ν:Nat->Nu)(φ:Nat->CS)(nx:Nat)(ns:List Pc):Prop:=∀(j:Nat) (pc:Pc),ns[j]?=some pc->ν (nx+j)=pc.nu/\φ (nx+j)=pc.fp
theorem At.left{n1 n2:List Pc}(h:At ν φ nx (n1++n2)):At ν φ nx n1:=λj pc hj=>h j pc (by rw[Xbc (Xt.1 hj).1];exact hj)
theorem At.right{n1 n2:List Pc}{k:Nat}(h:At ν φ nx (n1++n2))(hk:n1.length=k):At ν φ (nx+k) n2:=λj pc hj=>by
 have:=h (k+j) pc (by rw[Xay (by omega),hk,Xbe];exact hj);rw[Xas];exact this
def WoX(G:GH)(ν:Nat->Nu)(φ:Nat->CS)(w:World)(id:Nat)(ob:Ob):Prop:=∃(e:Ty) (xs:List e.den),ob= .arr e xs/\OwnL w (TyRel G w e) e.size (ν id) xs (φ id)
theorem Waq:∀(t:Ty) (d:t.den) (nx:Nat) (vs:List Value) (ns:List Pc),TyRel G w t d vs ns->At ν φ nx ns->
  (∀(ak:Nat),nx+t.owns<=ak->CellsRel G ν ak (unfold t d nx).1 vs)/\
  (∀id ob,look (unfold t d nx).2.1 id=some ob->nx<=id/\id<nx+t.owns/\WoX G ν φ w id ob)
 | .own e,d,nx,vs,ns,⟨pc,h1,h2,h3⟩,hν=>by
  obtain⟨hn,hp⟩:ν nx=pc.nu/\φ nx=pc.fp:=by have:=hν 0 pc (by rw[h1];rfl);simpa using this
  refine⟨λak hx=>?_,λid ob hl=>?_⟩
  .rw[h2];refine CellsRel.one ⟨by simp[Ty.owns]at hx;omega,by rw[hn]⟩ (Wio _)
  .simp only[unfold]at hl;rw[Wy]at hl;split at hl
   .rename_i e1;subst e1;injection hl with hl;subst hl;exact⟨Xn _,by simp[Ty.owns],e,d,rfl,by rw[hn,hp];exact h3⟩
   .simp[look]at hl
 | .prod p q,d,nx,vs,ns,⟨v1,v2,n1,n2,h1,h2,h3,h4⟩,hν=>by
  subst h2;have bj:=W3 p _ _ _ h3;obtain⟨c1,o1⟩:=Waq p d.1 nx v1 n1 h3 hν.left;obtain⟨c2,o2⟩:=Waq q d.2 (nx+p.owns) v2 n2 h4 (hν.right bj);refine⟨λak hx=>?_,λid ob hl=>?_⟩
  .simp only[Ty.owns]at hx;simp only[unfold,WaE];rw[h1];exact(c1 ak (by omega)).append (c2 ak (by omega))
  .simp only[unfold,WaE]at hl;simp only[Ty.owns];rcases WD hl with h|h
   .obtain⟨g1,g2,g3⟩:=o1 id ob h;exact⟨g1,by omega,g3⟩
   .obtain⟨g1,g2,g3⟩:=o2 id ob h;exact⟨by omega,by omega,g3⟩
 | .int k,d,nx,vs,ns,h,_=>⟨λak _=>Way (.int k) d vs h.2,λid ob hl=>by simp[unfold,look]at hl⟩
 | .bool,d,nx,vs,ns,h,_=>⟨λak _=>Way .bool d vs h.2,λid ob hl=>by simp[unfold,look]at hl⟩
 | .str,d,nx,vs,ns,h,_=>⟨λak _=>Way .str d vs h.2,λid ob hl=>by simp[unfold,look]at hl⟩
 | .slice e,d,nx,vs,ns,h,_=>⟨λak _=>Way (.slice e) d vs h.2,λid ob hl=>by simp[unfold,look]at hl⟩
theorem WbY:∀(t:Ty) (d:t.den) (nx:Nat),(unfold t d nx).1.length=t.size
 | .prod a b,d,nx=>by simp only[unfold,Xae,WbY a,WbY b,Ty.size]
 | .own _,_,_| .int _,_,_| .bool,_,_| .str,_,_| .slice _,_,_=>rfl
theorem WjY{t:Ty}{agg:Bool}{d:t.den}{v:Value}{ns:List Pc}{nx ak:Nat}(h:WiE G w t agg d v ns)(hν:At ν φ nx ns)(hx:nx+t.owns<=ak):
  AvRel G ν ak (Wvt agg (unfold t d nx).1) v:=by
 unfold WiE at h;unfold Wvt;cases agg with
 |true=>
  simp only[if_true]at h⊢;obtain⟨us,rfl,h⟩:=h;exact⟨us,rfl,(Waq t d nx us ns h hν).1 ak hx⟩
 |false=>
  simp only[Xbp,if_false]at h⊢;have hc:=(Waq t d nx [v] ns h hν).1 ak hx;have hl:=hc.1;generalize (unfold t d nx).1=cs at*
  match cs,hl with
  | [c],_=>exact hc.2 0 c v rfl rfl
theorem WnE{t:Ty}{agg:Bool}{d:t.den}{v:Value}{ns:List Pc}(h:WiE G w t agg d v ns):∃us,TyRel G w t d us ns:=by
 unfold WiE at h;split at h
 .obtain⟨us,_,h⟩:=h;exact⟨us,h⟩
 .exact⟨_,h⟩
def Wig(objs:Wab):Ty->List Nat->Prop
 | .own e,ids=>∃(id:Nat) (ys:List e.den),ids= [id]/\look objs id=some (.arr e ys)
 | .prod a b,ids=>∃i1 i2,ids=i1++i2/\Wig objs a i1/\Wig objs b i2
 | .int _,ids=>ids= []
 | .bool,ids=>ids= []
 | .str,ids=>ids= []
 | .slice _,ids=>ids= []
theorem Wez{objs:Wab}:∀(t:Ty) (ids:List Nat),Wig objs t ids->ids.length=t.owns
 | .own e,ids,⟨id,ys,h,_⟩=>by rw[h];rfl
 | .prod a b,ids,⟨i1,i2,h,h1,h2⟩=>by rw[h,Xae,Wez a _ h1,Wez b _ h2];rfl
 | .int _,ids,h=>by have:ids= []:=h;rw[this];rfl
 | .bool,ids,h=>by have:ids= []:=h;rw[this];rfl
 | .str,ids,h=>by have:ids= []:=h;rw[this];rfl
 | .slice _,ids,h=>by have:ids= []:=h;rw[this];rfl
def KeptBox(objs:Wab)(ν:Nat->Nu)(bx:List (Nat×CS))(t:Ty)(k:Kp)(nu:Nu):Prop:=
 ∃cs b,look objs k.id=some (.box cs)/\k.off+t.size<=cs.length/\(ν k.id).blk=some b/\nu=Wb5 b ((ν k.id).off+k.off)/\(k.id,rng b ((ν k.id).off+k.off) t.size)∈bx
def KeptOk(objs:Wab)(ν:Nat->Nu)(bx:List (Nat×CS)):List PTy->List Kp->List Nu->Prop
 | [],ids,ks=>ids= []/\ks= []
 | .v _ _::ps,ids,ks=>KeptOk objs ν bx ps ids ks
 | .box t::ps,ids,ks=>∃k bi nu ks',ids=k::bi/\ks=nu::ks'/\KeptBox objs ν bx t k nu/\KeptOk objs ν bx ps bi ks'
 | .mut e::ps,ids,ks=>∃(id:Nat) (bi:List Kp) (ks':List Nu) (ys:List e.den),ids=⟨id,0⟩::bi/\ks=ν id::ks'/\look objs id=some (.arr e ys)/\KeptOk objs ν bx ps bi ks'
 | .clos _ _::ps,ids,ks=>KeptOk objs ν bx ps ids ks
 | .kv t _::ps,ids,ks=>∃i1 i2 ks',ids=kp0 i1++i2/\ks=i1.map ν++ks'/\Wig objs t i1/\KeptOk objs ν bx ps i2 ks'
 | .rp _::ps,ids,ks=>KeptOk objs ν bx ps ids ks
 | .vj _::_,_,_=>False
 | .boxal t _::ps,ids,ks=>∃k bi nu ks',ids=k::bi/\ks=nu::ks'/\KeptBox objs ν bx t k nu/\KeptOk objs ν bx ps bi ks'
theorem KeptBox.mono{bx lW:List (Nat×CS)}{t:Ty}{k:Kp}{nu:Nu}(hb:∀p∈bx,p∈lW)(h:KeptBox objs ν bx t k nu):KeptBox objs ν lW t k nu:=by
 obtain⟨cs,b,h1,h2,h3,h4,h5⟩:=h;exact⟨cs,b,h1,h2,h3,h4,hb _ h5⟩
theorem KeptOk.mono{bx lW:List (Nat×CS)}(hb:∀p∈bx,p∈lW):∀(ps:List PTy) (ids:List Kp) (ks:List Nu),KeptOk objs ν bx ps ids ks->KeptOk objs ν lW ps ids ks
 | [],_,_,h=>h
 | .v _ _::ps,ids,ks,h=>KeptOk.mono hb ps ids ks h
 | .box t::ps,ids,ks,⟨k,bi,nu,ks',h1,h2,h3,h4⟩=>⟨k,bi,nu,ks',h1,h2,h3.mono hb,KeptOk.mono hb ps bi ks' h4⟩
 | .mut e::ps,ids,ks,⟨id,bi,ks',ys,h1,h2,h3,h4⟩=>⟨id,bi,ks',ys,h1,h2,h3,KeptOk.mono hb ps bi ks' h4⟩
 | .clos _ _::ps,ids,ks,h=>KeptOk.mono hb ps ids ks h
 | .kv t _::ps,ids,ks,⟨i1,i2,ks',h1,h2,h3,h4⟩=>⟨i1,i2,ks',h1,h2,h3,KeptOk.mono hb ps i2 ks' h4⟩
 | .rp _::ps,ids,ks,h=>KeptOk.mono hb ps ids ks h
 | .vj _::_,_,_,h=>h.elim
 | .boxal t _::ps,ids,ks,⟨k,bi,nu,ks',h1,h2,h3,h4⟩=>⟨k,bi,nu,ks',h1,h2,h3.mono hb,KeptOk.mono hb ps bi ks' h4⟩
def Wmj(G:GH)(ν:Nat->Nu)(w:World)(aS:Wab)(bx:List (Nat×CS))(ak:Nat)(id:Nat)(S:CS)(ob:Ob):Prop:=
 (∃ky off ds b us,look aS id=some (.box ky)/\ob= .box (WdV ky off ds)/\off+ds.length<=ky.length/\(ν id).blk=some b/\Mem w b ((ν id).off+off) us/\CellsRel G ν ak ds us/\
  S=rng b ((ν id).off+off) ds.length/\(id,rng b ((ν id).off+off) ds.length)∈bx)\/
 (∃(e:Ty) (ys xs:List e.den),look aS id=some (.arr e ys)/\ob= .arr e xs/\OwnL w (TyRel G w e) e.size (ν id) xs S)
theorem WgB(aS:Wab){bx:List (Nat×CS)}{ak:Nat}:∀(t:Ty) (d:t.den) (us:List Value) (ns:List Pc) (ids:List Nat),TyRel G w t d us ns->nus ns=ids.map ν->Wig aS t ids->
  (∀id ob,look (Wcc t d ids) id=some ob->∃(j:Nat) (S:CS),ids[j]?=some id/\(fps ns)[j]?=some S/\Wmj G ν w aS bx ak id S ob)/\∀id∈ids,∃ob,look (Wcc t d ids) id=some ob
 | .own e,d,us,ns,ids,⟨pc,h1,h2,h3⟩,hn,⟨id,ys,h,ba⟩=>by
  subst h h1;simp only[nus,Xam,Xcg,List.cons.injEq,and_true]at hn;refine⟨λi ob hl=>?_,λi hi=>?_⟩
  .simp only[Wcc,Wy]at hl;split at hl
   .rename_i e3;subst e3;injection hl with hl;subst hl;exact⟨0,pc.fp,rfl,rfl,.inr ⟨e,ys,d,ba,rfl,by rw[←hn];exact h3⟩⟩
   .simp[look]at hl
  .rw[Xx.1 hi];exact⟨.arr e d,by simp[Wcc,look]⟩
 | .prod a b,d,us,ns,ids,⟨u1,u2,n1,n2,h1,h2,h3,h4⟩,hn,⟨i1,i2,h,uG,kW⟩=>by
  subst h h2;have bj:=W3 a _ _ _ h3;have eS:=Wez a _ uG;simp only[nus,Xr]at hn;obtain⟨e1,e2⟩:=Xfu hn (by rw[Xy,Xy,bj,eS]);have t1:(i1++i2).take a.owns=i1:=by rw[←eS];simp
  have t2:(i1++i2).drop a.owns=i2:=by rw[←eS];simp
  obtain⟨a1,a2⟩:=WgB aS (bx:=bx) (ak:=ak) a d.1 _ n1 i1 h3 e1 uG;obtain⟨b1,b2⟩:=WgB aS (bx:=bx) (ak:=ak) b d.2 _ n2 i2 h4 e2 kW;simp only[Wcc,t1,t2];refine⟨λi ob hl=>?_,λi hi=>?_⟩
  .rcases WD hl with hl|hl
   .obtain⟨j,S,g1,g2,g3⟩:=a1 i ob hl;simp only[fps]at g2;refine⟨j,S,?_,?_,g3⟩
    .rw[Xbc (Xt.1 g1).1];exact g1
    .simp only[fps,Xr];rw[Xbc (Xt.1 g2).1];exact g2
   .obtain⟨j,S,g1,g2,g3⟩:=b1 i ob hl;simp only[fps]at g2;refine⟨i1.length+j,S,?_,?_,g3⟩
    .rw[Xay (by omega),Xbe];exact g1
    .simp only[fps,Xr];rw[Xay (by rw[Xy,bj,eS];omega),Xy,bj,eS,Xbe];exact g2
  .rcases Xl.1 hi with hi|hi
   .obtain⟨ob,ho⟩:=a2 i hi;exact⟨ob,by rw[Wbz,ho]⟩
   .obtain⟨ob,ho⟩:=b2 i hi;rw[Wbz];cases hq:look (Wcc a d.1 i1) i with
    |some cq=>exact⟨cq,rfl⟩
    |none=>exact⟨ob,ho⟩
 | .int _,d,us,ns,ids,hr,_,h=>by have:ids= []:=h;subst this;exact⟨λi ob hl=>by simp[Wcc,look]at hl,λi hi=>by simp at hi⟩
 | .bool,d,us,ns,ids,hr,_,h=>by have:ids= []:=h;subst this;exact⟨λi ob hl=>by simp[Wcc,look]at hl,λi hi=>by simp at hi⟩
 | .str,d,us,ns,ids,hr,_,h=>by have:ids= []:=h;subst this;exact⟨λi ob hl=>by simp[Wcc,look]at hl,λi hi=>by simp at hi⟩
 | .slice _,d,us,ns,ids,hr,_,h=>by have:ids= []:=h;subst this;exact⟨λi ob hl=>by simp[Wcc,look]at hl,λi hi=>by simp at hi⟩
theorem WhR:∀(t:Ty) (d:t.den) (ids:List Nat) (id:Nat) (ob:Ob),look (Wcc t d ids) id=some ob->id∈ids
 | .own e,d,ids,id,ob,h=>by
  cases ids with
  |nil=>simp[Wcc,look]at h
  |cons i l=>
   simp only[Wcc,Wy]at h;split at h
   .rename_i e;subst e;exact Xh ..
   .simp[look]at h
 | .prod a b,d,ids,id,ob,h=>by
  simp only[Wcc]at h;rcases WD h with h|h
  .exact Xbw (WhR a d.1 _ id ob h)
  .exact Xfa (WhR b d.2 _ id ob h)
 | .int _,_,_,_,_,h=>by simp[Wcc,look]at h
 | .bool,_,_,_,_,h=>by simp[Wcc,look]at h
 | .str,_,_,_,_,h=>by simp[Wcc,look]at h
 | .slice _,_,_,_,_,h=>by simp[Wcc,look]at h
def kids(l:List Kp):List Nat:=l.map Kp.id
theorem Whp(l:List Nat):kids (kp0 l)=l:=by simp[kids,kp0,Function.comp_def]
theorem WaK(aS:Wab){bx:List (Nat×CS)}:∀(ps:List PTy) (o:WfB ps) (ids:List Kp) (ks:List Nu) (kf:List CS) (ms:List Pc) (objs:Wab) (nx ak:Nat),Wbu G w ps o ks kf ms->KeptOk aS ν bx ps ids ks->At ν φ nx ms->
  (kids ids).Nodup->(∀k∈ids,k.id<nx/\look objs k.id=look aS k.id)->nx+ms.length<=ak->
  (Wac ps o ids objs nx).2=nx+ms.length/\kf.length=ids.length/\
  ∀id ob,look (Wac ps o ids objs nx).1 id=some ob->(nx<=id/\id<nx+ms.length/\WoX G ν φ w id ob)\/(∃(j:Nat) (S:CS),(kids ids)[j]?=some id/\kf[j]?=some S/\Wmj G ν w aS bx ak id S ob)\/(look objs id=some ob/\id∉kids ids)
 | [],o,ids,ks,kf,ms,objs,nx,ak,⟨_,h1,h2⟩,hk,_,_,_,_=>by subst h1 h2;obtain⟨hk,_⟩:=hk;subst hk;exact⟨rfl,rfl,λid ob hl=>.inr (.inr ⟨hl,by simp[kids]⟩)⟩
 | .v _ _::ps,o,ids,ks,kf,ms,objs,nx,ak,h,hk,hν,hn,hi,hx=>WaK aS ps o ids ks kf ms objs nx ak h hk hν hn hi hx
 | .box t::ps,o,ids,ks,kf,ms,objs,nx,ak,⟨b,off,ks',c8,n1,n2,h1,h2,h3,hb,h5⟩,hk,hν,hn,hi,hx=>putOuts_box aS t ps o.1 o.2 ids ks kf ms objs nx ak (λids ks kf ms objs nx ak=>WaK aS ps o.2 ids ks kf ms objs nx ak) ⟨b,off,ks',c8,n1,n2,h1,h2,h3,hb,h5⟩ hk hν hn hi hx
 | .vj _::_,_,_,_,_,_,_,_,_,h,_,_,_,_,_=>h.elim
 | .boxal t _::ps,o,ids,ks,kf,ms,objs,nx,ak,⟨b,off,ks',c8,n1,n2,h1,h2,h3,hb,h5⟩,hk,hν,hn,hi,hx=>putOuts_box aS t ps o.1 o.2 ids ks kf ms objs nx ak (λids ks kf ms objs nx ak=>WaK aS ps o.2 ids ks kf ms objs nx ak) ⟨b,off,ks',c8,n1,n2,h1,h2,h3,hb,h5⟩ hk hν hn hi hx
 | .mut e::ps,o,ids,ks,kf,ms,objs,nx,ak,⟨pc,ks',c8,h1,h2,h3,h4⟩,hk,hν,hn,hi,hx=>by
  obtain⟨id,bi,uH,ys,rfl,kz,ba,d6⟩:=hk;rw[h1]at kz;simp only[List.cons.injEq]at kz;obtain⟨hνid,rfl⟩:=kz;subst h2;have aW:=Xaj.1 hn;obtain⟨e1,el,e2⟩:=WaK aS ps o.2 bi ks' c8 ms ((id,.arr e o.1)::objs) nx ak h4 d6 hν aW.2 (λk lX=>by
   obtain⟨g1,g2⟩:=hi k (Xe _ lX);have hne:id≠k.id:=λe=>aW.1 (by show id∈kids bi;rw[e];exact Xan lX);exact⟨g1,by rw[Wy,if_neg hne];exact g2⟩) hx
  simp only[Wac];refine⟨e1,by simp[el],λi ob hl=>?_⟩;rcases e2 i ob hl with g|⟨j,S,g1,g2,g3⟩|⟨g,gn⟩
  .exact .inl g
  .exact .inr (.inl ⟨j+1,S,g1,g2,g3⟩)
  .rw[Wy]at g;split at g
   .rename_i e3;subst e3;injection g with g;subst g;exact .inr (.inl ⟨0,pc.fp,rfl,rfl,.inr ⟨e,ys,o.1,ba,rfl,by rw[←hνid];exact h3⟩⟩)
   .rename_i hne;exact .inr (.inr ⟨g,λhm=>by rcases Xq.1 hm with hm|hm;exact hne hm.symm;exact gn hm⟩)
 | .clos _ _::ps,o,ids,ks,kf,ms,objs,nx,ak,h,hk,hν,hn,hi,hx=>WaK aS ps o ids ks kf ms objs nx ak h hk hν hn hi hx
 | .rp _::ps,o,ids,ks,kf,ms,objs,nx,ak,h,hk,hν,hn,hi,hx=>WaK aS ps o ids ks kf ms objs nx ak h hk hν hn hi hx
 | .kv t agg::ps,o,ids,ks,kf,ms,objs,nx,ak,⟨n1,ks',c8,us,h1,h2,h3,h4⟩,⟨i1,i2,uH,bE,pB,ho,d6⟩,hν,hn,hi,hx=>by
  subst bE h2;have bj:=W3 t _ _ _ h3;have eS:=Wez t _ ho;rw[h1]at pB;obtain⟨q1,q2⟩:=Xfu pB (by simp[nus,bj,eS]);subst q2;have lY:(kp0 i1).length=t.owns:=by simp[kp0,eS]
  have t1:((kp0 i1++i2).take t.owns).map Kp.id=i1:=by rw[←lY];simp;exact Whp i1
  have t2:(kp0 i1++i2).drop t.owns=i2:=by rw[←lY];simp
  obtain⟨r1,r2⟩:=WgB (bx:=bx) (ak:=ak) aS t o.1 us n1 i1 h3 q1 ho;have jN:kids (kp0 i1++i2)=i1++kids i2:=by simp only[kids,Xr];congr 1;exact Whp i1
  rw[jN]at hn;obtain⟨m1,m2,m3⟩:=Xah.1 hn;obtain⟨e1,el,e2⟩:=WaK aS ps o.2 i2 ks' c8 ms (Wcc t o.1 i1++objs) nx ak h4 d6 hν m2 (λk lX=>by
   obtain⟨g1,g2⟩:=hi k (Xg _ lX);refine⟨g1,?_⟩;rw[Wbz];cases hq:look (Wcc t o.1 i1) k.id with
   |none=>exact g2
   |some ob=>exact absurd rfl (m3 _ (WhR t o.1 i1 _ ob hq) _ (Xan lX))) hx
  simp only[Wac,t1,t2];have fM:(fps n1).length=i1.length:=by simp[fps,bj,eS]
  refine⟨e1,by simp[fM,el,kp0],λi ob hl=>?_⟩;rw[jN];rcases e2 i ob hl with g|⟨j,S,g1,g2,g3⟩|⟨g,gn⟩
  .exact .inl g
  .refine .inr (.inl ⟨i1.length+j,S,?_,?_,g3⟩)
   .rw[Xay (by omega),Xbe];exact g1
   .rw[Xay (by omega),fM,Xbe];exact g2
  .rw[Wbz]at g;cases hq:look (Wcc t o.1 i1) i with
   |some cq=>
    rw[hq]at g;injection g with g;subst g;obtain⟨j,S,g1,g2,g3⟩:=r1 i _ hq;refine .inr (.inl ⟨j,S,?_,?_,g3⟩)
    .rw[Xbc (Xt.1 g1).1];exact g1
    .rw[Xbc (Xt.1 g2).1];exact g2
   |none=>
    rw[hq]at g;refine .inr (.inr ⟨g,λol=>?_⟩);rcases Xl.1 ol with h|h
    .obtain⟨cq,gw⟩:=r2 i h;rw[hq]at gw;cases gw
    .exact gn h
where
 putOuts_box (aS:Wab) {bx:List (Nat×CS)} (t:Ty) (ps:List PTy) (o1:t.den) (o2:WfB ps) (ids:List Kp) (ks:List Nu) (kf:List CS) (ms:List Pc) (objs:Wab) (nx ak:Nat)
   (ih:∀(ids:List Kp) (ks:List Nu) (kf:List CS) (ms:List Pc) (objs:Wab) (nx ak:Nat),Wbu G w ps o2 ks kf ms->KeptOk aS ν bx ps ids ks->At ν φ nx ms->
    (kids ids).Nodup->(∀k∈ids,k.id<nx/\look objs k.id=look aS k.id)->nx+ms.length<=ak->
    (Wac ps o2 ids objs nx).2=nx+ms.length/\kf.length=ids.length/\
    ∀id ob,look (Wac ps o2 ids objs nx).1 id=some ob->(nx<=id/\id<nx+ms.length/\WoX G ν φ w id ob)\/(∃(j:Nat) (S:CS),(kids ids)[j]?=some id/\kf[j]?=some S/\Wmj G ν w aS bx ak id S ob)\/(look objs id=some ob/\id∉kids ids))
   (h:∃b off ks' c8 n1 n2,ks=Wb5 b off::ks'/\kf=rng b off t.size::c8/\ms=n1++n2/\WeX G w t o1 b off n1/\Wbu G w ps o2 ks' c8 n2)
   (hk:∃k bi nu ks',ids=k::bi/\ks=nu::ks'/\KeptBox aS ν bx t k nu/\KeptOk aS ν bx ps bi ks') (hν:At ν φ nx ms)
   (hn:(kids ids).Nodup) (hi:∀k∈ids,k.id<nx/\look objs k.id=look aS k.id) (hx:nx+ms.length<=ak):
   (Wac (.box t::ps) (o1,o2) ids objs nx).2=nx+ms.length/\kf.length=ids.length/\
   ∀id ob,look (Wac (.box t::ps) (o1,o2) ids objs nx).1 id=some ob->(nx<=id/\id<nx+ms.length/\WoX G ν φ w id ob)\/(∃(j:Nat) (S:CS),(kids ids)[j]?=some id/\kf[j]?=some S/\Wmj G ν w aS bx ak id S ob)\/(look objs id=some ob/\id∉kids ids):=by
  obtain⟨b,off,ks',c8,n1,n2,h1,h2,h3,⟨us,_,hmem,gy⟩,h5⟩:=h;obtain⟨k,bi,nu,uH,rfl,kz,⟨ky,b0,ba,bS,bb,kA,sF⟩,d6⟩:=hk;rw[h1]at kz;simp only[List.cons.injEq]at kz;obtain⟨py,rfl⟩:=kz;rw[kA]at py;unfold Wb5 at py;injection py with pC wT;injection pC with pC;subst pC wT h2 h3;have bj:=W3 t _ _ _ gy;have hlen:(n1++n2).length=t.owns+n2.length:=by rw[Xae,bj]
  obtain⟨c1,uI⟩:=Waq t o1 nx us n1 gy hν.left;have aW:=Xaj.1 hn;obtain⟨sG,kB⟩:=hi k (Xh ..);have cY:=WbY t o1 nx;have ib:WgV (look objs k.id) k.off (unfold t o1 nx).1= .box (WdV ky k.off (unfold t o1 nx).1):=by rw[kB,ba];rfl
  obtain⟨e1,el,e2⟩:=ih bi ks' c8 n2 ((k.id,WgV (look objs k.id) k.off (unfold t o1 nx).1)::((unfold t o1 nx).2.1++objs)) (nx+t.owns) ak h5 d6 (hν.right bj) aW.2 (λk' lX=>by
   obtain⟨g1,g2⟩:=hi k' (Xe _ lX);refine⟨by omega,?_⟩;rw[Wy,if_neg (λe=>aW.1 (by rw[e];exact Xan lX)),Wbz];cases hq:look (unfold t o1 nx).2.1 k'.id with
   |none=>exact g2
   |some ob=>have:=(uI _ ob hq).1;omega) (by omega)
  simp only[Wac,WaE];refine⟨by rw[e1,hlen];omega,by simp[el],λi ob hl=>?_⟩;rcases e2 i ob hl with⟨g1,g2,g3⟩|⟨j,S,g1,g2,g3⟩|⟨g,gn⟩
  .exact .inl ⟨by omega,by omega,g3⟩
  .exact .inr (.inl ⟨j+1,S,g1,g2,g3⟩)
  .rw[Wy]at g;split at g
   .rename_i e3;subst e3;injection g with g;rw[ib]at g;subst g;refine .inr (.inl ⟨0,_,rfl,rfl,.inl ⟨ky,k.off,_,_,us,ba,rfl,by rw[cY];exact bS,bb,hmem,c1 ak (by omega),by rw[cY],by rw[cY];exact sF⟩⟩)
   .rename_i hne;rcases WD g with g|g
    .obtain⟨g1,g2,g3⟩:=uI i ob g;exact .inl ⟨g1,by omega,g3⟩
    .exact .inr (.inr ⟨g,λhm=>by rcases Xq.1 hm with hm|hm;exact hne hm.symm;exact gn hm⟩)
def WvM(G:GH)(ν:Nat->Nu)(φ:Nat->CS)(w:World)(ak:Nat)(id:Nat)(ob:Ob):Prop:=
 WoX G ν φ w id ob\/∃cs b us,ob= .box cs/\(ν id).blk=some b/\Row w b ((ν id).off+cs.length)/\Mem w b (ν id).off us/\CellsRel G ν ak cs us/\CS.le (rng b (ν id).off cs.length) (φ id)
theorem WdF:∀(rs:List PTy) (d:Wgw rs) (vs:List Value) (ns:List Pc) (objs:Wab) (nx ak:Nat),WfO G w rs d vs ns->At ν φ nx ns->nx+ns.length<=ak->
  (Wbi rs d objs nx).2.2=nx+ns.length/\
  (∀id ob,look (Wbi rs d objs nx).2.1 id=some ob->(nx<=id/\id<nx+ns.length/\WvM G ν φ w ak id ob)\/look objs id=some ob)/\
  Wrc G ν ak (Wbi rs d objs nx).1 vs
 | [],d,vs,ns,objs,nx,ak,⟨h1,h2⟩,_,_=>by subst h1 h2;exact⟨rfl,λid ob hl=>.inr hl,rfl,λj x v hj=>by simp[Wbi]at hj⟩
 | .v t agg::rs,d,vs,ns,objs,nx,ak,⟨v,vs',n1,n2,h1,h2,h3,h4⟩,hν,hx=>by
  subst h2;obtain⟨us,iX⟩:=WnE h3;have bj:=W3 _ _ _ _ iX;have hlen:(n1++n2).length=t.owns+n2.length:=by rw[Xae,bj]
  obtain⟨_,o1⟩:=Waq t d.1 nx us n1 iX hν.left;obtain⟨e1,e2,e4,e5⟩:=WdF rs d.2 vs' n2 ((unfold t d.1 nx).2.1++objs) (nx+t.owns) ak h4 (hν.right bj) (by omega);simp only[Wbi,WaE];refine⟨by rw[e1,hlen];omega,λi ob hl=>?_,?_⟩
  .rcases e2 i ob hl with⟨g1,g2,g3⟩|g
   .exact .inl ⟨by omega,by omega,g3⟩
   .rcases WD g with g|g
    .obtain⟨g1,g2,g3⟩:=o1 i ob g;exact .inl ⟨g1,by omega,.inl g3⟩
    .exact .inr g
  .rw[h1];refine⟨by simp[e4],λj x u hj hu=>?_⟩;cases j with
   |zero=>simp at hj hu;subst hj hu;exact WjY h3 hν.left (by omega)
   |succ j=>exact e5 j x u (by simpa using hj) (by simpa using hu)
 | .box t::rs,d,vs,ns,objs,nx,ak,⟨b,o,vs',n1,n2,h1,h2,⟨us,hrow,hmem,gy⟩,h5⟩,hν,hx=>by
  subst h2;have bj:=W3 _ _ _ _ gy;have hlen:((⟨Wb5 b o,rng b o t.size⟩:Pc)::(n1++n2)).length=1+t.owns+n2.length:=by rw[List.length_cons,Xae,bj];omega
  obtain⟨hν0,hφ0⟩:ν nx=Wb5 b o/\φ nx=rng b o t.size:=by have:=hν 0 _ rfl;simpa using this
  have hν1:At ν φ (nx+1) (n1++n2):=hν.right (n1:=[⟨Wb5 b o,rng b o t.size⟩]) rfl;obtain⟨c1,o1⟩:=Waq t d.1 (nx+1) us n1 gy hν1.left;obtain⟨e1,e2,e4,e5⟩:=WdF rs d.2 vs' n2 ((nx,.box (unfold t d.1 (nx+1)).1)::((unfold t d.1 (nx+1)).2.1++objs)) (nx+1+t.owns) ak h5 (hν1.right bj) (by omega);have cY:=WbY t d.1 (nx+1);simp only[Wbi,WaE];refine⟨by rw[e1,hlen];omega,λid ob hl=>?_,?_⟩
  .rcases e2 id ob hl with⟨g1,g2,g3⟩|g
   .exact .inl ⟨by omega,by omega,g3⟩
   .rw[Wy]at g;split at g
    .rename_i e;subst e;injection g with g;subst g;refine .inl ⟨Xn _,by omega,.inr ⟨_,b,us,rfl,by rw[hν0];rfl,?_,?_,c1 ak (by omega),?_⟩⟩
     .rw[hν0,cY];exact hrow
     .rw[hν0];exact hmem
     .rw[hν0,cY,hφ0];exactλ_ _ hh=>hh
    .rcases WD g with g|g
     .obtain⟨g1,g2,g3⟩:=o1 id ob g;exact .inl ⟨by omega,by omega,.inl g3⟩
     .exact .inr g
  .rw[h1];refine⟨by simp[e4],λj x u hj hu=>?_⟩;cases j with
   |zero=>
    simp at hj hu;subst hj hu;exact⟨⟨by omega,b,by rw[hν0];rfl,by rw[hν0];rfl⟩,rfl⟩
   |succ j=>exact e5 j x u (by simpa using hj) (by simpa using hu)
 | .mut _::_,_,_,_,_,_,_,h,_,_=>h.elim
 | .clos _ _::_,_,_,_,_,_,_,h,_,_=>h.elim
 | .kv _ _::_,_,_,_,_,_,_,h,_,_=>h.elim
 | .rp _::_,_,_,_,_,_,_,h,_,_=>h.elim
 | .vj t::rs,d,vs,ns,objs,nx,ak,⟨us,u,vs',n1,n2,h1,h0,h2,h3,h4⟩,hν,hx=>by
  subst h2;have bj:=W3 _ _ _ _ h3;have hlen:(n1++n2).length=t.owns+n2.length:=by rw[Xae,bj]
  obtain⟨c1,o1⟩:=Waq t d.1 nx us n1 h3 hν.left;obtain⟨e1,e2,e4,e5⟩:=WdF rs d.2 vs' n2 ((unfold t d.1 nx).2.1++objs) (nx+t.owns) ak h4 (hν.right bj) (by omega);simp only[Wbi,WaE];refine⟨by rw[e1,hlen];omega,λi ob hl=>?_,?_⟩
  .rcases e2 i ob hl with⟨g1,g2,g3⟩|g
   .exact .inl ⟨by omega,by omega,g3⟩
   .rcases WD g with g|g
    .obtain⟨g1,g2,g3⟩:=o1 i ob g;exact .inl ⟨g1,by omega,.inl g3⟩
    .exact .inr g
  .rw[h1];refine⟨by simp[e4],λj x v hj hv=>?_⟩;cases j with
   |zero=>simp at hj hv;subst hj hv;exact⟨us++ [u],rfl,(c1 ak (by omega)).append (CellsRel.one trivial h0)⟩
   |succ j=>exact e5 j x v (by simpa using hj) (by simpa using hv)
 | .boxal _ _::_,_,_,_,_,_,_,h,_,_=>h.elim
theorem Wr2{xs:List AV}{vs:List Value}(h:Wrc G ν nx xs vs):AValRel G ν nx (WvF xs) (Wij vs):=by
 obtain⟨h1,h2⟩:=h
 match xs,vs,h1 with
 | [],[],_=>exact⟨[],rfl,rfl,λj x v hj=>by simp at hj⟩
 | [x],[v],_=>exact h2 0 x v rfl rfl
 |x::y::xs,v::u::vs,h1=>exact⟨v::u::vs,rfl,h1,h2⟩
end
end Go.Sx
namespace Go.Sx
set_option linter.unusedVariables false
set_option linter.unusedSimpArgs false
theorem WaF(i:Nat):∀l:List Nat,WbQ i l=true↔i∈l
 | []=>by simp[WbQ]
 |j::l=>by
  simp only[WbQ,Bool.or_eq_true,WaF i l,Xq];rw[show(Nat.beq i j=true)=(i=j)from by simp]
theorem WeG:∀l:List Nat,Wbl l=true↔l.Nodup
 | []=>by simp[Wbl]
 |i::l=>by
  have h:=WaF i l;simp only[Wbl,Xi,Xar,Xaj,WeG l];constructor
  .rintro⟨h1,h2⟩;exact⟨λhm=>(by rw[h.2 hm]at h1;exact absurd h1 (by simp)),h2⟩
  .rintro⟨h1,h2⟩;refine⟨?_,h2⟩;cases he:WbQ i l with
   |false=>rfl
   |true=>exact absurd (h.1 he) h1
theorem Wl0{l m:List Nat}(h:Wgt l m=true):∀i∈l,i∉m:=λi hi hm=>by
 unfold Wgt at h;have:=Xak.1 h i hi;rw[(WaF i m).2 hm]at this;cases this
section
variable{w0:World}{F:CS}{nt:Slots}{G0 G G':GH}{ν:Nat->Nu}{φ:Nat->CS}{objs:Wab}{nx:Nat}{st ah:St}{a:Act}{w w':World}{P:Program}{T:Tab}
theorem WkN(h:HR w0 F G ν φ objs nx w){t:Ty}{agg:Bool}{x:AVal}{v:Value}{cs:List Cell}{d:t.den}{m l:List Nat}(hg:GLe G G')(hx:AValRel G ν nx x v)(hl:Lent G' w φ objs l)(hm:m.Nodup)
  (hc:cellsOf agg x=some cs) (hf:Wao t cs objs=some (d,m,l)):∃ns,WiE G' w t agg d v ns/\Sep (fps ns)/\(∀p∈ns,CS.le p.fp (FromL φ objs m))/\(∀i∈m,Live objs i)/\(∀i∈l,Live objs i):=by
 unfold cellsOf at hc;split at hc
 .split at hc
  .cases hc
  .rename_i c ha;injection hc with hc;subst hc;obtain⟨ns,h1,h2,h3,h4,h5,_⟩:=Wae h hg t [c] [v] d m l (CellsRel.one hx.1 hx.2) hl hm hf;refine⟨ns,?_,h2,h3,h4,h5⟩;unfold WiE;rw[if_neg ha];exact h1
 .split at hc
  .rename_i ds ha;injection hc with hc;subst hc;obtain⟨us,rfl,br⟩:=hx;obtain⟨ns,h1,h2,h3,h4,h5,_⟩:=Wae h hg t ds us d m l br hl hm hf;refine⟨ns,?_,h2,h3,h4,h5⟩;unfold WiE;rw[if_pos ha];exact⟨us,rfl,h1⟩
  .cases hc
 .cases hc
def Wvl(objs:Wab)(m:List Nat):Prop:=∀i∈m,∃(e:Ty) (xs:List e.den),look objs i=some (.arr e xs)
theorem Whw:∀(t:Ty) (cs:List Cell) (d:t.den) (m l:List Nat),Wvl objs m->Wao t cs objs=some (d,m,l)->m.length<=t.owns
 | .prod a b,cs,d,m,l,ha,h=>by
  simp only[Wao]at h;split at h
  .rename_i x m1 l1 y m2 l2 h1 h2;simp only[Option.some.injEq,Prod.mk.injEq]at h;obtain⟨rfl,rfl,rfl⟩:=h;have:=Whw a _ _ _ _ (λi hi=>ha i (Xk _ hi)) h1;have:=Whw b _ _ _ _ (λi hi=>ha i (Xg _ hi)) h2;rw[Xae];show _<=a.owns+b.owns;omega
  .simp at h
 | .own e,cs,d,m,l,ha,h=>by
  simp only[Wao]at h;split at h
  .rename_i id;obtain⟨⟨ys,m'⟩,ho,hf⟩:=Xab.1 h;simp only[Prod.mk.injEq]at hf;obtain⟨rfl,rfl,rfl⟩:=hf;unfold Wsl at ho;split at ho
   .obtain⟨zs,_,ho⟩:=Xab.1 ho;obtain⟨_,rfl⟩:=Prod.mk.inj ho;exact Xn 1
   .rename_i e' xs i p ba;split at ho
    .split at ho
     .simp only[Option.some.injEq,Prod.mk.injEq]at ho;obtain⟨_,rfl⟩:=ho;obtain⟨e2,wU,h2⟩:=ha id (Xh ..);rw[ba]at h2;cases h2
     .simp at ho
    .simp at ho
   .simp at ho
  .split at h
   .obtain⟨zs,_,h⟩:=Xab.1 h;have h2:=(Prod.mk.inj (Prod.mk.inj h).2).1;subst h2;exact Xn 1
   .simp at h
  .simp only[Option.some.injEq,Prod.mk.injEq]at h;obtain⟨rfl,rfl,rfl⟩:=h;exact Xbr _
  .simp at h
 | .slice e,cs,d,m,l,_,h=>by
  have hm:m= []:=by
   simp only[Wao]at h;split at h
   .obtain⟨q,_,h⟩:=Xab.1 h;exact((Prod.mk.inj (Prod.mk.inj h).2).1).symm
   .split at h
    .obtain⟨q,_,h⟩:=Xab.1 h;exact((Prod.mk.inj (Prod.mk.inj h).2).1).symm
    .simp at h
   .injection h with h;exact((Prod.mk.inj (Prod.mk.inj h).2).1).symm
   .obtain⟨q,_,h⟩:=Xab.1 h;exact((Prod.mk.inj (Prod.mk.inj h).2).1).symm
   .simp at h
  rw[hm];exact Xbr _
 | .int k,cs,d,m,l,_,h=>by
  simp only[Wao]at h;split at h
  .obtain⟨q,hq,h⟩:=Xab.1 h;simp only[Prod.mk.injEq]at h;obtain⟨rfl,rfl,rfl⟩:=h;exact Xn 0
  .simp at h
 | .bool,cs,d,m,l,_,h=>by
  simp only[Wao]at h;split at h
  .obtain⟨q,hq,h⟩:=Xab.1 h;simp only[Prod.mk.injEq]at h;obtain⟨rfl,rfl,rfl⟩:=h;exact Xn 0
  .simp at h
 | .str,cs,d,m,l,_,h=>by
  simp only[Wao]at h;split at h
  .obtain⟨q,hq,h⟩:=Xab.1 h;simp only[Prod.mk.injEq]at h;obtain⟨rfl,rfl,rfl⟩:=h;exact Xn 0
  .simp at h
theorem WeF(h:HR w0 F G ν φ objs nx w)(hg:GLe G G'){t:Ty}(ht:t.owns=0){cs:List Cell}{vs:List Value}{d:t.den}{m l:List Nat}(hc:CellsRel G ν nx cs vs)(hl:Lent G' w φ objs l)(hf:Wao t cs objs=some (d,m,l))(hm:m= []):TyRel G' w t d vs []:=by
 subst hm;obtain⟨ns,h1,_⟩:=Wae h hg t cs vs d [] l hc hl Xcu hf;have:=W3 _ _ _ _ h1;rw[ht]at this;rw[Xad this]at h1;exact h1
def pcs(ν:Nat->Nu)(φ:Nat->CS)(m:List Nat):List Pc:=m.map λi=>⟨ν i,φ i⟩
theorem Wuj(m:List Nat):nus (pcs ν φ m)=m.map ν:=by simp[nus,pcs,Function.comp_def]
theorem WnD(m:List Nat):fps (pcs ν φ m)=m.map φ:=by simp[fps,pcs,Function.comp_def]
theorem WeC(h:HR w0 F G ν φ objs nx w)(hg:GLe G G'):∀(t:Ty) (cs:List Cell) (vs:List Value) (d:t.den) (m l:List Nat),CellsRel G ν nx cs vs->Lent G' w φ objs l->(∀c∈cs,WpX c=true)->Wvl objs m->
  Wao t cs objs=some (d,m,l)->m.length=t.owns->TyRel G' w t d vs (pcs ν φ m)/\Wig objs t m
 | .prod a b,cs,vs,d,m,l,hc,hl,hw,ha,hf,hm=>by
  have uJ:=hf;simp only[Wao]at hf;split at hf
  .rename_i x m1 l1 y m2 l2 h1 h2;simp only[Option.some.injEq,Prod.mk.injEq]at hf;obtain⟨rfl,rfl,rfl⟩:=hf;have uK:Wvl objs m1:=λi hi=>ha i (Xk _ hi);have kC:Wvl objs m2:=λi hi=>ha i (Xg _ hi);have q1:=Whw a _ _ _ _ uK h1;have q2:=Whw b _ _ _ _ kC h2;rw[Xae]at hm;have gM:m1.length+m2.length=a.owns+b.owns:=hm;obtain⟨g1,g2⟩:=WeC h hg a _ (vs.take a.size) x m1 l1 (hc.take _) (hl.mono (by simp;intro i hi;exact .inl hi)) (λc hc=>hw c (Xbw hc)) uK h1 (by omega);obtain⟨g3,g4⟩:=WeC h hg b _ (vs.drop a.size) y m2 l2 (hc.drop _) (hl.mono (by simp;intro i hi;exact .inr hi)) (λc hc=>hw c (Xfa hc)) kC h2 (by omega);exact⟨⟨_,_,pcs ν φ m1,pcs ν φ m2,(Xcx a.size vs).symm,by simp[pcs],g1,g3⟩,m1,m2,rfl,g2,g4⟩
  .simp at hf
 | .own e,cs,vs,d,m,l,hc,hl,hw,ha,hf,hm=>by
  simp only[Wao]at hf;split at hf
  .rename_i id;obtain⟨v,rfl,⟨_,hv⟩,_⟩:=hc.single;subst hv;obtain⟨⟨ys,m'⟩,ho,hf⟩:=Xab.1 hf;simp only[Prod.mk.injEq]at hf;obtain⟨rfl,rfl,rfl⟩:=hf;unfold Wsl at ho;split at ho
   .rename_i e' xs ba;obtain⟨zs,bt,ho⟩:=Xab.1 ho;obtain⟨rfl,rfl⟩:=Prod.mk.inj ho;obtain⟨he,hy⟩:=Wap bt;subst he;simp only at hy;subst hy;have az:OwnL w (TyRel G w e') e'.size (ν id) xs (φ id):=h.ob _ _ ba;exact⟨⟨⟨ν id,φ id⟩,rfl,rfl,WcJ hg (Same.refl _ w) (λ_ _ hh=>hh) az⟩,id,xs,rfl,ba⟩
   .rename_i e' xs i p ba;split at ho
    .split at ho
     .simp only[Option.some.injEq,Prod.mk.injEq]at ho;obtain⟨_,rfl⟩:=ho;obtain⟨e2,wU,h2⟩:=ha id (Xh ..);rw[ba]at h2;cases h2
     .simp at ho
    .simp at ho
   .simp at ho
  .have:=hw _ (Xx.2 rfl);cases this
  .simp only[Option.some.injEq,Prod.mk.injEq]at hf;obtain⟨rfl,rfl,rfl⟩:=hf;exact absurd hm (by show¬(0=1);omega)
  .simp at hf
 | .slice e,cs,vs,d,m,l,hc,hl,hw,ha,hf,hm=>by
  have jO:m= []:=Xad hm;have:=WeF h hg (t:=.slice e) rfl hc hl hf jO;subst jO;exact⟨this,rfl⟩
 | .int k,cs,vs,d,m,l,hc,hl,hw,ha,hf,hm=>by
  have jO:m= []:=Xad hm;have:=WeF h hg (t:=.int k) rfl hc hl hf jO;subst jO;exact⟨this,rfl⟩
 | .bool,cs,vs,d,m,l,hc,hl,hw,ha,hf,hm=>by
  have jO:m= []:=Xad hm;have:=WeF h hg (t:=.bool) rfl hc hl hf jO;subst jO;exact⟨this,rfl⟩
 | .str,cs,vs,d,m,l,hc,hl,hw,ha,hf,hm=>by
  have jO:m= []:=Xad hm;have:=WeF h hg (t:=.str) rfl hc hl hf jO;subst jO;exact⟨this,rfl⟩
theorem WoP{t:Ty}{m:List Nat}{x:AVal}(h:WmB objs t m x=true):m.length=t.owns/\Wt7 x=true/\Wvl objs m:=by
 unfold WmB at h;simp only[Xi,decide_eq_true_eq,Xak]at h;obtain⟨⟨h1,h2⟩,h3⟩:=h;refine⟨h1,h2,λi hi=>?_⟩;have:=h3 i hi;split at this
 .rename_i e xs hl;exact⟨e,xs,hl⟩
 .cases this
theorem Wmg(h:HR w0 F G ν φ objs nx w){t:Ty}{agg:Bool}{x:AVal}{v:Value}{cs:List Cell}{d:t.den}{m l:List Nat}(hg:GLe G G')(hx:AValRel G ν nx x v)(hl:Lent G' w φ objs l)
  (hc:cellsOf agg x=some cs) (hf:Wao t cs objs=some (d,m,l)) (ha:WmB objs t m x=true):WiE G' w t agg d v (pcs ν φ m)/\Wig objs t m:=by
 obtain⟨hm,hw,gg⟩:=WoP ha;unfold cellsOf at hc;split at hc
 .split at hc
  .cases hc
  .rename_i c kO;injection hc with hc;subst hc;obtain⟨h1,h2⟩:=WeC h hg t [c] [v] d m l (CellsRel.one hx.1 hx.2) hl (λc' fJ=>by rw[Xx.1 fJ];exact hw) gg hf hm;refine⟨?_,h2⟩;unfold WiE;rw[if_neg kO];exact h1
 .split at hc
  .rename_i ds kO;injection hc with hc;subst hc;obtain⟨us,rfl,br⟩:=hx;obtain⟨h1,h2⟩:=WeC h hg t ds us d m l br hl (λc' fJ=>Xak.1 hw c' fJ) gg hf hm;refine⟨?_,h2⟩;unfold WiE;rw[if_pos kO];exact⟨us,rfl,h1⟩
  .cases hc
 .cases hc
def Tk(φ:Nat->CS)(objs:Wab)(bx:List (Nat×CS))(l:List Nat):CS:=λb o=>∃i∈l,Live objs i/\φ i b o/\∀p∈bx,p.1=i->p.2 b o
structure AOk(G':GH)(ν:Nat->Nu)(φ:Nat->CS)(objs:Wab)(w:World)(ps:List PTy)(A:Args ps)(vs:List Value)(ns:List Pc)(ks:List Nu)(bx:List (Nat×CS)):Prop where
 args:Wbf G' w ps A.d vs ns ks
 kept:KeptOk objs ν bx ps A.kept ks
 sep:Sep (fps ns)
 tk:∀q∈ns,CS.le q.fp (Tk φ objs bx A.all)
 bx:∀p∈bx,p.1∈A.all
 live:∀i∈A.all,Live objs i
 lent:∀i∈A.lent,Live objs i
 mv:∀i∈A.moved,i∈A.all
 mvk:∀i∈A.all,i∈A.moved\/i∈kids A.kept
 sub:(kids A.kept).Sublist A.all
 dis:∀i∈kids A.kept,i∉A.moved
theorem Wil{bx:List (Nat×CS)}{l:List Nat}:CS.le (Tk φ objs bx l) (FromL φ objs l):=λb o ⟨i,hi,h1,h2,_⟩=>⟨i,hi,h1,h2⟩
theorem Wj4{bx lW:List (Nat×CS)}{l l':List Nat}(hl:∀i∈l,i∈l')(hb:∀p∈lW,p∈bx\/p.1∉l):CS.le (Tk φ objs bx l) (Tk φ objs lW l'):=λb o ⟨i,hi,h1,h2,h3⟩=>
 ⟨i,hl i hi,h1,h2,λp hp e=>by
  rcases hb p hp with h|h
  .exact h3 p h e
  .exact absurd (by rw[e];exact hi) h⟩
theorem WmU{bx:List (Nat×CS)}{m l:List Nat}(hm:∀i∈m,i∈l)(hb:∀p∈bx,p.1∉m):CS.le (FromL φ objs m) (Tk φ objs bx l):=λb o ⟨i,hi,h1,h2⟩=>
 ⟨i,hm i hi,h1,h2,λp hp e=>absurd (by rw[e];exact hi) (hb p hp)⟩
theorem Wca(h:HR w0 F G ν φ objs nx w){n1 n2:List Pc}{m l:List Nat}(h1:Sep (fps n1))(h2:Sep (fps n2))(g1:∀q∈n1,CS.le q.fp (FromL φ objs m))(g2:∀q∈n2,CS.le q.fp (FromL φ objs l))(hd:∀i∈m,i∉l):Sep (fps (n1++n2)):=by
 unfold fps;rw[Xr];refine Wnu h1 h2 (A:=FromL φ objs m) (B:=FromL φ objs l) (λs hs=>?_) (λs hs=>?_) (FromL.disj h hd)
 .obtain⟨p,hp,rfl⟩:=Xv.1 hs;exact g1 p hp
 .obtain⟨p,hp,rfl⟩:=Xv.1 hs;exact g2 p hp
theorem WnR(h:HR w0 F G ν φ objs nx w)(hg:GLe G G'){t:Ty}{ps:List PTy}{id off:Nat}{cs:List Cell}{d:t.den}{m:List Nat}{A:Args ps}{vs:List Value}{ns:List Pc}{ks:List Nu}{bx:List (Nat×CS)}{v:Value}
  (hv:CellRel G ν nx (.ptr id off) v) (ba:look objs id=some (.box cs)) (hf:Wao t ((cs.drop off).take t.size) objs=some (d,m,[])) (aW:(id::(m++A.all)).Nodup) (hA:AOk G' ν φ objs w ps A vs ns ks bx):
  ∃b n1,v= .pointer (some ⟨b,(ν id).off+off,none⟩)/\(ν id).blk=some b/\WeX G' w t d b ((ν id).off+off) n1/\Leaf ν t ((cs.drop off).take t.size) n1/\
   KeptBox objs ν ((id,rng b ((ν id).off+off) t.size)::bx) t ⟨id,off⟩ (Wb5 b ((ν id).off+off))/\KeptOk objs ν ((id,rng b ((ν id).off+off) t.size)::bx) ps A.kept ks/\
   Sep (fps (⟨Wb5 b ((ν id).off+off),rng b ((ν id).off+off) t.size⟩::(n1++ns)))/\
   (∀q∈(⟨Wb5 b ((ν id).off+off),rng b ((ν id).off+off) t.size⟩:Pc)::(n1++ns),CS.le q.fp (Tk φ objs ((id,rng b ((ν id).off+off) t.size)::bx) (id::(m++A.all))))/\
   (∀p∈(id,rng b ((ν id).off+off) t.size)::bx,p.1∈id::(m++A.all))/\(∀i∈id::(m++A.all),Live objs i)/\
   (∀i∈m++A.moved,i∈id::(m++A.all))/\(∀i∈id::(m++A.all),i∈m++A.moved\/i∈id::kids A.kept)/\(id::kids A.kept).Sublist (id::(m++A.all))/\(∀i∈id::kids A.kept,i∉m++A.moved):=by
 obtain⟨bE,b,bb,rfl⟩:=hv;obtain⟨n1,n2⟩:=Xaj.1 aW;obtain⟨n3,n4,n5⟩:=Xah.1 n2;have aB:Live objs id:=⟨_,ba,by simp⟩;obtain⟨b',us,hb',hrow,hmem,br,eP⟩:Wcq G ν nx w id (φ id) (.box cs):=h.ob _ _ ba;rw[bb]at hb';injection hb' with hb';subst hb';obtain⟨q1,t1,t2,t3,t4,_,t5⟩:=Wae h hg t _ ((us.drop off).take t.size) d m [] ((br.drop off).take _) (λi hi=>by simp at hi) n3 hf;have hlen:=Wx _ _ _ _ t1;have bS:off+t.size<=cs.length:=by
  have:=br.1;rw[Xal,Xdd]at hlen;have:=Wbq t;omega
 have fL:CS.le (rng b ((ν id).off+off) t.size) (φ id):=λb' o ⟨k0,k1,k2⟩=>eP b' o ⟨k0,by omega,by omega⟩;refine⟨b,q1,rfl,bb,⟨_,?_,?_,t1⟩,t5,⟨cs,b,ba,bS,bb,rfl,Xh ..⟩,KeptOk.mono (λp hp=>Xe _ hp) _ _ _ hA.kept,?_,?_,?_,?_,?_,?_,?_,?_⟩
 .obtain⟨row,TT,r1,r2⟩:=hrow;exact⟨row,TT,r1,by omega⟩
 .intro j v hj;rw[Xbl]at hj;split at hj
  .rw[Xbm]at hj;rw[Xas];exact hmem _ v hj
  .simp at hj
 .have s1:=Wca h t2 hA.sep t3 (λq hq b o hh=>Wil b o (hA.tk q hq b o hh)) (λi hi hj=>n5 i hi i hj rfl);refine Xz.2 ⟨λs hs=>?_,s1⟩;obtain⟨p,hp,rfl⟩:=Xv.1 hs;refine CS.disj.mono (FromL.disj h (m:=[id]) (m':=m++A.all) (λi hi hj=>n1 (by rw[←Xx.1 hi];exact hj))) (λb o hh=>⟨id,by simp,aB,fL b o hh⟩) (λb o hh=>?_);rcases Xl.1 hp with hp|hp
  .exact FromL.mono (λi hi=>Xk _ hi) b o (t3 p hp b o hh)
  .exact FromL.mono (λi hi=>Xg _ hi) b o (Wil b o (hA.tk p hp b o hh))
 .intro q hq;rcases Xq.1 hq with rfl|hq
  .exactλb o hh=>⟨id,Xh ..,aB,fL b o hh,λp hp e=>by
    rcases Xq.1 hp with rfl|hp
    .exact hh
    .exact absurd (Xg _ (by rw[←e];exact hA.bx p hp)) n1⟩
  .rcases Xl.1 hq with hq|hq
   .refineλb o hh=>WmU (m:=m) (λi hi=>Xe _ (Xk _ hi)) (λp hp hm=>?_) b o (t3 q hq b o hh)
    rcases Xq.1 hp with rfl|hp
    .exact n1 (Xk _ hm)
    .exact n5 _ hm _ (hA.bx p hp) rfl
   .refineλb o hh=>Wj4 (λi hi=>Xe _ (Xg _ hi)) (λp hp=>?_) b o (hA.tk q hq b o hh)
    rcases Xq.1 hp with rfl|hp
    .exact .inr (λhm=>n1 (Xg _ hm))
    .exact .inl hp
 .intro p hp;rcases Xq.1 hp with rfl|hp
  .exact Xh ..
  .exact Xe _ (Xg _ (hA.bx p hp))
 .intro i hi;rcases Xq.1 hi with rfl|hi
  .exact aB
  .rcases Xl.1 hi with hi|hi
   .exact t4 i hi
   .exact hA.live i hi
 .intro i hi;rcases Xl.1 hi with hi|hi
  .exact Xe _ (Xk _ hi)
  .exact Xe _ (Xg _ (hA.mv i hi))
 .intro i hi;rcases Xq.1 hi with rfl|hi
  .exact .inr (Xh ..)
  .rcases Xl.1 hi with hi|hi
   .exact .inl (Xk _ hi)
   .rcases hA.mvk i hi with hi|hi
    .exact .inl (Xg _ hi)
    .exact .inr (Xe _ hi)
 .exact List.Sublist.cons_cons _ (List.Sublist.trans hA.sub (Xfm _ _))
 .intro i hi hm;rcases Xq.1 hi with rfl|hi
  .rcases Xl.1 hm with hm|hm
   .exact n1 (Xk _ hm)
   .exact n1 (Xg _ (hA.mv _ hm))
  .rcases Xl.1 hm with hm|hm
   .exact n5 _ hm _ (hA.sub.subset hi) rfl
   .exact hA.dis i hi hm
theorem Wpo(h:HR w0 F G ν φ objs nx w){c:Cell}{y:AVal}{i:Nat}{u:Value}(hy:AValRel G ν nx y u)(he:Wp0 objs c y=some i):
  ∃r b,c= .own r/\(ν r).blk=some b/\i<(ν r).len/\u= .pointer (some ⟨b,(ν r).off+(i*(ν r).esz+0),none⟩):=by
 unfold Wp0 at he;split at he
 .rename_i r p off;split at he
  .rename_i e xs j p' ba;split at he
   .rename_i hp;injection he with he;subst he;have hp:=Xce hp;subst hp;obtain⟨kN,k1,k2,k3,b,k4,k5,k6,_⟩:p<nx/\Whi w (TyRel G w e) e.size (ν r) (ν p) xs j (φ r):=h.ob _ _ ba;obtain⟨⟨_,b',hb',rfl⟩,_⟩:=hy;rw[k5]at hb';injection hb' with hb';subst hb';exact⟨r,b,rfl,k4,by omega,by rw[k6,k2,Xbb,Xbb]⟩
   .simp at he
  .simp at he
 .rename_i r r' j off;split at he
  .rename_i e xs ba;split at he
   .rename_i hp;injection he with he;subst he;have hp:=Xce hp;subst hp;obtain⟨⟨_,hlt,b,hb,rfl⟩,_⟩:=hy;exact⟨r,b,rfl,hb,hlt,rfl⟩
   .simp at he
  .simp at he
 .simp at he
theorem Waw(h:HR w0 F G ν φ objs nx w)(hg:GLe G G'):∀(ps:List PTy) (xs:List AVal) (vs:List Value) (A:Args ps),vs.length=xs.length->
  (∀(j:Nat) (x:AVal) (v:Value),xs[j]?=some x->vs[j]?=some v->AValRel G ν nx x v)->Lent G' w φ objs A.lent->A.all.Nodup->W7 ps xs objs=some A->
  ∃ns ks bx,AOk G' ν φ objs w ps A vs ns ks bx
 | [],xs,vs,A,hlen,hx,hl,aW,hf=>by
  simp only[W7]at hf;split at hf
  .injection hf with hf;subst hf;have eO:vs= []:=Xad (by simpa using hlen);exact⟨[],[],[],⟨eO,rfl,rfl⟩,⟨rfl,rfl⟩,List.Pairwise.nil,by simp,by simp,by simp,by simp,by simp,by simp,List.Sublist.refl _,by simp[kids]⟩
  .cases hf
 | .v t agg::ps,xs,vs,A,hlen,hx,hl,aW,hf=>by
  simp only[W7]at hf;split at hf
  .rename_i x xs;split at hf
   .rename_i d m r A' h1 h2;injection hf with hf;subst hf
    match vs,hlen with
    |v::vs,hlen=>
     cases hc:cellsOf agg x with
     |none=>simp[hc]at h1
     |some cs=>
      simp[hc]at h1;obtain⟨n1,n2,n3⟩:=Xah.1 aW;obtain⟨q1,g1,g2,g3,g4,g5⟩:=WkN h hg (hx 0 x v rfl rfl) (hl.mono (λi hi=>Xk _ hi)) n1 hc h1;obtain⟨ns,ks,bx,hA⟩:=Waw h hg ps xs vs A' (by simpa using hlen) (λj y u hj hu=>hx (j+1) y u (by simpa using hj) (by simpa using hu)) (hl.mono (λi hi=>Xg _ hi)) n2 h2;refine⟨q1++ns,ks,bx,⟨v,vs,q1,ns,rfl,rfl,g1,hA.args⟩,hA.kept,Wca h g2 hA.sep g3 (λq hq b o hh=>Wil b o (hA.tk q hq b o hh)) (λi hi hj=>n3 i hi i hj rfl),λq hq=>?_,λp hp=>Xg _ (hA.bx p hp),λi hi=>?_,λi hi=>?_,λi hi=>?_,λi hi=>?_,List.Sublist.trans hA.sub (Xfm _ _),λi hi hm=>?_⟩
      .rcases Xl.1 hq with hq|hq
       .exactλb o hh=>WmU (λi hi=>Xk _ hi) (λp hp hm=>n3 _ hm _ (hA.bx p hp) rfl) b o (g3 q hq b o hh)
       .exactλb o hh=>Wj4 (λi hi=>Xg _ hi) (λp hp=>.inl hp) b o (hA.tk q hq b o hh)
      .rcases Xl.1 hi with hi|hi
       .exact g4 i hi
       .exact hA.live i hi
      .rcases Xl.1 hi with hi|hi
       .exact g5 i hi
       .exact hA.lent i hi
      .rcases Xl.1 hi with hi|hi
       .exact Xk _ hi
       .exact Xg _ (hA.mv i hi)
      .rcases Xl.1 hi with hi|hi
       .exact .inl (Xk _ hi)
       .rcases hA.mvk i hi with hi|hi
        .exact .inl (Xg _ hi)
        .exact .inr hi
      .rcases Xl.1 hm with hm|hm
       .exact n3 _ hm _ (hA.sub.subset hi) rfl
       .exact hA.dis i hi hm
   .cases hf
  .cases hf
 | .box t::ps,xs,vs,A,hlen,hx,hl,aW,hf=>by
  simp only[W7]at hf;split at hf
  .rename_i id off xs;split at hf
   .rename_i cs ba;split at hf
    .rename_i d m A' h1 h2;injection hf with hf;subst hf
     match vs,hlen with
     |v::vs,hlen=>
      obtain⟨n1,n2⟩:=Xaj.1 aW;obtain⟨ns,ks,bx,hA⟩:=Waw h hg ps xs vs A' (by simpa using hlen) (λj y u hj hu=>hx (j+1) y u (by simpa using hj) (by simpa using hu)) hl (Xah.1 n2).2.1 h2;obtain⟨b,q1,rfl,bb,k1,_,k2,k3,k4,k5,k6,k7,k8,k9,k10,bT⟩:=WnR h hg (hx 0 _ v rfl rfl).1 ba h1 aW hA;exact⟨_,_,_,⟨b,_,vs,q1,ns,ks,rfl,rfl,rfl,k1,hA.args⟩,⟨_,_,_,_,rfl,rfl,k2,k3⟩,k4,k5,k6,k7,hA.lent,k8,k9,k10,bT⟩
    .cases hf
   .cases hf
  .cases hf
 | .vj _::_,_,_,_,_,_,_,_,hf=>by simp only[W7]at hf;cases hf
 | .boxal t lf::ps,xs,vs,A,hlen,hx,hl,aW,hf=>by
  simp only[W7]at hf;split at hf
  .rename_i id off y xs;split at hf
   .rename_i cs ba;split at hf
    .rename_i d m A' i h1 h2 h3;injection hf with hf;subst hf
     match vs,hlen with
     |v::u::vs,hlen=>
      obtain⟨n1,n2⟩:=Xaj.1 aW;obtain⟨ns,ks,bx,hA⟩:=Waw h hg ps xs vs A' (by simpa using hlen) (λj y u hj hu=>hx (j+2) y u (by simpa using hj) (by simpa using hu)) hl (Xah.1 n2).2.1 h2;obtain⟨b,q1,rfl,bb,k1,kl,k2,k3,k4,k5,k6,k7,k8,k9,k10,bT⟩:=WnR h hg (hx 0 _ v rfl rfl).1 ba h1 aW hA;obtain⟨c,hc,h3⟩:=Xcb.1 h3;obtain⟨k,hk,hc⟩:=Xcb.1 hc;obtain⟨r,b',rfl,e1,e2,rfl⟩:=Wpo h (hx 1 y u rfl rfl) h3;obtain⟨pc,e3,e4⟩:=kl lf k r hk hc;exact⟨_,_,_,⟨b,_,b',pc,vs,q1,ns,ks,by rw[e4],rfl,rfl,k1,e3,by rw[e4];exact e1,by rw[e4];exact e2,hA.args⟩,⟨_,_,_,_,rfl,rfl,k2,k3⟩,k4,k5,k6,k7,hA.lent,k8,k9,k10,bT⟩
    .cases hf
   .cases hf
  .cases hf
 | .mut e::ps,xs,vs,A,hlen,hx,hl,aW,hf=>by
  simp only[W7]at hf;split at hf
  .rename_i id xs;split at hf
   .rename_i e' ys ba;split at hf
    .rename_i d A' h1 h2;injection hf with hf;subst hf;obtain⟨he,hd⟩:=Wap h1;subst he;simp only at hd;subst hd
     match vs,hlen with
     |v::vs,hlen=>
      obtain⟨⟨_,hv⟩,_⟩:=hx 0 _ v rfl rfl;subst hv;obtain⟨n1,n2⟩:=Xaj.1 aW;have aB:Live objs id:=⟨_,ba,by simp⟩;have hown:OwnL w (TyRel G w e') e'.size (ν id) ys (φ id):=h.ob _ _ ba;obtain⟨ns,ks,bx,hA⟩:=Waw h hg ps xs vs A' (by simpa using hlen) (λj y u hj hu=>hx (j+1) y u (by simpa using hj) (by simpa using hu)) hl n2 h2;refine⟨⟨ν id,φ id⟩::ns,ν id::ks,bx,⟨⟨ν id,φ id⟩,vs,ns,ks,rfl,rfl,rfl,WcJ hg (Same.refl _ w) (λ_ _ hh=>hh) hown,hA.args⟩,⟨id,_,ks,ys,rfl,rfl,ba,hA.kept⟩,?_,λq hq=>?_,λp hp=>Xe _ (hA.bx p hp),λi hi=>?_,hA.lent,λi hi=>Xe _ (hA.mv i hi),λi hi=>?_,List.Sublist.cons_cons _ hA.sub,λi hi hm=>?_⟩
      .refine Wca h (n1:=[⟨ν id,φ id⟩]) (m:=[id]) (List.pairwise_singleton _ _) hA.sep (λq hq=>?_) (λq hq b o hh=>Wil b o (hA.tk q hq b o hh)) (λi hi hj=>n1 (by rw[←Xx.1 hi];exact hj));rw[Xx.1 hq];exact FromL.one (by simp) aB
      .rcases Xq.1 hq with rfl|hq
       .exactλb o hh=>⟨id,Xh ..,aB,hh,λp hp e=>absurd (by rw[←e];exact hA.bx p hp) n1⟩
       .exactλb o hh=>Wj4 (λi hi=>Xe _ hi) (λp hp=>.inl hp) b o (hA.tk q hq b o hh)
      .rcases Xq.1 hi with rfl|hi
       .exact aB
       .exact hA.live i hi
      .rcases Xq.1 hi with rfl|hi
       .exact .inr (Xh ..)
       .rcases hA.mvk i hi with hi|hi
        .exact .inl hi
        .exact .inr (Xe _ hi)
      .rcases Xq.1 hi with rfl|hi
       .exact n1 (hA.mv _ hm)
       .exact hA.dis i hi hm
    .cases hf
   .cases hf
  .cases hf
 | .clos g n::ps,xs,vs,A,hlen,hx,hl,aW,hf=>by
  simp only[W7]at hf;split at hf
  .rename_i g' caps xs;split at hf
   .rename_i hc;obtain⟨rfl,hcl⟩:=hc;cases hA:W7 ps (Wi4 caps++xs) objs with
    |none=>simp[hA]at hf
    |some A'=>
     simp only[hA,Xch,Option.some.injEq]at hf;subst hf
     match vs,hlen with
     |v::vs,hlen=>
      obtain⟨⟨cvs,hv,hcv,pD⟩,_⟩:=hx 0 _ v rfl rfl;subst hv;obtain⟨ns,ks,bx,hAk⟩:=Waw h hg ps (Wi4 caps++xs) (cvs++vs) A' (by simp[Wi4,hcv];simpa using hlen) (λj y u hj hu=>by
       rw[Xaz]at hj hu;simp only[Wi4,Xy]at hj;rw[hcv]at hu;split at hj
       .rename_i hlt;rw[if_pos hlt]at hu;rw[Xap]at hj;obtain⟨id,bE,rfl⟩:=Xab.1 hj;obtain⟨h1,h3,h2⟩:=pD _ id u bE hu;exact⟨⟨h1,h2⟩,h3⟩
       .rename_i hlt;rw[if_neg hlt]at hu;exact hx (j-caps.length+1) y u (by simpa using hj) (by simpa using hu)) hl aW hA
      refine⟨ns,ks,bx,⟨cvs,vs,rfl,by rw[hcv];exact hcl,λu hu=>?_,hAk.args⟩,hAk.kept,hAk.sep,hAk.tk,hAk.bx,hAk.live,hAk.lent,hAk.mv,hAk.mvk,hAk.sub,hAk.dis⟩;obtain⟨j,hj⟩:=Xdy hu;have hlt:j<caps.length:=by rw[←hcv];exact(Xt.1 hj).1
      exact(pD j _ u (Xp hlt) hj).2.1
   .cases hf
  .cases hf
 | .kv t agg::ps,xs,vs,A,hlen,hx,hl,aW,hf=>by
  simp only[W7]at hf;split at hf
  .rename_i x xs;split at hf
   .rename_i d m r A' h1 h2;split at hf
    .rename_i gg;injection hf with hf;subst hf
     match vs,hlen with
     |v::vs,hlen=>
      cases hc:cellsOf agg x with
      |none=>simp[hc]at h1
      |some cs=>
       simp[hc]at h1;obtain⟨n1,n2,n3⟩:=Xah.1 aW;have bj:Lent G' w φ objs r:=hl.mono (λi hi=>Xk _ hi);obtain⟨_,_,_,_,g4,g5⟩:=WkN h hg (hx 0 x v rfl rfl) bj n1 hc h1;obtain⟨k1,k2⟩:=Wmg h hg (hx 0 x v rfl rfl) bj hc h1 gg;obtain⟨ns,ks,bx,hA⟩:=Waw h hg ps xs vs A' (by simpa using hlen) (λj y u hj hu=>hx (j+1) y u (by simpa using hj) (by simpa using hu)) (hl.mono (λi hi=>Xg _ hi)) n2 h2;have jN:kids (kp0 m++A'.kept)=m++kids A'.kept:=by simp only[kids,Xr];congr 1;exact Whp m
       have gp:∀q∈pcs ν φ m,CS.le q.fp (FromL φ objs m):=λq hq=>by
        obtain⟨i,hi,rfl⟩:=Xv.1 hq;exact FromL.one hi (g4 i hi)
       have gs:Sep (fps (pcs ν φ m)):=by
        rw[WnD];refine List.pairwise_map.2 (n1.imp_of_mem λ{i j} hi hj hne=>?_)
        exactλb o h1 h2=>hne (h.inj i j b o (g4 i hi) (g4 j hj) h1 h2)
       refine⟨pcs ν φ m++ns,m.map ν++ks,bx,⟨v,vs,pcs ν φ m,ns,ks,rfl,rfl,by rw[Wuj],k1,hA.args⟩,⟨m,A'.kept,ks,rfl,rfl,k2,hA.kept⟩,Wca h gs hA.sep gp (λq hq b o hh=>Wil b o (hA.tk q hq b o hh)) (λi hi hj=>n3 i hi i hj rfl),λq hq=>?_,λp hp=>Xg _ (hA.bx p hp),λi hi=>?_,λi hi=>?_,λi hi=>Xg _ (hA.mv i hi),λi hi=>?_,by rw[jN];exact List.Sublist.append (List.Sublist.refl _) hA.sub,λi hi hm=>?_⟩
       .rcases Xl.1 hq with hq|hq
        .exactλb o hh=>WmU (λi hi=>Xk _ hi) (λp hp hm=>n3 _ hm _ (hA.bx p hp) rfl) b o (gp q hq b o hh)
        .exactλb o hh=>Wj4 (λi hi=>Xg _ hi) (λp hp=>.inl hp) b o (hA.tk q hq b o hh)
       .rcases Xl.1 hi with hi|hi
        .exact g4 i hi
        .exact hA.live i hi
       .rcases Xl.1 hi with hi|hi
        .exact g5 i hi
        .exact hA.lent i hi
       .rw[jN];rcases Xl.1 hi with hi|hi
        .exact .inr (Xk _ hi)
        .rcases hA.mvk i hi with hi|hi
         .exact .inl hi
         .exact .inr (Xg _ hi)
       .rw[jN]at hi;rcases Xl.1 hi with hi|hi
        .exact n3 _ hi _ (hA.mv i hm) rfl
        .exact hA.dis i hi hm
    .cases hf
   .cases hf
  .cases hf
 | .rp t::ps,xs,vs,A,hlen,hx,hl,aW,hf=>by
  simp only[W7]at hf;split at hf
  .rename_i id off xs;split at hf
   .rename_i cs ba;split at hf
    .rename_i d r A' h1 h2;split at hf
     case isFalse=>cases hf
     rename_i sH;injection hf with hf;subst hf
     match vs,hlen with
     |v::vs,hlen=>
      obtain⟨ns,ks,bx,hA⟩:=Waw h hg ps xs vs A' (by simpa using hlen) (λj y u hj hu=>hx (j+1) y u (by simpa using hj) (by simpa using hu)) (hl.mono (λi hi=>Xe _ (Xg _ hi))) aW h2;obtain⟨⟨bE,b,bb,rfl⟩,_⟩:=hx 0 _ v rfl rfl;have aB:Live objs id:=⟨_,ba,by simp⟩;obtain⟨b',us,hb',hrow,hmem,br,eP⟩:Wcq G ν nx w id (φ id) (.box cs):=h.ob _ _ ba;rw[bb]at hb';injection hb' with hb';subst hb';obtain⟨q1,t1,t2,t3,t4,t5,_⟩:=Wae h hg t _ ((us.drop off).take t.size) d [] r ((br.drop off).take _) (hl.mono (λi hi=>Xe _ (Xk _ hi))) Xcu h1;have lZ:∀p∈q1,Froz G' w p.fp:=λp hp b o v hh=>by
       obtain⟨i,hi,_⟩:=t3 p hp b o hh;simp at hi
      have henc:Enc G' t.ro (Wt2 t d) ((us.drop off).take t.size):=Wdw (λ_ _ _ hh=>hh) t d _ q1 lZ t1;have ii:=Wx _ _ _ _ t1;have bS:off+t.size<=cs.length:=by
       have:=br.1;rw[Xal,Xdd]at ii;have:=Wbq t;omega
      have aM:We7 G' b ((ν id).off+off) ((us.drop off).take t.size):=λj v hj=>by
       have rG:j<t.size:=by have:=(Xt.1 hj).1;omega
       rw[Xbl,if_pos rG,Xbm]at hj;have h3:=hmem _ v hj;rw[←Xas]at h3;exact hl id (Xh ..) aB b _ v (eP b _ ⟨rfl,by omega,by omega⟩) h3
      exact⟨ns,ks,bx,⟨b,(ν id).off+off,(us.drop off).take t.size,vs,rfl,((WaW t d _ q1 sH).1 t1).1,aM,hA.args⟩,hA.kept,hA.sep,hA.tk,hA.bx,hA.live,λi hi=>by
       rcases Xq.1 hi with rfl|hi
       .exact aB
       .rcases Xl.1 hi with hi|hi
        .exact t5 i hi
        .exact hA.lent i hi,hA.mv,hA.mvk,hA.sub,hA.dis⟩
    .cases hf
   .cases hf
  .rename_i t' d' off xs;split at hf
   .rename_i d A' h1 h2;split at hf
    case isFalse=>cases hf
    rename_i sH;injection hf with hf;subst hf
    match vs,hlen with
    |v::vs,hlen=>
     obtain⟨ns,ks,bx,hA⟩:=Waw h hg ps xs vs A' (by simpa using hlen) (λj y u hj hu=>hx (j+1) y u (by simpa using hj) (by simpa using hu)) hl aW h2;obtain⟨⟨b,o,cs,rfl,e1,e2⟩,_⟩:=hx 0 _ v rfl rfl;have br:=Way (ν:=ν) (nx:=nx) t' d' cs e1;obtain⟨q1,t1,t2,t3,t4,t5,_⟩:=Wae h hg t _ ((cs.drop off).take t.size) d [] [] ((br.drop off).take _) (λi hi=>by simp at hi) Xcu h1;exact⟨ns,ks,bx,⟨b,o+off,(cs.drop off).take t.size,vs,rfl,((WaW t d _ q1 sH).1 t1).1,λj v hj=>by
      rw[Xbl]at hj;split at hj
      .rw[Xbm]at hj;rw[Xas];exact hg _ _ _ (e2 _ v hj)
      .simp at hj,hA.args⟩,hA.kept,hA.sep,hA.tk,hA.bx,hA.live,hA.lent,hA.mv,hA.mvk,hA.sub,hA.dis⟩
   .cases hf
  .cases hf
end
end Go.Sx
namespace Go.Sx
set_option linter.unusedVariables false
set_option linter.unusedSimpArgs false
theorem Wbb{G G':GH}{w:World}:∀(t:Ty) (d:t.den) (vs:List Value) (ns:List Pc),t.noRo=true->TyRel G w t d vs ns->TyRel G' w t d vs ns
 | .own e,_,_,_,hn,⟨pc,h1,h2,h3⟩=>⟨pc,h1,h2,Whj (λx c q hx=>Wx e x c q hx) (Same.refl _ w) (λ_ _ hh=>hh) (λx c q _ hx=>Wbb e x c q hn hx) h3⟩
 | .prod a b,_,_,_,hn,⟨v1,v2,n1,n2,h1,h2,h3,h4⟩=>by
  simp only[Ty.noRo,Xi]at hn;exact⟨v1,v2,n1,n2,h1,h2,Wbb a _ _ _ hn.1 h3,Wbb b _ _ _ hn.2 h4⟩
 | .int _,_,_,_,_,h=>h
 | .bool,_,_,_,_,h=>h
 | .str,_,_,_,_,h=>h
 | .slice _,_,_,_,hn,_=>by simp[Ty.noRo]at hn
theorem WrV{G G':GH}{w:World}{e:Ty}{nu:Nu}{xs:List e.den}{S:CS}(hn:e.noRo=true)(h:OwnL w (TyRel G w e) e.size nu xs S):OwnL w (TyRel G' w e) e.size nu xs S:=
 Whj (λx c q hx=>Wx e x c q hx) (Same.refl _ w) (λ_ _ hh=>hh) (λx c q _ hx=>Wbb e x c q hn hx) h
theorem Wfk{G G':GH}{w:World}{t:Ty}{d:t.den}{b o:Nat}{ns:List Pc}(hn:t.noRo=true)(h:WeX G w t d b o ns):WeX G' w t d b o ns:=by
 obtain⟨us,h1,h2,h3⟩:=h;exact⟨us,h1,h2,Wbb _ _ _ _ hn h3⟩
theorem Wp1{G G':GH}{w:World}{t:Ty}{agg:Bool}{d:t.den}{v:Value}{ns:List Pc}(hn:t.noRo=true)(h:WiE G w t agg d v ns):WiE G' w t agg d v ns:=by
 unfold WiE at h⊢;split
 .rename_i ha;rw[if_pos ha]at h;obtain⟨us,h1,h2⟩:=h;exact⟨us,h1,Wbb _ _ _ _ hn h2⟩
 .rename_i ha;rw[if_neg ha]at h;exact Wbb _ _ _ _ hn h
theorem WdO{G G':GH}{w:World}:∀(rs:List PTy) (d:Wgw rs) (vs:List Value) (ns:List Pc),rs.all PTy.freshR=true->WfO G w rs d vs ns->WfO G' w rs d vs ns
 | [],_,_,_,_,h=>h
 | .v t agg::rs,d,vs,ns,hn,⟨v,vs',n1,n2,h1,h2,h3,h4⟩=>by
  simp only[Xcs,Xi]at hn;exact⟨v,vs',n1,n2,h1,h2,Wp1 hn.1 h3,WdO rs _ _ _ hn.2 h4⟩
 | .box t::rs,d,vs,ns,hn,⟨b,o,vs',n1,n2,h1,h2,h3,h5⟩=>by
  simp only[Xcs,Xi]at hn;exact⟨b,o,vs',n1,n2,h1,h2,Wfk hn.1 h3,WdO rs _ _ _ hn.2 h5⟩
 | .mut _::_,_,_,_,_,h=>h.elim
 | .clos _ _::_,_,_,_,_,h=>h.elim
 | .kv _ _::_,_,_,_,_,h=>h.elim
 | .rp _::_,_,_,_,_,h=>h.elim
 | .vj t::rs,d,vs,ns,hn,⟨us,u,vs',n1,n2,h1,h0,h2,h3,h4⟩=>by
  simp only[Xcs,Xi]at hn;exact⟨us,u,vs',n1,n2,h1,h0,h2,Wbb _ _ _ _ hn.1 h3,WdO rs _ _ _ hn.2 h4⟩
 | .boxal _ _::_,_,_,_,_,h=>h.elim
theorem WaM{G G':GH}{w:World}:∀(ps:List PTy) (o:WfB ps) (ks:List Nu) (kf:List CS) (ns:List Pc),ps.all PTy.fresh=true->Wbu G w ps o ks kf ns->Wbu G' w ps o ks kf ns
 | [],_,_,_,_,_,h=>h
 | .v _ _::ps,o,ks,kf,ns,hn,h=>by
  simp only[Xcs,Xi]at hn;exact WaM ps o ks kf ns hn.2 h
 | .box t::ps,o,ks,kf,ns,hn,⟨b,off,ks',c8,n1,n2,h1,h2,h3,h4,h5⟩=>by
  simp only[Xcs,Xi]at hn;exact⟨b,off,ks',c8,n1,n2,h1,h2,h3,Wfk hn.1 h4,WaM ps _ _ _ _ hn.2 h5⟩
 | .mut e::ps,o,ks,kf,ns,hn,⟨pc,ks',c8,h1,h2,h3,h4⟩=>by
  simp only[Xcs,Xi]at hn;exact⟨pc,ks',c8,h1,h2,WrV hn.1 h3,WaM ps _ _ _ _ hn.2 h4⟩
 | .clos _ _::ps,o,ks,kf,ns,hn,h=>by
  simp only[Xcs,Xi]at hn;exact WaM ps o ks kf ns hn.2 h
 | .kv t _::ps,o,ks,kf,ns,hn,⟨n1,ks',c8,us,h1,h2,h3,h4⟩=>by
  simp only[Xcs,Xi]at hn;exact⟨n1,ks',c8,us,h1,h2,Wbb _ _ _ _ hn.1 h3,WaM ps _ _ _ _ hn.2 h4⟩
 | .rp _::ps,o,ks,kf,ns,hn,h=>by
  simp only[Xcs,Xi]at hn;exact WaM ps o ks kf ns hn.2 h
 | .vj _::_,_,_,_,_,_,h=>h.elim
 | .boxal t _::ps,o,ks,kf,ns,hn,⟨b,off,ks',c8,n1,n2,h1,h2,h3,h4,h5⟩=>by
  simp only[Xcs,Xi]at hn;exact⟨b,off,ks',c8,n1,n2,h1,h2,h3,Wfk hn.1 h4,WaM ps _ _ _ _ hn.2 h5⟩
theorem Wee{objs:Wab}:∀(l:List Nat) (id:Nat),id∉l->look (kill objs l) id=look objs id
 | [],id,_=>rfl
 |i::l,id,h=>by
  simp only[kill];rw[Wy,if_neg (λe=>h (by rw[e];exact Xh ..))];exact Wee l id λhm=>h (Xe _ hm)
theorem Wkh:∀{l:List CS},Sep l->∀{i j:Nat} {A B:CS} {b o:Nat},l[i]?=some A->l[j]?=some B->A b o->B b o->i=j
 | [],_,i,j,A,B,b,o,hi,_,_,_=>by simp at hi
 |C::l,hs,i,j,A,B,b,o,hi,hj,ha,hb=>by
  obtain⟨h1,h2⟩:=Xz.1 hs;cases i with
  |zero=>
   simp at hi;subst hi;cases j with
   |zero=>rfl
   |succ j=>
    simp at hj;exact(h1 B (Xaw hj) b o ha hb).elim
  |succ i=>
   simp at hi;cases j with
   |zero=>
    simp at hj;subst hj;exact(h1 A (Xaw hi) b o hb ha).elim
   |succ j=>
    simp at hj;rw[Wkh h2 hi hj ha hb]
section
variable{w0:World}{F:CS}{nt:Slots}{G0 G G':GH}{ν:Nat->Nu}{φ:Nat->CS}{objs:Wab}{nx:Nat}{st ah:St}{a:Act}{w w':World}{P:Program}{T:Tab}
theorem WpM{f g:Nat->Nu}:∀{l:List Nat},(∀i∈l,g i=f i)->l.map f=l.map g:=λ{l} h=>List.map_congr_left λi hi=>(h i hi).symm
theorem Wcf{ν':Nat->Nu}{bx:List (Nat×CS)}:∀(ps:List PTy) (ids:List Kp) (ks:List Nu),(∀i∈kids ids,ν' i=ν i)->KeptOk objs ν bx ps ids ks->KeptOk objs ν' bx ps ids ks
 | [],_,_,_,h=>h
 | .v _ _::ps,ids,ks,hn,h=>Wcf ps ids ks hn h
 | .box t::ps,ids,ks,hn,⟨k,bi,nu,ks',h1,h2,⟨cs,b,g1,g2,g3,g4,g5⟩,h4⟩=>by
  subst h1;have e:=hn k.id (Xh ..);exact⟨k,bi,nu,ks',rfl,h2,⟨cs,b,g1,g2,by rw[e];exact g3,by rw[e];exact g4,by rw[e];exact g5⟩,Wcf ps bi ks' (λi hi=>hn i (Xe _ hi)) h4⟩
 | .mut e::ps,ids,ks,hn,⟨id,bi,ks',ys,h1,h2,h3,h4⟩=>by
  subst h1;exact⟨id,bi,ks',ys,rfl,by rw[hn id (Xh ..)];exact h2,h3,Wcf ps bi ks' (λi hi=>hn i (Xe _ hi)) h4⟩
 | .clos _ _::ps,ids,ks,hn,h=>Wcf ps ids ks hn h
 | .kv t _::ps,ids,ks,hn,⟨i1,i2,ks',h1,h2,h3,h4⟩=>by
  subst h1;have jN:kids (kp0 i1++i2)=i1++kids i2:=by simp only[kids,Xr];congr 1;exact Whp i1
  rw[jN]at hn;exact⟨i1,i2,ks',rfl,by rw[h2,WpM (λi hi=>hn i (Xk _ hi))],h3,Wcf ps i2 ks' (λi hi=>hn i (Xg _ hi)) h4⟩
 | .rp _::ps,ids,ks,hn,h=>Wcf ps ids ks hn h
 | .vj _::_,_,_,_,h=>h.elim
 | .boxal t _::ps,ids,ks,hn,⟨k,bi,nu,ks',h1,h2,⟨cs,b,g1,g2,g3,g4,g5⟩,h4⟩=>by
  subst h1;have e:=hn k.id (Xh ..);exact⟨k,bi,nu,ks',rfl,h2,⟨cs,b,g1,g2,by rw[e];exact g3,by rw[e];exact g4,by rw[e];exact g5⟩,Wcf ps bi ks' (λi hi=>hn i (Xe _ hi)) h4⟩
theorem Wp8(hr:Rel w0 F nt G0 G ν st a w):∀(l:List Operand) (xs:List AVal),evs st l=some xs->xs.length=l.length/\
  ∀(j:Nat) (x:AVal) (v:Value),xs[j]?=some x->(l.map a.eval)[j]?=some v->AValRel G ν st.nx x v
 | [],xs,h=>by simp[evs]at h;subst h;exact⟨rfl,λj x v hj=>by simp at hj⟩
 |o::l,xs,h=>by
  simp only[evs]at h;split at h
  .rename_i y ys h1 h2;injection h with h;subst h;obtain⟨h3,h4⟩:=Wp8 hr l ys h2;refine⟨by simp[h3],λj x v hj hv=>?_⟩;cases j with
   |zero=>simp at hj hv;subst hj hv;exact WE hr o _ h1
   |succ j=>exact h4 j x v (by simpa using hj) (by simpa using hv)
  .simp at h
theorem Wti{o:Oper}{c:Call}{f:Operand}{g:FuncId}{caps:List Value}(ho:o.op= .call c)(hc:c.callee= .value f)(hf:a.eval f= .func (.func g) #[] caps.toArray)(pE:WfI P g):
  (execOp a.eval o).run P w= .ok (.enter g (c.args.toList.map a.eval++caps).toArray) w:=by
 obtain⟨fn,h1,h2,h3⟩:=pE;obtain⟨callee,args,argTypes⟩:=c;simp only at hc;subst hc;have e:(#[]++args.map a.eval++caps.toArray)=(args.toList.map a.eval++caps).toArray:=by
  apply Array.ext';simp
 simp only[execOp,ho,resolve,Deferred.ofValue,hf,Sem.run_bind,Sem.run_pure,Result.andThen_ok,invoke,callFunc,run_program,h1,h2,h3,Xbp,if_false,e]
theorem Wtf{b o k:Nat}{vs us:List Value}(hm:Mem w b o vs)(hu:Mem w' b (o+k) us)(hk:k+us.length<=vs.length)(bq:∀j,j<vs.length->¬(k<=j/\j<k+us.length)->w'.cell? ⟨b,o+j,none⟩=w.cell? ⟨b,o+j,none⟩):
  Mem w' b o (vs.take k++us++vs.drop (k+us.length)):=λj v hj=>by
 have gd:∀v',vs[j]?=some v'->¬(k<=j/\j<k+us.length)->w'.cell? ⟨b,o+j,none⟩=some v':=λv' hv hn=>by
  rw[bq j (Xt.1 hv).1 hn];exact hm j v' hv
 have d6:(vs.take k).length=k:=by simp;omega
 rw[Xbn,Xaz,d6]at hj;split at hj
 .rename_i hlt;rw[Xbl,if_pos hlt]at hj;exact gd v hj (by omega)
 .rw[Xaz]at hj;split at hj
  .have:=hu (j-k) v hj;rw[show o+j=o+k+(j-k) by omega];exact this
  .rw[Xbm,show k+us.length+(j-k-us.length)=j by omega]at hj;exact gd v hj (by omega)
theorem WjW{Γ:Ctx}(hΓ:WeT P Γ)(hr:Rel w0 F nt G0 G ν st a w){o:Oper}(hd:∀d,o.dst=some d->nt.Ok d){c:Call}{f:Operand}{g:FuncId}{cvs:List Value}{xs:List AVal}{sg:Sig}{R:Type}{k:St->Option R}{r:R}
  (ho:o.op= .call c) (hc:c.callee= .value f) (pF:a.eval f= .func (.func g) #[] cvs.toArray) (mP:look Γ g=some sg) (hlen:xs.length=(c.args.toList.map a.eval++cvs).length)
  (hargs:∀(j:Nat) (x:AVal) (v:Value),xs[j]?=some x->(c.args.toList.map a.eval++cvs)[j]?=some v->AValRel G ν st.nx x v)
  (h:WeU sg st xs (λx objs nx=>k (({env:=st.env,objs:=objs,nx:=nx}:St).put o.dst x))=some r) {K:Act->World->Prop} {Q:Exit->Act->World->Prop}
  (hK:∀ah a' w' G' ν',Rel w0 F nt G0 G' ν' ah a' w'->k ah=some r->K a' w'):o.wp P a w K Q:=by
 obtain⟨jP,iH⟩:=hΓ g sg mP;unfold WeU at h;split at h
 .rename_i A hA;split at h
  .rename_i bs;simp only[Xi]at bs;obtain⟨⟨aW,kX⟩,rH⟩:=bs;have aW:=(WeG _).1 aW;have kX:=Wl0 kX;obtain⟨out,hrun,hk⟩:=sg.law' A.d _ r h;dsimp only at hk;obtain⟨φ,hφ⟩:=hr.h;have ga:=hφ.addG_le A.lent;have hG1w:=hφ.addG_w A.lent;obtain⟨ns,ks,bx,hO⟩:=Waw hφ ga sg.ps _ (c.args.toList.map a.eval++cvs) A hlen.symm hargs (λid bE hl=>(Wh7 _).mono (FromL.one bE hl)) aW hA;have hTk:∀b o,Of ns b o->Tk φ st.objs bx A.all b o:=λb o ⟨q,hq,hh⟩=>hO.tk q hq b o hh;have hfree:∀q∈ns,∀b off,q.fp b off->WpP G w (FromL φ st.objs A.lent) b off=none/\b<w.heap.size:=λq hq b off hh=>by
    obtain⟨i,hi,h1,h2,_⟩:=hO.tk q hq b off hh;refine⟨?_,hφ.bl i b off h1 h2⟩;rw[WcV (λ⟨j,hj,h3,h4⟩=>by
     have:=hφ.inj i j b off h1 h3 h2 h4;subst this;exact kX _ hj hi)]
    exact hφ.gf i b off h1 h2
   have mQ:=jP A.d out hrun _ w _ ns _ hO.args hO.sep hfree hG1w;unfold Oper.wp;rw[Wti ho hc pF iH,Oper.upon_enter];refine mQ.mono λe w' pG=>?_;obtain⟨rv,kf,ms,cF,G2,rfl,hA2⟩:=pG;simp only;have hG3:∃G3:GH,GLe G G3/\(∀b off v,G3 b off=some v->w'.cell? ⟨b,off,none⟩=some v)/\WfO G3 w' sg.rs out.2 rv cF/\Wbu G3 w' sg.ps out.1 ks kf ms/\
     GExt w0.heap.size F G0 G3/\(∀S∈kf++fps (ms++cF),∀b off,S b off->G3 b off=none)/\(∀id b off,Live st.objs id->φ id b off->¬Tk φ st.objs bx A.all b off->G3 b off=none):=by
    by_cases hle:A.lent= []
    .have hGG:WpP G w (FromL φ st.objs A.lent)=G:=by
      rw[hle];funext b off;exact WcV (λ⟨i,hi,_⟩=>by simp at hi)
     rw[hGG]at hA2;refine⟨G2,hA2.gx.le,hA2.g,hA2.res,hA2.outs,⟨λb o v hv=>hA2.gx.le b o v (hr.gx.le b o v hv),λb o v hv=>?_⟩,λS hS b off hh=>(hA2.own S hS b off hh).1,λid b off hl hp hn=>?_⟩
     .rcases hA2.gx.new b o v hv with h1|h1|h1
      .exact hr.gx.new b o v h1
      .exact .inr (.inl (Xcr hφ.le.size h1))
      .obtain⟨i,hi,h2,h3,_⟩:=hTk b o h1;exact .inr (hφ.own i b o h2 h3)
     .cases hv:G2 b off with
      |none=>rfl
      |some v=>
       rcases hA2.gx.new b off v hv with h1|h1|h1
       .rw[hφ.gf id b off hl hp]at h1;cases h1
       .have:=hφ.bl id b off hl hp;omega
       .exact absurd (hTk b off h1) hn
    .have fA:sg.fresh=true:=by
      rcases Bool.or_eq_true_iff.1 rH with h1|h1
      .exact h1
      .exact absurd (by simpa using h1) hle
     unfold Sig.fresh at fA;simp only[Xi]at fA;refine⟨G,λ_ _ _ hh=>hh,λb o v hv=>hA2.g b o v (hA2.gx.le b o v (ga b o v hv)),WdO _ _ _ _ fA.1 hA2.res,WaM _ _ _ _ _ fA.2 hA2.outs,hr.gx,λS hS b off hh=>?_,λid b off hl hp _=>hφ.gf id b off hl hp⟩;cases hv:G b off with
     |none=>rfl
     |some v=>
      have:=hA2.gx.le b off v (ga b off v hv);rw[(hA2.own S hS b off hh).1]at this;cases this
   obtain⟨G3,sI,sJ,gN,pH,sK,sL,sM⟩:=hG3;obtain⟨ν2,hν2⟩:∃ν2:Nat->Nu,ν2= λi=>if i<st.nx then ν i else((nus (ms++cF))[i-st.nx]?).getD ⟨none,0,0,0,0⟩:=⟨_,rfl⟩;obtain⟨φ2,hφ2⟩:∃φ2:Nat->CS,φ2= λi=>if i<st.nx then(λb o=>(∃(j:Nat) (S:CS),(kids A.kept)[j]?=some i/\kf[j]?=some S/\S b o)\/(φ i b o/\¬Tk φ st.objs bx A.all b o))else((fps (ms++cF))[i-st.nx]?).getD (λ_ _=>False):=⟨_,rfl⟩;have hνold:Wrl st.nx ν ν2:=λi hi=>by rw[hν2];simp[hi]
   have hAt:At ν2 φ2 st.nx (ms++cF):=λj pc hj=>by
    have e1:(nus (ms++cF))[j]?=some pc.nu:=by unfold nus;rw[Xap,hj];rfl
    have e2:(fps (ms++cF))[j]?=some pc.fp:=by unfold fps;rw[Xap,hj];rfl
    rw[hν2,hφ2];simp only;rw[if_neg (by omega),if_neg (by omega),Xbe,e1,e2];exact⟨rfl,rfl⟩
   have kY:∀i∈kids A.kept,i<st.nx:=λi hi=>hφ.lt i (hO.live i (hO.sub.subset hi));have kZ:(kids A.kept).Nodup:=aW.sublist hO.sub;obtain⟨om,wV,dI⟩:=WaK (ν:=ν2) (φ:=φ2) (bx:=bx) st.objs sg.ps out.1 A.kept ks kf ms (kill st.objs A.moved) st.nx (st.nx+ms.length+cF.length) pH (Wcf _ _ _ (λi hi=>hνold i (kY i hi)) hO.kept) hAt.left kZ (λq hq=>by
    have ek:q.id∈kids A.kept:=Xan hq;exact⟨kY _ ek,Wee _ _ (hO.dis _ ek)⟩) (by omega)
   generalize hp:Wac sg.ps out.1 A.kept (kill st.objs A.moved) st.nx=p at*;obtain⟨lZ,wW,wX⟩:=WdF (ν:=ν2) (φ:=φ2) sg.rs out.2 rv cF p.1 (st.nx+ms.length) (st.nx+ms.length+cF.length) gN (hAt.right rfl) (by omega);rw[om]at hk;generalize hq:Wbi sg.rs out.2 p.1 (st.nx+ms.length)=q at*;have gO:∀id ob,look q.2.1 id=some ob->ob≠ .dead->
     (st.nx<=id/\id<st.nx+ms.length+cF.length/\WvM G3 ν2 φ2 w' (st.nx+ms.length+cF.length) id ob)\/
     (∃(j:Nat) (S:CS),(kids A.kept)[j]?=some id/\kf[j]?=some S/\Wmj G3 ν2 w' st.objs bx (st.nx+ms.length+cF.length) id S ob)\/(look st.objs id=some ob/\id∉A.all):=λid ob hl cO=>by
    rcases wW id ob hl with⟨h1,h2,h3⟩|h1
    .exact .inl ⟨by omega,h2,h3⟩
    .rcases dI id ob h1 with⟨h2,h3,h4⟩|h2|⟨h2,h3⟩
     .exact .inl ⟨h2,by omega,.inl h4⟩
     .exact .inr (.inl h2)
     .obtain⟨h4,h5⟩:=Wec A.moved id ob h2 cO;exact .inr (.inr ⟨h4,λhm=>by rcases hO.mvk id hm with h6|h6;exact h5 h6;exact h3 h6⟩)
   have aq:∀id b off,Live q.2.1 id->φ2 id b off->
     (∃(pos:Nat) (S:CS),(kf++fps (ms++cF))[pos]?=some S/\S b off/\id=(if pos<kf.length then((kids A.kept)[pos]?).getD 0 else st.nx+(pos-kf.length)))\/
     (Live st.objs id/\φ id b off/\¬Tk φ st.objs bx A.all b off/\id<st.nx):=λid b off ⟨ob,hl,cO⟩ hp=>by
    have mR:id<st.nx->Live st.objs id:=λhlt=>by
     rcases gO id ob hl cO with⟨h1,_⟩|⟨j,S,h1,_⟩|⟨h1,_⟩
     .omega
     .exact hO.live id (hO.sub.subset (Xaw h1))
     .exact⟨ob,h1,cO⟩
    rw[hφ2]at hp
    try simp only at hp
    by_cases hlt:id<st.nx
    .rw[if_pos hlt]at hp;rcases hp with⟨j,S,h1,h2,h3⟩|⟨h1,h2⟩
     .left;have hj:j<kf.length:=(Xt.1 h2).1;refine⟨j,S,by rw[Xbc hj];exact h2,h3,?_⟩;rw[if_pos hj,h1];rfl
     .exact .inr ⟨mR hlt,h1,h2,hlt⟩
    .rw[if_neg hlt]at hp;left;cases hS:(fps (ms++cF))[id-st.nx]? with
     |none=>rw[hS]at hp;exact hp.elim
     |some S=>
      rw[hS]at hp;refine⟨kf.length+(id-st.nx),S,by rw[Xay (by omega),Xbe];exact hS,hp,?_⟩;rw[if_neg (by omega)];omega
   have hown:=hA2.own;have ij:∀{pos:Nat} {S:CS},(kf++fps (ms++cF))[pos]?=some S->S∈kf++fps (ms++cF):=λh=>Xaw h;have hH:HR w0 F G3 ν2 φ2 q.2.1 (st.nx+ms.length+cF.length) w':={
    g:=sJ
    ob:=λid ob hl=>by
     by_cases cO:ob= .dead
     .subst cO;trivial
     .rcases gO id ob hl cO with⟨h1,h2,⟨e,xs,rfl,h3⟩|⟨cs,b,us,rfl,h3,h4,h5,h6,h7⟩⟩|⟨j,S,h1,h2,h3⟩|⟨h1,h2⟩
      .exact h3
      .exact⟨b,us,h3,h4,h5,h6,h7⟩
      .have bE:id∈kids A.kept:=Xaw h1;have hlt:=kY id bE;have aB:Live st.objs id:=hO.live id (hO.sub.subset bE);have hSφ:CS.le S (φ2 id):=λb o hh=>by
        rw[hφ2];(try simp only);rw[if_pos hlt];exact .inl ⟨j,S,h1,h2,hh⟩
       rcases h3 with⟨ky,off,ds,b,us,g1,rfl,g2,g3,g4,g5,rfl,g6⟩|⟨e,ys,xs,g1,rfl,g2⟩
       .rw[hνold id hlt]at g3 g4 g6 hSφ;obtain⟨b',vs,e1,e2,e3,e4,e5⟩:Wcq G ν st.nx w id (φ id) (.box ky):=hφ.ob _ _ g1;rw[g3]at e1;injection e1 with e1;subst e1;have cY:us.length=ds.length:=g5.1;have rz:vs.length=ky.length:=e4.1;have dP:∀o,(ν id).off<=o->o<(ν id).off+ky.length->¬((ν id).off+off<=o/\o<(ν id).off+off+ds.length)->φ id b o/\¬Tk φ st.objs bx A.all b o:=λo k1 k2 k3=>by
         have hφo:=e5 b o ⟨rfl,k1,k2⟩;refine⟨hφo,λ⟨i,hi,k4,k5,k6⟩=>?_⟩;have:=hφ.inj i id b o k4 aB k5 hφo;subst this;obtain⟨_,k7,k8⟩:=k6 _ g6 rfl;exact k3 ⟨k7,k8⟩
        refine⟨b,_,by rw[hνold id hlt];exact g3,by rw[hνold id hlt,Wex g2];exact hA2.le.rows.row _ _ e2,?_,WeQ (e4.mono sI hνold (by omega)) g5,?_⟩
        .rw[hνold id hlt];refine Wtf e3 g4 (by omega) (λj hj hn=>?_);obtain⟨k1,k2⟩:=dP ((ν id).off+j) (by omega) (by omega) (λ⟨k3,k4⟩=>hn ⟨by omega,by omega⟩);exact hA2.le.cell b _ (hφ.bl id b _ aB k1) (λmS=>k2 (hTk b _ mS))
        .rw[hνold id hlt,Wex g2];intro b' o ⟨k0,k1,k2⟩;subst k0;by_cases eT:(ν id).off+off<=o/\o<(ν id).off+off+ds.length
         .exact hSφ b' o ⟨rfl,eT.1,eT.2⟩
         .rw[hφ2];(try simp only);rw[if_pos hlt];exact .inr (dP o k1 k2 eT)
       .exact WcJ (λ_ _ _ hh=>hh) (Same.refl _ w') hSφ g2
      .have kQ:Live st.objs id:=⟨ob,h1,cO⟩;have hlt:=hφ.lt id kQ;have uL:∀b o,φ id b o->¬Tk φ st.objs bx A.all b o:=λb o hp ⟨i,hi,k1,k2,_⟩=>by
        have:=hφ.inj i id b o k1 kQ k2 hp;subst this;exact h2 hi
       refine Wdl sI (hA2.le.same (λb o mS hp=>uL b o hp (hTk b o mS)) (λb o hp=>hφ.bl id b o kQ hp)) (λb o hp=>?_) hνold (by omega) hlt ob (hφ.ob id ob h1);rw[hφ2];(try simp only);rw[if_pos hlt];exact .inr ⟨hp,uL b o hp⟩
    gf:=λid b off hl hp=>by
     rcases aq id b off hl hp with⟨pos,S,h1,h2,_⟩|⟨h1,h2,h3,_⟩
     .exact sL S (ij h1) b off h2
     .exact sM id b off h1 h2 h3
    inj:=λid bL b off hl bK hp df=>by
     have key:∀bL,Live st.objs bL->φ bL b off->¬Tk φ st.objs bx A.all b off->∀(pos:Nat) (S:CS),(kf++fps (ms++cF))[pos]?=some S->S b off->False:=λbL g1 g2 g3 pos S g4 g5=>by
      rcases(hown S (ij g4) b off g5).2.1 with g6|g6
      .exact g3 (hTk b off g6)
      .have:=hφ.bl bL b off g1 g2;omega
     rcases aq id b off hl hp with⟨pos,S,h1,h2,he⟩|⟨h1,h2,h3,h4⟩<;>rcases aq bL b off bK df with⟨sN,S',gG,iD,ew⟩|⟨gG,iD,cX,h4'⟩
     .have:=Wkh hA2.sep h1 gG h2 iD;subst this;rw[he,ew]
     .exact(key bL gG iD cX pos S h1 h2).elim
     .exact(key id h1 h2 h3 sN S' gG iD).elim
     .exact hφ.inj id bL b off h1 gG h2 iD
    own:=λid b off hl hp=>by
     rcases aq id b off hl hp with⟨pos,S,h1,h2,_⟩|⟨h1,h2,h3,_⟩
     .rcases(hown S (ij h1) b off h2).2.1 with h5|h5
      .obtain⟨i,hi,h6,h7,_⟩:=hTk b off h5;exact hφ.own i b off h6 h7
      .exact .inl (Xcr hφ.le.size h5)
     .exact hφ.own id b off h1 h2
    lt:=λid ⟨ob,hl,cO⟩=>by
     rcases gO id ob hl cO with⟨_,h2,_⟩|⟨j,S,h1,_⟩|⟨h1,h2⟩
     .exact h2
     .have:=kY id (Xaw h1);omega
     .have:=hφ.lt id ⟨ob,h1,cO⟩;omega
    bl:=λid b off hl hp=>by
     rcases aq id b off hl hp with⟨pos,S,h1,h2,_⟩|⟨h1,h2,h3,_⟩
     .exact(hown S (ij h1) b off h2).2.2
     .exact Nat.lt_of_lt_of_le (hφ.bl id b off h1 h2) hA2.le.size
    le:=hφ.le.trans hA2.le (λb off mS=>by
     obtain⟨i,hi,h6,h7,_⟩:=hTk b off mS;exact hφ.own i b off h6 h7)}
   have hR:=hr.on sI hνold (by omega) ⟨φ2,hH⟩ sK;have hR2:=hR.put (dst:=o.dst) hd (Wr2 wX);rw[lZ]at hk;exact hK _ _ _ _ _ hR2 hk
  .cases h
 .cases h
theorem Wu1{Γ:Ctx}(hΓ:WeT P Γ)(hr:Rel w0 F nt G0 G ν st a w){o:Oper}(hd:∀d,o.dst=some d->nt.Ok d){c:Call}{f:Operand}{g:FuncId}{caps:List Nat}{xs:List AVal}{sg:Sig}{R:Type}{k:St->Option R}{r:R}
  (ho:o.op= .call c) (hc:c.callee= .value f) (hf:ev st f=some (.s (.one (.clos g caps)))) (mT:evs st c.args.toList=some xs) (mP:look Γ g=some sg)
  (h:Wlg sg st (xs++Wi4 caps) (λx objs nx=>k (({env:=st.env,objs:=objs,nx:=nx}:St).put o.dst x))=some r) {K:Act->World->Prop} {Q:Exit->Act->World->Prop}
  (hK:∀ah a' w' G' ν',Rel w0 F nt G0 G' ν' ah a' w'->k ah=some r->K a' w'):o.wp P a w K Q:=by
 obtain⟨⟨cvs,pF,hcl,hcv⟩,_⟩:=WE hr f _ hf;obtain⟨iE,wY⟩:=Wp8 hr _ _ mT;have hlen:(xs++Wi4 caps).length=(c.args.toList.map a.eval++cvs).length:=by simp[iE,Wi4,hcl]
 have hargs:∀(j:Nat) (x:AVal) (v:Value),(xs++Wi4 caps)[j]?=some x->(c.args.toList.map a.eval++cvs)[j]?=some v->AValRel G ν st.nx x v:=λj x v hj hv=>by
  rw[Xaz]at hj hv;rw[Xy,←iE]at hv;split at hj
  .rename_i hlt;rw[if_pos hlt]at hv;exact wY j x v hj hv
  .rename_i hlt;rw[if_neg hlt]at hv;simp only[Wi4,Xap]at hj;cases hcj:caps[j-xs.length]? with
   |none=>simp[hcj]at hj
   |some id=>
    simp[hcj]at hj;subst hj;obtain⟨h1,h3,h2⟩:=hcv _ id v hcj hv;exact⟨⟨h1,h2⟩,h3⟩
 unfold Wlg at h;cases rH:sg.fresh with
 |true=>
  rw[rH]at h;exact WjW hΓ hr hd ho hc pF mP hlen hargs h hK
 |false=>
  rw[rH]at h;simp only[cond_false]at h;split at h
  .rename_i A hA;split at h
   .exact WjW hΓ hr hd ho hc pF mP hlen hargs h hK
   .obtain⟨G1,hz⟩:=hr.frz A.lent;refine WjW hΓ hz.rel hd ho hc pF mP (by simpa using hlen) (λj x v hj hv=>?_) h hK;rw[Xap]at hj;obtain⟨y,hy,rfl⟩:=Xab.1 hj;exact hz.val y v (hargs j y v hy hv)
  .cases h
end
end Go.Sx
namespace Go.Sx
set_option linter.unusedVariables false
set_option linter.unusedSimpArgs false
section
variable{w0:World}{F:CS}{nt:Slots}{G0 G G':GH}{ν:Nat->Nu}{objs:Wab}{nx:Nat}{st ah:St}{a:Act}{w w':World}{P:Program}{T:Tab}{Γ:Ctx}
theorem Done.wp{o:Oper}{ah:St}(h:Done P w0 F nt G0 o a w ah){K:Act->World->Prop}{Q:Exit->Act->World->Prop}
  (hK:∀a' w' G' ν',Rel w0 F nt G0 G' ν' ah a' w'->K a' w'):o.wp P a w K Q:=by
 obtain⟨n,v,w',G',ν',h1,h2,h3⟩:=h;unfold Oper.wp;rw[h1];rcases h2 with rfl|⟨rfl,rfl⟩
 .exact hK _ _ _ _ h3
 .exact hK _ _ _ _ h3
theorem WlL{t:TypeId}{x v:AVal}{ah:St}(h:WcF T st t x v=some ah):({env:=st.env,objs:=ah.objs,nx:=ah.nx}:St)=ah:=by
 unfold WcF at h;split at h
 .split at h
  .split at h
   .injection h with h;subst h;rfl
   .cases h
  .cases h
 .split at h
  .split at h
   .split at h
    .injection h with h;subst h;rfl
    .cases h
   .split at h
    .split at h
     .split at h
      .injection h with h;subst h;rfl
      .cases h
     .cases h
    .cases h
  .cases h
 .cases h
theorem WaD{R:Type}{c:Bool}{x:Option R}{r:R}(h:(bif c then x else none)=some r):c=true/\x=some r:=by
 cases c
 .cases h
 .exact⟨rfl,h⟩
theorem WbP{R:Type}{c:Prop}[Decidable c]{x:Option R}{r:R}(h:(if c then x else none)=some r):c/\x=some r:=by
 split at h
 .exact⟨by assumption,h⟩
 .cases h
theorem Wlv{e:Ty}{ps:List (Nat×AVal)}{R:Type}{k:KV R}{r:R}(h:Wde st e ps k=some r):
  ∃x ds d m,ps= [(0,x)]/\WgF (WgQ st.objs (WgN e x) x)=some ds/\Wao e ds (WdB st.objs (WgN e x))=some (d,m,[])/\Wbl m=true/\
   k (.s (.one (.own st.nx))) ((st.nx,.arr e [d])::kill (WdB st.objs (WgN e x)) m) (st.nx+1)=some r:=by
 match ps with
 | [p]=>
  simp only[Wde]at h;obtain⟨hp,h⟩:=WbP h;split at h
  .rename_i ds gu;split at h
   .rename_i d m hf;obtain⟨aW,h⟩:=WbP h;exact⟨p.2,ds,d,m,by rw[←hp],gu,hf,aW,h⟩
   .cases h
  .cases h
 | []=>cases h
 |_::_::_=>cases h
theorem Wnx(hT:Waf P T)(hr:Rel w0 F nt G0 G ν st a w){o:Oper}(hd:∀d,o.dst=some d->nt.Ok d){R:Type}{k:St->Option R}{r:R}
  (h:(match Wad T st o.op with|some (c,v)=>bif c then k (({env:=st.env,objs:=st.objs,nx:=st.nx}:St).put o.dst v)else none|none=>none)=some r)
  {K:Act->World->Prop} {Q:Exit->Act->World->Prop} (hK:∀ah a' w' G' ν',Rel w0 F nt G0 G' ν' ah a' w'->k ah=some r->K a' w'):o.wp P a w K Q:=by
 split at h
 .rename_i c v hp;obtain⟨rfl,h⟩:=WaD h;exact(Wrr hT hr hd hp).wp λa' w' G' ν' bh=>hK _ _ _ _ _ bh h
 .cases h
theorem Wru(hT:Waf P T)(hΓ:WeT P Γ)(hr:Rel w0 F nt G0 G ν st a w){o:Oper}(hd:∀d,o.dst=some d->nt.Ok d){A:List (Nat×An)}{R:Type}{k:St->Option R}{r:R}(h:rx1 T Γ A o st k=some r)
  {K:Act->World->Prop} {Q:Exit->Act->World->Prop} (hK:∀ah a' w' G' ν',Rel w0 F nt G0 G' ν' ah a' w'->k ah=some r->K a' w'):o.wp P a w K Q:=by
 unfold rx1 rxe at h;split at h
 .rename_i t ho;split at h
  .rename_i e n et hl;obtain⟨hc,h⟩:=WbP h;simp only[Xi]at hc;exact(WkG hT hr hd ho hl hc.1 hc.2).wp λa' w' G' ν' bh=>hK _ _ _ _ _ bh h
  .rename_i te _ hl;obtain⟨hc,h⟩:=WbP h;exact(Wo2 hT hr hd ho hl hc).wp λa' w' G' ν' bh=>hK _ _ _ _ _ bh h
  .cases h
 .rename_i t x ho;split at h
  .rename_i te cs hl hb;cases hv:ev st x with
   |none=>simp[hv]at hb
   |some v=>
    simp only[hv,Xd]at hb;exact(Wty hr hd ho hv hb).wp λa' w' G' ν' bh=>hK _ _ _ _ _ bh h
  .cases h
 .rename_i t parts ho;split at h
  .rename_i ty fs ps hl cb;obtain⟨hc,h⟩:=WbP h;split at h
   .rename_i cs hf;refine(WoN hT hr hd ho hl cb hf ?_).wp λa' w' G' ν' bh=>hK _ _ _ _ _ bh h;intro f hf;have:=Xak.1 hc f hf;split at this
    .rename_i te bF;exact⟨te,bF,this⟩
    .cases this
   .cases h
  .cases h
 .rename_i t n parts ho;split at h
  .rename_i ty et ps hl cb;split at h
   .rename_i te hle;split at h
    .rename_i e _;obtain⟨hc,h1⟩:=WbP h;clear h;simp only[Xi,decide_eq_true_eq]at hc;obtain⟨⟨⟨hn,he⟩,hp⟩,hsz⟩:=hc;obtain⟨x,ds,d,m,rfl,gu,hf,aW,h⟩:=Wlv h1;clear h1;subst hn;have aW:=(WcK _).1 aW;obtain⟨G1,hz⟩:=hr.frz (WgN e x);obtain⟨p1,p2⟩:=WfC hr _ _ cb;have eN:∃y,parts.toList= [(0,y)]/\AValRel G ν st.nx x (a.eval y):=by
      match gI:parts.toList,p1 with
      | [q],_=>
       rw[gI]at p2;obtain⟨q1,q2⟩:=p2 0 _ q rfl rfl;refine⟨q.2,?_,q2⟩;have:q=(0,q.2):=Prod.ext q1.symm rfl;rw[←this]
     obtain⟨y,wZ,w4⟩:=eN;exact(Wli hT hz.rel hd ho wZ hl hle (hz.val _ _ w4) gu hf aW he hp hsz).wp λa' w' G' ν' bh=>hK _ _ _ _ _ bh h
    split at h
    .rename_i xs hf;obtain⟨hc,h⟩:=WbP h;simp only[Xi,decide_eq_true_eq]at hc;obtain⟨G1,hz⟩:=hr.frz (WjP ps);obtain⟨p1,p2⟩:=WfC hr _ _ cb;exact(WhA hT hz.rel hd ho hl hle (by simpa [WkJ]using p1) (λj p q hp hq=>by
      simp only[WkJ,Xap]at hp;obtain⟨y,hy,rfl⟩:=Xab.1 hp;exact⟨(p2 j y q hy hq).1,hz.val _ _ (p2 j y q hy hq).2⟩) hf hc.1.1 hc.1.2 hc.2).wp λa' w' G' ν' bh=>hK _ _ _ _ _ bh h
    .cases h
   .cases h
  .cases h
 .rename_i t n c ho;split at h
  .rename_i ty et n' c' hl hn hc;split at h
   .rename_i te hle;obtain⟨k1,sG⟩:∃k,a.eval n= .int k n':=by
     cases hv:ev st n with
     |none=>simp[hv]at hn
     |some v=>simp only[hv,Xd]at hn;exact Wfx _ _ _ (WE hr n _ hv) hn
    obtain⟨k2,kB⟩:∃k,a.eval c= .int k c':=by
     cases hv:ev st c with
     |none=>simp[hv]at hc
     |some v=>simp only[hv,Xd]at hc;exact Wfx _ _ _ (WE hr c _ hv) hc
    split at h
    .obtain⟨la,h⟩:=WbP h;obtain⟨hb,h⟩:=WaD h;simp only[Xi,decide_eq_true_eq]at hb la;exact(Wh0 hT hr hd ho hl hle sG kB hb.1.1 hb.1.2 hb.2 la.1 la.2).wp λa' w' G' ν' bh=>hK _ _ _ _ _ bh h
    .obtain⟨la,h⟩:=WbP h;obtain⟨hb,h⟩:=WaD h;simp only[Xi,decide_eq_true_eq]at hb la;exact(WiN hT hr hd ho hl hle sG kB hb.1.1 hb.1.2 hb.2 la.1 la.2).wp λa' w' G' ν' bh=>hK _ _ _ _ _ bh h
   .cases h
  .cases h
 .rename_i t x y ho;split at h
  .rename_i p v hp hv;split at h
   .rename_i ah hs;split at h
    .rename_i iF;have h:k (({env:=st.env,objs:=ah.objs,nx:=ah.nx}:St).put o.dst (.tup []))=some r:=h;obtain⟨G1,hz⟩:=hr.frz (Wfo st.objs p v);have bq:=WlL hs;simp only at bq;rw[bq,iF]at h;exact(Wo0 hT hz.rel ho iF (AValRel.mono hz.le (λ_ _=>rfl) (Xn _) _ _ (WE hr x _ hp)) (hz.val _ _ (WE hr y _ hv)) hs).wp λa' w' G' ν' bh=>hK _ _ _ _ _ bh h
    .cases h
   .cases h
  .cases h
 .rename_i t x lo hi ho;split at h
  .rename_i id hx;split at h
   .rename_i ty et l hh hl ba oo;split at h
    .rename_i te hle;split at h
     .obtain⟨hp,h⟩:=WbP h;obtain⟨ah,hk,ff⟩:=Wqb hT hr hd ho hx hl hle hp ba oo h;exact ff.wp λa' w' G' ν' bh=>hK _ _ _ _ _ bh hk
     .split at h
      .rename_i h' e xs _ az;obtain⟨⟨he,hp⟩,h⟩:=WbP h;obtain⟨hb,h⟩:=WaD h;simp only[Xi,decide_eq_true_eq]at hb;exact(Wpm hT hr hd ho hx hl hle hp he az ba oo hb.1 hb.2).wp λa' w' G' ν' bh=>hK _ _ _ _ _ bh h
      .rename_i h' e xs i p _ az;obtain⟨⟨he,hp,sF⟩,h⟩:=WbP h;obtain⟨hb,h⟩:=WaD h;simp only[Xi,decide_eq_true_eq]at hb;exact(WiH hT hr hd ho hx hl hle hp he az sF ba oo hb.1.1 hb.1.2 hb.2).wp λa' w' G' ν' bh=>hK _ _ _ _ _ bh h
      .cases h
    .cases h
   .cases h
  .rename_i hx;exact Wnx hT hr hd (by rw[ho];rw[ho]at h;exact h) hK
 .rename_i c ho;split at h
  .rename_i s x t t2 hc ha cZ;split at h
   .rename_i sv xv hs hx;obtain⟨ah,hk,ff⟩:=Wnb hT hr hd ho hc ha cZ hs hx h;exact ff.wp λa' w' G' ν' bh=>hK _ _ _ _ _ bh hk
   .cases h
  .rename_i x t hc ha cZ;split at h
   .rename_i id lo hi hx;split at h
    .rename_i ty et e xs hl az;split at h
     .rename_i te hle;obtain⟨⟨he,hp,aZ⟩,h⟩:=WbP h;exact(Wo7 hT hr hd ho hc ha cZ hx hl hle az he hp aZ).wp λa' w' G' ν' bh=>hK _ _ _ _ _ bh h
     .cases h
    .cases h
   .cases h
  .exact Wnx hT hr hd h hK
  .rename_i f args _ hc;split at h
   .rename_i g caps xs hf mT;split at h
    .rename_i sg mP;exact Wu1 hΓ hr hd ho hc hf mT mP h hK
    .cases h
   .cases h
  .cases h
 .exact Wnx hT hr hd h hK
end
end Go.Sx
namespace Go.Sx
set_option linter.unusedVariables false
set_option linter.unusedSimpArgs false
section
variable{w0:World}{F:CS}{nt:Slots}{G0 G G':GH}{ν ν':Nat->Nu}{φ φ':Nat->CS}{objs objs':Wab}{nx ak:Nat}{st ah:St}{a:Act}{w w':World}{P:Program}{T:Tab}{Γ:Ctx}
theorem Rel.rebind(h:Rel w0 F nt G0 G ν st a w){i:Nat}{x:AVal}{v:Value}(hv:a.tmps[i]?=some v)(hx:AValRel G ν st.nx x v):Rel w0 F nt G0 G ν (st.put (some i) x) a w:=
 ⟨h.defers,h.ntm,h.par,λj y hy=>by
  simp only[St.put]at hy;rw[Wy]at hy;split at hy
  .rename_i e;subst e;injection hy with hy;subst hy;exact⟨v,hv,hx⟩
  .exact h.env j y hy,h.h,h.gx⟩
theorem CellsRel.set{cs:List Cell}{vs:List Value}(h:CellsRel G ν nx cs vs){off:Nat}{c:Cell}(hc:∀v,vs[off]?=some v->CellRel G ν nx c v):CellsRel G ν nx (cs.set off c) vs:=by
 refine⟨by simp[h.1],λj d v hd hv=>?_⟩;rw[List.getElem?_set]at hd;split at hd
 .rename_i e;subst e;split at hd
  .rename_i hlt;injection hd with hd;subst hd;exact⟨hc v hv,(h.2 off cs[off] v (Xp hlt) hv).2⟩
  .cases hd
 .exact h.2 j d v hd hv
theorem HRel.mk_box(h:HRel w0 F G ν objs nx w){id:Nat}{cs cs':List Cell}(ho:look objs id=some (.box cs))(hl:cs'.length=cs.length)
  (hc:∀vs,CellsRel G ν nx cs vs->CellsRel G ν nx cs' vs):HRel w0 F G ν ((id,.box cs')::objs) nx w:=by
 obtain⟨φ,h⟩:=h;have aB:Live objs id:=⟨_,ho,by simp⟩;obtain⟨b,vs,h1,h2,h3,h4,h5⟩:Wcq G ν nx w id (φ id) (.box cs):=h.ob _ _ ho;exact⟨_,h.put (ν':=ν) (m:=[]) (λ_ _=>rfl) (Xn _) (h.lt id aB) (WLe.refl _ w) (λb o hh=>.inl ⟨id,.inl rfl,aB,hh⟩) (λ_=>⟨b,vs,h1,by rw[hl];exact h2,h3,hc _ h4,by rw[hl];exact h5⟩)⟩
theorem HRel.empt(h:HRel w0 F G ν objs nx w){id:Nat}{e e':Ty}(ho:look objs id=some (.arr e' []))(hs:e.size=e'.size):HRel w0 F G ν ((id,.arr e [])::objs) nx w:=by
 obtain⟨φ,h⟩:=h;have aB:Live objs id:=⟨_,ho,by simp⟩;have az:Wcq G ν nx w id (φ id) (.arr e' []):=h.ob _ _ ho;have az:OwnL w (TyRel G w e') e'.size (ν id) [] (φ id):=az;refine⟨_,h.put (ν':=ν) (m:=[]) (λ_ _=>rfl) (Xn _) (h.lt id aB) (WLe.refl _ w) (λb o hh=>.inl ⟨id,.inl rfl,aB,hh⟩) (λ_=>?_)⟩;show OwnL w (TyRel G w e) e.size (ν id) [] (φ id);rw[hs];unfold OwnL at*;refine⟨az.1,az.2.1,?_⟩;have h3:=az.2.2;cases hb:(ν id).blk with
 |none=>rfl
 |some b=>
  rw[hb]at h3;obtain⟨a1,a2,a3,cs,ps,a4,a5,a6,a7⟩:=h3;exact⟨a1,a2,a3,cs,ps,by simpa [EncP]using a4,a5,a6,a7⟩
theorem HRel.adopt(h:HRel w0 F G ν objs nx w)(e:Ty):HRel w0 F G (upd ν nx ⟨none,0,0,0,e.size⟩) ((nx,.arr e [])::objs) (nx+1) w:=by
 obtain⟨φ,h⟩:=h;refine⟨_,h.put (m:=[]) (S:=λ_ _=>False) (We6 ν nx _) (Xdm _) (Xbz _) (WLe.refl _ w) (λb o hh=>hh.elim) (λ_=>?_)⟩;show OwnL _ _ _ (upd ν nx ⟨none,0,0,0,e.size⟩ nx) _ _;rw[Wbo];exact⟨rfl,rfl,rfl⟩
theorem WjA(e:Ty):CellRel G (upd ν nx ⟨none,0,0,0,e.size⟩) (nx+1) (.own nx) (.slice none 0 0):=
 ⟨Xbz _,by rw[Wbo];rfl⟩
theorem HRel.solo(h:HRel w0 F G ν objs nx w){id lo hi:Nat}{e:Ty}{xs:List e.den}(ho:look objs id=some (.arr e xs))(h1:lo<=hi)(h2:hi<=(ν id).len):
  HRel w0 F G (upd ν nx ((ν id).part lo hi)) ((nx,.arr e ((xs.take hi).drop lo))::(id,.dead)::objs) (nx+1) w:=by
 obtain⟨φ,h⟩:=h;have aB:Live objs id:=⟨_,ho,by simp⟩;have hown:OwnL w (TyRel G w e) e.size (ν id) xs (φ id):=h.ob _ _ ho;refine⟨_,h.put (m:=[id]) (S:=φ id) (We6 ν nx _) (Xdm _) (Xbz _) (WLe.refl _ w) (λb o hh=>.inl ⟨id,.inr (by simp),aB,hh⟩) (λ_=>?_)⟩;show OwnL _ _ _ (upd ν nx ((ν id).part lo hi) nx) _ _;rw[Wbo];exact WlP hown h1 h2
theorem Wmt{id lo hi:Nat}:CellRel G (upd ν nx ((ν id).part lo hi)) (nx+1) (.own nx) ((ν id).vhdr lo hi):=
 ⟨Xbz _,by rw[Wbo,Wkg]⟩
theorem Wny(h:Rel w0 F nt G0 G ν st a w){p:Nat}(hg:WnM st p=some ah):Rel w0 F nt G0 G ν ah a w:=by
 unfold WnM at hg;split at hg
 .rename_i r _;split at hg
  .rename_i e xs i p' cs ba fe;split at hg
   .rename_i d m hf;split at hg
    .rename_i bs;injection hg with hg;subst hg;simp only[Xi]at bs;obtain⟨hp,aW⟩:=bs;have hp:=Xce hp;subst hp;have aW:=(WcK _).1 aW;obtain⟨n1,n2⟩:=Xaj.1 aW;obtain⟨n3,n4⟩:=Xaj.1 n2;obtain⟨φ,hφ⟩:=h.h;have aB:Live st.objs r:=⟨_,ba,by simp⟩;have dw:Live st.objs p:=⟨_,fe,by simp⟩;obtain⟨kN,hole⟩:p<st.nx/\Whi w (TyRel G w e) e.size (ν r) (ν p) xs i (φ r):=hφ.ob _ _ ba;obtain⟨b,us,hb,hrow,hmem,br,eP⟩:Wcq G ν st.nx w p (φ p) (.box cs):=hφ.ob _ _ fe;obtain⟨ns,t1,t2,t3,t4,_⟩:=Wae (G':=G) hφ (λ_ _ _ hh=>hh) e cs us d m [] br (λi hi=>by simp at hi) n4 hf;have cY:=Wx _ _ _ _ t1;rw[←br.1,cY]at eP;have hne:r≠p:=λe=>n1 (by rw[e];exact Xh ..);refine h.on (λ_ _ _ hh=>hh) (λ_ _=>rfl) (Xn _) ⟨_,hφ.put (ν':=ν) (S:=λb o=>φ r b o\/FromL φ st.objs (p::m) b o) (λ_ _=>rfl) (Xn _) (hφ.lt r aB) (WLe.refl _ w) (λb o hh=>?_) (λ_=>?_)⟩ h.gx
     .rcases hh with hh|⟨j,hj,h1,h2⟩
      .exact .inl ⟨r,.inl rfl,aB,hh⟩
      .exact .inl ⟨j,.inr hj,h1,h2⟩
     .refine Woi hole t1 hb hmem eP t2 t3 ?_ ?_ ?_ (λb o hh=>.inl hh) (λb o hh=>.inr ⟨p,Xh ..,dw,hh⟩) (λb o hh=>.inr (FromL.mono (λi hi=>Xe _ hi) b o hh))
      .exactλb o h1 h2=>hne (hφ.inj r p b o aB dw h1 h2)
      .exactλb o h1 ⟨j,hj,h2,h3⟩=>by
        have:=hφ.inj r j b o aB h2 h1 h3;subst this;exact n1 (Xe _ hj)
      .exactλb o h1 ⟨j,hj,h2,h3⟩=>by
        have:=hφ.inj p j b o dw h2 h1 h3;subst this;exact n3 hj
    .cases hg
   .cases hg
  .cases hg
 .cases hg
theorem WiZ(h:Rel w0 F nt G0 G ν st a w){r i:Nat}{e:Ty}{xs:List e.den}(ba:look st.objs r=some (.arr e xs))(hi:i<xs.length)(hg:WmI st r i=some ah):
  ∃ν' b,Rel w0 F nt G0 G ν' ah a w/\st.nx<ah.nx/\(ν r).blk=some b/\(ν' st.nx)=Wb5 b ((ν r).off+i*(ν r).esz)/\ah.env=st.env:=by
 unfold WmI at hg;rw[ba]at hg;simp only[Option.some.injEq]at hg;subst hg;obtain⟨φ,hφ⟩:=h.h;have aB:Live st.objs r:=⟨_,ba,by simp⟩;have hown:OwnL w (TyRel G w e) e.size (ν r) xs (φ r):=hφ.ob _ _ ba;obtain⟨g1,g2,g3⟩:=hown;have sO:=hφ.lt r aB;cases hb:(ν r).blk with
 |none=>simp only[hb]at g3;rw[g3]at hi;simp at hi
 |some b=>
  simp only[hb]at g3;obtain⟨g4,g5,g6,cs,ps,g7,g8,g9,pg⟩:=g3;obtain⟨c1,c,c2,p1,pc,p2,k1,k2,k3,k4,k5⟩:=WnJ g7 e.dflt hi;have l1:=WaQ (λx c q hx=>Wx e x c q hx) _ _ _ k3;rw[Xal,Xci (by omega)]at l1;have lc:=Wx _ _ _ _ k4;have lo:=W3 _ _ _ _ k4;have e1:(i+1)*e.size=i*e.size+e.size:=Xcc i e.size;have e2:((ν r).cap-(i+1))*e.size+(i+1)*e.size=(ν r).cap*e.size:=by rw[←Xcy];congr 1;omega
  have pI:=WaE e (xs.getD i e.dflt) (st.nx+1);have cY:=WbY e (xs.getD i e.dflt) (st.nx+1);rw[k1]at g8;have m1:Mem w b (ν r).off c1:=g8.left;have m2:Mem w b ((ν r).off+i*e.size) c:=(g8.right l1).left;have m3:Mem w b ((ν r).off+(i+1)*e.size) c2:=by
   have:=(g8.right l1).right lc;rw[Xas,←e1]at this;exact this
  obtain⟨q1,q2⟩:=Xz.1 g9;have fL:=pg _ (Xh ..);have kT:∀p∈p1++(pc++p2),CS.le p.fp (φ r):=λp hp=>pg _ (Xe _ (Xan (by rw[k2];exact hp)));have oq:∀p∈p1++(pc++p2),CS.disj (rng b (ν r).off ((ν r).cap*e.size)) p.fp:=λp hp=>q1 _ (Xan (by rw[k2];exact hp));rw[k2,Xr,Xr]at q2;obtain⟨s1,s2,s3⟩:=Xag.1 q2;obtain⟨s4,s5,s6⟩:=Xag.1 s2;have rA:CS.le (rng b (ν r).off (i*e.size)) (rng b (ν r).off ((ν r).cap*e.size)):=λb o ⟨x0,x1,x2⟩=>⟨x0,by omega,by omega⟩;have rB:CS.le (rng b ((ν r).off+i*e.size) e.size) (rng b (ν r).off ((ν r).cap*e.size)):=λb o ⟨x0,x1,x2⟩=>⟨x0,by omega,by omega⟩;have rC:CS.le (rng b ((ν r).off+(i+1)*e.size) (((ν r).cap-(i+1))*e.size)) (rng b (ν r).off ((ν r).cap*e.size)):=λb o ⟨x0,x1,x2⟩=>⟨x0,by omega,by omega⟩;obtain⟨SR,hSR⟩:∃SR:CS,SR= λb' o=>rng b (ν r).off (i*e.size) b' o\/rng b ((ν r).off+(i+1)*e.size) (((ν r).cap-(i+1))*e.size) b' o\/∃p∈p1++p2,p.fp b' o:=⟨_,rfl⟩;have hSRφ:CS.le SR (φ r):=λb o hh=>by
   rw[hSR]at hh;rcases hh with hh|hh|⟨p,hp,hh⟩
   .exact fL b o (rA b o hh)
   .exact fL b o (rC b o hh)
   .refine kT p ?_ b o hh;rcases Xl.1 hp with hp|hp
    .exact Xk _ hp
    .exact Xg _ (Xg _ hp)
  obtain⟨ν',hν'⟩:∃ν':Nat->Nu,ν'= λj=>if j<st.nx then ν j else if j=st.nx then Wb5 b ((ν r).off+i*e.size)else((nus pc)[j-(st.nx+1)]?).getD ⟨none,0,0,0,0⟩:=⟨_,rfl⟩;obtain⟨φ',hφ'⟩:∃φ':Nat->CS,φ'= λj=>if j=r then SR else if j<st.nx then φ j else if j=st.nx then rng b ((ν r).off+i*e.size) e.size else((fps pc)[j-(st.nx+1)]?).getD (λ_ _=>False):=⟨_,rfl⟩;have hνold:Wrl st.nx ν ν':=λj hj=>by rw[hν'];simp[hj]
  have hνp:ν' st.nx=Wb5 b ((ν r).off+i*e.size):=by rw[hν'];simp
  have hφr:φ' r=SR:=by rw[hφ'];simp
  have hφp:φ' st.nx=rng b ((ν r).off+i*e.size) e.size:=by rw[hφ'];simp;omega
  have hφold:∀j,j<st.nx->j≠r->φ' j=φ j:=λj hj hn=>by rw[hφ'];simp[hj,hn]
  have hAt:At ν' φ' (st.nx+1) pc:=λj q hj=>by
   have x1:(nus pc)[j]?=some q.nu:=by unfold nus;rw[Xap,hj];rfl
   have x2:(fps pc)[j]?=some q.fp:=by unfold fps;rw[Xap,hj];rfl
   rw[hν',hφ'];constructor
   .show(if st.nx+1+j<st.nx then _ else if st.nx+1+j=st.nx then _ else _)=_;rw[if_neg (by omega),if_neg (by omega),Xbe,x1];rfl
   .show(if st.nx+1+j=r then _ else if st.nx+1+j<st.nx then _ else if st.nx+1+j=st.nx then _ else _)=_;rw[if_neg (by omega),if_neg (by omega),if_neg (by omega),Xbe,x2];rfl
  obtain⟨uc,uo⟩:=Waq (ν:=ν') (φ:=φ') e (xs.getD i e.dflt) (st.nx+1) c pc k4 hAt;have gO:∀id ob,look ((r,Ob.hole e xs i st.nx)::(st.nx,Ob.box (unfold e (xs.getD i e.dflt) (st.nx+1)).1)::((unfold e (xs.getD i e.dflt) (st.nx+1)).2.1++st.objs)) id=some ob->ob≠ .dead->
    (id=r/\ob= .hole e xs i st.nx)\/(id=st.nx/\ob= .box (unfold e (xs.getD i e.dflt) (st.nx+1)).1)\/(st.nx+1<=id/\id<st.nx+1+e.owns/\WoX G ν' φ' w id ob)\/(id≠r/\id<st.nx/\look st.objs id=some ob):=λid ob hl hd=>by
   rw[Wy]at hl;split at hl
   .rename_i x;injection hl with hl;exact .inl ⟨x.symm,hl.symm⟩
   .rename_i rD;rw[Wy]at hl;split at hl
    .rename_i x;injection hl with hl;exact .inr (.inl ⟨x.symm,hl.symm⟩)
    .rcases WD hl with hl|hl
     .obtain⟨x1,x2,x3⟩:=uo id ob hl;exact .inr (.inr (.inl ⟨x1,x2,x3⟩))
     .exact .inr (.inr (.inr ⟨λx=>rD x.symm,hφ.lt id ⟨ob,hl,hd⟩,hl⟩))
  have fg:∀id b' o,Live ((r,Ob.hole e xs i st.nx)::(st.nx,Ob.box (unfold e (xs.getD i e.dflt) (st.nx+1)).1)::((unfold e (xs.getD i e.dflt) (st.nx+1)).2.1++st.objs)) id->φ' id b' o->
    (id=r/\SR b' o)\/(id=st.nx/\rng b ((ν r).off+i*e.size) e.size b' o)\/(∃(j:Nat) (q:Pc),id=st.nx+1+j/\pc[j]?=some q/\q.fp b' o)\/(id≠r/\id<st.nx/\Live st.objs id/\φ id b' o):=λid b' o ⟨ob,hl,hd⟩ hp=>by
   rcases gO id ob hl hd with⟨rfl,_⟩|⟨rfl,_⟩|⟨x1,x2,_⟩|⟨x1,x2,x3⟩
   .rw[hφr]at hp;exact .inl ⟨rfl,hp⟩
   .rw[hφp]at hp;exact .inr (.inl ⟨rfl,hp⟩)
   .right;right;left;have hlt:id-(st.nx+1)<pc.length:=by omega
    refine⟨id-(st.nx+1),pc[id-(st.nx+1)],by omega,Xp hlt,?_⟩;have:=(hAt (id-(st.nx+1)) _ (Xp hlt)).2;rw[show st.nx+1+(id-(st.nx+1))=id by omega]at this;rw[this]at hp;exact hp
   .rw[hφold id x2 x1]at hp;exact .inr (.inr (.inr ⟨x1,x2,⟨ob,x3,hd⟩,hp⟩))
  have hq:∀(j:Nat) (q:Pc),pc[j]?=some q->q∈p1++(pc++p2):=λj q hj=>Xg _ (Xk _ (Xaw hj));have dZ:∀id b' o,(id=r/\SR b' o)\/(id=st.nx/\rng b ((ν r).off+i*e.size) e.size b' o)\/(∃(j:Nat) (q:Pc),id=st.nx+1+j/\pc[j]?=some q/\q.fp b' o)->φ r b' o:=λid b' o hh=>by
   rcases hh with⟨_,hh⟩|⟨_,hh⟩|⟨j,q,_,hj,hh⟩
   .exact hSRφ b' o hh
   .exact fL b' o (rB b' o hh)
   .exact kT q (hq j q hj) b' o hh
  have hH:HR w0 F G ν' φ' ((r,Ob.hole e xs i st.nx)::(st.nx,Ob.box (unfold e (xs.getD i e.dflt) (st.nx+1)).1)::((unfold e (xs.getD i e.dflt) (st.nx+1)).2.1++st.objs)) (st.nx+1+e.owns) w:=by
   refine hφ.step (WLe.refl _ w) (λid ob hl hd=>?_) (λid ⟨ob,hl,hd⟩=>?_) (λid b' o jJ hp=>?_) (λid b' o jJ hp=>?_) (λid bL b' o hl bK hp df=>?_)
   .rcases gO id ob hl hd with⟨rfl,rfl⟩|⟨rfl,rfl⟩|⟨x1,x2,e',rI,rfl,x3⟩|⟨x1,x2,x3⟩
    .refine⟨by omega,?_⟩;rw[hφr,hνold id sO,hνp];refine⟨g1,g2,hi,b,hb,rfl,rfl,g4,g5,g6,c1,c2,p1,p2,k3,k5,m1,m3,?_,λs hs b' o hh=>?_⟩
     .refine Xz.2 ⟨λs hs=>?_,Xz.2 ⟨λs hs=>?_,?_⟩⟩
      .rcases Xq.1 hs with rfl|hs
       .exact WsA (by omega)
       .obtain⟨p,hp,rfl⟩:=Xv.1 hs;refine(oq p ?_).mono rA (λ_ _ hh=>hh);rcases Xl.1 hp with hp|hp
        .exact Xk _ hp
        .exact Xg _ (Xg _ hp)
      .obtain⟨p,hp,rfl⟩:=Xv.1 hs;refine(oq p ?_).mono rC (λ_ _ hh=>hh);rcases Xl.1 hp with hp|hp
       .exact Xk _ hp
       .exact Xg _ (Xg _ hp)
      .rw[Xr];exact Xag.2 ⟨s1,s5,λs hs t ht=>s3 s hs t (Xg _ ht)⟩
     .rw[hSR];rcases Xq.1 hs with rfl|hs
      .exact .inl hh
      .rcases Xq.1 hs with rfl|hs
       .exact .inr (.inl hh)
       .obtain⟨p,hp,rfl⟩:=Xv.1 hs;exact .inr (.inr ⟨p,hp,hh⟩)
    .refine⟨b,c,by rw[hνp];rfl,?_,by rw[hνp];exact m2,uc _ (Xn _),?_⟩
     .rw[hνp,cY];obtain⟨row,TT,y1,y2⟩:=g6;exact⟨row,TT,y1,by show(ν r).off+i*e.size+e.size<=row.size;omega⟩
     .rw[hνp,cY,hφp];exactλ_ _ hh=>hh
    .exact x3
    .rw[hφold id x2 x1];exact Wdl (λ_ _ _ hh=>hh) (Same.refl _ w) (λ_ _ hh=>hh) hνold (by omega) x2 ob (hφ.ob id ob x3)
   .rcases gO id ob hl hd with⟨rfl,_⟩|⟨rfl,_⟩|⟨_,x2,_⟩|⟨_,x2,_⟩<;>omega
   .rcases fg id b' o jJ hp with hh|hh|hh|⟨_,_,x3,x4⟩
    .exact .inl ⟨r,aB,dZ id b' o (.inl hh)⟩
    .exact .inl ⟨r,aB,dZ id b' o (.inr (.inl hh))⟩
    .exact .inl ⟨r,aB,dZ id b' o (.inr (.inr hh))⟩
    .exact .inl ⟨id,x3,x4⟩
   .rcases fg id b' o jJ hp with hh|hh|hh|⟨_,_,x3,x4⟩
    .exact hφ.bl r b' o aB (dZ id b' o (.inl hh))
    .exact hφ.bl r b' o aB (dZ id b' o (.inr (.inl hh)))
    .exact hφ.bl r b' o aB (dZ id b' o (.inr (.inr hh)))
    .exact hφ.bl id b' o x3 x4
   .have out:∀bL,bL≠r->Live st.objs bL->φ bL b' o->φ r b' o->False:=λbL y1 y2 y3 y4=>y1 (hφ.inj bL r b' o y2 aB y3 y4);have dSP:SR b' o->∀s,(s=rng b ((ν r).off+i*e.size) e.size\/∃q∈pc,s=q.fp)->s b' o->False:=λy1 s y2 y3=>by
     rw[hSR]at y1;rcases y2 with rfl|⟨q,sP,rfl⟩
     .rcases y1 with y1|y1|⟨p,hp,y1⟩
      .obtain⟨z0,z1,z2⟩:=y1;obtain⟨z3,z4,z5⟩:=y3;omega
      .obtain⟨z0,z1,z2⟩:=y1;obtain⟨z3,z4,z5⟩:=y3;omega
      .refine oq p ?_ b' o (rB b' o y3) y1;rcases Xl.1 hp with hp|hp
       .exact Xk _ hp
       .exact Xg _ (Xg _ hp)
     .have pJ:q∈p1++(pc++p2):=Xg _ (Xk _ sP);rcases y1 with y1|y1|⟨p,hp,y1⟩
      .exact oq q pJ b' o (rA b' o y1) y3
      .exact oq q pJ b' o (rC b' o y1) y3
      .rcases Xl.1 hp with hp|hp
       .exact s3 _ (Xan hp) _ (Xk _ (Xan sP)) b' o y1 y3
       .exact s6 _ (Xan sP) _ (Xan hp) b' o y3 y1
    have dPQ:∀(j:Nat) (q:Pc),pc[j]?=some q->rng b ((ν r).off+i*e.size) e.size b' o->q.fp b' o->False:=λj q hj y1 y2=>oq q (hq j q hj) b' o (rB b' o y1) y2;rcases fg id b' o hl hp with hh|hh|hh|⟨x1,x2,x3,x4⟩<;>rcases fg bL b' o bK df with eU|eU|eU|⟨sQ,x2',rJ,rK⟩
    .rw[hh.1,eU.1]
    .exact(dSP hh.2 _ (.inl rfl) eU.2).elim
    .obtain⟨j,q,_,hj,y⟩:=eU;exact(dSP hh.2 _ (.inr ⟨q,Xaw hj,rfl⟩) y).elim
    .exact(out bL sQ rJ rK (dZ id b' o (.inl hh))).elim
    .exact(dSP eU.2 _ (.inl rfl) hh.2).elim
    .rw[hh.1,eU.1]
    .obtain⟨j,q,_,hj,y⟩:=eU;exact(dPQ j q hj hh.2 y).elim
    .exact(out bL sQ rJ rK (dZ id b' o (.inr (.inl hh)))).elim
    .obtain⟨j,q,_,hj,y⟩:=hh;exact(dSP eU.2 _ (.inr ⟨q,Xaw hj,rfl⟩) y).elim
    .obtain⟨j,q,_,hj,y⟩:=hh;exact(dPQ j q hj eU.2 y).elim
    .obtain⟨j,q,bE,hj,y⟩:=hh;obtain⟨j',q',sR,hj',y'⟩:=eU;have x1:(fps pc)[j]?=some q.fp:=by unfold fps;rw[Xap,hj];rfl
     have x2:(fps pc)[j']?=some q'.fp:=by unfold fps;rw[Xap,hj'];rfl
     have:=Wkh (l:=fps pc) s4 x1 x2 y y';rw[bE,sR,this]
    .exact(out bL sQ rJ rK (dZ id b' o (.inr (.inr hh)))).elim
    .exact(out id x1 x3 x4 (dZ bL b' o (.inl eU))).elim
    .exact(out id x1 x3 x4 (dZ bL b' o (.inr (.inl eU)))).elim
    .exact(out id x1 x3 x4 (dZ bL b' o (.inr (.inr eU)))).elim
    .exact hφ.inj id bL b' o x3 rJ x4 rK
  refine⟨ν',b,?_,?_,rfl,by rw[hνp,g2],rfl⟩
  .have:=h.on (λ_ _ _ hh=>hh) hνold (by omega) ⟨φ',hH⟩ h.gx;rw[pI];exact this
  .show st.nx<(unfold e (xs.getD i e.dflt) (st.nx+1)).2.2;rw[pI];omega
end
end Go.Sx
namespace Go.Sx
set_option linter.unusedVariables false
set_option linter.unusedSimpArgs false
theorem WcX:∀(l:List Nat) (i j:Nat),WrG i l=some j->l[j]?=some i
 | [],i,j,h=>by cases h
 |k::l,i,j,h=>by
  simp only[WrG]at h;split at h
  .rename_i hb;injection h with h;subst h;have:i=k:=by simpa using hb
   rw[this];rfl
  .cases hp:WrG i l with
   |none=>simp[hp]at h
   |some n=>
    simp[hp]at h;subst h;exact WcX l i n hp
theorem Wjl{m:List Nat}:∀(l r:List Nat),WlJ m l=some r->r.length=l.length/\∀(q j:Nat),r[q]?=some j->∃i,l[q]?=some i/\m[j]?=some i
 | [],r,h=>by simp[WlJ]at h;subst h;exact⟨rfl,λq j hq=>by simp at hq⟩
 |i::l,r,h=>by
  simp only[WlJ]at h;split at h
  .rename_i j r' h1 h2;injection h with h;subst h;obtain⟨h3,h4⟩:=Wjl l r' h2;refine⟨by simp[h3],λq j' hq=>?_⟩;cases q with
   |zero=>simp at hq;subst hq;exact⟨i,rfl,WcX m i j h1⟩
   |succ q=>exact h4 q j' (by simpa using hq)
  .cases h
theorem Wb7:∀(n:Nat) (todo acc:List Nat) (objs:Wab),acc.Nodup->(Wk3 n todo acc objs).Nodup
 |0,_,_,_,h=>h
 |n+1,[],acc,objs,h=>h
 |n+1,i::l,acc,objs,h=>by
  simp only[Wk3];split
  .exact Wb7 n l acc objs h
  .rename_i hi;have sS:i∉acc:=λhm=>hi ((WaF i acc).2 hm);have h2:(acc++ [i]).Nodup:=by
    rw[Xah];refine⟨h,by simp,λx hx y hy=>?_⟩;simp at hy;subst hy
    exactλe=>sS (e▸hx)
   split
   .exact Wb7 n _ _ objs h2
   .exact Wb7 n _ _ objs h2
   .exact Wb7 n _ _ objs h2
   .exact Wb7 n _ _ objs h
theorem WgR{m:List Nat}{objs:Wab}:∀(l:List Nat) (j0:Nat) (j:Nat) (ob:Ob),look (WdH m objs j0 l) j=some ob->∃i cq,j0<=j/\l[j-j0]?=some i/\look objs i=some cq/\ob=Wqg m cq
 | [],j0,j,ob,h=>by cases h
 |i::l,j0,j,ob,h=>by
  simp only[WdH]at h;have step:look (WdH m objs (j0+1) l) j=some ob->∃i' cq,j0<=j/\(i::l)[j-j0]?=some i'/\look objs i'=some cq/\ob=Wqg m cq:=λh=>by
   obtain⟨i',cq,h1,h2,h3,h4⟩:=WgR l (j0+1) j ob h;refine⟨i',cq,by omega,?_,h3,h4⟩;rw[show j-j0=(j-(j0+1))+1 by omega];simpa using h2
  split at h
  .rename_i cq ho;rw[Wy]at h;split at h
   .rename_i e;subst e;injection h with h;exact⟨i,cq,Xn _,by simp,ho,h.symm⟩
   .exact step h
  .exact step h
theorem WhG{env:List (Nat×AVal)}{f:AVal->AVal}:∀(l:List Nat) (i:Nat) (x:AVal),look ((Wfr env l).map λp=>(p.1,f p.2)) i=some x->∃y,look env i=some y/\x=f y
 | [],i,x,h=>by cases h
 |j::l,i,x,h=>by
  simp only[Wfr]at h;split at h
  .rename_i y hy;simp only[Xam]at h;rw[Wy]at h;split at h
   .rename_i e;subst e;injection h with h;exact⟨y,hy,h.symm⟩
   .exact WhG l i x h
  .exact WhG l i x h
section
variable{w0:World}{F:CS}{nt:Slots}{G0 G G':GH}{ν ν':Nat->Nu}{objs objs':Wab}{nx ak:Nat}{st ah:St}{a:Act}{w w':World}{P:Program}{T:Tab}{Γ:Ctx}
structure Ren(m:List Nat)(ν ν':Nat->Nu)(ak:Nat):Prop where
 nx:∀(i j:Nat),m[j]?=some i->j<ak
 nu:∀(i j:Nat),m[j]?=some i->ν' j=ν i
theorem CellRel.ren{m:List Nat}(hm:Ren m ν ν' ak):∀(c:Cell) (v:Value),CellRel G ν nx c v->CellRel G ν' ak (WcD m c) v
 | .val t d,v,h=>h
 | .nils,v,h=>h
 | .rptr t d off,v,h=>h
 | .junk,v,h=>h
 | .own id,v,h=>by
  simp only[WcD];split
  .rename_i j hj;have hj:=WcX _ _ _ hj;exact⟨hm.nx _ _ hj,by rw[hm.nu _ _ hj];exact h.2⟩
  .trivial
 | .vw id lo hi,v,h=>by
  simp only[WcD];split
  .rename_i j hj;have hj:=WcX _ _ _ hj;exact⟨hm.nx _ _ hj,by rw[hm.nu _ _ hj];exact h.2⟩
  .trivial
 | .aptr id,v,h=>by
  simp only[WcD];split
  .rename_i j hj;have hj:=WcX _ _ _ hj;exact⟨hm.nx _ _ hj,by rw[hm.nu _ _ hj];exact h.2⟩
  .trivial
 | .ptr id off,v,h=>by
  simp only[WcD];split
  .rename_i j hj;have hj:=WcX _ _ _ hj;exact⟨hm.nx _ _ hj,by rw[hm.nu _ _ hj];exact h.2⟩
  .trivial
 | .eptr id i off,v,h=>by
  simp only[WcD];split
  .rename_i j hj;have hj:=WcX _ _ _ hj;exact⟨hm.nx _ _ hj,by rw[hm.nu _ _ hj];exact h.2⟩
  .trivial
 | .clos f caps,v,h=>by
  simp only[WcD];split
  .rename_i js hj;obtain⟨h1,h2⟩:=Wjl _ _ hj;obtain⟨vs,h3,h4,h5⟩:=h;refine⟨vs,h3,h4.trans h1.symm,λq id u hq hu=>?_⟩;obtain⟨i,h6,h7⟩:=h2 q id hq;obtain⟨h8,h9,ca⟩:=h5 q i u h6 hu;exact⟨hm.nx _ _ h7,h9,by rw[hm.nu _ _ h7];exact ca⟩
  .trivial
theorem CellsRel.ren{m:List Nat}(hm:Ren m ν ν' ak){cs:List Cell}{vs:List Value}(h:CellsRel G ν nx cs vs):CellsRel G ν' ak (cs.map (WcD m)) vs:=by
 refine⟨by simp[h.1],λj c v hc hv=>?_⟩;simp only[Xap]at hc;cases hd:cs[j]? with
 |none=>simp[hd]at hc
 |some d=>
  simp[hd]at hc;subst hc;obtain⟨h1,h2⟩:=h.2 j d v hd hv;exact⟨h1.ren hm,h2⟩
theorem AvRel.ren{m:List Nat}(hm:Ren m ν ν' ak):∀(x:AV) (v:Value),AvRel G ν nx x v->AvRel G ν' ak (WuD m x) v
 | .one c,v,h=>⟨h.1.ren hm,h.2⟩
 | .agg cs,v,⟨vs,h1,h2⟩=>⟨vs,h1,h2.ren hm⟩
theorem AValRel.ren{m:List Nat}(hm:Ren m ν ν' ak):∀(x:AVal) (v:Value),AValRel G ν nx x v->AValRel G ν' ak (Wm7 m x) v
 | .s x,v,h=>AvRel.ren hm x v h
 | .tup xs,v,⟨vs,h1,h2,h3⟩=>⟨vs,h1,by simp[h2],λj x u hx hu=>by
  simp only[Xap]at hx;cases hd:xs[j]? with
  |none=>simp[hd]at hx
  |some d=>
   simp[hd]at hx;subst hx;exact AvRel.ren hm d u (h3 j d u hd hu)⟩
theorem WrW(slots:List Nat)(h:Rel w0 F nt G0 G ν st a w):∃ν',Rel w0 F nt G0 G ν' (canon slots st) a w:=by
 obtain⟨m,hm⟩:∃m,m=Wk3 400 ((Wfr st.env slots).flatMap λp=>WaP p.2) [] st.objs:=⟨_,rfl⟩;have aW:m.Nodup:=by rw[hm];exact Wb7 _ _ _ _ (by simp)
 have mU:canon slots st={env:=(Wfr st.env slots).map λp=>(p.1,Wm7 m p.2),objs:=WdH m st.objs 0 m,nx:=m.length}:=by rw[hm];rfl
 obtain⟨ν',hν'⟩:∃ν':Nat->Nu,ν'= λj=>ν ((m[j]?).getD 0):=⟨_,rfl⟩;have kA:∀(i j:Nat),m[j]?=some i->ν' j=ν i:=λi j hj=>by rw[hν'];simp[hj]
 have pK:∀(j:Nat) (ob:Ob),look (WdH m st.objs 0 m) j=some ob->∃i cq,m[j]?=some i/\look st.objs i=some cq/\ob=Wqg m cq:=λj ob ho=>by
  obtain⟨i,cq,_,h2,h3,h4⟩:=WgR _ _ _ _ ho;exact⟨i,cq,by simpa using h2,h3,h4⟩
 have pL:Ren m ν ν' m.length:={
  nx:=λi j hj=>(Xt.1 hj).1
  nu:=kA}
 have dQ:∀j,Live (WdH m st.objs 0 m) j->∃i,m[j]?=some i/\Live st.objs i:=λj ⟨ob,ho,hd⟩=>by
  obtain⟨i,cq,h1,h2,h3⟩:=pK j ob ho;refine⟨i,h1,cq,h2,λcP=>hd ?_⟩;rw[h3,cP];rfl
 rw[mU];refine⟨ν',h.defers,h.ntm,h.par,λi x hx=>?_,?_,h.gx⟩
 .obtain⟨y,h1,rfl⟩:=WhG _ _ _ hx;obtain⟨v,h2,h3⟩:=h.env i y h1;exact⟨v,h2,AValRel.ren pL y v h3⟩
 .obtain⟨φ,hφ⟩:=h.h;refine⟨λj=>φ ((m[j]?).getD 0),?_⟩;have l0:∀(i j:Nat),m[j]?=some i->φ ((m[j]?).getD 0)=φ i:=λi j hj=>by simp[hj]
  exact{
   g:=hφ.g
   ob:=λj ob ho=>by
    obtain⟨i,cq,h1,h2,rfl⟩:=pK j ob ho;have:=hφ.ob i cq h2;cases cq with
    |dead=>trivial
    |arr e xs=>
     show OwnL w (TyRel G w e) e.size (ν' j) xs (φ ((m[j]?).getD 0));rw[kA i j h1,l0 i j h1];exact this
    |hole e xs k p=>
     simp only[Wqg];split
     .rename_i q hq;have hq:=WcX _ _ _ hq;obtain⟨g1,g2⟩:=this;show q<m.length/\Whi w (TyRel G w e) e.size (ν' j) (ν' q) xs k (φ ((m[j]?).getD 0));rw[kA i j h1,l0 i j h1,kA p q hq];exact⟨(Xt.1 hq).1,g2⟩
     .trivial
    |box cs=>
     obtain⟨b,vs,h4,h5,h6,h7,h8⟩:=this;refine⟨b,vs,by rw[kA i j h1];exact h4,?_,by rw[kA i j h1];exact h6,h7.ren pL,?_⟩
     .rw[kA i j h1,Xy];exact h5
     .rw[kA i j h1,l0 i j h1,Xy];exact h8
   gf:=λj b o hj hp=>by
    obtain⟨i,h1,h2⟩:=dQ j hj;rw[l0 i j h1]at hp;exact hφ.gf i b o h2 hp
   inj:=λj j' b o hj hj' hp df=>by
    obtain⟨i,h1,h2⟩:=dQ j hj;obtain⟨i',gG,iD⟩:=dQ j' hj';rw[l0 i j h1]at hp;rw[l0 i' j' gG]at df;have:=hφ.inj i i' b o h2 iD hp df;subst this;have hlt:=(Xt.1 h1).1;exact(List.getElem?_inj hlt aW).1 (h1.trans gG.symm)
   own:=λj b o hj hp=>by
    obtain⟨i,h1,h2⟩:=dQ j hj;rw[l0 i j h1]at hp;exact hφ.own i b o h2 hp
   lt:=λj hj=>by
    obtain⟨i,h1,h2⟩:=dQ j hj;exact(Xt.1 h1).1
   bl:=λj b o hj hp=>by
    obtain⟨i,h1,h2⟩:=dQ j hj;rw[l0 i j h1]at hp;exact hφ.bl i b o h2 hp
   le:=hφ.le}
theorem WiV(h:Rel w0 F nt G0 G ν st a w){r:Nat}{ix:Option Nat}(hg:Wn0 st r ix=some (true,ah)):∃ν',Rel w0 F nt G0 G ν' ah a w:=by
 unfold Wn0 at hg;split at hg
 .rename_i c i kD;obtain⟨s,hs,hg⟩:=Xab.1 hg;simp only[Prod.mk.injEq]at hg;obtain⟨rfl,rfl⟩:=hg;have hlt:∃(e:Ty) (xs:List e.den),look st.objs r=some (.arr e xs)/\i<xs.length:=by
   unfold WtO at kD;split at kD
   .split at kD
    .rename_i e xs ho;simp only[Option.some.injEq,Prod.mk.injEq]at kD;obtain⟨h1,rfl⟩:=kD;obtain⟨h2,h3⟩:=WdA h1;exact⟨e,xs,ho,by omega⟩
    .cases kD
   .split at kD
    .rename_i e xs n ho hn;simp only[Option.some.injEq,Prod.mk.injEq]at kD;obtain⟨h1,rfl⟩:=kD;obtain⟨h2,h3⟩:=WdA h1;exact⟨e,xs,ho,by omega⟩
    .cases kD
  obtain⟨e,xs,ho,hlt⟩:=hlt;obtain⟨ν',b,h1,_⟩:=WiZ h ho hlt hs;exact⟨ν',h1⟩
 .cases hg
theorem WlS{g:Ghost}(h:Rel w0 F nt G0 G ν st a w)(hg:Wfy g st=some (true,ah)):∃G' ν',Rel w0 F nt G0 G' ν' ah a w:=by
 cases g with
 |canon slots=>
  simp only[Wfy]at hg;injection hg with hg;injection hg with _ hg;subst hg;obtain⟨ν',h'⟩:=WrW slots h;exact⟨G,ν',h'⟩
 |adopt slot e=>
  simp only[Wfy]at hg;split at hg
  .rename_i hs;injection hg with hg;injection hg with _ hg;subst hg;obtain⟨v,hv,hr⟩:=h.env _ _ hs;have gz:v= .slice none 0 0:=hr.1;subst gz;have h2:=h.on (λ_ _ _ hh=>hh) (We6 ν st.nx _) (Xdm _) (h.h.adopt e) h.gx;exact⟨G,_,h2.rebind hv ⟨WjA e,rfl⟩⟩
  .injection hg with hg;injection hg with _ hg;subst hg;exact⟨G,ν,h⟩
  .cases hg
 |freeze slot=>
  simp only[Wfy]at hg;split at hg
  .rename_i id hs;split at hg
   .rename_i e xs ho;injection hg with hg;injection hg with _ hg;subst hg;obtain⟨G1,h1,h2,h3,h4⟩:=h.h.freezeL h.gx [id];obtain⟨v,hv,hr⟩:=h.env _ _ hs;have gz:v=(ν id).hdr:=hr.1.2;have h5:=h.on h1 (λ_ _=>rfl) (Xn _) h2 h3;exact⟨G1,ν,h5.rebind hv ⟨⟨v,rfl,gz▸h4 id (by simp) e xs ho⟩,hr.2⟩⟩
   .cases hg
  .cases hg
 |adoptC slot off e=>
  simp only[Wfy]at hg;split at hg
  .rename_i id hs;split at hg
   .rename_i cs ho;split at hg
    .rename_i hc;injection hg with hg;injection hg with _ hg;subst hg;have hne:st.nx≠id:=λe=>by
      obtain⟨φ,hφ⟩:=h.h;have:=hφ.lt id ⟨_,ho,by simp⟩;omega
     have h2:=h.h.adopt e;have kW:look ((st.nx,Ob.arr e [])::st.objs) id=some (.box cs):=by rw[Wy,if_neg hne];exact ho
     have h3:=h2.mk_box kW (cs':=cs.set off (.own st.nx)) (by simp) (λvs eO=>eO.set λv hv=>by
      have:v= .slice none 0 0:=(eO.2 off _ v hc hv).1;subst this;exact WjA e)
     exact⟨G,_,h.on (λ_ _ _ hh=>hh) (We6 ν st.nx _) (Xdm _) h3 h.gx⟩
    .injection hg with hg;injection hg with _ hg;subst hg;exact⟨G,ν,h⟩
    .cases hg
   .cases hg
  .cases hg
 |freezeC slot off=>
  simp only[Wfy]at hg;split at hg
  .rename_i id hs;split at hg
   .rename_i cs ho;split at hg
    .rename_i j hc;split at hg
     .rename_i e xs ma;injection hg with hg;injection hg with _ hg;subst hg;obtain⟨G1,h1,h2,h3,h4⟩:=h.h.freezeL h.gx [j];have hne:j≠id:=λe=>by subst e;rw[ho]at ma;cases ma
      have kW:look ((j,Ob.dead)::st.objs) id=some (.box cs):=by rw[Wy,if_neg hne];exact ho
      have h5:HRel w0 F G1 ν ((id,.box (cs.set off (.val (.slice e.ro) (Wco e xs))))::(j,.dead)::st.objs) st.nx w:=by
       refine HRel.mk_box h2 kW (by simp) (λvs eO=>eO.set λv hv=>?_);have gz:v=(ν j).hdr:=(eO.2 off _ v hc hv).1.2;exact⟨v,rfl,gz▸h4 j (by simp) e xs ma⟩
      exact⟨G1,ν,h.on h1 (λ_ _=>rfl) (Xn _) h5 h3⟩
     .cases hg
    .injection hg with hg;injection hg with _ hg;subst hg;exact⟨G,ν,h⟩
    .injection hg with hg;injection hg with _ hg;subst hg;exact⟨G,ν,h⟩
    .cases hg
   .cases hg
  .cases hg
 |nest d e=>injection hg with hg;injection hg with _ hg;subst hg;exact⟨G,ν,h⟩
 |view d=>injection hg with hg;injection hg with _ hg;subst hg;exact⟨G,ν,h⟩
 |opn d=>injection hg with hg;injection hg with _ hg;subst hg;exact⟨G,ν,h⟩
 |empt slot e=>
  simp only[Wfy]at hg;split at hg
  .split at hg
   .rename_i e' ho;split at hg
    .rename_i hc;injection hg with hg;injection hg with _ hg;subst hg;exact⟨G,ν,h.on (λ_ _ _ hh=>hh) (λ_ _=>rfl) (Xn _) (h.h.empt ho hc.1) h.gx⟩
    .cases hg
   .cases hg
  .cases hg
 |unfE slot=>
  simp only[Wfy]at hg;split at hg
  .rename_i r i hs;obtain⟨s,cn,hg⟩:=Xab.1 hg;injection hg with _ hg;subst hg;obtain⟨v,hv,hr⟩:=h.env _ _ hs;have gg:∃(e:Ty) (xs:List e.den),look st.objs r=some (.arr e xs):=by
    unfold WmI at cn;split at cn
    .rename_i e xs ho;exact⟨e,xs,ho⟩
    .cases cn
   obtain⟨e,xs,ho⟩:=gg;obtain⟨⟨_,hlt,b,hb,rfl⟩,_⟩:=hr;obtain⟨S,hown⟩:=h.h.obj ho;obtain⟨ν',b',h1,h2,h3,h4,h5⟩:=WiZ h ho (by rw[hown.1];exact hlt) cn;rw[hb]at h3;injection h3 with h3;subst h3;refine⟨G,ν',h1.rebind hv ⟨⟨h2,b,by rw[h4];rfl,?_⟩,rfl⟩⟩;rw[h4];rfl
  .cases hg
 |unfS slot ix=>
  simp only[Wfy]at hg;split at hg
  .obtain⟨ν',h'⟩:=WiV h hg;exact⟨G,ν',h'⟩
  .cases hg
 |unfC slot off ix=>
  simp only[Wfy]at hg;split at hg
  .split at hg
   .split at hg
    .obtain⟨ν',h'⟩:=WiV h hg;exact⟨G,ν',h'⟩
    .cases hg
   .cases hg
  .cases hg
 |refold slot=>
  simp only[Wfy]at hg;split at hg
  .obtain⟨s,cn,hg⟩:=Xab.1 hg;injection hg with _ hg;subst hg;exact⟨G,ν,Wny h cn⟩
  .cases hg
 |solo slot=>
  simp only[Wfy]at hg;split at hg
  .rename_i id lo hi hs;split at hg
   .rename_i e xs ho;injection hg with hg;injection hg with _ hg;subst hg;obtain⟨v,hv,hr⟩:=h.env _ _ hs;obtain⟨⟨_,g1,g2,g3,rfl⟩,_⟩:=hr;have h2:=h.on (λ_ _ _ hh=>hh) (We6 ν st.nx _) (Xdm _) (h.h.solo ho g1 g2) h.gx;exact⟨G,_,h2.rebind hv ⟨Wmt,Wn8 _ _ _⟩⟩
   .cases hg
  .injection hg with hg;injection hg with _ hg;subst hg;exact⟨G,ν,h⟩
  .cases hg
 |soloC slot off=>
  simp only[Wfy]at hg;split at hg
  .rename_i id o hs;split at hg
   .rename_i cs ho;split at hg
    .rename_i j lo hi hc;split at hg
     .rename_i e xs ma;injection hg with hg;injection hg with _ hg;subst hg;have hne:j≠id:=λe=>by subst e;rw[ho]at ma;cases ma
      have sT:st.nx≠id:=λe=>by
       obtain⟨φ,hφ⟩:=h.h;have:=hφ.lt id ⟨_,ho,by simp⟩;omega
      have aq:lo<=hi/\hi<=(ν j).len:=by
       obtain⟨S,b,vs,k1,k2,k3,k4,k5⟩:=h.h.obj ho;have hlt:o+off<vs.length:=by rw[k4.1];exact(Xt.1 hc).1
       obtain⟨⟨_,g1,g2,_⟩,_⟩:=k4.2 _ _ _ hc (Xp hlt);exact⟨g1,g2⟩
      have h2:=h.h.solo ma aq.1 aq.2;have kW:look ((st.nx,Ob.arr e ((xs.take hi).drop lo))::(j,Ob.dead)::st.objs) id=some (.box cs):=by rw[Wy,if_neg sT,Wy,if_neg hne];exact ho
      have sf:j<st.nx:=by
       obtain⟨φ,hφ⟩:=h.h;exact hφ.lt j ⟨_,ma,by simp⟩
      have h3:=h2.mk_box kW (cs':=cs.set (o+off) (.own st.nx)) (by simp) (λvs eO=>eO.set λv hv=>by
       obtain⟨_,_,_,_,uM⟩:=(eO.2 _ _ v hc hv).1;rw[We6 ν st.nx _ j sf]at uM;rw[uM];exact Wmt)
      exact⟨G,_,h.on (λ_ _ _ hh=>hh) (We6 ν st.nx _) (Xdm _) h3 h.gx⟩
     .cases hg
    .injection hg with hg;injection hg with _ hg;subst hg;exact⟨G,ν,h⟩
    .cases hg
   .cases hg
  .cases hg
theorem Wdo:∀(l:List Ghost) (st ah:St) (G:GH) (ν:Nat->Nu),Rel w0 F nt G0 G ν st a w->WdT l st=some (true,ah)->∃G' ν',Rel w0 F nt G0 G' ν' ah a w
 | [],st,ah,G,ν,h,hg=>by injection hg with hg;injection hg with _ hg;subst hg;exact⟨G,ν,h⟩
 |g::l,st,ah,G,ν,h,hg=>by
  simp only[WdT]at hg;split at hg
  .rename_i c s w5;split at hg
   .rename_i c' s' hl;simp only[Option.some.injEq,Prod.mk.injEq,Xi]at hg;obtain⟨⟨rfl,rfl⟩,rfl⟩:=hg;obtain⟨G1,ν1,h1⟩:=WlS h w5;exact Wdo l s s' G1 ν1 h1 hl
   .cases hg
  .cases hg
end
end Go.Sx
namespace Go.Sx
set_option linter.unusedVariables false
set_option linter.unusedSimpArgs false
section
variable{T:Tab}{Γ:Ctx}{env w6:List (Nat×AVal)}{objs objs':Wab}{nx ak:Nat}
theorem Wcu{st am:St}:∀(l:List (Nat×Operand)),(∀p∈l,ev am p.2=ev st p.2)->Wcr am l=Wcr st l
 | [],_=>rfl
 |(i,x)::l,h=>by
  have h1:ev am x=ev st x:=h (i,x) (Xh ..);simp only[Wcr,h1,Wcu l λp hp=>h p (Xe _ hp)]
theorem WlV{st am:St}:∀(l:List Operand),(∀x∈l,ev am x=ev st x)->evs am l=evs st l
 | [],_=>rfl
 |x::l,h=>by simp only[evs,h x (Xh ..),WlV l λp hp=>h p (Xe _ hp)]
theorem WgK{st am:St}:∀(l:List Operand),(∀x∈l,ev am x=ev st x)->WfS am l=WfS st l
 | [],_=>rfl
 |x::l,h=>by simp only[WfS,h x (Xh ..),WgK l λp hp=>h p (Xe _ hp)]
theorem WiY{st am:St}(x:Option Operand)(h:∀y∈x.toList,ev am y=ev st y):Wk6 am x=Wk6 st x:=by
 cases x with
 |none=>rfl
 |some y=>simp only[Wk6,h y (by simp)]
def WdU(st am:St)(v:AVal):Prop:=∀id∈WaP v,look am.objs id=look st.objs id
theorem WnK{st am:St}{t:TypeId}{v:AVal}(h:WdU st am v):WgO T am t v=WgO T st t v:=by
 unfold WgO;cases v with
 |tup xs=>rfl
 |s x=>
  cases x with
  |agg cs=>rfl
  |one c=>
   cases c with
   |ptr id off=>have:=h id (by simp[WaP,WeS,Wa4]);simp only[this]
   |eptr id i off=>have:=h id (by simp[WaP,WeS,Wa4]);simp only[this]
   |_=>rfl
theorem WmC{st am:St}{t:TypeId}{v:AVal}(h:WdU st am v):Wfl T am t v=Wfl T st t v:=by
 unfold Wfl;cases v with
 |tup xs=>rfl
 |s x=>
  cases x with
  |agg cs=>rfl
  |one c=>
   cases c with
   |aptr id=>have:=h id (by simp[WaP,WeS,Wa4]);simp only[this]
   |_=>rfl
theorem Wmb{st:St}{t:TypeId}{id:Nat}:WiI T st t (.s (.one (.own id)))=match look T t with
  |some ⟨_,false,.slice _⟩=>obL (look st.objs id)
  |_=>none:=by
 unfold WiI;generalize look T t=q;rcases q with _|⟨ty,agg,shape⟩
 .rfl
 .cases ty<;>cases agg<;>cases shape<;>rfl
theorem WmR{st am:St}{t:TypeId}{v:AVal}(h:∀id,v≠ .s (.one (.own id))):WiI T am t v=WiI T st t v:=by
 unfold WiI;generalize look T t=q;rcases q with _|⟨ty,agg,shape⟩
 .cases v<;>rfl
 .cases v with
  |tup xs=>cases ty<;>cases agg<;>cases shape<;>rfl
  |s x=>
   cases x with
   |agg cs=>cases ty<;>cases agg<;>cases shape<;>rfl
   |one c=>
    cases c with
    |own id=>exact absurd rfl (h id)
    |val t' d=>cases ty<;>cases agg<;>cases shape<;>cases t'<;>rfl
    |_=>cases ty<;>cases agg<;>cases shape<;>rfl
theorem Wub(v:AVal):(∃id,v= .s (.one (.own id)))\/∀id,v≠ .s (.one (.own id)):=by
 rcases v with x|xs
 .rcases x with c|cs
  .cases c with
   |own id=>exact .inl ⟨id,rfl⟩
   |_=>exact .inr λid h=>by injection h with h;injection h with h;cases h
  .exact .inr λid h=>by injection h with h;cases h
 .exact .inr λid h=>by cases h
theorem WoU{st am:St}{t:TypeId}{v:AVal}(h:WdU st am v):WiI T am t v=WiI T st t v:=by
 rcases Wub v with⟨id,rfl⟩|hv
 .rw[Wmb,Wmb,h id (by simp[WaP,WeS,Wa4])]
 .exact WmR hv
theorem Whc{st am:St}{t:TypeId}{v:AVal}{f:Nat}(h:WdU st am v):Wb3 T am t v f=Wb3 T st t v f:=by
 unfold Wb3;generalize Wgd T t f=q;rcases q with _|⟨off,te⟩
 .cases v<;>rfl
 .cases v with
  |tup xs=>rfl
  |s x=>
   cases x with
   |agg cs=>rfl
   |one c=>
    cases c with
    |ptr id o=>
     have:=h id (by simp[WaP,WeS,Wa4]);show(λq:Option Ob=>match q with|some (.box _)=>some (true,AVal.s (.one (.ptr id (o+off))))|_=>none) (look am.objs id)=(λq:Option Ob=>match q with|some (.box _)=>some (true,AVal.s (.one (.ptr id (o+off))))|_=>none) (look st.objs id);rw[this]
    |eptr id i o=>
     have:=h id (by simp[WaP,WeS,Wa4]);show(λq:Option Ob=>match q with|some (.arr _ _)=>some (true,AVal.s (.one (.eptr id i (o+off))))|_=>none) (look am.objs id)=(λq:Option Ob=>match q with|some (.arr _ _)=>some (true,AVal.s (.one (.eptr id i (o+off))))|_=>none) (look st.objs id);rw[this]
    |_=>rfl
theorem Whf{st am:St}{t:TypeId}{v i:AVal}(h:WdU st am v):WbU T am t v i=WbU T st t v i:=by
 unfold WbU;generalize look T t=q;generalize asI i=z;rcases q with _|⟨ty,agg,shape⟩
 .rfl
 rcases z with _|n
 .cases shape<;>rfl
 cases shape with
 |slice et=>
  show(match look T et with|some te=>_|none=>_)=(match look T et with|some te=>_|none=>_);generalize look T et=q;rcases q with _|te
  .rfl
  .show(if te.plain=true then _ else _)=(if te.plain=true then _ else _);by_cases hp:te.plain=true
   .rw[if_pos hp,if_pos hp];cases v with
    |tup xs=>rfl
    |s x=>
     cases x with
     |agg cs=>rfl
     |one c=>
      cases c with
      |own id=>
       have:=h id (by simp[WaP,WeS,Wa4]);show obI te n id (look am.objs id)=obI te n id (look st.objs id);rw[this]
      |vw id lo hi=>
       have:=h id (by simp[WaP,WeS,Wa4]);show WvH te n id lo hi (look am.objs id)=WvH te n id lo hi (look st.objs id);rw[this]
      |val t' d=>cases t'<;>rfl
      |_=>rfl
   .rw[if_neg hp,if_neg hp]
 |arr k et=>
  show(match look T et with|some te=>_|none=>_)=(match look T et with|some te=>_|none=>_);generalize look T et=q;rcases q with _|te
  .rfl
  .show(if te.plain=true then _ else _)=(if te.plain=true then _ else _);by_cases hp:te.plain=true
   .rw[if_pos hp,if_pos hp];cases v with
    |tup xs=>rfl
    |s x=>
     cases x with
     |agg cs=>rfl
     |one c=>
      cases c with
      |aptr id=>
       have:=h id (by simp[WaP,WeS,Wa4]);show WvW te n k id (look am.objs id)=WvW te n k id (look st.objs id);rw[this]
      |_=>rfl
   .rw[if_neg hp,if_neg hp]
 |_=>rfl
theorem WpI{st am:St}{v:AVal}(h:WdU st am v):WsG am v=WsG st v:=by
 rcases Wub v with⟨id,rfl⟩|hv
 .exact h id (by simp[WaP,WeS,Wa4])
 .unfold WsG;split
  .rename_i id;exact absurd rfl (hv id)
  .rfl
theorem WmW{st am:St}{s d:TypeId}{v:AVal}(h:WdU st am v):WjF T am s d v=WjF T st s d v:=by
 unfold WjF;rw[WpI h]
theorem Wpi{st am:St}{v:AVal}(h:WdU st am v):Wpd am v=Wpd st v:=by
 unfold Wpd;cases v with
 |tup xs=>rfl
 |s x=>
  cases x with
  |agg cs=>rfl
  |one c=>
   cases c with
   |ptr id off=>have:=h id (by simp[WaP,WeS,Wa4]);simp only[this]
   |eptr id i off=>have:=h id (by simp[WaP,WeS,Wa4]);simp only[this]
   |aptr id=>have:=h id (by simp[WaP,WeS,Wa4]);simp only[this]
   |_=>rfl
theorem Wpt{st am:St}{op:BinOp}{t:TypeId}{v z:AVal}(h:WdU st am v):WoS T am op t v z=WoS T st op t v z:=by
 unfold WoS;split
 .rename_i id;rw[h id (by simp[WaP,WeS,Wa4])]
 .rfl
theorem WbV{α β:Type}{x:Option α}{f g:α->Option β}(h:∀v,x=some v->f v=g v):x.bind f=x.bind g:=by
 cases x with
 |none=>rfl
 |some v=>exact h v rfl
theorem Whb{st am:St}(op:Op)(hm:∀t x l h m,op≠ .slice t x l h m)(he:∀x∈W8 op,ev am x=ev st x)(hl:Wuy op=true->∀x∈W8 op,∀v,ev st x=some v->WdU st am v):Wad T am op=Wad T st op:=by
 cases op with
 |move x=>simp only[Wad,he x (by simp[W8])]
 |assign x=>simp only[Wad,he x (by simp[W8])]
 |pick c a b=>simp only[Wad,he c (by simp[W8]),he a (by simp[W8]),he b (by simp[W8])]
 |load t a=>
  simp only[Wad,he a (by simp[W8])];exact WbV λv hv=>by rw[WnK (hl rfl a (by simp[W8]) v hv),WmC (hl rfl a (by simp[W8]) v hv)]
 |nilCheck x=>
  simp only[Wad,he x (by simp[W8])];exact WbV λv hv=>Wpi (hl rfl x (by simp[W8]) v hv)
 |binOp op t x y z=>
  simp only[Wad,he x (by simp[W8]),he y (by simp[W8])];split
  .rename_i a b h1 h2;rw[Wpt (hl rfl x (by simp[W8]) _ h1)]
  .rfl
 |unOp op t x=>simp only[Wad,he x (by simp[W8])]
 |convert s d x=>
  simp only[Wad,he x (by simp[W8])];exact WbV λv hv=>WmW (hl rfl x (by simp[W8]) v hv)
 |slice t x l h m=>exact absurd rfl (hm t x l h m)
 |fieldAddr s x f=>
  simp only[Wad,he x (by simp[W8])];exact WbV λv hv=>Whc (hl rfl x (by simp[W8]) v hv)
 |field t x f=>simp only[Wad,he x (by simp[W8])]
 |indexAddr t x i=>
  simp only[Wad,he x (by simp[W8]),he i (by simp[W8])];split
  .rename_i a b h1 h2;exact Whf (hl rfl x (by simp[W8]) _ h1)
  .rfl
 |index t x i=>simp only[Wad,he x (by simp[W8]),he i (by simp[W8])]
 |extract t ix=>simp only[Wad,he t (by simp[W8])]
 |makeFunc f first captured=>
  cases f with
  |func f=>simp only[Wad,WgK (st:=st) (am:=am) captured.toList λx hx=>he x (by simp[W8];right;simpa using hx)]
  |_=>rfl
 |call c=>
  have hargs:∀x∈c.args.toList,ev am x=ev st x:=λx hx=>he x (Xg _ hx);have mV:∀x∈c.args.toList,∀v,ev st x=some v->WdU st am v:=λx hx=>hl rfl x (Xg _ hx);simp only[Wad];split
  .rename_i x t _ ha _;rw[hargs x (by rw[ha];simp)];exact WbV λv hv=>WoU (mV x (by rw[ha];simp) v hv)
  .rename_i x y _ _ _ ha _;rw[hargs x (by rw[ha];simp),hargs y (by rw[ha];simp)]
  .rename_i x y _ _ _ ha _;rw[hargs x (by rw[ha];simp),hargs y (by rw[ha];simp)]
  .rfl
 |_=>rfl
end
end Go.Sx
