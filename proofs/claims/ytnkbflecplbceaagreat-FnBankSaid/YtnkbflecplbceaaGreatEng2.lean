/- The abstract machine, part 2: a reflective interpreter of the program's code over data, with its soundness over the model. -/
import Derived.Test.YtnkbflecplbceaaGreatEng1
open Bool renaming and_eq_true→Xh,not_eq_true'→Xaq,false_eq_true→Xbi
open List renaming nodup_cons→Xai,getElem?_append_left→Xbb,getD→Xc,getElem?_append_right→Xay,ext_getElem?→Xfj,getElem?_eq_none→Xbg,replicate→Xw,getElem?_map→Xal,prefix_refl→Xfr,nil_prefix→Xha,prefix_append_right_inj→Xfe,length_replicate→Xgf,append_nil→Xcy,getElem?_toArray→Xep,append_assoc→Xbs,getElem?_append→Xaz,getElem?_take→Xbo,getElem?_drop→Xbn,getElem?_eq_some_iff→Xt,drop_drop→Xdt,take_append_drop→Xde,length_take→Xap,mem_cons_self→Xi,mem_cons_of_mem→Xe,mem_map_of_mem→Xan,pairwise_cons→Xac,mem_append_left→Xk,mem_append_right→Xg,length_append→Xaa,map_append→Xr,pairwise_append→Xag,mem_append→Xm,mem_map→Xv,mem_cons→Xo,getElem?_of_mem→Xdw,getElem?_eq_getElem→Xs,eq_nil_of_length_eq_zero→Xy,map_toArray→Xdy,map_cons→Xaj,map_nil→Xck,append→Xf,take_length→Xeb,mem_singleton→Xz,length→Xa,append_inj→Xfy,length_map→Xaf,mem_of_mem_take→Xco,mem_of_mem_drop→Xex,nodup_append→Xak,all_eq_true→Xae,nodup_nil→Xdk,length_drop→Xdm,sublist_append_right→Xfl,all_cons→Xcj,mem_of_getElem?→Xax
open Nat renaming succ_mul→Xbx,mul_le_mul_right→Xbl,add_zero→Xau,le_trans→Xcq,zero_mul→Xew,le_refl→Xn,min_eq_left→Xcg,add_assoc→Xar,lt_succ_self→Xbu,add_mul→Xcx,zero_le→Xbk,eq_of_beq_eq_true→Xcb,add_sub_cancel_left→Xbe,le_succ→Xdj
open Array renaming range→Xcl,foldl_toList→Xfh,length_toList→Xaw
open Int renaming mul_le_mul_of_nonneg_right→Xev
open Option renaming map_eq_some_iff→Xx,map_some→Xcd,bind_eq_some_iff→Xbv,bind_some→Xd
namespace Go.Sx
set_option linter.unusedVariables false
set_option linter.unusedSimpArgs false
theorem WcQ:∀l:List Nat,Wbz l=true↔l.Nodup
 | []=>by simp[Wbz]
 |i::l=>by
  have h:=WgI i l;simp only[Wbz,Xh,Xaq,Xai,WcQ l];constructor
  .rintro⟨h1,h2⟩;exact⟨λhm=>(by rw[h.2 hm]at h1;exact absurd h1 (by simp)),h2⟩
  .rintro⟨h1,h2⟩;refine⟨?_,h2⟩;cases he:Wb0 i l with
   |false=>rfl
   |true=>exact absurd (h.1 he) h1
theorem WqW{α:Type}(l:List α)(d:α):∀(n i:Nat),i<n*l.length->(rep l n)[i]?=some (l.getD (i%l.length) d)
 |0,i,h=>by simp at h
 |n+1,i,h=>by
  rw[rep];by_cases hi:i<l.length
  .rw[Xbb hi,Nat.mod_eq_of_lt hi];simp[Xc,hi]
  .have fH:l.length<=i:=by omega
   rw[Xay fH,WqW l d n (i-l.length) (by rw[Xbx]at h;omega)];rw[Nat.mod_eq_sub_mod fH]
theorem WgB(z:Array Value)(n:Nat):((Xcl (n*z.size)).map λi=>z[i%z.size]!).toList=rep z.toList n:=by
 apply Xfj;intro i;by_cases hi:i<n*z.size
 .rw[WqW z.toList default n i (by simpa using hi)];have hpos:0<z.size:=Nat.pos_of_ne_zero (λh=>by rw[h]at hi;simp at hi);have hm:i%z.size<z.size:=Nat.mod_lt _ hpos;simp[hi,Xc,hm]
 .have h1:n*z.size<=i:=by omega
  rw[Xbg (by simp;exact h1),Xbg (by rw[Wlz];simp;exact h1)]
section
variable{w0:World}{F:CS}{nt:Slots}{G0 G:GH}{ν:Nat->Nu}{objs:Waf}{nx:Nat}{st ae:St}{a:Act}{w w':World}{P:Program}{T:Tab}
theorem Wie(hh:HRel w0 F G ν objs nx w){e:Ty}(he:e.data=true):
  ∀(l:List (Nat×AVal)) (ps:List (Nat×Value)) (xs ys:List e.den) (vs:Array Value),EncL (Enc G e) xs vs.toList->ps.length=l.length->
   (∀(j:Nat) (p:Nat×AVal) (q:Nat×Value),l[j]?=some p->ps[j]?=some q->p.1=q.1/\AValRel G ν nx p.2 q.2)->Wqg e objs l xs=some ys->
   ∃vs',Instr.fill (λi=>some (i*e.size,e.size)) vs ps=some vs'/\EncL (Enc G e) ys vs'.toList/\ys.length=xs.length
 | [],[],xs,ys,vs,hc,_,_,h=>by simp[Wqg]at h;subst h;exact⟨vs,rfl,hc,rfl⟩
 |(i,x)::l,[],_,_,_,_,hl,_,_=>by simp at hl
 | [],_::_,_,_,_,_,hl,_,_=>by simp at hl
 |(i,x)::l,(i',v)::ps,xs,ys,vs,hc,hl,hp,h=>by
  obtain⟨hi,hx⟩:=hp 0 _ _ rfl rfl;simp only at hi hx;subst hi;simp only[Wqg]at h;split at h
  .rename_i ds gm;split at h
   .rename_i d hf;split at h
    .rename_i hlt;obtain⟨h1,_⟩:=WdC hx gm;have henc:=Wnq hh h1 he hf;have hlen:v.cells.toList.length=e.size:=Enc_len _ _ _ henc;have eH:vs.toList.length=xs.length*e.size:=EncL_len (λx c hc=>Enc_len e x c hc) _ _ hc;have bR:i*e.size+e.size<=xs.length*e.size:=by rw[←Xbx];exact Xbl _ hlt
     have dK:=Wix v.cells.toList (i*e.size) 0 vs (by simp at hlen eH⊢;omega);simp only[Xau]at dK;have dR:=WkO (λx c hc=>Enc_len e x c hc) xs vs.toList i d v.cells.toList hc hlt henc;obtain⟨vs',h4,h5,h6⟩:=Wie hh he l ps (xs.set i d) ys _ (by rw[dK,hlen];exact dR) (by simpa using hl) (λj p q hj hq=>hp (j+1) p q (by simpa using hj) (by simpa using hq)) h;refine⟨vs',?_,h5,by rw[h6];simp⟩;simp only[Instr.fill];rw[if_neg (by simp at hlen eH⊢;omega)];rw[←h4];congr 1;rw[←Xfh];simp
    .simp at h
   .simp at h
  .simp at h
theorem Wh8(hT:Wan P T)(hr:Rel w0 F nt G0 G ν st a w){o:Oper}(hd:∀d,o.dst=some d->nt.Ok d){t:TypeId}{n:Nat}{parts:Array (Nat×Operand)}(ho:o.op= .buildSlice t n parts)
  {ty:Ty} {et:TypeId} {te:TE} {ps:List (Nat×AVal)} {xs:List te.ty.den} (hl:look T t=some ⟨ty,false,.slice et⟩) (hle:look T et=some te)
  (h1:ps.length=parts.toList.length) (h2:∀(j:Nat) (p:Nat×AVal) (q:Nat×Operand),ps[j]?=some p->parts.toList[j]?=some q->p.1=q.1/\AValRel G ν st.nx p.2 (a.eval q.2))
  (hf:Wqg te.ty st.objs ps (Xw n te.ty.dflt)=some xs) (hsz:n*te.ty.size<=16777216) (aS:te.ty.data=true) (hp:te.plain=true):
  Done P w0 F nt G0 o a w (st.new o.dst (.arr te.ty xs) (.s (.one (.own st.nx)))):=by
 have hu:=(hT _ _ hl).und.2.1;obtain⟨z,hz,dj⟩:=WeW (w:=w) (hT _ _ hle);rw[WbI hp]at dj;have gM:z.cells.size=te.ty.size:=by rw[←Xaw,dj,Wbq]
 have cH:=WgB z.cells n;rw[gM,dj]at cH;obtain⟨vs',h3,h4,h5⟩:=Wie hr.h aS ps (parts.toList.map λp=>(p.1,a.eval p.2)) _ xs ((Xcl (n*te.ty.size)).map λi=>z.cells[i%te.ty.size]!) (by rw[cH];exact WgO aS n) (by simp[h1]) (λj p q hp hq=>by
   simp only[Xal]at hq;cases eb:parts.toList[j]? with
   |none=>simp only[Array.getElem?_toList]at eb;simp[eb]at hq
   |some q'=>
    rw[eb]at hq;simp at hq;subst hq;exact h2 j p q' hp eb) hf
 have je:xs.length=n:=by rw[h5];simp
 have hpos:=WbA te.ty;have hn:n<=16777216:=Xcq (Nat.le_mul_of_pos_right n hpos) hsz;have tO:vs'.size=n*te.ty.size:=by
  rw[←Xaw,EncL_len (λx c hc=>Enc_len te.ty x c hc) _ _ h4,je]
 obtain⟨⟨ν',h6⟩,_⟩:=Wog (t:=et) (vs:=vs') hr hd (e:=te.ty) aS (xs:=xs) (cap:=n) (cs:=vs'.toList) (by omega) (by unfold maxLen;omega) tO h4 (Xfr _) w rfl rfl rfl rfl;rw[je]at h6;refine⟨_,_,_,G,ν',?_,.inl rfl,h6⟩;have fI:(parts.map λx=>match x with|(i,x)=>(i,a.eval x)).toList=parts.toList.map λp=>(p.1,a.eval p.2):=by simp
 simp only[execOp,ho,Instr.buildSlice,Sem.run_bind,Wc hu,Result.andThen_ok,(hT _ _ hle).sizeOf,W1 hp,if_neg (show¬n*te.ty.size>2^24 by omega),Sem.run_pure];by_cases h0:n*te.ty.size=0
 .have qH:n=0:=by rcases Nat.mul_eq_zero.1 h0 with h|h<;>omega
  have e1:((Xcl (n*te.ty.size)).map λi=>z.cells[i%te.ty.size]!)= #[]:=by rw[h0];simp
  rw[e1]at h3;have e2:∀zz:Array Value,((Xcl (n*te.ty.size)).map λi=>zz[i%zz.size]!)= #[]:=λzz=>by rw[h0];simp
  simp only[if_pos h0,Sem.run_pure,Result.andThen_ok,e2,fI,h3,WcL];rfl
 .simp only[if_neg h0,Sem.run_bind,hz,Result.andThen_ok,Sem.run_pure,gM,fI,h3,WcL]
theorem Wi6(hT:Wan P T)(hr:Rel w0 F nt G0 G ν st a w){o:Oper}(hd:∀d,o.dst=some d->nt.Ok d){t:TypeId}{n c:Operand}(ho:o.op= .makeSlice t n c)
  {ty:Ty} {et:TypeId} {te:TE} {n' c':Int} {k k':IntKind} (hl:look T t=some ⟨ty,false,.slice et⟩) (hle:look T et=some te) (hn:a.eval n= .int k n') (hc:a.eval c= .int k' c')
  (h0:0<=n') (h1:n'<=c') (h2:WG c'.toNat=true) (aS:te.ty.data=true) (hp:te.plain=true):
  Done P w0 F nt G0 o a w (st.new o.dst (.arr te.ty (Xw n'.toNat te.ty.dflt)) (.s (.one (.own st.nx)))):=by
 have hu:=(hT _ _ hl).und.2.1;obtain⟨i,z,hi,hs,hz,dj,nT⟩:=(hT _ _ hle).info;rw[WbI hp]at dj;rw[W1 hp]at hs;have gM:z.cells.size=te.ty.size:=by rw[←Xaw,dj,Wbq]
 have aq:c'.toNat<=1073741824:=by simpa [WG]using h2
 have cH:=WgB z.cells c'.toNat;rw[gM,dj]at cH;have nU:rep (WbC te.ty) n'.toNat<+:rep (WbC te.ty) c'.toNat:=by
  have:∀(l:List Value) (p q:Nat),rep l p<+:rep l (p+q):=λl p q=>by
   induction p with
   |zero=>exact Xha
   |succ p ih=>rw[Nat.succ_add];simp only[rep];exact(Xfe _).2 ih
  have h:=this (WbC te.ty) n'.toNat (c'.toNat-n'.toNat)
  rwa [show n'.toNat+(c'.toNat-n'.toNat)=c'.toNat by omega]at h
 have hb:(i.bytes:Int)*c'<=281474976710656:=by
  have h3:(i.bytes:Int)*c'<=4096*c':=Xev (by omega) (by omega);omega
 have hm:madeCells z.cells (c'.toNat*i.size)=(Xcl (c'.toNat*te.ty.size)).map λi=>z.cells[i%te.ty.size]!:=by
  rw[hs,←gM];rfl
 obtain⟨⟨ν',h6⟩,_⟩:=Wog (t:=et) (vs:=(Xcl (c'.toNat*te.ty.size)).map λi=>z.cells[i%te.ty.size]!) hr hd (e:=te.ty) aS (xs:=Xw n'.toNat te.ty.dflt) (cap:=c'.toNat) (cs:=rep (WbC te.ty) n'.toNat) (by simp;omega) (by unfold maxLen;omega)
  (by simp) (WgO aS _) (by rw[cH];exact nU) w rfl rfl rfl rfl
 rw[Xgf]at h6;refine⟨_,_,_,G,ν',?_,.inl rfl,h6⟩;simp only[execOp,ho,hn,hc,Sem.run_bind,run_make (P:=P) w t et i z hu hi hz k k' n' c' h0 h1 hb (by omega),Result.andThen_ok,hm,Sem.run_pure]
theorem Wiy(hT:Wan P T)(hr:Rel w0 F nt G0 G ν st a w){o:Oper}(hd:∀d,o.dst=some d->nt.Ok d){t:TypeId}{n c:Operand}(ho:o.op= .makeSlice t n c)
  {ty:Ty} {et:TypeId} {te:TE} {e:Ty} {n' c':Int} {k k':IntKind} (hl:look T t=some ⟨ty,false,.slice et⟩) (hle:look T et=some te) (hn:a.eval n= .int k n') (hc:a.eval c= .int k' c')
  (h0:0<=n') (h1:n'<=c') (h2:WG c'.toNat=true) (he:e.ro=te.ty) (hp:te.plain=true):
  Done P w0 F nt G0 o a w (st.new o.dst (.arr e (Xw n'.toNat e.dflt)) (.s (.one (.own st.nx)))):=by
 have hu:=(hT _ _ hl).und.2.1;obtain⟨i,z,hi,hs,hz,dj,nT⟩:=(hT _ _ hle).info;rw[WbI hp]at dj;rw[W1 hp]at hs;have ry:te.ty.size=e.size:=by rw[←he,WbG]
 have gM:z.cells.size=te.ty.size:=by rw[←Xaw,dj,Wbq]
 have aq:c'.toNat<=1073741824:=by simpa [WG]using h2
 have cH:=WgB z.cells c'.toNat;rw[gM,dj]at cH;have nU:rep (WbC te.ty) n'.toNat<+:rep (WbC te.ty) c'.toNat:=by
  have:∀(l:List Value) (p q:Nat),rep l p<+:rep l (p+q):=λl p q=>by
   induction p with
   |zero=>exact Xha
   |succ p ih=>rw[Nat.succ_add];simp only[rep];exact(Xfe _).2 ih
  have h:=this (WbC te.ty) n'.toNat (c'.toNat-n'.toNat)
  rwa [show n'.toNat+(c'.toNat-n'.toNat)=c'.toNat by omega]at h
 have hb:(i.bytes:Int)*c'<=281474976710656:=by
  have h3:(i.bytes:Int)*c'<=4096*c':=Xev (by omega) (by omega);omega
 have hm:madeCells z.cells (c'.toNat*i.size)=(Xcl (c'.toNat*te.ty.size)).map λi=>z.cells[i%te.ty.size]!:=by
  rw[hs,←gM];rfl
 obtain⟨⟨ν',h6⟩,_⟩:=WhY (t:=et) (vs:=(Xcl (c'.toNat*te.ty.size)).map λi=>z.cells[i%te.ty.size]!) hr hd [] (e:=e) (xs:=Xw n'.toNat e.dflt) (cap:=c'.toNat) (cs:=rep (WbC te.ty) n'.toNat) (by simp;omega) (by unfold maxLen;omega)
  (by simp[ry]) (λφ _=>by
   obtain⟨ps,g1,g2⟩:=WuH (G:=G) (w:=w) e n'.toNat;rw[he]at g1;exact⟨ps,g1,WlV ps g2,λp hp b o hh=>by rw[g2 p hp]at hh;exact hh.elim⟩) (by rw[cH];exact nU) w rfl rfl rfl rfl
 rw[Xgf]at h6;refine⟨_,_,_,G,ν',?_,.inl rfl,h6⟩;simp only[execOp,ho,hn,hc,Sem.run_bind,run_make (P:=P) w t et i z hu hi hz k k' n' c' h0 h1 hb (by omega),Result.andThen_ok,hm,Sem.run_pure]
theorem Wnh(hT:Wan P T)(hr:Rel w0 F nt G0 G ν st a w){o:Oper}(hd:∀d,o.dst=some d->nt.Ok d){t:TypeId}{parts:Array (Nat×Operand)}{x:Operand}(ho:o.op= .buildSlice t 1 parts)(bK:parts.toList= [(0,x)])
  {ty:Ty} {et:TypeId} {te:TE} {e:Ty} {xv:AVal} {ds:List Cell} {d:e.den} {m:List Nat} (hl:look T t=some ⟨ty,false,.slice et⟩) (hle:look T et=some te) (hx:AValRel G ν st.nx xv (a.eval x)) (gm:WgJ xv=some ds)
  (hf:Waw e ds st.objs=some (d,m,[])) (hm:m.Nodup) (he:e.ro=te.ty) (hp:te.plain=true) (hsz:te.ty.size<=16777216):
  Done P w0 F nt G0 o a w (({env:=st.env,objs:=(st.nx,.arr e [d])::kill st.objs m,nx:=st.nx+1}:St).put o.dst (.s (.one (.own st.nx)))):=by
 have hu:=(hT _ _ hl).und.2.1;obtain⟨z,hz,dj⟩:=WeW (w:=w) (hT _ _ hle);rw[WbI hp]at dj;have ry:te.ty.size=e.size:=by rw[←he,WbG]
 have gM:z.cells.size=te.ty.size:=by rw[←Xaw,dj,Wbq]
 have cH:=WgB z.cells 1;rw[gM,dj]at cH;simp only[rep,Xcy,Nat.one_mul]at cH;obtain⟨h1,h2⟩:=WdC hx gm;have dK:∀φ,HR w0 F G ν φ st.objs st.nx w->∃ps,EncP (TyRel G w e) [d] (a.eval x).cells.toList ps/\Sep (ps.map Pc.fp)/\∀p∈ps,CS.le p.fp (FromL φ st.objs m):=λφ hφ=>by
  obtain⟨ns,g1,g2,g3,_⟩:=Wah (G':=G) hφ (λ_ _ _ hh=>hh) e ds _ d m [] h1 (λi hi=>by simp at hi) hm hf;exact⟨ns,WoE.2 g1,g2,g3⟩
 have hlen:(a.eval x).cells.size=e.size:=by
  obtain⟨φ,hφ⟩:=hr.h;obtain⟨ps,g1,_⟩:=dK φ hφ;have:=WA _ _ _ _ (WoE.1 g1);simpa using this
 have yI:((Xcl te.ty.size).map λi=>z.cells[i%te.ty.size]!).size=te.ty.size:=by simp
 have dR:=Wix (a.eval x).cells.toList 0 0 ((Xcl te.ty.size).map λi=>z.cells[i%te.ty.size]!) (by simp;omega);have rz:((Xcl te.ty.size).map λi=>z.cells[i%te.ty.size]!).toList.length=e.size:=by simp[ry]
 have eH:((a.eval x).cells.toList.zipIdx.foldl (λcs (c,j)=>cs.setIfInBounds (0+j) c) ((Xcl te.ty.size).map λi=>z.cells[i%te.ty.size]!)).toList=(a.eval x).cells.toList:=by
  rw[dR];simp only[Nat.zero_add,List.take_zero,List.nil_append];rw[List.drop_eq_nil_of_le (by rw[rz];simp;omega),Xcy]
 generalize hV:(a.eval x).cells.toList.zipIdx.foldl (λcs (c,j)=>cs.setIfInBounds (0+j) c) ((Xcl te.ty.size).map λi=>z.cells[i%te.ty.size]!)=V at eH;have hVs:V.size=1*e.size:=by rw[←Xaw,eH];simp[hlen]
 obtain⟨⟨ν',h6⟩,_⟩:=WhY (t:=et) (vs:=V) hr hd m (e:=e) (xs:=[d]) (cap:=1) (cs:=(a.eval x).cells.toList) (by simp) (by unfold maxLen;omega) hVs dK (by rw[eH];exact Xfr _) w rfl rfl rfl rfl;refine⟨_,_,_,G,ν',?_,.inl rfl,h6⟩;have rD:Instr.fill (λi=>some (i*te.ty.size,te.ty.size)) ((Xcl te.ty.size).map λi=>z.cells[i%te.ty.size]!) [(0,a.eval x)]=some V:=by
  simp only[Instr.fill,Xew];rw[if_neg (by simp;omega),←hV];congr 1;rw[←Xfh];simp
 have fI:(parts.map λx=>match x with|(i,x)=>(i,a.eval x)).toList= [(0,a.eval x)]:=by simp[bK]
 have hpos:=WbA te.ty;simp only[execOp,ho,Instr.buildSlice,Sem.run_bind,Wc hu,Result.andThen_ok,(hT _ _ hle).sizeOf,W1 hp,Nat.one_mul,if_neg (show¬te.ty.size>2^24 by omega),if_neg (show¬te.ty.size=0 by omega),Sem.run_pure,hz,gM,fI,rD,WcL];rfl
theorem WeF{t:TypeId}{te:TE}(bC:TEok P T t te){b off:Nat}{v:Value}{cur:Array Value}{TT:TypeId}(hg:w.heap[b]?=some (.cells cur TT (0,0)))(hsz:te.size=v.cells.size)(bR:off+v.cells.size<=cur.size)(h1:∀u∈v.cells.toList,u.oneCell'=true):
  (storeVar t ⟨b,off,none⟩ v).run P w= .ok () (w.setRow b (cur.toList.take off++v.cells.toList++cur.toList.drop (off+v.cells.size)).toArray):=by
 have h:=run_storeCells_at P b off TT v.cells.toList 0 cur w hg (by simpa using bR) h1;simp only[Xau,Xaw]at h;simp[storeVar,bC.sizeOf,hsz,h]
theorem WcR{b k:Nat}{vs:Array Value}{T:TypeId}{news:List Value}(h:w.heap[b]?=some (Obj.cells vs T (0,0)))(bR:k+news.length<=vs.size):
  WLe (rng b k news.length) w (w.setRow b (vs.toList.take k++news++vs.toList.drop (k+news.length)).toArray)/\Mem (w.setRow b (vs.toList.take k++news++vs.toList.drop (k+news.length)).toArray) b k news:=by
 have hk:(vs.toList.take k).length=k:=by simp;omega
 constructor
 .refine WLe.setRow h (by simp;omega) (λo hn=>?_);have w6:¬(k<=o/\o<k+news.length):=λ⟨h1,h2⟩=>hn ⟨rfl,h1,h2⟩;simp only[Xep,Xbs];rw[Xaz,hk];split
  .rename_i hlt;rw[Xbo,if_pos hlt];simp
  .rw[Xaz];split
   .omega
   .rw[Xbn,show k+news.length+(o-k-news.length)=o by omega];simp
 .intro j v hj;rw[cell_of_row _ b _ _ T (0,0) (setRow_heap w b vs _ T (0,0) h)];have hlt:j<news.length:=(Xt.1 hj).1;simp only[Xep,Xbs];rw[Xay (by omega),hk,Xbb (by omega),show k+j-k=j by omega];exact hj
theorem Wfc{b o k:Nat}{vs us:List Value}(hm:Mem w b o vs)(hw:WLe (rng b (o+k) us.length) w w')(hu:Mem w' b (o+k) us)(hk:k+us.length<=vs.length):Mem w' b o (vs.take k++us++vs.drop (k+us.length)):=λj v hj=>by
 have gB:∀v',vs[j]?=some v'->¬(k<=j/\j<k+us.length)->w'.cell? ⟨b,o+j,none⟩=some v':=λv' hv hn=>by
  have h1:=hm j v' hv;rw[hw.cell b (o+j) (block_lt_of_cell h1) (λ⟨_,h2,h3⟩=>hn ⟨by omega,by omega⟩)];exact h1
 have cy:(vs.take k).length=k:=by simp;omega
 rw[Xbs,Xaz,cy]at hj;split at hj
 .rename_i hlt;rw[Xbo,if_pos hlt]at hj;exact gB v hj (by omega)
 .rw[Xaz]at hj;split at hj
  .have:=hu (j-k) v hj;rw[show o+j=o+k+(j-k) by omega];exact this
  .rw[Xbn,show k+us.length+(j-k-us.length)=j by omega]at hj;exact gB v hj (by omega)
theorem HR.turn{φ:Nat->CS}(h:HR w0 F G ν φ objs nx w){id:Nat}{ob co:Ob}{m:List Nat}(ho:look objs id=some ob)(hd:ob≠ .dead){S:CS}(hw:WLe S w w')(hs:CS.le S (φ id))
  (cF:WcE G ν nx w' id (λb o=>φ id b o\/FromL φ objs m b o) co):HRel w0 F G ν ((id,co)::kill objs m) nx w':=by
 have hl:Live objs id:=⟨ob,ho,hd⟩;exact⟨_,h.put (ν':=ν) (λ_ _=>rfl) (Xn _) (h.lt id hl) (hw.mono λb o hh=>⟨id,.inl rfl,hl,hs b o hh⟩) (λb o hh=>by
  rcases hh with hh|⟨i,hi,h1,h2⟩
  .exact .inl ⟨id,.inl rfl,hl,hh⟩
  .exact .inl ⟨i,.inr hi,h1,h2⟩) (λ_=>cF)⟩
theorem Wqc(hT:Wan P T)(hr:Rel w0 F nt G0 G ν st a w){o:Oper}{t:TypeId}{x y:Operand}(ho:o.op= .store t x y)(jf:o.dst=none){p v:AVal}(hx:AValRel G ν st.nx p (a.eval x))(hy:AValRel G ν st.nx v (a.eval y))
  (h:WcO T st t p v=some ae):Done P w0 F nt G0 o a w ae:=by
 unfold WcO at h;split at h
 .rename_i te id off ds hl gm;obtain⟨ib,lQ⟩:=WdC hy gm;split at h
  .rename_i cs ar;split at h
   .rename_i bo;simp only[Xh,decide_eq_true_eq]at bo;obtain⟨⟨hs,dX⟩,bR⟩:=bo;injection h with h;subst h;obtain⟨⟨_,b,hb,ge⟩,_⟩:=hx;obtain⟨φ,hφ⟩:=hr.h;obtain⟨b',vs,hb',⟨row,TT,fJ,hrow⟩,hmem,bn,eJ⟩:=hφ.ob _ _ ar;rw[hb]at hb';injection hb' with hb';subst hb';have hlen:(a.eval y).cells.size=ds.length:=by have:=ib.1;simpa using this
    have hrun:=WeF (w:=w) (hT _ _ hl) (b:=b) (off:=(ν id).off+off) (v:=a.eval y) fJ (by rw[W1 dX,hlen];exact hs) (by omega) lQ;obtain⟨hw,hm⟩:=WcR (k:=(ν id).off+off) (news:=(a.eval y).cells.toList) fJ (by simp;omega);simp only[Xaw]at hw hm;generalize w.setRow b (row.toList.take ((ν id).off+off)++(a.eval y).cells.toList++row.toList.drop ((ν id).off+off+(a.eval y).cells.size)).toArray=W at hrun hw hm;have cF:HRel w0 F G ν ((id,.box (Weg cs off ds))::st.objs) st.nx W:=by
     refine hφ.turn (m:=[]) ar (by simp) hw (λb' o ⟨e,h1,h2⟩=>eJ b' o ⟨e,by omega,by omega⟩) ?_;refine⟨b,_,hb,by rw[We2 bR];exact hw.rows.row _ _ ⟨row,TT,fJ,hrow⟩,Wfc hmem (us:=(a.eval y).cells.toList) (by rw[Xaw];exact hw) hm (by rw[bn.1];simp;omega),We4 bn ib,λb o hh=>.inl (eJ b o (by rw[We2 bR]at hh;exact hh))⟩
    refine⟨.skip,undef,W,G,ν,?_,.inr ⟨rfl,rfl⟩,?_⟩
    .simp only[execOp,ho,ge,Instr.storeAt,Instr.sureAddr,Sem.run_bind,Sem.run_pure,Result.andThen_ok,hrun]
    .rw[jf];exact hr.on (λ_ _ _ hh=>hh) (λ_ _=>rfl) (Xn _) cF hr.gx
   .simp at h
  .simp at h
 .rename_i te id i off ds hl gm;obtain⟨ib,lQ⟩:=WdC hy gm;split at h
  .rename_i e xs ar;split at h
   .rename_i bo;simp only[Xh,decide_eq_true_eq]at bo;obtain⟨⟨⟨hs,dX⟩,bR⟩,aS⟩:=bo;split at h
    .rename_i d hf;injection h with h;subst h;obtain⟨⟨_,uN,b,hb,ge⟩,_⟩:=hx;obtain⟨φ,hφ⟩:=hr.h;have hown:OwnL w (TyRel G w e) e.size (ν id) xs (φ id):=hφ.ob _ _ ar;obtain⟨je,h4,h5,kw,cs,h7,h8,h9⟩:=Wdw aS hown hb;obtain⟨row,TT,fJ,hrow⟩:=kw;have bQ:=hown.2.1;have hlt:i<xs.length:=by omega
     have hlen:(a.eval y).cells.toList.length=ds.length:=ib.1;have bH:(a.eval y).cells.size=ds.length:=by simpa using hlen
     have hcl:cs.length=xs.length*e.size:=EncL_len (λx c hc=>Enc_len e x c hc) _ _ h7;have w7:i*e.size+e.size<=xs.length*e.size:=by rw[←Xbx];exact Xbl _ hlt
     have yJ:xs.length*e.size<=(ν id).cap*e.size:=Xbl _ h4;have uO:=WmI (λx c hc=>Enc_len e x c hc) xs cs i e.dflt h7 hlt;have uP:=We4 (off:=off) (WaI (G:=G) (ν:=ν) (nx:=st.nx) e _ _ uO) ib;have henc:=Wnq hr.h uP aS hf;have dR:=WkO (λx c hc=>Enc_len e x c hc) xs cs i d _ h7 hlt henc;have hrun:=WeF (w:=w) (hT _ _ hl) (b:=b) (off:=(ν id).off+(i*e.size+off)) (v:=a.eval y) fJ (by rw[W1 dX];omega) (by omega) lQ;obtain⟨hw,hm⟩:=WcR (k:=(ν id).off+(i*e.size+off)) (news:=(a.eval y).cells.toList) fJ (by omega);simp only[Xaw]at hw hm;generalize w.setRow b (row.toList.take ((ν id).off+(i*e.size+off))++(a.eval y).cells.toList++row.toList.drop ((ν id).off+(i*e.size+off)+(a.eval y).cells.size)).toArray=W at hrun hw hm;have nV:cs.take (i*e.size+off)++(a.eval y).cells.toList++cs.drop (i*e.size+off+(a.eval y).cells.toList.length)=
       cs.take (i*e.size)++(((cs.drop (i*e.size)).take e.size).take off++(a.eval y).cells.toList++((cs.drop (i*e.size)).take e.size).drop (off+(a.eval y).cells.toList.length))++cs.drop (i*e.size+e.size):=by
      rw[hlen];have e1:cs.take (i*e.size+off)=cs.take (i*e.size)++((cs.drop (i*e.size)).take e.size).take off:=by
       rw[List.take_take,Xcg (by omega),←List.take_add]
      have e2:cs.drop (i*e.size+off+ds.length)=((cs.drop (i*e.size)).take e.size).drop (off+ds.length)++cs.drop (i*e.size+e.size):=by
       rw[List.drop_take,Xdt];have:cs.drop (i*e.size+e.size)=(cs.drop (i*e.size+(off+ds.length))).drop (e.size-(off+ds.length)):=by rw[Xdt];congr 1;omega
       rw[this,Xde];congr 1;omega
      rw[e1,e2];simp
     have cF:HRel w0 F G ν ((id,.arr e (xs.set i d))::st.objs) st.nx W:=by
      refine hφ.turn (m:=[]) ar (by simp) hw (λb' o ⟨e',h1,h2⟩=>h9 b' o ⟨e',by omega,by omega⟩) ?_;refine Wl4 aS hb (by simpa using je) bQ (by simpa using h4) h5 (hw.rows.row _ _ ⟨row,TT,fJ,hrow⟩) dR ?_ (λb o hh=>.inl (h9 b o hh));rw[←nV];exact Wfc h8 (us:=(a.eval y).cells.toList) (by rw[Xaw];exact hw) hm (by omega)
     refine⟨.skip,undef,W,G,ν,?_,.inr ⟨rfl,rfl⟩,?_⟩
     .simp only[execOp,ho,ge,bQ,Instr.storeAt,Instr.sureAddr,Sem.run_bind,Sem.run_pure,Result.andThen_ok,hrun]
     .rw[jf];exact hr.on (λ_ _ _ hh=>hh) (λ_ _=>rfl) (Xn _) cF hr.gx
    .simp at h
   .split at h
    .rename_i bo;simp only[Xh,decide_eq_true_eq]at bo;obtain⟨⟨⟨hs,dX⟩,uQ⟩,yK⟩:=bo;subst uQ;split at h
     .rename_i d m hf;split at h
      .rename_i aP;injection h with h;subst h;have aP:(id::m).Nodup:=(WcQ _).1 aP;obtain⟨tP,tQ⟩:=Xai.1 aP;obtain⟨⟨_,uN,b,hb,ge⟩,_⟩:=hx;obtain⟨φ,hφ⟩:=hr.h;have hown:OwnL w (TyRel G w e) e.size (ν id) xs (φ id):=hφ.ob _ _ ar;have aw:Live st.objs id:=⟨_,ar,by simp⟩;obtain⟨je,bQ,h3⟩:=hown;simp only[hb]at h3;obtain⟨h4,h5,kw,cs,ps,h7,h8,h9,ci⟩:=h3;obtain⟨row,TT,fJ,hrow⟩:=kw;have hlt:i<xs.length:=by omega
       have hlen:(a.eval y).cells.toList.length=ds.length:=ib.1;have bH:(a.eval y).cells.size=ds.length:=by simpa using hlen
       have w7:i*e.size+e.size<=xs.length*e.size:=by rw[←Xbx];exact Xbl _ hlt
       have yJ:xs.length*e.size<=(ν id).cap*e.size:=Xbl _ h4;obtain⟨c1,c,c2,p1,pc,p2,g1,g2,g3,g4,g5⟩:=Wn3 h7 e.dflt hlt;have l1:=Wa1 (λx c q hx=>WA e x c q hx) _ _ _ g3;rw[Xap,Xcg (by omega)]at l1;have lc:=WA _ _ _ _ g4;obtain⟨ns,t1,t2,t3,t4,_⟩:=Wah (G':=G) hφ (λ_ _ _ hh=>hh) e ds _ d m [] ib (λi hi=>by simp at hi) tQ hf;have hrun:=WeF (w:=w) (hT _ _ hl) (b:=b) (off:=(ν id).off+(i*e.size+0)) (v:=a.eval y) fJ (by rw[W1 dX];omega) (by omega) lQ;obtain⟨hw,hm⟩:=WcR (k:=(ν id).off+(i*e.size+0)) (news:=(a.eval y).cells.toList) fJ (by omega);simp only[Xaw]at hw hm;generalize w.setRow b (row.toList.take ((ν id).off+(i*e.size+0))++(a.eval y).cells.toList++row.toList.drop ((ν id).off+(i*e.size+0)+(a.eval y).cells.size)).toArray=W at hrun hw hm;have ic:CS.le (rng b ((ν id).off+(i*e.size+0)) (a.eval y).cells.size) (rng b (ν id).off ((ν id).cap*e.size)):=λb' o ⟨e',k1,k2⟩=>⟨e',by omega,by omega⟩;have gg:=ci _ (Xi ..);have hbl:∀p∈p1++(pc++p2),∀b o,p.fp b o->b<w.heap.size:=λp hp b o hh=>hφ.bl id b o aw (ci p.fp (Xe _ (Xan (by rw[g2];exact hp))) b o hh);obtain⟨q1,q2⟩:=Xac.1 h9;have iI:∀p∈p1++(pc++p2),Same p.fp w W:=λp hp=>hw.same ((q1 p.fp (Xan (by rw[g2];exact hp))).mono ic (λ_ _ hh=>hh)) (hbl p hp);have kx:∀p∈ns,Same p.fp w W:=λp hp=>hw.same (λb o k1 k2=>by
        obtain⟨j,hj,k3,k4⟩:=t3 p hp b o k2;have:=hφ.inj id j b o aw k3 (gg b o (ic b o k1)) k4;subst this;exact tP hj) (λb o hh=>by
        obtain⟨j,hj,k3,k4⟩:=t3 p hp b o hh;exact hφ.bl j b o k3 k4)
       have hEnc:EncP (TyRel G W e) (xs.set i d) (c1++((a.eval y).cells.toList++c2)) (p1++(ns++p2)):=by
        refine WoN hlt ?_ (WaE (λ_ _ _ hh=>hh) e _ _ _ kx t1) ?_
        .exact WbY (Q:=λq=>Same q.fp w W) (λx c q hq hx=>WaE (λ_ _ _ hh=>hh) e x c q hq hx) _ _ _ (λq hq=>iI q (Xk _ hq)) g3
        .exact WbY (Q:=λq=>Same q.fp w W) (λx c q hq hx=>WaE (λ_ _ _ hh=>hh) e x c q hq hx) _ _ _ (λq hq=>iI q (Xg _ (Xg _ hq))) g5
       have hMem:Mem W b (ν id).off (c1++((a.eval y).cells.toList++c2)):=by
        have:=Wfc h8 (k:=i*e.size+0) (us:=(a.eval y).cells.toList) (by rw[Xaw];exact hw) hm (by rw[g1];simp;omega);rw[g1,Xau,List.take_append_of_le_length (by omega),List.take_of_length_le (by omega)]at this;have ky:(c1++(c++c2)).drop (i*e.size+(a.eval y).cells.toList.length)=c2:=by
         rw[←Xbs,show i*e.size+(a.eval y).cells.toList.length=(c1++c).length by rw[Xaa];omega,List.drop_left]
        rw[ky,Xbs]at this;exact this
       have cF:HRel w0 F G ν ((id,.arr e (xs.set i d))::kill st.objs m) st.nx W:=by
        refine hφ.turn ar (by simp) hw (λb' o hh=>gg b' o (ic b' o hh)) ?_;refine⟨by simpa using je,bQ,?_⟩;simp only[hb];rw[g2,Xr,Xr]at q2 q1;have qA:=Xag.1 q2;have qB:=Xag.1 qA.2.1;have nW:∀p∈ns,∀s,CS.le s (φ id)->CS.disj p.fp s:=λp hp s hs b o k1 k2=>by
         obtain⟨j,hj,k3,k4⟩:=t3 p hp b o k1;have:=hφ.inj id j b o aw k3 (hs b o k2) k4;subst this;exact tP hj
        have bK:∀p∈p1++(pc++p2),CS.le p.fp (φ id):=λp hp=>ci p.fp (Xe _ (Xan (by rw[g2];exact hp)));refine⟨by simpa using h4,h5,hw.rows.row _ _ ⟨row,TT,fJ,hrow⟩,_,p1++(ns++p2),hEnc,hMem,Xac.2 ⟨λs hs=>?_,?_⟩,λs hs=>?_⟩
        .simp only[Xr,Xm]at hs;rcases hs with hs|hs|hs
         .exact q1 s (Xk _ hs)
         .obtain⟨p,hp,rfl⟩:=Xv.1 hs;exact(nW p hp _ gg).symm
         .exact q1 s (Xg _ (Xg _ hs))
        .rw[Xr,Xr];refine Wmy (Xag.2 ⟨qA.1,qB.2.1,λs hs t ht=>qA.2.2 s hs t (Xg _ ht)⟩) t2 (λs hs t ht=>?_);obtain⟨p,hp,rfl⟩:=Xv.1 hs;rcases Xm.1 ht with ht|ht
         .obtain⟨q,hq,rfl⟩:=Xv.1 ht;exact nW p hp _ (bK q (Xk _ hq))
         .obtain⟨q,hq,rfl⟩:=Xv.1 ht;exact nW p hp _ (bK q (Xg _ (Xg _ hq)))
        .intro b o hh;rcases Xo.1 hs with rfl|hs
         .exact .inl (gg b o hh)
         .simp only[Xr,Xm]at hs;rcases hs with hs|hs|hs
          .obtain⟨q,hq,rfl⟩:=Xv.1 hs;exact .inl (bK q (Xk _ hq) b o hh)
          .obtain⟨q,hq,rfl⟩:=Xv.1 hs;exact .inr (t3 q hq b o hh)
          .obtain⟨q,hq,rfl⟩:=Xv.1 hs;exact .inl (bK q (Xg _ (Xg _ hq)) b o hh)
       refine⟨.skip,undef,W,G,ν,?_,.inr ⟨rfl,rfl⟩,?_⟩
       .simp only[execOp,ho,ge,bQ,Instr.storeAt,Instr.sureAddr,Sem.run_bind,Sem.run_pure,Result.andThen_ok,hrun]
       .rw[jf];exact hr.on (λ_ _ _ hh=>hh) (λ_ _=>rfl) (Xn _) cF hr.gx
      .simp at h
     .simp at h
    .simp at h
  .simp at h
 .simp at h
end
end Go.Sx
namespace Go.Sx
set_option linter.unusedVariables false
set_option linter.unusedSimpArgs false
theorem WvG{G:GH}(t:Ty)(d:t.den)(cs:List Value)(h:Enc G t d cs):∀u∈cs,u.oneCell'=true:=λu hu=>by
 obtain⟨j,hj⟩:=Xdw hu;have hc:=WaI (ν:=λ_=>⟨none,0,0,0,0⟩) (nx:=0) t d cs h;have hlt:j<(split t d).length:=by rw[←hc.1];exact(Xt.1 hj).1
 exact(hc.2 j _ u (Xs hlt) hj).2
theorem Wpx{G:GH}{t:Ty}:∀(l:List t.den) (cs:List Value),EncL (Enc G t) l cs->∀u∈cs,u.oneCell'=true
 | [],cs,h,u,hu=>by simp[EncL]at h;subst h;simp at hu
 |x::l,cs,⟨c1,c2,he,h1,h2⟩,u,hu=>by
  subst he;rcases Xm.1 hu with hu|hu
  .exact WvG t x c1 h1 u hu
  .exact Wpx l c2 h2 u hu
theorem Wsa{G:GH}{w:World}(t:Ty)(d:t.den)(cs:List Value)(ps:List Pc)(h:TyRel G w t d cs ps):∀u∈cs,u.oneCell'=true:=λu hu=>by
 obtain⟨j,hj⟩:=Xdw hu;have hc:=WhQ (ν:=λ_=>⟨none,0,0,0,0⟩) (nx:=0) t d cs ps h;have hlt:j<(split t d).length:=by rw[←hc.1];exact(Xt.1 hj).1
 exact(hc.2 j _ u (Xs hlt) hj).2
theorem Wmi{G:GH}{w:World}{t:Ty}:∀(l:List t.den) (cs:List Value) (ps:List Pc),EncP (TyRel G w t) l cs ps->∀u∈cs,u.oneCell'=true
 | [],cs,ps,h,u,hu=>by rw[h.1]at hu;simp at hu
 |x::l,cs,ps,⟨c1,c2,p1,p2,he,hp,h1,h2⟩,u,hu=>by
  subst he;rcases Xm.1 hu with hu|hu
  .exact Wsa t x c1 p1 h1 u hu
  .exact Wmi l c2 p2 h2 u hu
section
variable{w0:World}{F:CS}{nt:Slots}{G0 G:GH}{ν:Nat->Nu}{φ:Nat->CS}{objs:Waf}{nx:Nat}{st ae:St}{a:Act}{w w':World}{P:Program}{T:Tab}
structure Src(w0:World)(F:CS)(G:GH)(ν:Nat->Nu)(st:St)(w:World)(e:Ty)(l:List e.den)(m:List Nat)(v:Value)(news:List Value):Prop where
 enc:∀φ,HR w0 F G ν φ st.objs st.nx w->∃ps,EncP (TyRel G w e) l news ps/\Sep (ps.map Pc.fp)/\∀p∈ps,CS.le p.fp (FromL φ st.objs m)
 rd:(v= .slice none 0 0/\l= [])\/∃(p:Addr) (c:Nat),v= .slice (some p) l.length c/\∀(j:Nat) (u:Value),news[j]?=some u->w.cell? (p.add j)=some u
theorem WcF{e:Ty}(he:e.data=true){l:List e.den}{m:List Nat}{v:Value}{news:List Value}(h:EncL (Enc G e) l news)
  (rd:(v= .slice none 0 0/\l= [])\/∃(p:Addr) (c:Nat),v= .slice (some p) l.length c/\∀(j:Nat) (u:Value),news[j]?=some u->w.cell? (p.add j)=some u):Src w0 F G ν st w e l m v news:=
 ⟨λφ _=>⟨[],(EncP_data he l news []).2 ⟨h,rfl⟩,List.Pairwise.nil,by simp⟩,rd⟩
theorem WiJ(hr:Rel w0 F nt G0 G ν st a w){e:Ty}(he:e.data=true){x:AVal}{u:Value}{l:List e.den}(m:List Nat)(hx:AValRel G ν st.nx x u)(h:Wv6 st e x=some l):∃news,Src w0 F G ν st w e l m u news:=by
 unfold Wv6 at h;split at h
 .rename_i e' d';obtain⟨jG,hd⟩:=Wax h;subst jG;simp only at hd;subst hd;obtain⟨⟨v,hv,hs⟩,_⟩:=hx;simp at hv;subst hv;rcases hs with⟨rfl,hn⟩|⟨b,off,cap,cs,rfl,h1,h2,h3,h4⟩|⟨a',cap,rfl,hn⟩
  rotate_left 2
  .exact⟨[],WcF he (by rw[hn];rfl) (.inr ⟨a',cap,by rw[hn];rfl,λj u hj=>by simp at hj⟩)⟩
  .exact⟨[],WcF he (by rw[hn];rfl) (.inl ⟨rfl,hn⟩)⟩
  .exact⟨cs,WcF he h3 (.inr ⟨⟨b,off,none⟩,cap,rfl,λj u hj=>by rw[Wa0];exact hr.h.g (h4 j u hj)⟩)⟩
 .injection h with h;subst h;obtain⟨hv,_⟩:=hx;simp only[CellRel]at hv;subst hv;exact⟨[],WcF he rfl (.inl ⟨rfl,rfl⟩)⟩
 .rename_i id;split at h
  .rename_i e' xs ho;obtain⟨jG,hd⟩:=Wax h;subst jG;simp only at hd;subst hd;obtain⟨⟨_,hv⟩,_⟩:=hx;subst hv;obtain⟨S,ar⟩:=hr.h.obj ho;unfold Nu.hdr;cases hb:(ν id).blk with
   |none=>have:=Wcn ar hb;exact⟨[],WcF he (by rw[this];rfl) (.inl ⟨rfl,this⟩)⟩
   |some b=>
    obtain⟨h1,h2,h3,h4,cs,h5,h6,h7⟩:=Wdw he ar hb;exact⟨cs,WcF he h5 (.inr ⟨⟨b,(ν id).off,none⟩,(ν id).cap,by rw[h1],λj u hj=>by rw[Wa0];exact h6 j u hj⟩)⟩
  .simp at h
 .rename_i id lo hi;split at h
  .rename_i e' xs ho;obtain⟨ys,hc,h⟩:=Xx.1 h;subst h;obtain⟨jG,hd⟩:=Wax hc;subst jG;simp only at hd;subst hd;obtain⟨⟨_,g1,g2,g3,hv⟩,_⟩:=hx;subst hv;obtain⟨S,ar⟩:=hr.h.obj ho;have bQ:=ar.2.1;have w8:=ar.1;unfold Nu.vhdr;cases hb:(ν id).blk with
   |none=>
    have:=Wcn ar hb;subst this;exact⟨[],WcF he (by simp;rfl) (.inl ⟨rfl,by simp⟩)⟩
   |some b=>
    obtain⟨h1,h2,h3,h4,cs,h5,h6,h7⟩:=Wdw he ar hb;have hl:((xs.take hi).drop lo).length=hi-lo:=by simp;omega
    by_cases nX:(ν id).cap=lo
    .have h0:(xs.take hi).drop lo= []:=Xy (by omega);exact⟨[],WcF he (by rw[h0];rfl) (.inr ⟨_,_,by rw[hl],λj u hj=>by simp at hj⟩)⟩
    .refine⟨(cs.take (hi*e'.size)).drop (lo*e'.size),WcF he (Wen (λx c hc=>Enc_len e' x c hc) _ _ lo (WeB (λx c hc=>Enc_len e' x c hc) _ _ hi h5)) (.inr ⟨_,_,by rw[hl,if_neg nX],λj u hj=>?_⟩)⟩;rw[Xbn,Xbo]at hj;rw[Wa0,bQ,Xar];split at hj
     .exact h6 _ u hj
     .simp at hj
  .simp at h
 .simp at h
theorem WqR(hr:Rel w0 F nt G0 G ν st a w){dst:Option Tmp}(hd:∀d,dst=some d->nt.Ok d)(e:Ty)(m:List Nat):
  ∃ν',Rel w0 F nt G0 G ν' (({env:=st.env,objs:=(st.nx,.arr e [])::kill st.objs m,nx:=st.nx+1}:St).put dst (.s (.one (.own st.nx)))) (a.put dst (.slice none 0 0)) w:=by
 refine⟨upd ν st.nx ⟨none,0,0,0,e.size⟩,hr.fresh hd m (.arr e []) _ (λ_ _ _=>False) _ _ (λφ _=>WLe.refl _ w) (λφ _ b o hh=>hh.elim) (λφ _=>?_) ⟨⟨Xbu _,by rw[Wbr];rfl⟩,rfl⟩⟩;show OwnL _ _ _ (upd ν st.nx ⟨none,0,0,0,e.size⟩ st.nx) _ _;rw[Wbr];exact⟨rfl,rfl,rfl⟩
theorem Wh1(t ty e TT:TypeId)(i:TypeInfo)(ht:P.underlying t=some (.slice e))(hi:P.info? e=some i)
  (g off sLen sCap:Nat) (cur:Array Value) (hg:w.heap[g]?=some (.cells cur TT (0,0)))
  (p:Addr) (m c:Nat) (news:List Value) (hl:news.length=m*i.size) (rE:∀j u,news[j]?=some u->w.cell? (p.add j)=some u) (h1:∀u∈news,u.oneCell'=true)
  (aq:sLen+m<=sCap) (bR:off+sLen*i.size+news.length<=cur.size):
  (Builtin.append_ #[t,t] ty #[.slice (some ⟨g,off,none⟩) sLen sCap,.slice (some p) m c]).run P w=
   .ok (.slice (some ⟨g,off,none⟩) (sLen+m) sCap) (w.setRow g (cur.toList.take (off+sLen*i.size)++news++cur.toList.drop (off+sLen*i.size+news.length)).toArray):=by
 have hf:=run_firstCells_some (P:=P) w i.size m p m c news hl rE;have ay:=run_storeCells_at P g (off+sLen*i.size) TT news 0 cur w hg (by simpa using bR) h1;simp only[Xau]at ay;simp[Builtin.append_,Wc ht,sizeOf,typeInfo,hi,Builtin.lenOf,aq,hf,Wa0,ay]
theorem Wer(t ty e:TypeId)(i:TypeInfo)(ht:P.underlying t=some (.slice e))(hi:P.info? e=some i)(base:Option Addr)(n cap:Nat)(h:n<=cap):
  (Builtin.append_ #[t,t] ty #[.slice base n cap,.slice none 0 0]).run P w= .ok (.slice base n cap) w:=by
 cases base<;>simp[Builtin.append_,Wc ht,sizeOf,typeInfo,hi,Builtin.lenOf,h,Builtin.firstCells,storeCells]
theorem Wh2(t ty e:TypeId)(i:TypeInfo)(ht:P.underlying t=some (.slice e))(hi:P.info? e=some i)(p:Addr)(c:Nat):
  (Builtin.append_ #[t,t] ty #[.slice none 0 0,.slice (some p) 0 c]).run P w= .ok (.slice none 0 0) w:=by
 simp[Builtin.append_,Wc ht,sizeOf,typeInfo,hi,Builtin.lenOf,Builtin.firstCells,loadCells,loadCellsFrom]
theorem Wb8{o:Oper}{c:Call}(ho:o.op= .call c){s x:Operand}{t:TypeId}(hc:c.callee= .builtin .append)(ha:c.args.toList= [s,x])(dh:c.argTypes.toList= [t,t]){v:Value}
  (hrun:(Builtin.append_ #[t,t] o.type #[a.eval s,a.eval x]).run P w= .ok v w'):(execOp a.eval o).run P w= .ok (.value v) w':=by
 obtain⟨callee,args,argTypes⟩:=c;obtain⟨args⟩:=args;obtain⟨argTypes⟩:=argTypes;simp only at hc ha dh;subst hc ha dh;simp only[execOp,ho,resolve,invoke,builtin,Sem.run_bind,Sem.run_pure,Result.andThen_ok,Xdy,Xaj,Xck,hrun]
theorem WuO(w:World)(need old:Nat)(e:TypeId)(h:WG need=true):need<=grownCap w need old e/\grownCap w need old e<=maxLen:=
 ⟨grownCap_ge w need old e,grownCap_le_maxLen w need old e (by simp[WG]at h;unfold maxLen;omega)⟩
theorem WjN(hr:Rel w0 F nt G0 G ν st a w){dst:Option Tmp}(hd:∀d,dst=some d->nt.Ok d)(m:List Nat){e:Ty}{xs:List e.den}{cs:List Value}(hl:cs.length=xs.length*e.size)
  (hc:∀φ,HR w0 F G ν φ st.objs st.nx w->∃ps,EncP (TyRel G w e) xs cs ps/\Sep (ps.map Pc.fp)/\∀p∈ps,CS.le p.fp (FromL φ st.objs m)) {cap:Nat} (hY:xs.length<=cap) (ie:cap<=maxLen) (z:Array Value) (hz:z.size=e.size) (t:TypeId):
  ∃ν',Rel w0 F nt G0 G ν' (({env:=st.env,objs:=(st.nx,.arr e xs)::kill st.objs m,nx:=st.nx+1}:St).put dst (.s (.one (.own st.nx)))) (a.put dst (.slice (some ⟨w.heap.size,0,none⟩) xs.length cap)) (w.drew.alloc (.cells (cs.toArray++Builtin.zeroCells z (cap-xs.length)) t)):=by
 refine(WhY hr hd m (e:=e) (xs:=xs) (cap:=cap) (cs:=cs) (vs:=cs.toArray++Builtin.zeroCells z (cap-xs.length)) (t:=t) hY ie ?_ hc ?_ w.drew rfl rfl rfl rfl).1
 .simp only[Array.size_append,List.size_toArray,size_zeroCells,hz,hl,←Xcx];congr 1;omega
 .simp
structure ElT(P:Program)(t et:TypeId)(e:Ty):Prop where
 u:P.underlying t=some (.slice et)
 i:∃i z,P.info? et=some i/\i.size=e.size/\i.zero=some z/\z.cells.size=e.size/\i.bytes<=4096
theorem elT(hT:Wan P T){t et:TypeId}{ty:Ty}{ag:Bool}{te:TE}{e:Ty}(hl:look T t=some ⟨ty,ag,.slice et⟩)(hle:look T et=some te)(hp:te.plain=true)(he:te.ty.size=e.size):ElT P t et e:=by
 obtain⟨i,z,hi,hsz,hz,dj,nT⟩:=(hT _ _ hle).info;rw[W1 hp]at hsz;rw[WbI hp]at dj;exact⟨(hT _ _ hl).und.2.1,i,z,hi,by rw[hsz,he],hz,by rw[←Xaw,dj,Wbq,he],nT⟩
theorem Wbx(hr:Rel w0 F nt G0 G ν st a w){o:Oper}(hd:∀d,o.dst=some d->nt.Ok d){c:Call}{s x:Operand}{t et:TypeId}{e:Ty}(hE:ElT P t et e)
  (ho:o.op= .call c) (hc:c.callee= .builtin .append) (ha:c.args.toList= [s,x]) (dh:c.argTypes.toList= [t,t]) (cN:a.eval s= .slice none 0 0)
  {l:List e.den} {m m':List Nat} {news:List Value} (hx:Src w0 F G ν st w e l m (a.eval x) news) (hm:∀i∈m,i∈m') (aq:WG l.length=true):
  Done P w0 F nt G0 o a w (({env:=st.env,objs:=(st.nx,.arr e l)::kill st.objs m',nx:=st.nx+1}:St).put o.dst (.s (.one (.own st.nx)))):=by
 obtain⟨hu,i,z,hi,hsz,hz,gM,nT⟩:=hE;have uR:l.length<=1073741824:=by simpa [WG]using aq
 have hpos:=WbA e;rcases hx.rd with⟨aD,bB⟩|⟨pa,cc,aD,an⟩
 .subst bB;obtain⟨ν',hh⟩:=WqR hr hd e m';exact⟨_,_,_,G,ν',Wb8 ho hc ha dh (by rw[cN,aD];exact Wer t _ et i hu hi none 0 0 (Xn _)),.inl rfl,hh⟩
 .by_cases h0:l.length=0
  .have bB:l= []:=Xy h0;subst bB;obtain⟨ν',hh⟩:=WqR hr hd e m';exact⟨_,_,_,G,ν',Wb8 ho hc ha dh (by rw[cN,aD];exact Wh2 t _ et i hu hi _ _),.inl rfl,hh⟩
  .obtain⟨φ,hφ⟩:=hr.h;obtain⟨yL,e0,_⟩:=hx.enc φ hφ;have iJ:news.length=l.length*e.size:=Wa1 (λx c q hx=>WA e x c q hx) _ _ _ e0;obtain⟨mP,fa⟩:=WuO w l.length 0 et aq;obtain⟨ν',hh⟩:=WjN hr hd m' iJ (λφ hφ=>by
    obtain⟨ps,k1,k2,k3⟩:=hx.enc φ hφ;exact⟨ps,k1,k2,λp hp b o hh=>FromL.mono hm b o (k3 p hp b o hh)⟩) mP fa z.cells gM et
   have uS:l.length*i.bytes<=281474976710656:=by
    have:=Nat.mul_le_mul uR nT;omega
   refine⟨_,_,_,G,ν',Wb8 ho hc ha dh ?_,.inl rfl,hh⟩;rw[cN,aD];exact run_append_nil (P:=P) w t _ et i z hu hi hz pa l.length cc news (by rw[hsz];exact iJ) (λj v hj=>an j v hj) (by omega) (by omega) uS
theorem Wdr{e:Ty}{nu:Nu}{xs:List e.den}{S:CS}{b k:Nat}(h:OwnL w (TyRel G w e) e.size nu xs S)(hb:nu.blk=some b)(hk:k<=xs.length):
  ∃c1 p1,EncP (TyRel G w e) (xs.take k) c1 p1/\c1.length=k*e.size/\Mem w b nu.off c1/\Sep (rng b nu.off (nu.cap*e.size)::p1.map Pc.fp)/\(∀s∈rng b nu.off (nu.cap*e.size)::p1.map Pc.fp,CS.le s S):=by
 obtain⟨h1,h2,h3⟩:=h;simp only[hb]at h3;obtain⟨h4,h5,h6,cs,ps,h7,h8,h9,ci⟩:=h3;obtain⟨c1,c2,p1,p2,g1,g2,g3,g4⟩:=WeC xs cs ps k h7;have hl:=Wa1 (λx c q hx=>WA e x c q hx) _ _ _ g3;rw[Xap,Xcg hk]at hl;obtain⟨q1,q2⟩:=Xac.1 h9;rw[g2,Xr]at q1 q2 ci;refine⟨c1,p1,g3,hl,by rw[g1]at h8;exact h8.left,Xac.2 ⟨λs hs=>q1 s (Xk _ hs),(Xag.1 q2).1⟩,λs hs=>?_⟩;rcases Xo.1 hs with rfl|hs
 .exact ci _ (Xi ..)
 .exact ci s (Xe _ (Xk _ hs))
theorem Wdo(hr:Rel w0 F nt G0 G ν st a w){o:Oper}(hd:∀d,o.dst=some d->nt.Ok d){c:Call}{s x:Operand}{t et:TypeId}{e:Ty}(hE:ElT P t et e)
  (ho:o.op= .call c) (hc:c.callee= .builtin .append) (ha:c.args.toList= [s,x]) (dh:c.argTypes.toList= [t,t])
  {id g k:Nat} {xs:List e.den} (ar:look st.objs id=some (.arr e xs)) (aU:(ν id).blk=some g) (hk:k<=xs.length) (cN:a.eval s= .slice (some ⟨g,(ν id).off,none⟩) k (ν id).cap)
  {l:List e.den} {m:List Nat} {news:List Value} (hx:Src w0 F G ν st w e l m (a.eval x) news) (hm:id∉m) (aq:WG (k+l.length)=true):
  Done P w0 F nt G0 o a w (({env:=st.env,objs:=(st.nx,.arr e (Xf (xs.take k) l))::kill st.objs (id::m),nx:=st.nx+1}:St).put o.dst (.s (.one (.own st.nx)))):=by
 obtain⟨hu,i,z,hi,hsz,hz,gM,nT⟩:=hE;have uR:k+l.length<=1073741824:=by simpa [WG]using aq
 have hpos:=WbA e;have hlen:(Xf (xs.take k) l).length=k+l.length:=by show(xs.take k++l).length=_;rw[Xaa,Xap,Xcg hk]
 obtain⟨φ0,hφ0⟩:=hr.h;have iK:OwnL w (TyRel G w e) e.size (ν id) xs (φ0 id):=hφ0.ob _ _ ar;have mT:=iK.2.2;simp only[aU]at mT;obtain⟨hxc,ie,⟨row,TT,fJ,hrow⟩,_⟩:=mT;obtain⟨c1,p10,_,rF,rG,_,_⟩:=Wdr iK aU hk;obtain⟨yL,e0,_⟩:=hx.enc φ0 hφ0;have iJ:news.length=l.length*e.size:=Wa1 (λx c q hx=>WA e x c q hx) _ _ _ e0;have aw:Live st.objs id:=⟨_,ar,by simp⟩;have rH:∀{c2:List Value},c2.length=k*e.size->Mem w g (ν id).off c2->c2=c1:=λ{c2} h1 h2=>Xfj λj=>by
  by_cases hj:j<k*e.size
  .have nY:j<c2.length:=by omega
   have rI:j<c1.length:=by omega
   have a1:=h2 j _ (Xs nY);have a2:=rG j _ (Xs rI);rw[a1]at a2;rw[Xs nY,Xs rI];exact a2
  .rw[Xbg (by omega),Xbg (by omega)]
 have inplace:∀(W:World),WLe (rng g ((ν id).off+k*e.size) (l.length*e.size)) w W->Mem W g ((ν id).off+k*e.size) news->k+l.length<=(ν id).cap->
   ∃ν',Rel w0 F nt G0 G ν' (({env:=st.env,objs:=(st.nx,.arr e (Xf (xs.take k) l))::kill st.objs (id::m),nx:=st.nx+1}:St).put o.dst (.s (.one (.own st.nx)))) (a.put o.dst (.slice (some ⟨g,(ν id).off,none⟩) (k+l.length) (ν id).cap)) W:=by
  intro W hW hM bR;have gZ:(k+l.length)*e.size<=(ν id).cap*e.size:=Xbl _ bR;rw[Xcx]at gZ;have ic:CS.le (rng g ((ν id).off+k*e.size) (l.length*e.size)) (rng g (ν id).off ((ν id).cap*e.size)):=λb o ⟨k0,k1,k2⟩=>⟨k0,by omega,by omega⟩;refine⟨upd ν st.nx ⟨some g,(ν id).off,k+l.length,(ν id).cap,e.size⟩,hr.fresh hd (id::m) (.arr e (Xf (xs.take k) l)) _ (λφ b o=>φ id b o\/FromL φ st.objs m b o) _ _ (λφ hφ=>?_) (λφ hφ b o hh=>?_) (λφ hφ=>?_) ⟨⟨Xbu _,by rw[Wbr];rfl⟩,rfl⟩⟩
  .have hown:OwnL w (TyRel G w e) e.size (ν id) xs (φ id):=hφ.ob _ _ ar;obtain⟨_,_,_,_,_,_,hle⟩:=Wdr hown aU hk;exact hW.mono λb o hh=>⟨id,.inr (Xi ..),aw,hle _ (Xi ..) b o (ic b o hh)⟩
  .rcases hh with hh|⟨j,hj,h1,h2⟩
   .exact .inl ⟨id,.inr (Xi ..),aw,hh⟩
   .exact .inl ⟨j,.inr (Xe _ hj),h1,h2⟩
  .have hown:OwnL w (TyRel G w e) e.size (ν id) xs (φ id):=hφ.ob _ _ ar;obtain⟨qI,p1,g3,g4,g5,g6,g7⟩:=Wdr hown aU hk;obtain⟨ps,k1,k2,k3⟩:=hx.enc φ hφ;obtain⟨q1,q2⟩:=Xac.1 g6;have gg:=g7 _ (Xi ..);have lR:∀p∈p1,CS.le p.fp (φ id):=λp hp=>g7 _ (Xe _ (Xan hp));have kz:∀p∈ps,∀S,CS.le S (φ id)->CS.disj S p.fp:=λp hp S hS b o h1 h2=>by
    obtain⟨j,hj,h3,h4⟩:=k3 p hp b o h2;have:=hφ.inj id j b o aw h3 (hS b o h1) h4;subst this;exact hm hj
   have iI:∀p∈p1,Same p.fp w W:=λp hp=>hW.same ((q1 p.fp (Xan hp)).mono ic (λ_ _ hh=>hh)) (λb o hh=>hφ.bl id b o aw (lR p hp b o hh));have kx:∀p∈ps,Same p.fp w W:=λp hp=>hW.same (kz p hp _ (λb o hh=>gg b o (ic b o hh))) (λb o hh=>by
    obtain⟨j,hj,h3,h4⟩:=k3 p hp b o hh;exact hφ.bl j b o h3 h4)
   show OwnL W (TyRel G W e) e.size (upd ν st.nx ⟨some g,(ν id).off,k+l.length,(ν id).cap,e.size⟩ st.nx) _ _;rw[Wbr];refine⟨hlen,rfl,by rw[hlen];exact bR,ie,hW.rows.row _ _ ⟨row,TT,fJ,hrow⟩,qI++news,p1++ps,Wd5 _ _ _ _ _ _ ?_ ?_,?_,Xac.2 ⟨λs hs=>?_,?_⟩,λs hs b o hh=>?_⟩
   .exact WbY (Q:=λq=>Same q.fp w W) (λx c q hq hx=>WaE (λ_ _ _ hh=>hh) e x c q hq hx) _ _ _ iI g3
   .exact WbY (Q:=λq=>Same q.fp w W) (λx c q hq hx=>WaE (λ_ _ _ hh=>hh) e x c q hq hx) _ _ _ kx k1
   .refine Mem.app (n:=k*e.size) (λj v hj=>?_) hM g4;have h1:=g5 j v hj;have hj':j<qI.length:=(Xt.1 hj).1;rw[hW.cell g ((ν id).off+j) (block_lt_of_cell h1) (λ⟨_,h2,_⟩=>by omega)];exact h1
   .rw[Xr]at hs;rcases Xm.1 hs with hs|hs
    .exact q1 s hs
    .obtain⟨p,hp,rfl⟩:=Xv.1 hs;exact kz p hp _ gg
   .rw[Xr];refine Xag.2 ⟨q2,k2,λs hs t ht=>?_⟩;obtain⟨p,hp,rfl⟩:=Xv.1 hs;obtain⟨q,hq,rfl⟩:=Xv.1 ht;exact kz q hq _ (lR p hp)
   .rcases Xo.1 hs with rfl|hs
    .exact .inl (gg b o hh)
    .rw[Xr]at hs;rcases Xm.1 hs with hs|hs
     .obtain⟨p,hp,rfl⟩:=Xv.1 hs;exact .inl (lR p hp b o hh)
     .obtain⟨q,hq,rfl⟩:=Xv.1 hs;exact .inr (k3 q hq b o hh)
 rcases hx.rd with⟨aD,bB⟩|⟨pa,cc,aD,an⟩
 .have hl0:l.length=0:=by rw[bB];rfl
  have qH:news= []:=Xy (by rw[iJ,hl0];simp);obtain⟨ν',hh⟩:=inplace w (WLe.refl _ w) (by rw[qH];exactλj v hj=>by simp at hj) (by omega);refine⟨_,_,_,G,ν',Wb8 ho hc ha dh ?_,.inl rfl,hh⟩;rw[cN,aD,Wer t _ et i hu hi _ _ _ (by omega),hl0];rfl
 .by_cases bR:k+l.length<=(ν id).cap
  .have rJ:(k+l.length)*e.size<=(ν id).cap*e.size:=Xbl _ bR;rw[Xcx]at rJ;have hrun:=Wh1 (P:=P) (w:=w) t o.type et TT i hu hi g (ν id).off k (ν id).cap row fJ pa l.length cc news (by rw[hsz];exact iJ) (λj v hj=>an j v hj) (Wmi _ _ _ e0) bR (by rw[hsz,iJ];omega);obtain⟨hw,gN⟩:=WcR (k:=(ν id).off+k*i.size) (news:=news) fJ (by rw[hsz,iJ];omega);generalize w.setRow g (row.toList.take ((ν id).off+k*i.size)++news++row.toList.drop ((ν id).off+k*i.size+news.length)).toArray=W at hrun hw gN;rw[hsz]at hw gN;rw[iJ]at hw;obtain⟨ν',hh⟩:=inplace W hw gN bR;exact⟨_,_,_,G,ν',Wb8 ho hc ha dh (by rw[cN,aD,hrun]),.inl rfl,hh⟩
  .obtain⟨mP,fa⟩:=WuO w (k+l.length) (ν id).cap et aq;have hcl:(c1++news).length=(Xf (xs.take k) l).length*e.size:=by rw[Xaa,rF,iJ,hlen,Xcx]
   obtain⟨ν',hh⟩:=WjN hr hd (id::m) (xs:=Xf (xs.take k) l) hcl (λφ hφ=>by
    have hown:OwnL w (TyRel G w e) e.size (ν id) xs (φ id):=hφ.ob _ _ ar;obtain⟨qI,p1,g3,g4,g5,g6,g7⟩:=Wdr hown aU hk;obtain⟨ps,k1,k2,k3⟩:=hx.enc φ hφ;have:=rH g4 g5;subst this;obtain⟨q1,q2⟩:=Xac.1 g6;have lR:∀p∈p1,CS.le p.fp (φ id):=λp hp=>g7 _ (Xe _ (Xan hp));refine⟨p1++ps,Wd5 _ _ _ _ _ _ g3 k1,?_,λp hp b o hh=>?_⟩
    .rw[Xr];refine Xag.2 ⟨q2,k2,λs hs t ht=>?_⟩;obtain⟨p,hp,rfl⟩:=Xv.1 hs;obtain⟨q,hq,rfl⟩:=Xv.1 ht;intro b o h1 h2;obtain⟨j,hj,h3,h4⟩:=k3 q hq b o h2;have:=hφ.inj id j b o aw h3 (lR p hp b o h1) h4;subst this;exact hm hj
    .rcases Xm.1 hp with hp|hp
     .exact⟨id,Xi ..,aw,lR p hp b o hh⟩
     .exact FromL.mono (λi hi=>Xe _ hi) b o (k3 p hp b o hh)) (by rw[hlen];exact mP) fa z.cells gM et
   have uS:(k+l.length)*i.bytes<=140737488355328:=by
    have:=Nat.mul_le_mul uR nT;omega
   have hrun:=run_append_grow (P:=P) w t o.type et i z hu hi hz ⟨g,(ν id).off,none⟩ k (ν id).cap c1 (by rw[hsz];exact rF) (λj v hj=>by rw[Wa0];exact rG j v hj) pa l.length cc news (by rw[hsz];exact iJ) (λj v hj=>an j v hj) (by omega) (by omega) (growslice_fits (by omega) uS);refine⟨_,_,_,G,ν',Wb8 ho hc ha dh ?_,.inl rfl,hh⟩;rw[cN,aD,hrun,hlen];simp
theorem WkE{id:Nat}{e:Ty}{xs:List e.den}(hh:HRel w0 F G ν objs nx w)(ar:look objs id=some (.arr e xs)):
  ((ν id).blk=none/\xs= []/\(ν id).hdr= .slice none 0 0)\/∃g,(ν id).blk=some g/\(ν id).hdr= .slice (some ⟨g,(ν id).off,none⟩) xs.length (ν id).cap:=by
 obtain⟨S,ho⟩:=hh.obj ar;unfold Nu.hdr;cases hb:(ν id).blk with
 |none=>exact .inl ⟨rfl,Wcn ho hb,rfl⟩
 |some g=>exact .inr ⟨g,rfl,by rw[ho.1]⟩
theorem WmW(hT:Wan P T)(hr:Rel w0 F nt G0 G ν st a w){o:Oper}(hd:∀d,o.dst=some d->nt.Ok d){c:Call}{s x:Operand}{t et:TypeId}{ty:Ty}{te:TE}{sv xv:AVal}{R:Type}{k:St->Option R}{r:R}
  (hl:look T t=some ⟨ty,false,.slice et⟩) (hle:look T et=some te) (hp:te.plain=true)
  (ho:o.op= .call c) (hc:c.callee= .builtin .append) (ha:c.args.toList= [s,x]) (dh:c.argTypes.toList= [t,t]) (hs:ev st s=some sv) (hx:ev st x=some xv)
  (h:WeI st te.ty sv xv (λx objs nx=>k (({env:=st.env,objs:=objs,nx:=nx}:St).put o.dst x))=some r):∃ae,k ae=some r/\Done P w0 F nt G0 o a w ae:=by
 have move:∀(e:Ty) (l:List e.den) (m:List Nat),WtQ st e xv=some (l,m)->∃news,Src w0 F G ν st w e l m (a.eval x) news:=λe l m gD=>by
  unfold WtQ at gD;split at gD
  .simp only[Option.some.injEq,Prod.mk.injEq]at gD;obtain⟨rfl,rfl⟩:=gD;obtain⟨hv,_⟩:=WK hr x _ hx;exact⟨[],λφ _=>⟨[],⟨rfl,rfl⟩,List.Pairwise.nil,by simp⟩,.inl ⟨hv,rfl⟩⟩
  .rename_i id;split at gD
   .rename_i e' xs ar;obtain⟨ys,bq,gD⟩:=Xx.1 gD;have h2:=Prod.mk.inj gD;obtain⟨h3,h4⟩:=h2;subst h3 h4;obtain⟨jG,ig⟩:=Wax bq;subst jG;simp only at ig;subst ig;obtain⟨⟨_,hv⟩,_⟩:=WK hr x _ hx;have aw:Live st.objs id:=⟨_,ar,by simp⟩;rcases WkE hr.h ar with⟨hb,bB,hh⟩|⟨g,hb,hh⟩
    .subst bB;exact⟨[],λφ _=>⟨[],⟨rfl,rfl⟩,List.Pairwise.nil,by simp⟩,.inl ⟨by rw[hv,hh],rfl⟩⟩
    .obtain⟨φ0,hφ0⟩:=hr.h;have iK:OwnL w (TyRel G w e') e'.size (ν id) xs (φ0 id):=hφ0.ob _ _ ar;obtain⟨c1,p1,g1,g2,g3,g4,g5⟩:=Wdr iK hb (Xn _);refine⟨c1,λφ hφ=>?_,.inr ⟨⟨g,(ν id).off,none⟩,(ν id).cap,by rw[hv,hh],λj u hj=>by rw[Wa0];exact g3 j u hj⟩⟩;have hown:OwnL w (TyRel G w e') e'.size (ν id) xs (φ id):=hφ.ob _ _ ar;obtain⟨qI,yM,k1,k2,k3,k4,k5⟩:=Wdr hown hb (Xn _);have:qI=c1:=Xfj λj=>by
      by_cases hj:j<xs.length*e'.size
      .have nY:j<qI.length:=by omega
       have rI:j<c1.length:=by omega
       have a1:=k3 j _ (Xs nY);have a2:=g3 j _ (Xs rI);rw[a1]at a2;rw[Xs nY,Xs rI];exact a2
      .rw[Xbg (by omega),Xbg (by omega)]
     subst this;rw[Xeb]at k1;exact⟨yM,k1,(Xac.1 k4).2,λp hp b o hh=>⟨id,Xz.2 rfl,aw,k5 _ (Xe _ (Xan hp)) b o hh⟩⟩
   .simp at gD
  .simp at gD
 unfold WeI at h;split at h
 .split at h
  .rename_i e hel;split at h
   .rename_i he;split at h
    .rename_i l m gD;obtain⟨news,cY⟩:=move e l m gD;cases aq:WG l.length with
     |false=>simp[aq]at h
     |true=>
      simp[aq]at h;obtain⟨cN,_⟩:=WK hr s _ hs;exact⟨_,h,Wbx hr hd (elT hT hl hle hp (by rw[←he,WbG])) ho hc ha dh cN cY (λi hi=>hi) aq⟩
    .simp at h
   .simp at h
  .simp at h
 .rename_i id;split at h
  .rename_i e xs ar;split at h
   .rename_i he;split at h
    .rename_i l m gD;obtain⟨news,cY⟩:=move e l m gD;split at h
     .rename_i aP;have aP:=(Xai.1 ((WcQ _).1 aP)).1;cases aq:WG (xs.length+l.length)with
      |false=>simp[aq]at h
      |true=>
       simp[aq]at h;refine⟨_,h,?_⟩;have hE:ElT P t et e:=elT hT hl hle hp (by rw[←he,WbG]);obtain⟨⟨_,cN⟩,_⟩:=WK hr s _ hs;rcases WkE hr.h ar with⟨hb,bB,hh⟩|⟨g,hb,hh⟩
       .subst bB;exact Wbx hr hd hE ho hc ha dh (by rw[cN,hh]) cY (λi hi=>Xe _ hi) (by simpa [WG]using aq)
       .have:=Wdo hr hd hE ho hc ha dh ar hb (Xn _) (by rw[cN,hh]) cY aP aq;rw[Xeb]at this;exact this
     .simp at h
    .simp at h
   .simp at h
  .simp at h
 .simp at h
theorem Wot(hT:Wan P T)(hr:Rel w0 F nt G0 G ν st a w){o:Oper}(hd:∀d,o.dst=some d->nt.Ok d){c:Call}{s x:Operand}{t t2:TypeId}{sv xv:AVal}{R:Type}{k:St->Option R}{r:R}
  (ho:o.op= .call c) (hc:c.callee= .builtin .append) (ha:c.args.toList= [s,x]) (dh:c.argTypes.toList= [t,t2]) (hs:ev st s=some sv) (hx:ev st x=some xv)
  (h:Wd4 T st t t2 sv xv (λx objs nx=>k (({env:=st.env,objs:=objs,nx:=nx}:St).put o.dst x))=some r):∃ae,k ae=some r/\Done P w0 F nt G0 o a w ae:=by
 unfold Wd4 at h;split at h
 .rename_i ty et _ hl _;split at h
  .rename_i te hle;split at h
   .rename_i bo;obtain⟨rfl,hp,aS⟩:=bo;have hE:ElT P t et te.ty:=elT hT hl hle hp rfl;cases gh:Wt3 st sv xv with
    |false=>
     simp only[gh,Bool.not_false,cond_true]at h;exact WmW hT hr hd hl hle hp ho hc ha dh hs hx h
    |true=>
    simp only[gh,Bool.not_true,cond_false]at h;split at h
    .rename_i l bH;cases aq:WG l.length with
     |false=>simp[aq]at h
     |true=>
      simp[aq]at h;obtain⟨cN,_⟩:=WK hr s _ hs;obtain⟨news,cY⟩:=WiJ hr aS [] (WK hr x _ hx) bH;exact⟨_,h,Wbx (m':=[]) hr hd hE ho hc ha dh cN cY (λi hi=>hi) aq⟩
    .rename_i id l bH;split at h
     .rename_i e0 xs ar;split at h
      .rename_i ys bq;obtain⟨he,hy⟩:=WfE bq;injection he with he;subst he;simp only at hy;subst hy;cases aq:WG (Xa xs+l.length)with
       |false=>simp[aq]at h
       |true=>
        simp[aq]at h;refine⟨_,h,?_⟩;obtain⟨⟨_,cN⟩,_⟩:=WK hr s _ hs;obtain⟨news,cY⟩:=WiJ hr aS [] (WK hr x _ hx) bH;rcases WkE hr.h ar with⟨hb,bB,hh⟩|⟨g,hb,hh⟩
        .subst bB;exact Wbx (m':=[id]) hr hd hE ho hc ha dh (by rw[cN,hh]) cY (λi hi=>by simp at hi) (by simpa [WG]using aq)
        .have:=Wdo hr hd hE ho hc ha dh ar hb (Xn _) (by rw[cN,hh]) cY (by simp) aq;rw[Xeb]at this;exact this
      .simp at h
     .simp at h
    .rename_i id hi l bH;split at h
     .rename_i e0 xs ar;split at h
      .rename_i ys bq;obtain⟨he,hy⟩:=WfE bq;injection he with he;subst he;simp only at hy;subst hy;cases aq:WG (hi+l.length)with
       |false=>simp[aq]at h
       |true=>
        simp[aq]at h;refine⟨_,h,?_⟩;obtain⟨⟨_,g1,g2,g3,cN⟩,_⟩:=WK hr s _ hs;obtain⟨news,cY⟩:=WiJ hr aS [] (WK hr x _ hx) bH;obtain⟨S,hown⟩:=hr.h.obj ar;unfold Nu.vhdr at cN;cases hb:(ν id).blk with
        |none=>
         have bB:=Wcn hown hb;simp only[hb]at cN;have h0:=g3 hb;subst h0;show Done P w0 F nt G0 o a w (({env:=st.env,objs:=(st.nx,.arr te.ty l)::(id,.dead)::st.objs,nx:=st.nx+1}:St).put o.dst (.s (.one (.own st.nx))));exact Wbx (m':=[id]) hr hd hE ho hc ha dh cN cY (λi hi=>by simp at hi) (by simpa [WG]using aq)
        |some g=>
         simp only[hb,Nat.sub_zero,Xew,Xau,ite_self]at cN;exact Wdo hr hd hE ho hc ha dh ar hb (by rw[hown.1];exact g2) cN cY (by simp) aq
      .simp at h
     .simp at h
    .simp at h
   .simp at h
  .simp at h
 .simp at h
end
end Go.Sx
namespace Go.Sx
set_option linter.unusedVariables false
set_option linter.unusedSimpArgs false
section
variable{w0:World}{F:CS}{nt:Slots}{G0 G:GH}{ν:Nat->Nu}{φ:Nat->CS}{objs:Waf}{nx:Nat}{st ae:St}{a:Act}{w w':World}{P:Program}{T:Tab}
theorem Wij{t et:TypeId}{te:TE}{nu:Nu}{n:Nat}{lo hi:Option Int}{vl vh:Option Value}(hu:P.underlying t=some (.slice et))(bC:TEok P T et te)(hp:te.plain=true)(bQ:nu.esz=te.ty.size)
  (hc:n<=nu.cap) (hn:n=nu.len) (aU:nu.blk=none->n=0) (hl:BRel lo vl) (hh:BRel hi vh) (hb:(WcK n lo hi).1=true):
  (Instr.sliceAt t nu.hdr vl vh none).run P w= .ok (nu.vhdr (WcK n lo hi).2.1 (WcK n lo hi).2.2) w/\(WcK n lo hi).2.1<=(WcK n lo hi).2.2/\(WcK n lo hi).2.2<=n:=by
 unfold Nu.hdr Nu.vhdr;cases hk:nu.blk with
 |none=>
  have h0:=aU hk;subst h0;obtain⟨hr,h3,h4⟩:=WcM (P:=P) (w:=w) (isSlice:=true) (cap:=0) hl hh (Xn _) hb;have e1:(WcK 0 lo hi).2.2=0:=by omega
  have e2:(WcK 0 lo hi).2.1=0:=by omega
  rw[e1,e2]at hr⊢;refine⟨?_,Xn _,Xn _⟩;simp[Instr.sliceAt,Instr.slice,Wc hu,hr,bC.sizeOf]
 |some b=>
  obtain⟨hr,h7,h8⟩:=WcM (P:=P) (w:=w) (isSlice:=true) (cap:=nu.cap) hl hh hc hb;refine⟨?_,h7,h8⟩;rw[←hn];generalize (WcK n lo hi).2.1=p at*;generalize (WcK n lo hi).2.2=q at*;have hsz:te.size=nu.esz:=by rw[W1 hp,bQ]
  simp only[Instr.sliceAt,Instr.slice,Sem.run_bind,Wc hu,Result.andThen_ok,hr,bC.sizeOf,Sem.run_pure,hsz,Xcd,Wa0];split<;>rfl
theorem WrO{id:Nat}{e:Ty}{xs:List e.den}{S:CS}(h:WcE G ν nx w id S (.arr e xs)):((ν id).blk=none->xs.length=0)/\((ν id).blk≠none->xs.length<=(ν id).cap):=by
 refine⟨λhb=>by rw[Wcn h hb];rfl,λhb=>?_⟩;obtain⟨_,_,h3⟩:=h;cases hk:(ν id).blk with
 |none=>exact absurd hk hb
 |some b=>simp only[hk]at h3;exact h3.1
theorem WmH{t et:TypeId}{te:TE}{id:Nat}{e:Ty}{xs:List e.den}{S:CS}(ho:WcE G ν nx w id S (.arr e xs)){lo hi:Option Int}{vl vh:Option Value}(hu:P.underlying t=some (.slice et))(bC:TEok P T et te)(hp:te.plain=true)(he:te.ty.size=e.size)
  (hl:BRel lo vl) (hh:BRel hi vh) (hb:(WcK xs.length lo hi).1=true):
  (Instr.sliceAt t (ν id).hdr vl vh none).run P w= .ok ((ν id).vhdr (WcK xs.length lo hi).2.1 (WcK xs.length lo hi).2.2) w/\(WcK xs.length lo hi).2.1<=(WcK xs.length lo hi).2.2/\(WcK xs.length lo hi).2.2<=xs.length:=by
 obtain⟨h1,h2⟩:=WrO ho;have hlen:=ho.1;have bQ:=ho.2.1;cases hk:(ν id).blk with
 |some b=>exact Wij hu bC hp (by rw[bQ,he]) (h2 (by rw[hk];simp)) hlen (λh=>by rw[hk]at h;cases h) hl hh hb
 |none=>
  have h0:=h1 hk;have bB:xs= []:=Xy h0;have e0:(ν id).hdr=(⟨none,(ν id).off,(ν id).len,0,(ν id).esz⟩:Nu).hdr:=by unfold Nu.hdr;simp only[hk]
  have e1:∀p q,(ν id).vhdr p q=(⟨none,(ν id).off,(ν id).len,0,(ν id).esz⟩:Nu).vhdr p q:=λp q=>by unfold Nu.vhdr;simp only[hk]
  rw[e0,e1];exact Wij hu bC hp (by show(ν id).esz=_;rw[bQ,he]) (by rw[h0];exact Xn _) hlen (λ_=>h0) hl hh hb
theorem Wg7{o:Oper}{t:TypeId}{x:Operand}{lo hi:Option Operand}{v:Value}(ho:o.op= .slice t x lo hi none)(h:(Instr.sliceAt t (a.eval x) (lo.map a.eval) (hi.map a.eval) none).run P w= .ok v w):(execOp a.eval o).run P w= .ok (.value v) w:=by
 simp only[execOp,ho,Option.map_none,Sem.run_bind,h,Result.andThen_ok,Sem.run_pure]
theorem WsL(hT:Wan P T)(hr:Rel w0 F nt G0 G ν st a w){o:Oper}(hd:∀d,o.dst=some d->nt.Ok d){t et:TypeId}{ty:Ty}{te:TE}{x:Operand}{lo hi:Option Operand}(ho:o.op= .slice t x lo hi none)
  {id:Nat} {l h:Option Int} {R:Type} {k:St->Option R} {r:R} (hx:ev st x=some (.s (.one (.own id)))) (hl:look T t=some ⟨ty,false,.slice et⟩) (hle:look T et=some te) (hp:te.plain=true) (h1:WlK st lo=some l) (h2:WlK st hi=some h)
  (hk:Wfi st te.ty id l h (λx objs nx=>k (({env:=st.env,objs:=objs,nx:=nx}:St).put o.dst x))=some r):∃ae,k ae=some r/\Done P w0 F nt G0 o a w ae:=by
 unfold Wfi at hk;split at hk
 .rename_i e xs ar;split at hk
  case isFalse=>simp at hk
  rename_i ry;cases hb:(WcK (Xa xs) l h).1 with
  |false=>simp[hb]at hk
  |true=>
   simp only[hb,cond_true]at hk;refine⟨_,hk,?_⟩;obtain⟨⟨bA,cN⟩,_⟩:=WK hr x _ hx;obtain⟨S,hown⟩:=hr.h.obj ar;have hbl:=Wdc hr lo _ h1;have rK:=Wdc hr hi _ h2;obtain⟨g1,g2,g3⟩:=WmH (w:=w) hown (hT _ _ hl).und.2.1 (hT _ _ hle) hp (by rw[ry,WbG]) hbl rK hb;refine⟨_,_,w,G,ν,Wg7 ho (by rw[cN];exact g1),.inl rfl,hr.put hd ⟨⟨bA,g2,by rw[←hown.1];exact g3,λrL=>?_,rfl⟩,WoI _ _ _⟩⟩;have:=(WrO hown).1 rL;omega
 .simp at hk
theorem Wut(n:Nu)(h:Nat):n.part 0 h=⟨n.blk,n.off,h,n.cap,n.esz⟩:=by
 unfold Nu.part;simp
theorem Wwo(n:Nu)(h:Nat):n.vhdr 0 h=(⟨n.blk,n.off,h,n.cap,n.esz⟩:Nu).hdr:=by
 rw[←Wut,Wkp]
theorem WpS(hT:Wan P T)(hr:Rel w0 F nt G0 G ν st a w){o:Oper}(hd:∀d,o.dst=some d->nt.Ok d){t et:TypeId}{ty:Ty}{x:Operand}{lo hi:Option Operand}(ho:o.op= .slice t x lo hi none)
  {id:Nat} {e:Ty} {xs:List e.den} {te:TE} {h:Int} (hx:ev st x=some (.s (.one (.own id)))) (hl:look T t=some ⟨ty,false,.slice et⟩) (hle:look T et=some te) (hp:te.plain=true) (he:te.ty=e.ro) (ar:look st.objs id=some (.arr e xs)) (aY:WlK st lo=some none) (hh:WlK st hi=some (some h))
  (h0:0<=h) (h1:h<=(xs.length:Int)):Done P w0 F nt G0 o a w (({env:=st.env,objs:=(st.nx,.arr e (xs.take h.toNat))::kill st.objs [id],nx:=st.nx+1}:St).put o.dst (.s (.one (.own st.nx)))):=by
 obtain⟨⟨bA,cN⟩,_⟩:=WK hr x _ hx;obtain⟨S,hown⟩:=hr.h.obj ar;have hbl:=Wdc hr lo _ aY;have rK:=Wdc hr hi _ hh;have hb:(WcK xs.length none (some h)).1=true:=by simp[WcK,h0,h1]
 obtain⟨g1,g2,g3⟩:=WmH (w:=w) hown (hT _ _ hl).und.2.1 (hT _ _ hle) hp (by rw[he,WbG]) hbl rK hb;have e1:(WcK xs.length none (some h)).2.1=0:=rfl;have e2:(WcK xs.length none (some h)).2.2=h.toNat:=rfl;rw[e1,e2,Wwo]at g1;refine⟨_,_,w,G,upd ν st.nx ((ν id).part 0 h.toNat),Wg7 ho (by rw[cN];exact g1),.inl rfl,?_⟩;have aw:Live st.objs id:=⟨_,ar,by simp⟩;refine hr.fresh hd [id] (.arr e (xs.take h.toNat)) _ (λφ=>φ id) _ _ (λφ _=>WLe.refl _ w) (λφ _ b o hh=>.inl ⟨id,.inr (Xz.2 rfl),aw,hh⟩) (λφ hφ=>?_) ⟨⟨Xbu _,by rw[Wbr,Wut]⟩,Wir _⟩;show OwnL w (TyRel G w e) e.size (upd ν st.nx ((ν id).part 0 h.toNat) st.nx) (xs.take h.toNat) (φ id);rw[Wbr];have hown':OwnL w (TyRel G w e) e.size (ν id) xs (φ id):=hφ.ob _ _ ar;have:=Woz (lo:=0) (hi:=h.toNat) hown' (Xbk _) (by rw[←hown'.1];omega);simpa using this
theorem Wjg(hT:Wan P T)(hr:Rel w0 F nt G0 G ν st a w){o:Oper}(hd:∀d,o.dst=some d->nt.Ok d){t et:TypeId}{ty:Ty}{x:Operand}{lo hi:Option Operand}(ho:o.op= .slice t x lo hi none)
  {id i p:Nat} {e:Ty} {xs:List e.den} {te:TE} {h:Int} (hx:ev st x=some (.s (.one (.own id)))) (hl:look T t=some ⟨ty,false,.slice et⟩) (hle:look T et=some te) (hp:te.plain=true) (he:te.ty=e.ro) (ar:look st.objs id=some (.hole e xs i p)) (lS:WrF (look st.objs p) e.size=true) (aY:WlK st lo=some none) (hh:WlK st hi=some (some h))
  (h0:0<=h) (h1:h<=(xs.length:Int)) (h2:h<=(i:Int)):Done P w0 F nt G0 o a w (({env:=st.env,objs:=(st.nx,.arr e (xs.take h.toNat))::kill st.objs [id,p],nx:=st.nx+1}:St).put o.dst (.s (.one (.own st.nx)))):=by
 obtain⟨⟨bA,cN⟩,_⟩:=WK hr x _ hx;obtain⟨S,lO,hole⟩:=hr.h.obj ar;have eI:∃cs,look st.objs p=some (.box cs)/\cs.length=e.size:=by
  unfold WrF at lS;split at lS
  .rename_i cs eI;exact⟨cs,eI,Xcb lS⟩
  .cases lS
 obtain⟨pcs,eI,dX⟩:=eI;have hbl:=Wdc hr lo _ aY;have rK:=Wdc hr hi _ hh;have hb:(WcK xs.length none (some h)).1=true:=by simp[WcK,h0,h1]
 obtain⟨k1,k2,k3,b,k4,k5,k6,k7,k8,k9,_⟩:=hole;obtain⟨g1,g2,g3⟩:=Wij (w:=w) (nu:=ν id) (hT _ _ hl).und.2.1 (hT _ _ hle) hp (by rw[k2,he,WbG]) k7 k1 (λhn=>by rw[hn]at k4;cases k4) hbl rK hb;have e1:(WcK xs.length none (some h)).2.1=0:=rfl;have e2:(WcK xs.length none (some h)).2.2=h.toNat:=rfl;rw[e1,e2,Wwo]at g1;refine⟨_,_,w,G,upd ν st.nx ((ν id).part 0 h.toNat),Wg7 ho (by rw[cN];exact g1),.inl rfl,?_⟩;have aw:Live st.objs id:=⟨_,ar,by simp⟩;have dn:Live st.objs p:=⟨_,eI,by simp⟩;refine hr.fresh hd [id,p] (.arr e (xs.take h.toNat)) _ (λφ b o=>φ id b o\/φ p b o) _ _ (λφ _=>WLe.refl _ w) (λφ _ b o hh=>?_) (λφ hφ=>?_) ⟨⟨Xbu _,by rw[Wbr,Wut]⟩,Wir _⟩
 .rcases hh with hh|hh
  .exact .inl ⟨id,.inr (by simp),aw,hh⟩
  .exact .inl ⟨p,.inr (by simp),dn,hh⟩
 .show OwnL w (TyRel G w e) e.size (upd ν st.nx ((ν id).part 0 h.toNat) st.nx) (xs.take h.toNat) _;rw[Wbr,Wut];obtain⟨lO,hole⟩:p<st.nx/\WhG w (TyRel G w e) e.size (ν id) (ν p) xs i (φ id):=hφ.ob _ _ ar;obtain⟨_,_,_,b',tR,k5',_,_,_,_,c1,c2,p1,p2,j1,j2,j3,j4,j5,j6⟩:=hole;rw[k4]at tR;injection tR with tR;subst tR;obtain⟨b2,vs,q1,q2,q3,q4,q5⟩:WcE G ν st.nx w p (φ p) (.box pcs):=hφ.ob _ _ eI;rw[k5]at q1;injection q1 with q1;subst q1;rw[dX,k6]at q5;obtain⟨d1,d2,r1,r2,t1,t2,t3,t4⟩:=WeC _ _ _ h.toNat j1;rw[List.take_take,Xcg (by omega)]at t3;have gA:=j6 _ (Xi ..);have gC:=j6 _ (Xe _ (Xi ..));obtain⟨s1,s2⟩:=Xac.1 j5;obtain⟨s3,s4⟩:=Xac.1 s2;have dQ:∀s∈r1.map Pc.fp,s∈(p1++p2).map Pc.fp:=λs hs=>by rw[t2,Xr,Xr];exact Xk _ (Xk _ hs)
  have gp:∀s∈r1.map Pc.fp,CS.le s (φ id):=λs hs=>j6 s (Xe _ (Xe _ (dQ s hs)));have uT:∀b o,φ id b o->φ p b o->False:=λb o x1 x2=>by
   have:=hφ.inj id p b o aw dn x1 x2;subst this;rw[ar]at eI;cases eI
  refine⟨by simp;omega,k2,?_⟩;simp only[k4];refine⟨by simp;omega,k8,k9,d1,r1,t3,by rw[t1]at j3;exact j3.left,Xac.2 ⟨λs hs=>?_,?_⟩,λs hs=>?_⟩
  .exactλb' o lP gd=>(Wf5 (show i<(ν id).cap by omega) (S:=λb o=>¬s b o) (λb o hh gd=>s1 s (Xe _ (dQ s hs)) b o hh gd) (λb o hh gd=>uT b o (gp s hs b o gd) (q5 b o hh)) (λb o hh gd=>s3 s (dQ s hs) b o hh gd) b' o lP) gd
  .rw[t2,Xr,Xr]at s4;exact(Xag.1 (Xag.1 s4).1).1
  .rcases Xo.1 hs with rfl|hs
   .exact Wf5 (show i<(ν id).cap by omega) (λb o hh=>.inl (gA b o hh)) (λb o hh=>.inr (q5 b o hh)) (λb o hh=>.inl (gC b o hh))
   .exactλb o hh=>.inl (gp s hs b o hh)
theorem WpU(hT:Wan P T)(hr:Rel w0 F nt G0 G ν st a w){o:Oper}(hd:∀d,o.dst=some d->nt.Ok d){c:Call}{x:Operand}{t et:TypeId}{ty:Ty}{te:TE}{e:Ty}{xs:List e.den}{id lo hi:Nat}
  (ho:o.op= .call c) (hc:c.callee= .builtin .clear) (ha:c.args.toList= [x]) (dh:c.argTypes.toList= [t]) (hx:ev st x=some (.s (.one (.vw id lo hi)))) (hl:look T t=some ⟨ty,false,.slice et⟩) (hle:look T et=some te)
  (ar:look st.objs id=some (.arr e xs)) (he:te.ty=e) (hp:te.plain=true) (aS:e.data=true):
  Done P w0 F nt G0 o a w (({env:=st.env,objs:=(id,.arr e (xs.take lo++Xw (hi-lo) e.dflt++xs.drop hi))::st.objs,nx:=st.nx}:St).put o.dst (.tup [])):=by
 have hu:=(hT _ _ hl).und.2.1;obtain⟨⟨bA,g1,g2,g3,hv⟩,_⟩:=WK hr x _ hx;obtain⟨φ,hφ⟩:=hr.h;have hown:OwnL w (TyRel G w e) e.size (ν id) xs (φ id):=hφ.ob _ _ ar;have aw:Live st.objs id:=⟨_,ar,by simp⟩;have rM:∀W,(Builtin.clear_ #[t] o.type #[a.eval x]).run P w= .ok (.tuple #[]) W->(execOp a.eval o).run P w= .ok (.value (.tuple #[])) W:=λW hrun=>by
  obtain⟨callee,args,argTypes⟩:=c;obtain⟨args⟩:=args;obtain⟨argTypes⟩:=argTypes;simp only at hc ha dh;subst hc ha dh;simp only[execOp,ho,resolve,invoke,builtin,Sem.run_bind,Sem.run_pure,Result.andThen_ok,Xdy,Xaj,Xck,hrun]
 have fu:∀W,(Builtin.clear_ #[t] o.type #[a.eval x]).run P w= .ok (.tuple #[]) W->HRel w0 F G ν ((id,.arr e (xs.take lo++Xw (hi-lo) e.dflt++xs.drop hi))::st.objs) st.nx W->
   Done P w0 F nt G0 o a w (({env:=st.env,objs:=(id,.arr e (xs.take lo++Xw (hi-lo) e.dflt++xs.drop hi))::st.objs,nx:=st.nx}:St).put o.dst (.tup [])):=λW hrun hH=>
  ⟨_,_,W,G,ν,rM W hrun,.inl rfl,(hr.on (λ_ _ _ hh=>hh) (λ_ _=>rfl) (Xn _) hH hr.gx).put hd ⟨[],rfl,rfl,λj x v hj=>by simp at hj⟩⟩
 by_cases h0:hi-lo=0
 .have tS:hi=lo:=by omega
  have e1:xs.take lo++Xw (hi-lo) e.dflt++xs.drop hi=xs:=by
   rw[h0,tS];simp
  refine fu w ?_ ?_
  .rw[hv];unfold Nu.vhdr;rw[h0];cases(ν id).blk<;>simp[Builtin.clear_,Wc hu]
  .rw[e1];exact⟨_,hφ.put (m:=[]) (ν':=ν) (λ_ _=>rfl) (Xn _) (hφ.lt id aw) (WLe.refl _ w) (λb o hh=>.inl ⟨id,.inl rfl,aw,hh⟩) (λ_=>hown)⟩
 .cases aU:(ν id).blk with
  |none=>have:=g3 aU;omega
  |some b=>
   obtain⟨je,h4,h5,⟨row,TT,fJ,hrow⟩,cs,h7,h8,h9⟩:=Wdw aS hown aU;obtain⟨z,hz,dj⟩:=WeW (w:=w) (hT _ _ hle);rw[WbI hp,he]at dj;have gM:z.cells.size=e.size:=by rw[←Xaw,dj,Wbq]
   have bQ:=hown.2.1;have hcl:cs.length=xs.length*e.size:=EncL_len (λx c hc=>Enc_len e x c hc) _ _ h7;have w9:(Builtin.zeroCells z.cells (hi-lo)).toList=rep (WbC e) (hi-lo):=by rw[←dj];exact WgB z.cells (hi-lo)
   have cZ:(rep (WbC e) (hi-lo)).length=(hi-lo)*e.size:=by rw[Wlz,Wbq]
   have tT:lo*e.size+(hi-lo)*e.size=hi*e.size:=by rw[←Xcx];congr 1;omega
   have nZ:hi*e.size<=xs.length*e.size:=Xbl _ (by omega);have xa:xs.length*e.size<=(ν id).cap*e.size:=Xbl _ h4;have dS:∀u∈rep (WbC e) (hi-lo),u.oneCell'=true:=Wpx (G:=G) _ _ (WgO aS (hi-lo));have ay:=run_storeCells_at P b ((ν id).off+lo*e.size) TT (rep (WbC e) (hi-lo)) 0 row w fJ (by rw[cZ];omega) dS;simp only[Xau]at ay;obtain⟨hw,hm⟩:=WcR (k:=(ν id).off+lo*e.size) (news:=rep (WbC e) (hi-lo)) fJ (by rw[cZ];omega);have hrun:(Builtin.clear_ #[t] o.type #[a.eval x]).run P w= .ok (.tuple #[]) (w.setRow b (row.toList.take ((ν id).off+lo*e.size)++rep (WbC e) (hi-lo)++row.toList.drop ((ν id).off+lo*e.size+(rep (WbC e) (hi-lo)).length)).toArray):=by
    rw[hv];unfold Nu.vhdr;simp only[aU,bQ];rw[if_neg (by omega)];obtain⟨n,hn⟩:∃n,hi-lo=n+1:=⟨hi-lo-1,by omega⟩;simp only[Builtin.clear_,Sem.run_bind,Wc hu,Result.andThen_ok,Xep,List.getElem?_cons_zero];rw[hn]at ay w9⊢;simp only[Sem.run_bind,hz,Result.andThen_ok,w9,ay,Sem.run_pure]
   generalize w.setRow b (row.toList.take ((ν id).off+lo*e.size)++rep (WbC e) (hi-lo)++row.toList.drop ((ν id).off+lo*e.size+(rep (WbC e) (hi-lo)).length)).toArray=W at hrun hw hm;refine fu W hrun (hφ.turn (m:=[]) ar (by simp) hw (λb' o ⟨k0,k1,k2⟩=>h9 b' o ⟨k0,by omega,by omega⟩) ?_);have mU:(xs.take lo++Xw (hi-lo) e.dflt++xs.drop hi).length=xs.length:=by simp;omega
   have henc:EncL (Enc G e) (xs.take lo++Xw (hi-lo) e.dflt++xs.drop hi) (cs.take (lo*e.size)++rep (WbC e) (hi-lo)++cs.drop (hi*e.size)):=
    WdI _ _ _ _ (WdI _ _ _ _ (WeB (λx c hc=>Enc_len e x c hc) _ _ lo h7) (WgO aS _)) (Wen (λx c hc=>Enc_len e x c hc) _ _ hi h7)
   refine Wl4 aS aU (by rw[mU];exact je) bQ (by rw[mU];exact h4) h5 (hw.rows.row _ _ ⟨row,TT,fJ,hrow⟩) henc ?_ (λb o hh=>.inl (h9 b o hh));have:=Wfc h8 hw hm (by rw[cZ];omega);rw[cZ,tT]at this;exact this
end
end Go.Sx
namespace Go.Sx
set_option linter.unusedVariables false
set_option linter.unusedSimpArgs false
def Wjb(G:GH)(w:World)(t:Ty)(agg:Bool)(d:t.den)(v:Value)(ns:List Pc):Prop:=
 if agg then∃us:List Value,v= .agg us.toArray/\TyRel G w t d us ns else TyRel G w t d [v] ns
def Wcc(b o:Nat):Nu:=⟨some b,o,0,0,0⟩
def Wfv(G:GH)(w:World)(t:Ty)(d:t.den)(b o:Nat)(ns:List Pc):Prop:=∃us,Row w b (o+t.size)/\Mem w b o us/\TyRel G w t d us ns
def fps(ns:List Pc):List CS:=ns.map Pc.fp
def nus(ns:List Pc):List Nu:=ns.map Pc.nu
def Wbp(G:GH)(w:World):(ps:List PTy)->Wfr ps->List Value->List Pc->List Nu->Prop
 | [],_,vs,ns,ks=>vs= []/\ns= []/\ks= []
 | .v t agg::ps,d,vs,ns,ks=>∃v vs' n1 n2,vs=v::vs'/\ns=n1++n2/\Wjb G w t agg d.1 v n1/\Wbp G w ps d.2 vs' n2 ks
 | .box t::ps,d,vs,ns,ks=>∃b o vs' n1 n2 ks',vs= .pointer (some ⟨b,o,none⟩)::vs'/\ns=⟨Wcc b o,rng b o t.size⟩::(n1++n2)/\ks=Wcc b o::ks'/\Wfv G w t d.1 b o n1/\Wbp G w ps d.2 vs' n2 ks'
 | .mut e::ps,d,vs,ns,ks=>∃pc vs' n2 ks',vs=pc.nu.hdr::vs'/\ns=pc::n2/\ks=pc.nu::ks'/\OwnL w (TyRel G w e) e.size pc.nu d.1 pc.fp/\Wbp G w ps d.2 vs' n2 ks'
 | .clos g n::ps,d,vs,ns,ks=>∃cvs vs':List Value,vs= .func (.func g) #[] cvs.toArray::vs'/\cvs.length=n/\(∀u∈cvs,u.oneCell'=true)/\Wbp G w ps d (cvs++vs') ns ks
 | .kv t agg::ps,d,vs,ns,ks=>∃v vs' n1 n2 ks',vs=v::vs'/\ns=n1++n2/\ks=nus n1++ks'/\Wjb G w t agg d.1 v n1/\Wbp G w ps d.2 vs' n2 ks'
 | .rp t::ps,d,vs,ns,ks=>∃b o us vs',vs= .pointer (some ⟨b,o,none⟩)::vs'/\Enc G t d.1 us/\Wfm G b o us/\Wbp G w ps d.2 vs' ns ks
 | .vj _::_,_,_,_,_=>False
 | .boxal t lf::ps,d,vs,ns,ks=>∃b o b' pc vs' n1 n2 ks',vs= .pointer (some ⟨b,o,none⟩):: .pointer (some ⟨b',pc.nu.off+(d.2.1*pc.nu.esz+0),none⟩)::vs'/\ns=⟨Wcc b o,rng b o t.size⟩::(n1++n2)/\ks=Wcc b o::ks'/\
   Wfv G w t d.1 b o n1/\n1[lf]?=some pc/\pc.nu.blk=some b'/\d.2.1<pc.nu.len/\Wbp G w ps d.2.2 vs' n2 ks'
def WbD(G:GH)(w:World):(ps:List PTy)->WfY ps->List Nu->List CS->List Pc->Prop
 | [],_,ks,kf,ns=>ks= []/\kf= []/\ns= []
 | .v _ _::ps,o,ks,kf,ns=>WbD G w ps o ks kf ns
 | .box t::ps,o,ks,kf,ns=>∃b off ks' cU n1 n2,ks=Wcc b off::ks'/\kf=rng b off t.size::cU/\ns=n1++n2/\Wfv G w t o.1 b off n1/\WbD G w ps o.2 ks' cU n2
 | .mut e::ps,o,ks,kf,ns=>∃pc:Pc,∃ks' cU,ks=pc.nu::ks'/\kf=pc.fp::cU/\OwnL w (TyRel G w e) e.size pc.nu o.1 pc.fp/\WbD G w ps o.2 ks' cU ns
 | .clos _ _::ps,o,ks,kf,ns=>WbD G w ps o ks kf ns
 | .kv t _::ps,o,ks,kf,ns=>∃n1 ks' cU us,ks=nus n1++ks'/\kf=fps n1++cU/\TyRel G w t o.1 us n1/\WbD G w ps o.2 ks' cU ns
 | .rp _::ps,o,ks,kf,ns=>WbD G w ps o ks kf ns
 | .vj _::_,_,_,_,_=>False
 | .boxal t _::ps,o,ks,kf,ns=>∃b off ks' cU n1 n2,ks=Wcc b off::ks'/\kf=rng b off t.size::cU/\ns=n1++n2/\Wfv G w t o.1 b off n1/\WbD G w ps o.2 ks' cU n2
def Wgw(G:GH)(w:World):(rs:List PTy)->WgS rs->List Value->List Pc->Prop
 | [],_,vs,ns=>vs= []/\ns= []
 | .v t agg::rs,d,vs,ns=>∃v vs' n1 n2,vs=v::vs'/\ns=n1++n2/\Wjb G w t agg d.1 v n1/\Wgw G w rs d.2 vs' n2
 | .box t::rs,d,vs,ns=>∃b o vs' n1 n2,vs= .pointer (some ⟨b,o,none⟩)::vs'/\ns=⟨Wcc b o,rng b o t.size⟩::(n1++n2)/\Wfv G w t d.1 b o n1/\Wgw G w rs d.2 vs' n2
 | .mut _::_,_,_,_=>False
 | .clos _ _::_,_,_,_=>False
 | .kv _ _::_,_,_,_=>False
 | .rp _::_,_,_,_=>False
 | .vj t::rs,d,vs,ns=>∃us u vs' n1 n2,vs= .agg (us++ [u]).toArray::vs'/\u.oneCell'=true/\ns=n1++n2/\TyRel G w t d.1 us n1/\Wgw G w rs d.2 vs' n2
 | .boxal _ _::_,_,_,_=>False
def Wif:List Value->Value
 | [v]=>v
 |vs=>.tuple vs.toArray
def Of(ns:List Pc):CS:=λb o=>∃q∈ns,q.fp b o
structure After(sg:Sig)(o:WfY sg.ps×WgS sg.rs)(G:GH)(w:World)(ns:List Pc)(ks:List Nu)(rv:List Value)(kf:List CS)(ms cD:List Pc)(G':GH)(w':World):Prop where
 res:Wgw G' w' sg.rs o.2 rv cD
 outs:WbD G' w' sg.ps o.1 ks kf ms
 sep:Sep (kf++fps (ms++cD))
 own:∀S∈kf++fps (ms++cD),∀b off,S b off->G' b off=none/\(Of ns b off\/w.heap.size<=b)/\b<w'.heap.size
 gx:GExt w.heap.size (Of ns) G G'
 g:∀b o v,G' b o=some v->w'.cell? ⟨b,o,none⟩=some v
 le:WLe (Of ns) w w'
def Good(P:Program)(k:FuncId)(sg:Sig):Prop:=
 ∀(d:Wfr sg.ps) (o:WfY sg.ps×WgS sg.rs),sg.run d=some o->∀(G:GH) (w:World) (vs:List Value) (ns:List Pc) (ks:List Nu),Wbp G w sg.ps d vs ns ks->Sep (fps ns)->
  (∀q∈ns,∀b off,q.fp b off->G b off=none/\b<w.heap.size)->(∀b o v,G b o=some v->w.cell? ⟨b,o,none⟩=some v)->
  Calls P k vs.toArray w λe w'=>∃rv kf ms cD G',e= .returned (Wif rv)/\After sg o G w ns ks rv kf ms cD G' w'
def Wgy(P:Program)(k:FuncId):Prop:=∃fn,P.funcs[k]?=some fn∧fn.body.isNone=false∧(fn.name== "runtime.NumGoroutine")=false
def Wfg(P:Program)(Γ:Ctx):Prop:=∀k sg,look Γ k=some sg->Good P k sg/\Wgy P k
section
variable{w0:World}{F:CS}{nt:Slots}{G0 G G':GH}{ν:Nat->Nu}{φ:Nat->CS}{objs:Waf}{nx:Nat}{st ae:St}{a:Act}{w w':World}{P:Program}{T:Tab}
theorem WaQ:∀(t:Ty) (d:t.den) (nx:Nat),(unfold t d nx).2.2=nx+t.owns
 | .prod a b,d,nx=>by simp only[unfold,WaQ a,WaQ b,Ty.owns,Xar]
 | .own _,_,_=>rfl
 | .int _,_,_| .bool,_,_| .str,_,_| .slice _,_,_=>rfl
theorem WH{α:Type}{l m:List (Nat×α)}{i:Nat}{x:α}(h:look (l++m) i=some x):look l i=some x\/look m i=some x:=by
 rw[WbB]at h;cases hl:look l i with
 |none=>simp[hl]at h;exact .inr h
 |some y=>simp[hl]at h;subst h;exact .inl rfl
def At(ν:Nat->Nu)(φ:Nat->CS)(nx:Nat)(ns:List Pc):Prop:=∀(j:Nat) (pc:Pc),ns[j]?=some pc->ν (nx+j)=pc.nu/\φ (nx+j)=pc.fp
theorem At.left{n1 n2:List Pc}(h:At ν φ nx (n1++n2)):At ν φ nx n1:=λj pc hj=>h j pc (by rw[Xbb (Xt.1 hj).1];exact hj)
theorem At.right{n1 n2:List Pc}{k:Nat}(h:At ν φ nx (n1++n2))(hk:n1.length=k):At ν φ (nx+k) n2:=λj pc hj=>by
 have:=h (k+j) pc (by rw[Xay (by omega),hk,Xbe];exact hj);rw[Xar];exact this
def Wqp(G:GH)(ν:Nat->Nu)(φ:Nat->CS)(w:World)(id:Nat)(ob:Ob):Prop:=∃(e:Ty) (xs:List e.den),ob= .arr e xs/\OwnL w (TyRel G w e) e.size (ν id) xs (φ id)
theorem Wav:∀(t:Ty) (d:t.den) (nx:Nat) (vs:List Value) (ns:List Pc),TyRel G w t d vs ns->At ν φ nx ns->
  (∀(ah:Nat),nx+t.owns<=ah->CellsRel G ν ah (unfold t d nx).1 vs)/\
  (∀id ob,look (unfold t d nx).2.1 id=some ob->nx<=id/\id<nx+t.owns/\Wqp G ν φ w id ob)
 | .own e,d,nx,vs,ns,⟨pc,h1,h2,h3⟩,hν=>by
  obtain⟨hn,hp⟩:ν nx=pc.nu/\φ nx=pc.fp:=by have:=hν 0 pc (by rw[h1];rfl);simpa using this
  refine⟨λah hx=>?_,λid ob hl=>?_⟩
  .rw[h2];refine CellsRel.one ⟨by simp[Ty.owns]at hx;omega,by rw[hn]⟩ (Wir _)
  .simp only[unfold]at hl;rw[WD]at hl;split at hl
   .rename_i e1;subst e1;injection hl with hl;subst hl;exact⟨Xn _,by simp[Ty.owns],e,d,rfl,by rw[hn,hp];exact h3⟩
   .simp[look]at hl
 | .prod p q,d,nx,vs,ns,⟨v1,v2,n1,n2,h1,h2,h3,h4⟩,hν=>by
  subst h2;have aT:=W8 p _ _ _ h3;obtain⟨c1,o1⟩:=Wav p d.1 nx v1 n1 h3 hν.left;obtain⟨c2,o2⟩:=Wav q d.2 (nx+p.owns) v2 n2 h4 (hν.right aT);refine⟨λah hx=>?_,λid ob hl=>?_⟩
  .simp only[Ty.owns]at hx;simp only[unfold,WaQ];rw[h1];exact(c1 ah (by omega)).append (c2 ah (by omega))
  .simp only[unfold,WaQ]at hl;simp only[Ty.owns];rcases WH hl with h|h
   .obtain⟨g1,g2,g3⟩:=o1 id ob h;exact⟨g1,by omega,g3⟩
   .obtain⟨g1,g2,g3⟩:=o2 id ob h;exact⟨by omega,by omega,g3⟩
 | .int k,d,nx,vs,ns,h,_=>⟨λah _=>WaI (.int k) d vs h.2,λid ob hl=>by simp[unfold,look]at hl⟩
 | .bool,d,nx,vs,ns,h,_=>⟨λah _=>WaI .bool d vs h.2,λid ob hl=>by simp[unfold,look]at hl⟩
 | .str,d,nx,vs,ns,h,_=>⟨λah _=>WaI .str d vs h.2,λid ob hl=>by simp[unfold,look]at hl⟩
 | .slice e,d,nx,vs,ns,h,_=>⟨λah _=>WaI (.slice e) d vs h.2,λid ob hl=>by simp[unfold,look]at hl⟩
theorem Wcf:∀(t:Ty) (d:t.den) (nx:Nat),(unfold t d nx).1.length=t.size
 | .prod a b,d,nx=>by simp only[unfold,Xaa,Wcf a,Wcf b,Ty.size]
 | .own _,_,_| .int _,_,_| .bool,_,_| .str,_,_| .slice _,_,_=>rfl
theorem Wk1{t:Ty}{agg:Bool}{d:t.den}{v:Value}{ns:List Pc}{nx ah:Nat}(h:Wjb G w t agg d v ns)(hν:At ν φ nx ns)(hx:nx+t.owns<=ah):
  AvRel G ν ah (WwI agg (unfold t d nx).1) v:=by
 unfold Wjb at h;unfold WwI;cases agg with
 |true=>
  simp only[if_true]at h⊢;obtain⟨us,rfl,h⟩:=h;exact⟨us,rfl,(Wav t d nx us ns h hν).1 ah hx⟩
 |false=>
  simp only[Xbi,if_false]at h⊢;have hc:=(Wav t d nx [v] ns h hν).1 ah hx;have hl:=hc.1;generalize (unfold t d nx).1=cs at*
  match cs,hl with
  | [c],_=>exact hc.2 0 c v rfl rfl
theorem WnB{t:Ty}{agg:Bool}{d:t.den}{v:Value}{ns:List Pc}(h:Wjb G w t agg d v ns):∃us,TyRel G w t d us ns:=by
 unfold Wjb at h;split at h
 .obtain⟨us,_,h⟩:=h;exact⟨us,h⟩
 .exact⟨_,h⟩
def Wip(objs:Waf):Ty->List Nat->Prop
 | .own e,ids=>∃(id:Nat) (ys:List e.den),ids= [id]/\look objs id=some (.arr e ys)
 | .prod a b,ids=>∃i1 i2,ids=i1++i2/\Wip objs a i1/\Wip objs b i2
 | .int _,ids=>ids= []
 | .bool,ids=>ids= []
 | .str,ids=>ids= []
 | .slice _,ids=>ids= []
theorem Wfa{objs:Waf}:∀(t:Ty) (ids:List Nat),Wip objs t ids->ids.length=t.owns
 | .own e,ids,⟨id,ys,h,_⟩=>by rw[h];rfl
 | .prod a b,ids,⟨i1,i2,h,h1,h2⟩=>by rw[h,Xaa,Wfa a _ h1,Wfa b _ h2];rfl
 | .int _,ids,h=>by have:ids= []:=h;rw[this];rfl
 | .bool,ids,h=>by have:ids= []:=h;rw[this];rfl
 | .str,ids,h=>by have:ids= []:=h;rw[this];rfl
 | .slice _,ids,h=>by have:ids= []:=h;rw[this];rfl
def KeptBox(objs:Waf)(ν:Nat->Nu)(bx:List (Nat×CS))(t:Ty)(k:Kp)(nu:Nu):Prop:=
 ∃cs b,look objs k.id=some (.box cs)/\k.off+t.size<=cs.length/\(ν k.id).blk=some b/\nu=Wcc b ((ν k.id).off+k.off)/\(k.id,rng b ((ν k.id).off+k.off) t.size)∈bx
def KeptOk(objs:Waf)(ν:Nat->Nu)(bx:List (Nat×CS)):List PTy->List Kp->List Nu->Prop
 | [],ids,ks=>ids= []/\ks= []
 | .v _ _::ps,ids,ks=>KeptOk objs ν bx ps ids ks
 | .box t::ps,ids,ks=>∃k aZ nu ks',ids=k::aZ/\ks=nu::ks'/\KeptBox objs ν bx t k nu/\KeptOk objs ν bx ps aZ ks'
 | .mut e::ps,ids,ks=>∃(id:Nat) (aZ:List Kp) (ks':List Nu) (ys:List e.den),ids=⟨id,0⟩::aZ/\ks=ν id::ks'/\look objs id=some (.arr e ys)/\KeptOk objs ν bx ps aZ ks'
 | .clos _ _::ps,ids,ks=>KeptOk objs ν bx ps ids ks
 | .kv t _::ps,ids,ks=>∃i1 i2 ks',ids=kp0 i1++i2/\ks=i1.map ν++ks'/\Wip objs t i1/\KeptOk objs ν bx ps i2 ks'
 | .rp _::ps,ids,ks=>KeptOk objs ν bx ps ids ks
 | .vj _::_,_,_=>False
 | .boxal t _::ps,ids,ks=>∃k aZ nu ks',ids=k::aZ/\ks=nu::ks'/\KeptBox objs ν bx t k nu/\KeptOk objs ν bx ps aZ ks'
theorem KeptBox.mono{bx mV:List (Nat×CS)}{t:Ty}{k:Kp}{nu:Nu}(hb:∀p∈bx,p∈mV)(h:KeptBox objs ν bx t k nu):KeptBox objs ν mV t k nu:=by
 obtain⟨cs,b,h1,h2,h3,h4,h5⟩:=h;exact⟨cs,b,h1,h2,h3,h4,hb _ h5⟩
theorem KeptOk.mono{bx mV:List (Nat×CS)}(hb:∀p∈bx,p∈mV):∀(ps:List PTy) (ids:List Kp) (ks:List Nu),KeptOk objs ν bx ps ids ks->KeptOk objs ν mV ps ids ks
 | [],_,_,h=>h
 | .v _ _::ps,ids,ks,h=>KeptOk.mono hb ps ids ks h
 | .box t::ps,ids,ks,⟨k,aZ,nu,ks',h1,h2,h3,h4⟩=>⟨k,aZ,nu,ks',h1,h2,h3.mono hb,KeptOk.mono hb ps aZ ks' h4⟩
 | .mut e::ps,ids,ks,⟨id,aZ,ks',ys,h1,h2,h3,h4⟩=>⟨id,aZ,ks',ys,h1,h2,h3,KeptOk.mono hb ps aZ ks' h4⟩
 | .clos _ _::ps,ids,ks,h=>KeptOk.mono hb ps ids ks h
 | .kv t _::ps,ids,ks,⟨i1,i2,ks',h1,h2,h3,h4⟩=>⟨i1,i2,ks',h1,h2,h3,KeptOk.mono hb ps i2 ks' h4⟩
 | .rp _::ps,ids,ks,h=>KeptOk.mono hb ps ids ks h
 | .vj _::_,_,_,h=>h.elim
 | .boxal t _::ps,ids,ks,⟨k,aZ,nu,ks',h1,h2,h3,h4⟩=>⟨k,aZ,nu,ks',h1,h2,h3.mono hb,KeptOk.mono hb ps aZ ks' h4⟩
def WmL(G:GH)(ν:Nat->Nu)(w:World)(aH:Waf)(bx:List (Nat×CS))(ah:Nat)(id:Nat)(S:CS)(ob:Ob):Prop:=
 (∃lw off ds b us,look aH id=some (.box lw)/\ob= .box (Weg lw off ds)/\off+ds.length<=lw.length/\(ν id).blk=some b/\Mem w b ((ν id).off+off) us/\CellsRel G ν ah ds us/\
  S=rng b ((ν id).off+off) ds.length/\(id,rng b ((ν id).off+off) ds.length)∈bx)\/
 (∃(e:Ty) (ys xs:List e.den),look aH id=some (.arr e ys)/\ob= .arr e xs/\OwnL w (TyRel G w e) e.size (ν id) xs S)
theorem Wg2(aH:Waf){bx:List (Nat×CS)}{ah:Nat}:∀(t:Ty) (d:t.den) (us:List Value) (ns:List Pc) (ids:List Nat),TyRel G w t d us ns->nus ns=ids.map ν->Wip aH t ids->
  (∀id ob,look (Wcr t d ids) id=some ob->∃(j:Nat) (S:CS),ids[j]?=some id/\(fps ns)[j]?=some S/\WmL G ν w aH bx ah id S ob)/\∀id∈ids,∃ob,look (Wcr t d ids) id=some ob
 | .own e,d,us,ns,ids,⟨pc,h1,h2,h3⟩,hn,⟨id,ys,h,aY⟩=>by
  subst h h1;simp only[nus,Xaj,Xck,List.cons.injEq,and_true]at hn;refine⟨λi ob hl=>?_,λi hi=>?_⟩
  .simp only[Wcr,WD]at hl;split at hl
   .rename_i e3;subst e3;injection hl with hl;subst hl;exact⟨0,pc.fp,rfl,rfl,.inr ⟨e,ys,d,aY,rfl,by rw[←hn];exact h3⟩⟩
   .simp[look]at hl
  .rw[Xz.1 hi];exact⟨.arr e d,by simp[Wcr,look]⟩
 | .prod a b,d,us,ns,ids,⟨u1,u2,n1,n2,h1,h2,h3,h4⟩,hn,⟨i1,i2,h,tU,lT⟩=>by
  subst h h2;have aT:=W8 a _ _ _ h3;have eZ:=Wfa a _ tU;simp only[nus,Xr]at hn;obtain⟨e1,e2⟩:=Xfy hn (by rw[Xaf,Xaf,aT,eZ]);have t1:(i1++i2).take a.owns=i1:=by rw[←eZ];simp
  have t2:(i1++i2).drop a.owns=i2:=by rw[←eZ];simp
  obtain⟨a1,a2⟩:=Wg2 aH (bx:=bx) (ah:=ah) a d.1 _ n1 i1 h3 e1 tU;obtain⟨b1,b2⟩:=Wg2 aH (bx:=bx) (ah:=ah) b d.2 _ n2 i2 h4 e2 lT;simp only[Wcr,t1,t2];refine⟨λi ob hl=>?_,λi hi=>?_⟩
  .rcases WH hl with hl|hl
   .obtain⟨j,S,g1,g2,g3⟩:=a1 i ob hl;simp only[fps]at g2;refine⟨j,S,?_,?_,g3⟩
    .rw[Xbb (Xt.1 g1).1];exact g1
    .simp only[fps,Xr];rw[Xbb (Xt.1 g2).1];exact g2
   .obtain⟨j,S,g1,g2,g3⟩:=b1 i ob hl;simp only[fps]at g2;refine⟨i1.length+j,S,?_,?_,g3⟩
    .rw[Xay (by omega),Xbe];exact g1
    .simp only[fps,Xr];rw[Xay (by rw[Xaf,aT,eZ];omega),Xaf,aT,eZ,Xbe];exact g2
  .rcases Xm.1 hi with hi|hi
   .obtain⟨ob,ho⟩:=a2 i hi;exact⟨ob,by rw[WbB,ho]⟩
   .obtain⟨ob,ho⟩:=b2 i hi;rw[WbB];cases hq:look (Wcr a d.1 i1) i with
    |some co=>exact⟨co,rfl⟩
    |none=>exact⟨ob,ho⟩
 | .int _,d,us,ns,ids,hr,_,h=>by have:ids= []:=h;subst this;exact⟨λi ob hl=>by simp[Wcr,look]at hl,λi hi=>by simp at hi⟩
 | .bool,d,us,ns,ids,hr,_,h=>by have:ids= []:=h;subst this;exact⟨λi ob hl=>by simp[Wcr,look]at hl,λi hi=>by simp at hi⟩
 | .str,d,us,ns,ids,hr,_,h=>by have:ids= []:=h;subst this;exact⟨λi ob hl=>by simp[Wcr,look]at hl,λi hi=>by simp at hi⟩
 | .slice _,d,us,ns,ids,hr,_,h=>by have:ids= []:=h;subst this;exact⟨λi ob hl=>by simp[Wcr,look]at hl,λi hi=>by simp at hi⟩
theorem WiX:∀(t:Ty) (d:t.den) (ids:List Nat) (id:Nat) (ob:Ob),look (Wcr t d ids) id=some ob->id∈ids
 | .own e,d,ids,id,ob,h=>by
  cases ids with
  |nil=>simp[Wcr,look]at h
  |cons i l=>
   simp only[Wcr,WD]at h;split at h
   .rename_i e;subst e;exact Xi ..
   .simp[look]at h
 | .prod a b,d,ids,id,ob,h=>by
  simp only[Wcr]at h;rcases WH h with h|h
  .exact Xco (WiX a d.1 _ id ob h)
  .exact Xex (WiX b d.2 _ id ob h)
 | .int _,_,_,_,_,h=>by simp[Wcr,look]at h
 | .bool,_,_,_,_,h=>by simp[Wcr,look]at h
 | .str,_,_,_,_,h=>by simp[Wcr,look]at h
 | .slice _,_,_,_,_,h=>by simp[Wcr,look]at h
def kids(l:List Kp):List Nat:=l.map Kp.id
theorem WhV(l:List Nat):kids (kp0 l)=l:=by simp[kids,kp0,Function.comp_def]
theorem WaX(aH:Waf){bx:List (Nat×CS)}:∀(ps:List PTy) (o:WfY ps) (ids:List Kp) (ks:List Nu) (kf:List CS) (ms:List Pc) (objs:Waf) (nx ah:Nat),WbD G w ps o ks kf ms->KeptOk aH ν bx ps ids ks->At ν φ nx ms->
  (kids ids).Nodup->(∀k∈ids,k.id<nx/\look objs k.id=look aH k.id)->nx+ms.length<=ah->
  (Wag ps o ids objs nx).2=nx+ms.length/\kf.length=ids.length/\
  ∀id ob,look (Wag ps o ids objs nx).1 id=some ob->(nx<=id/\id<nx+ms.length/\Wqp G ν φ w id ob)\/(∃(j:Nat) (S:CS),(kids ids)[j]?=some id/\kf[j]?=some S/\WmL G ν w aH bx ah id S ob)\/(look objs id=some ob/\id∉kids ids)
 | [],o,ids,ks,kf,ms,objs,nx,ah,⟨_,h1,h2⟩,hk,_,_,_,_=>by subst h1 h2;obtain⟨hk,_⟩:=hk;subst hk;exact⟨rfl,rfl,λid ob hl=>.inr (.inr ⟨hl,by simp[kids]⟩)⟩
 | .v _ _::ps,o,ids,ks,kf,ms,objs,nx,ah,h,hk,hν,hn,hi,hx=>WaX aH ps o ids ks kf ms objs nx ah h hk hν hn hi hx
 | .box t::ps,o,ids,ks,kf,ms,objs,nx,ah,⟨b,off,ks',cU,n1,n2,h1,h2,h3,hb,h5⟩,hk,hν,hn,hi,hx=>putOuts_box aH t ps o.1 o.2 ids ks kf ms objs nx ah (λids ks kf ms objs nx ah=>WaX aH ps o.2 ids ks kf ms objs nx ah) ⟨b,off,ks',cU,n1,n2,h1,h2,h3,hb,h5⟩ hk hν hn hi hx
 | .vj _::_,_,_,_,_,_,_,_,_,h,_,_,_,_,_=>h.elim
 | .boxal t _::ps,o,ids,ks,kf,ms,objs,nx,ah,⟨b,off,ks',cU,n1,n2,h1,h2,h3,hb,h5⟩,hk,hν,hn,hi,hx=>putOuts_box aH t ps o.1 o.2 ids ks kf ms objs nx ah (λids ks kf ms objs nx ah=>WaX aH ps o.2 ids ks kf ms objs nx ah) ⟨b,off,ks',cU,n1,n2,h1,h2,h3,hb,h5⟩ hk hν hn hi hx
 | .mut e::ps,o,ids,ks,kf,ms,objs,nx,ah,⟨pc,ks',cU,h1,h2,h3,h4⟩,hk,hν,hn,hi,hx=>by
  obtain⟨id,aZ,xb,ys,rfl,ly,aY,cy⟩:=hk;rw[h1]at ly;simp only[List.cons.injEq]at ly;obtain⟨hνid,rfl⟩:=ly;subst h2;have aP:=Xai.1 hn;obtain⟨e1,el,e2⟩:=WaX aH ps o.2 aZ ks' cU ms ((id,.arr e o.1)::objs) nx ah h4 cy hν aP.2 (λk mW=>by
   obtain⟨g1,g2⟩:=hi k (Xe _ mW);have hne:id≠k.id:=λe=>aP.1 (by show id∈kids aZ;rw[e];exact Xan mW);exact⟨g1,by rw[WD,if_neg hne];exact g2⟩) hx
  simp only[Wag];refine⟨e1,by simp[el],λi ob hl=>?_⟩;rcases e2 i ob hl with g|⟨j,S,g1,g2,g3⟩|⟨g,gn⟩
  .exact .inl g
  .exact .inr (.inl ⟨j+1,S,g1,g2,g3⟩)
  .rw[WD]at g;split at g
   .rename_i e3;subst e3;injection g with g;subst g;exact .inr (.inl ⟨0,pc.fp,rfl,rfl,.inr ⟨e,ys,o.1,aY,rfl,by rw[←hνid];exact h3⟩⟩)
   .rename_i hne;exact .inr (.inr ⟨g,λhm=>by rcases Xo.1 hm with hm|hm;exact hne hm.symm;exact gn hm⟩)
 | .clos _ _::ps,o,ids,ks,kf,ms,objs,nx,ah,h,hk,hν,hn,hi,hx=>WaX aH ps o ids ks kf ms objs nx ah h hk hν hn hi hx
 | .rp _::ps,o,ids,ks,kf,ms,objs,nx,ah,h,hk,hν,hn,hi,hx=>WaX aH ps o ids ks kf ms objs nx ah h hk hν hn hi hx
 | .kv t agg::ps,o,ids,ks,kf,ms,objs,nx,ah,⟨n1,ks',cU,us,h1,h2,h3,h4⟩,⟨i1,i2,xb,bA,rN,ho,cy⟩,hν,hn,hi,hx=>by
  subst bA h2;have aT:=W8 t _ _ _ h3;have eZ:=Wfa t _ ho;rw[h1]at rN;obtain⟨q1,q2⟩:=Xfy rN (by simp[nus,aT,eZ]);subst q2;have jH:(kp0 i1).length=t.owns:=by simp[kp0,eZ]
  have t1:((kp0 i1++i2).take t.owns).map Kp.id=i1:=by rw[←jH];simp;exact WhV i1
  have t2:(kp0 i1++i2).drop t.owns=i2:=by rw[←jH];simp
  obtain⟨r1,r2⟩:=Wg2 (bx:=bx) (ah:=ah) aH t o.1 us n1 i1 h3 q1 ho;have jI:kids (kp0 i1++i2)=i1++kids i2:=by simp only[kids,Xr];congr 1;exact WhV i1
  rw[jI]at hn;obtain⟨m1,m2,m3⟩:=Xak.1 hn;obtain⟨e1,el,e2⟩:=WaX aH ps o.2 i2 ks' cU ms (Wcr t o.1 i1++objs) nx ah h4 cy hν m2 (λk mW=>by
   obtain⟨g1,g2⟩:=hi k (Xg _ mW);refine⟨g1,?_⟩;rw[WbB];cases hq:look (Wcr t o.1 i1) k.id with
   |none=>exact g2
   |some ob=>exact absurd rfl (m3 _ (WiX t o.1 i1 _ ob hq) _ (Xan mW))) hx
  simp only[Wag,t1,t2];have gh:(fps n1).length=i1.length:=by simp[fps,aT,eZ]
  refine⟨e1,by simp[gh,el,kp0],λi ob hl=>?_⟩;rw[jI];rcases e2 i ob hl with g|⟨j,S,g1,g2,g3⟩|⟨g,gn⟩
  .exact .inl g
  .refine .inr (.inl ⟨i1.length+j,S,?_,?_,g3⟩)
   .rw[Xay (by omega),Xbe];exact g1
   .rw[Xay (by omega),gh,Xbe];exact g2
  .rw[WbB]at g;cases hq:look (Wcr t o.1 i1) i with
   |some co=>
    rw[hq]at g;injection g with g;subst g;obtain⟨j,S,g1,g2,g3⟩:=r1 i _ hq;refine .inr (.inl ⟨j,S,?_,?_,g3⟩)
    .rw[Xbb (Xt.1 g1).1];exact g1
    .rw[Xbb (Xt.1 g2).1];exact g2
   |none=>
    rw[hq]at g;refine .inr (.inr ⟨g,λnZ=>?_⟩);rcases Xm.1 nZ with h|h
    .obtain⟨co,gO⟩:=r2 i h;rw[hq]at gO;cases gO
    .exact gn h
where
 putOuts_box (aH:Waf) {bx:List (Nat×CS)} (t:Ty) (ps:List PTy) (o1:t.den) (o2:WfY ps) (ids:List Kp) (ks:List Nu) (kf:List CS) (ms:List Pc) (objs:Waf) (nx ah:Nat)
   (ih:∀(ids:List Kp) (ks:List Nu) (kf:List CS) (ms:List Pc) (objs:Waf) (nx ah:Nat),WbD G w ps o2 ks kf ms->KeptOk aH ν bx ps ids ks->At ν φ nx ms->
    (kids ids).Nodup->(∀k∈ids,k.id<nx/\look objs k.id=look aH k.id)->nx+ms.length<=ah->
    (Wag ps o2 ids objs nx).2=nx+ms.length/\kf.length=ids.length/\
    ∀id ob,look (Wag ps o2 ids objs nx).1 id=some ob->(nx<=id/\id<nx+ms.length/\Wqp G ν φ w id ob)\/(∃(j:Nat) (S:CS),(kids ids)[j]?=some id/\kf[j]?=some S/\WmL G ν w aH bx ah id S ob)\/(look objs id=some ob/\id∉kids ids))
   (h:∃b off ks' cU n1 n2,ks=Wcc b off::ks'/\kf=rng b off t.size::cU/\ms=n1++n2/\Wfv G w t o1 b off n1/\WbD G w ps o2 ks' cU n2)
   (hk:∃k aZ nu ks',ids=k::aZ/\ks=nu::ks'/\KeptBox aH ν bx t k nu/\KeptOk aH ν bx ps aZ ks') (hν:At ν φ nx ms)
   (hn:(kids ids).Nodup) (hi:∀k∈ids,k.id<nx/\look objs k.id=look aH k.id) (hx:nx+ms.length<=ah):
   (Wag (.box t::ps) (o1,o2) ids objs nx).2=nx+ms.length/\kf.length=ids.length/\
   ∀id ob,look (Wag (.box t::ps) (o1,o2) ids objs nx).1 id=some ob->(nx<=id/\id<nx+ms.length/\Wqp G ν φ w id ob)\/(∃(j:Nat) (S:CS),(kids ids)[j]?=some id/\kf[j]?=some S/\WmL G ν w aH bx ah id S ob)\/(look objs id=some ob/\id∉kids ids):=by
  obtain⟨b,off,ks',cU,n1,n2,h1,h2,h3,⟨us,_,hmem,gP⟩,h5⟩:=h;obtain⟨k,aZ,nu,xb,rfl,ly,⟨lw,b0,aY,bR,aU,lz,uU⟩,cy⟩:=hk;rw[h1]at ly;simp only[List.cons.injEq]at ly;obtain⟨rL,rfl⟩:=ly;rw[lz]at rL;unfold Wcc at rL;injection rL with qJ yN;injection qJ with qJ;subst qJ yN h2 h3;have aT:=W8 t _ _ _ gP;have hlen:(n1++n2).length=t.owns+n2.length:=by rw[Xaa,aT]
  obtain⟨c1,xc⟩:=Wav t o1 nx us n1 gP hν.left;have aP:=Xai.1 hn;obtain⟨jg,fv⟩:=hi k (Xi ..);have cG:=Wcf t o1 nx;have hQ:Whj (look objs k.id) k.off (unfold t o1 nx).1= .box (Weg lw k.off (unfold t o1 nx).1):=by rw[fv,aY];rfl
  obtain⟨e1,el,e2⟩:=ih aZ ks' cU n2 ((k.id,Whj (look objs k.id) k.off (unfold t o1 nx).1)::((unfold t o1 nx).2.1++objs)) (nx+t.owns) ah h5 cy (hν.right aT) aP.2 (λk' mW=>by
   obtain⟨g1,g2⟩:=hi k' (Xe _ mW);refine⟨by omega,?_⟩;rw[WD,if_neg (λe=>aP.1 (by rw[e];exact Xan mW)),WbB];cases hq:look (unfold t o1 nx).2.1 k'.id with
   |none=>exact g2
   |some ob=>have:=(xc _ ob hq).1;omega) (by omega)
  simp only[Wag,WaQ];refine⟨by rw[e1,hlen];omega,by simp[el],λi ob hl=>?_⟩;rcases e2 i ob hl with⟨g1,g2,g3⟩|⟨j,S,g1,g2,g3⟩|⟨g,gn⟩
  .exact .inl ⟨by omega,by omega,g3⟩
  .exact .inr (.inl ⟨j+1,S,g1,g2,g3⟩)
  .rw[WD]at g;split at g
   .rename_i e3;subst e3;injection g with g;rw[hQ]at g;subst g;refine .inr (.inl ⟨0,_,rfl,rfl,.inl ⟨lw,k.off,_,_,us,aY,rfl,by rw[cG];exact bR,aU,hmem,c1 ah (by omega),by rw[cG],by rw[cG];exact uU⟩⟩)
   .rename_i hne;rcases WH g with g|g
    .obtain⟨g1,g2,g3⟩:=xc i ob g;exact .inl ⟨g1,by omega,g3⟩
    .exact .inr (.inr ⟨g,λhm=>by rcases Xo.1 hm with hm|hm;exact hne hm.symm;exact gn hm⟩)
def Wwx(G:GH)(ν:Nat->Nu)(φ:Nat->CS)(w:World)(ah:Nat)(id:Nat)(ob:Ob):Prop:=
 Wqp G ν φ w id ob\/∃cs b us,ob= .box cs/\(ν id).blk=some b/\Row w b ((ν id).off+cs.length)/\Mem w b (ν id).off us/\CellsRel G ν ah cs us/\CS.le (rng b (ν id).off cs.length) (φ id)
theorem Wd7:∀(rs:List PTy) (d:WgS rs) (vs:List Value) (ns:List Pc) (objs:Waf) (nx ah:Nat),Wgw G w rs d vs ns->At ν φ nx ns->nx+ns.length<=ah->
  (Wbw rs d objs nx).2.2=nx+ns.length/\
  (∀id ob,look (Wbw rs d objs nx).2.1 id=some ob->(nx<=id/\id<nx+ns.length/\Wwx G ν φ w ah id ob)\/look objs id=some ob)/\
  Wru G ν ah (Wbw rs d objs nx).1 vs
 | [],d,vs,ns,objs,nx,ah,⟨h1,h2⟩,_,_=>by subst h1 h2;exact⟨rfl,λid ob hl=>.inr hl,rfl,λj x v hj=>by simp[Wbw]at hj⟩
 | .v t agg::rs,d,vs,ns,objs,nx,ah,⟨v,vs',n1,n2,h1,h2,h3,h4⟩,hν,hx=>by
  subst h2;obtain⟨us,jE⟩:=WnB h3;have aT:=W8 _ _ _ _ jE;have hlen:(n1++n2).length=t.owns+n2.length:=by rw[Xaa,aT]
  obtain⟨_,o1⟩:=Wav t d.1 nx us n1 jE hν.left;obtain⟨e1,e2,e4,e5⟩:=Wd7 rs d.2 vs' n2 ((unfold t d.1 nx).2.1++objs) (nx+t.owns) ah h4 (hν.right aT) (by omega);simp only[Wbw,WaQ];refine⟨by rw[e1,hlen];omega,λi ob hl=>?_,?_⟩
  .rcases e2 i ob hl with⟨g1,g2,g3⟩|g
   .exact .inl ⟨by omega,by omega,g3⟩
   .rcases WH g with g|g
    .obtain⟨g1,g2,g3⟩:=o1 i ob g;exact .inl ⟨g1,by omega,.inl g3⟩
    .exact .inr g
  .rw[h1];refine⟨by simp[e4],λj x u hj hu=>?_⟩;cases j with
   |zero=>simp at hj hu;subst hj hu;exact Wk1 h3 hν.left (by omega)
   |succ j=>exact e5 j x u (by simpa using hj) (by simpa using hu)
 | .box t::rs,d,vs,ns,objs,nx,ah,⟨b,o,vs',n1,n2,h1,h2,⟨us,hrow,hmem,gP⟩,h5⟩,hν,hx=>by
  subst h2;have aT:=W8 _ _ _ _ gP;have hlen:((⟨Wcc b o,rng b o t.size⟩:Pc)::(n1++n2)).length=1+t.owns+n2.length:=by rw[List.length_cons,Xaa,aT];omega
  obtain⟨hν0,hφ0⟩:ν nx=Wcc b o/\φ nx=rng b o t.size:=by have:=hν 0 _ rfl;simpa using this
  have hν1:At ν φ (nx+1) (n1++n2):=hν.right (n1:=[⟨Wcc b o,rng b o t.size⟩]) rfl;obtain⟨c1,o1⟩:=Wav t d.1 (nx+1) us n1 gP hν1.left;obtain⟨e1,e2,e4,e5⟩:=Wd7 rs d.2 vs' n2 ((nx,.box (unfold t d.1 (nx+1)).1)::((unfold t d.1 (nx+1)).2.1++objs)) (nx+1+t.owns) ah h5 (hν1.right aT) (by omega);have cG:=Wcf t d.1 (nx+1);simp only[Wbw,WaQ];refine⟨by rw[e1,hlen];omega,λid ob hl=>?_,?_⟩
  .rcases e2 id ob hl with⟨g1,g2,g3⟩|g
   .exact .inl ⟨by omega,by omega,g3⟩
   .rw[WD]at g;split at g
    .rename_i e;subst e;injection g with g;subst g;refine .inl ⟨Xn _,by omega,.inr ⟨_,b,us,rfl,by rw[hν0];rfl,?_,?_,c1 ah (by omega),?_⟩⟩
     .rw[hν0,cG];exact hrow
     .rw[hν0];exact hmem
     .rw[hν0,cG,hφ0];exactλ_ _ hh=>hh
    .rcases WH g with g|g
     .obtain⟨g1,g2,g3⟩:=o1 id ob g;exact .inl ⟨by omega,by omega,.inl g3⟩
     .exact .inr g
  .rw[h1];refine⟨by simp[e4],λj x u hj hu=>?_⟩;cases j with
   |zero=>
    simp at hj hu;subst hj hu;exact⟨⟨by omega,b,by rw[hν0];rfl,by rw[hν0];rfl⟩,rfl⟩
   |succ j=>exact e5 j x u (by simpa using hj) (by simpa using hu)
 | .mut _::_,_,_,_,_,_,_,h,_,_=>h.elim
 | .clos _ _::_,_,_,_,_,_,_,h,_,_=>h.elim
 | .kv _ _::_,_,_,_,_,_,_,h,_,_=>h.elim
 | .rp _::_,_,_,_,_,_,_,h,_,_=>h.elim
 | .vj t::rs,d,vs,ns,objs,nx,ah,⟨us,u,vs',n1,n2,h1,h0,h2,h3,h4⟩,hν,hx=>by
  subst h2;have aT:=W8 _ _ _ _ h3;have hlen:(n1++n2).length=t.owns+n2.length:=by rw[Xaa,aT]
  obtain⟨c1,o1⟩:=Wav t d.1 nx us n1 h3 hν.left;obtain⟨e1,e2,e4,e5⟩:=Wd7 rs d.2 vs' n2 ((unfold t d.1 nx).2.1++objs) (nx+t.owns) ah h4 (hν.right aT) (by omega);simp only[Wbw,WaQ];refine⟨by rw[e1,hlen];omega,λi ob hl=>?_,?_⟩
  .rcases e2 i ob hl with⟨g1,g2,g3⟩|g
   .exact .inl ⟨by omega,by omega,g3⟩
   .rcases WH g with g|g
    .obtain⟨g1,g2,g3⟩:=o1 i ob g;exact .inl ⟨g1,by omega,.inl g3⟩
    .exact .inr g
  .rw[h1];refine⟨by simp[e4],λj x v hj hv=>?_⟩;cases j with
   |zero=>simp at hj hv;subst hj hv;exact⟨us++ [u],rfl,(c1 ah (by omega)).append (CellsRel.one trivial h0)⟩
   |succ j=>exact e5 j x v (by simpa using hj) (by simpa using hv)
 | .boxal _ _::_,_,_,_,_,_,_,h,_,_=>h.elim
theorem Wr0{xs:List AV}{vs:List Value}(h:Wru G ν nx xs vs):AValRel G ν nx (Wwp xs) (Wif vs):=by
 obtain⟨h1,h2⟩:=h
 match xs,vs,h1 with
 | [],[],_=>exact⟨[],rfl,rfl,λj x v hj=>by simp at hj⟩
 | [x],[v],_=>exact h2 0 x v rfl rfl
 |x::y::xs,v::u::vs,h1=>exact⟨v::u::vs,rfl,h1,h2⟩
end
end Go.Sx
namespace Go.Sx
set_option linter.unusedVariables false
set_option linter.unusedSimpArgs false
theorem WaS(i:Nat):∀l:List Nat,Wb0 i l=true↔i∈l
 | []=>by simp[Wb0]
 |j::l=>by
  simp only[Wb0,Bool.or_eq_true,WaS i l,Xo];rw[show(Nat.beq i j=true)=(i=j)from by simp]
theorem WeV:∀l:List Nat,Wbz l=true↔l.Nodup
 | []=>by simp[Wbz]
 |i::l=>by
  have h:=WaS i l;simp only[Wbz,Xh,Xaq,Xai,WeV l];constructor
  .rintro⟨h1,h2⟩;exact⟨λhm=>(by rw[h.2 hm]at h1;exact absurd h1 (by simp)),h2⟩
  .rintro⟨h1,h2⟩;refine⟨?_,h2⟩;cases he:Wb0 i l with
   |false=>rfl
   |true=>exact absurd (h.1 he) h1
theorem Wl9{l m:List Nat}(h:WgY l m=true):∀i∈l,i∉m:=λi hi hm=>by
 unfold WgY at h;have:=Xae.1 h i hi;rw[(WaS i m).2 hm]at this;cases this
section
variable{w0:World}{F:CS}{nt:Slots}{G0 G G':GH}{ν:Nat->Nu}{φ:Nat->CS}{objs:Waf}{nx:Nat}{st ae:St}{a:Act}{w w':World}{P:Program}{T:Tab}
theorem Wki(h:HR w0 F G ν φ objs nx w){t:Ty}{agg:Bool}{x:AVal}{v:Value}{cs:List Cell}{d:t.den}{m l:List Nat}(hg:GLe G G')(hx:AValRel G ν nx x v)(hl:Lent G' w φ objs l)(hm:m.Nodup)
  (hc:cellsOf agg x=some cs) (hf:Waw t cs objs=some (d,m,l)):∃ns,Wjb G' w t agg d v ns/\Sep (fps ns)/\(∀p∈ns,CS.le p.fp (FromL φ objs m))/\(∀i∈m,Live objs i)/\(∀i∈l,Live objs i):=by
 unfold cellsOf at hc;split at hc
 .split at hc
  .cases hc
  .rename_i c ha;injection hc with hc;subst hc;obtain⟨ns,h1,h2,h3,h4,h5,_⟩:=Wah h hg t [c] [v] d m l (CellsRel.one hx.1 hx.2) hl hm hf;refine⟨ns,?_,h2,h3,h4,h5⟩;unfold Wjb;rw[if_neg ha];exact h1
 .split at hc
  .rename_i ds ha;injection hc with hc;subst hc;obtain⟨us,rfl,bn⟩:=hx;obtain⟨ns,h1,h2,h3,h4,h5,_⟩:=Wah h hg t ds us d m l bn hl hm hf;refine⟨ns,?_,h2,h3,h4,h5⟩;unfold Wjb;rw[if_pos ha];exact⟨us,rfl,h1⟩
  .cases hc
 .cases hc
def Wwv(objs:Waf)(m:List Nat):Prop:=∀i∈m,∃(e:Ty) (xs:List e.den),look objs i=some (.arr e xs)
theorem WhT:∀(t:Ty) (cs:List Cell) (d:t.den) (m l:List Nat),Wwv objs m->Waw t cs objs=some (d,m,l)->m.length<=t.owns
 | .prod a b,cs,d,m,l,ha,h=>by
  simp only[Waw]at h;split at h
  .rename_i x m1 l1 y m2 l2 h1 h2;simp only[Option.some.injEq,Prod.mk.injEq]at h;obtain⟨rfl,rfl,rfl⟩:=h;have:=WhT a _ _ _ _ (λi hi=>ha i (Xk _ hi)) h1;have:=WhT b _ _ _ _ (λi hi=>ha i (Xg _ hi)) h2;rw[Xaa];show _<=a.owns+b.owns;omega
  .simp at h
 | .own e,cs,d,m,l,ha,h=>by
  simp only[Waw]at h;split at h
  .rename_i id;obtain⟨⟨ys,m'⟩,ho,hf⟩:=Xx.1 h;simp only[Prod.mk.injEq]at hf;obtain⟨rfl,rfl,rfl⟩:=hf;unfold Wta at ho;split at ho
   .obtain⟨zs,_,ho⟩:=Xx.1 ho;obtain⟨_,rfl⟩:=Prod.mk.inj ho;exact Xn 1
   .rename_i e' xs i p aY;split at ho
    .split at ho
     .simp only[Option.some.injEq,Prod.mk.injEq]at ho;obtain⟨_,rfl⟩:=ho;obtain⟨e2,yO,h2⟩:=ha id (Xi ..);rw[aY]at h2;cases h2
     .simp at ho
    .simp at ho
   .simp at ho
  .split at h
   .obtain⟨zs,_,h⟩:=Xx.1 h;have h2:=(Prod.mk.inj (Prod.mk.inj h).2).1;subst h2;exact Xn 1
   .simp at h
  .simp only[Option.some.injEq,Prod.mk.injEq]at h;obtain⟨rfl,rfl,rfl⟩:=h;exact Xbk _
  .simp at h
 | .slice e,cs,d,m,l,_,h=>by
  have hm:m= []:=by
   simp only[Waw]at h;split at h
   .obtain⟨q,_,h⟩:=Xx.1 h;exact((Prod.mk.inj (Prod.mk.inj h).2).1).symm
   .split at h
    .obtain⟨q,_,h⟩:=Xx.1 h;exact((Prod.mk.inj (Prod.mk.inj h).2).1).symm
    .simp at h
   .injection h with h;exact((Prod.mk.inj (Prod.mk.inj h).2).1).symm
   .obtain⟨q,_,h⟩:=Xx.1 h;exact((Prod.mk.inj (Prod.mk.inj h).2).1).symm
   .simp at h
  rw[hm];exact Xbk _
 | .int k,cs,d,m,l,_,h=>by
  simp only[Waw]at h;split at h
  .obtain⟨q,hq,h⟩:=Xx.1 h;simp only[Prod.mk.injEq]at h;obtain⟨rfl,rfl,rfl⟩:=h;exact Xn 0
  .simp at h
 | .bool,cs,d,m,l,_,h=>by
  simp only[Waw]at h;split at h
  .obtain⟨q,hq,h⟩:=Xx.1 h;simp only[Prod.mk.injEq]at h;obtain⟨rfl,rfl,rfl⟩:=h;exact Xn 0
  .simp at h
 | .str,cs,d,m,l,_,h=>by
  simp only[Waw]at h;split at h
  .obtain⟨q,hq,h⟩:=Xx.1 h;simp only[Prod.mk.injEq]at h;obtain⟨rfl,rfl,rfl⟩:=h;exact Xn 0
  .simp at h
theorem WeX(h:HR w0 F G ν φ objs nx w)(hg:GLe G G'){t:Ty}(ht:t.owns=0){cs:List Cell}{vs:List Value}{d:t.den}{m l:List Nat}(hc:CellsRel G ν nx cs vs)(hl:Lent G' w φ objs l)(hf:Waw t cs objs=some (d,m,l))(hm:m= []):TyRel G' w t d vs []:=by
 subst hm;obtain⟨ns,h1,_⟩:=Wah h hg t cs vs d [] l hc hl Xdk hf;have:=W8 _ _ _ _ h1;rw[ht]at this;rw[Xy this]at h1;exact h1
def pcs(ν:Nat->Nu)(φ:Nat->CS)(m:List Nat):List Pc:=m.map λi=>⟨ν i,φ i⟩
theorem WvB(m:List Nat):nus (pcs ν φ m)=m.map ν:=by simp[nus,pcs,Function.comp_def]
theorem WnI(m:List Nat):fps (pcs ν φ m)=m.map φ:=by simp[fps,pcs,Function.comp_def]
theorem Wfb(h:HR w0 F G ν φ objs nx w)(hg:GLe G G'):∀(t:Ty) (cs:List Cell) (vs:List Value) (d:t.den) (m l:List Nat),CellsRel G ν nx cs vs->Lent G' w φ objs l->(∀c∈cs,Wss c=true)->Wwv objs m->
  Waw t cs objs=some (d,m,l)->m.length=t.owns->TyRel G' w t d vs (pcs ν φ m)/\Wip objs t m
 | .prod a b,cs,vs,d,m,l,hc,hl,hw,ha,hf,hm=>by
  have xd:=hf;simp only[Waw]at hf;split at hf
  .rename_i x m1 l1 y m2 l2 h1 h2;simp only[Option.some.injEq,Prod.mk.injEq]at hf;obtain⟨rfl,rfl,rfl⟩:=hf;have xe:Wwv objs m1:=λi hi=>ha i (Xk _ hi);have lA:Wwv objs m2:=λi hi=>ha i (Xg _ hi);have q1:=WhT a _ _ _ _ xe h1;have q2:=WhT b _ _ _ _ lA h2;rw[Xaa]at hm;have ii:m1.length+m2.length=a.owns+b.owns:=hm;obtain⟨g1,g2⟩:=Wfb h hg a _ (vs.take a.size) x m1 l1 (hc.take _) (hl.mono (by simp;intro i hi;exact .inl hi)) (λc hc=>hw c (Xco hc)) xe h1 (by omega);obtain⟨g3,g4⟩:=Wfb h hg b _ (vs.drop a.size) y m2 l2 (hc.drop _) (hl.mono (by simp;intro i hi;exact .inr hi)) (λc hc=>hw c (Xex hc)) lA h2 (by omega);exact⟨⟨_,_,pcs ν φ m1,pcs ν φ m2,(Xde a.size vs).symm,by simp[pcs],g1,g3⟩,m1,m2,rfl,g2,g4⟩
  .simp at hf
 | .own e,cs,vs,d,m,l,hc,hl,hw,ha,hf,hm=>by
  simp only[Waw]at hf;split at hf
  .rename_i id;obtain⟨v,rfl,⟨_,hv⟩,_⟩:=hc.single;subst hv;obtain⟨⟨ys,m'⟩,ho,hf⟩:=Xx.1 hf;simp only[Prod.mk.injEq]at hf;obtain⟨rfl,rfl,rfl⟩:=hf;unfold Wta at ho;split at ho
   .rename_i e' xs aY;obtain⟨zs,bq,ho⟩:=Xx.1 ho;obtain⟨rfl,rfl⟩:=Prod.mk.inj ho;obtain⟨he,hy⟩:=Wax bq;subst he;simp only at hy;subst hy;have ar:OwnL w (TyRel G w e') e'.size (ν id) xs (φ id):=h.ob _ _ aY;exact⟨⟨⟨ν id,φ id⟩,rfl,rfl,Wc0 hg (Same.refl _ w) (λ_ _ hh=>hh) ar⟩,id,xs,rfl,aY⟩
   .rename_i e' xs i p aY;split at ho
    .split at ho
     .simp only[Option.some.injEq,Prod.mk.injEq]at ho;obtain⟨_,rfl⟩:=ho;obtain⟨e2,yO,h2⟩:=ha id (Xi ..);rw[aY]at h2;cases h2
     .simp at ho
    .simp at ho
   .simp at ho
  .have:=hw _ (Xz.2 rfl);cases this
  .simp only[Option.some.injEq,Prod.mk.injEq]at hf;obtain⟨rfl,rfl,rfl⟩:=hf;exact absurd hm (by show¬(0=1);omega)
  .simp at hf
 | .slice e,cs,vs,d,m,l,hc,hl,hw,ha,hf,hm=>by
  have kA:m= []:=Xy hm;have:=WeX h hg (t:=.slice e) rfl hc hl hf kA;subst kA;exact⟨this,rfl⟩
 | .int k,cs,vs,d,m,l,hc,hl,hw,ha,hf,hm=>by
  have kA:m= []:=Xy hm;have:=WeX h hg (t:=.int k) rfl hc hl hf kA;subst kA;exact⟨this,rfl⟩
 | .bool,cs,vs,d,m,l,hc,hl,hw,ha,hf,hm=>by
  have kA:m= []:=Xy hm;have:=WeX h hg (t:=.bool) rfl hc hl hf kA;subst kA;exact⟨this,rfl⟩
 | .str,cs,vs,d,m,l,hc,hl,hw,ha,hf,hm=>by
  have kA:m= []:=Xy hm;have:=WeX h hg (t:=.str) rfl hc hl hf kA;subst kA;exact⟨this,rfl⟩
theorem WqJ{t:Ty}{m:List Nat}{x:AVal}(h:Wnm objs t m x=true):m.length=t.owns/\WuC x=true/\Wwv objs m:=by
 unfold Wnm at h;simp only[Xh,decide_eq_true_eq,Xae]at h;obtain⟨⟨h1,h2⟩,h3⟩:=h;refine⟨h1,h2,λi hi=>?_⟩;have:=h3 i hi;split at this
 .rename_i e xs hl;exact⟨e,xs,hl⟩
 .cases this
theorem WmZ(h:HR w0 F G ν φ objs nx w){t:Ty}{agg:Bool}{x:AVal}{v:Value}{cs:List Cell}{d:t.den}{m l:List Nat}(hg:GLe G G')(hx:AValRel G ν nx x v)(hl:Lent G' w φ objs l)
  (hc:cellsOf agg x=some cs) (hf:Waw t cs objs=some (d,m,l)) (ha:Wnm objs t m x=true):Wjb G' w t agg d v (pcs ν φ m)/\Wip objs t m:=by
 obtain⟨hm,hw,gE⟩:=WqJ ha;unfold cellsOf at hc;split at hc
 .split at hc
  .cases hc
  .rename_i c nQ;injection hc with hc;subst hc;obtain⟨h1,h2⟩:=Wfb h hg t [c] [v] d m l (CellsRel.one hx.1 hx.2) hl (λc' ia=>by rw[Xz.1 ia];exact hw) gE hf hm;refine⟨?_,h2⟩;unfold Wjb;rw[if_neg nQ];exact h1
 .split at hc
  .rename_i ds nQ;injection hc with hc;subst hc;obtain⟨us,rfl,bn⟩:=hx;obtain⟨h1,h2⟩:=Wfb h hg t ds us d m l bn hl (λc' ia=>Xae.1 hw c' ia) gE hf hm;refine⟨?_,h2⟩;unfold Wjb;rw[if_pos nQ];exact⟨us,rfl,h1⟩
  .cases hc
 .cases hc
def Tk(φ:Nat->CS)(objs:Waf)(bx:List (Nat×CS))(l:List Nat):CS:=λb o=>∃i∈l,Live objs i/\φ i b o/\∀p∈bx,p.1=i->p.2 b o
structure AOk(G':GH)(ν:Nat->Nu)(φ:Nat->CS)(objs:Waf)(w:World)(ps:List PTy)(A:Args ps)(vs:List Value)(ns:List Pc)(ks:List Nu)(bx:List (Nat×CS)):Prop where
 args:Wbp G' w ps A.d vs ns ks
 kept:KeptOk objs ν bx ps A.kept ks
 sep:Sep (fps ns)
 tk:∀q∈ns,CS.le q.fp (Tk φ objs bx A.all)
 bx:∀p∈bx,p.1∈A.all
 live:∀i∈A.all,Live objs i
 lent:∀i∈A.lent,Live objs i
 mv:∀i∈A.moved,i∈A.all
 mvk:∀i∈A.all,i∈A.moved\/i∈kids A.kept
 sub:(kids A.kept).Sublist A.all
 dis:∀i∈kids A.kept,i∉A.moved
theorem WiT{bx:List (Nat×CS)}{l:List Nat}:CS.le (Tk φ objs bx l) (FromL φ objs l):=λb o ⟨i,hi,h1,h2,_⟩=>⟨i,hi,h1,h2⟩
theorem WkS{bx mV:List (Nat×CS)}{l l':List Nat}(hl:∀i∈l,i∈l')(hb:∀p∈mV,p∈bx\/p.1∉l):CS.le (Tk φ objs bx l) (Tk φ objs mV l'):=λb o ⟨i,hi,h1,h2,h3⟩=>
 ⟨i,hl i hi,h1,h2,λp hp e=>by
  rcases hb p hp with h|h
  .exact h3 p h e
  .exact absurd (by rw[e];exact hi) h⟩
theorem Wob{bx:List (Nat×CS)}{m l:List Nat}(hm:∀i∈m,i∈l)(hb:∀p∈bx,p.1∉m):CS.le (FromL φ objs m) (Tk φ objs bx l):=λb o ⟨i,hi,h1,h2⟩=>
 ⟨i,hm i hi,h1,h2,λp hp e=>absurd (by rw[e];exact hi) (hb p hp)⟩
theorem Wcl(h:HR w0 F G ν φ objs nx w){n1 n2:List Pc}{m l:List Nat}(h1:Sep (fps n1))(h2:Sep (fps n2))(g1:∀q∈n1,CS.le q.fp (FromL φ objs m))(g2:∀q∈n2,CS.le q.fp (FromL φ objs l))(hd:∀i∈m,i∉l):Sep (fps (n1++n2)):=by
 unfold fps;rw[Xr];refine WnD h1 h2 (A:=FromL φ objs m) (B:=FromL φ objs l) (λs hs=>?_) (λs hs=>?_) (FromL.disj h hd)
 .obtain⟨p,hp,rfl⟩:=Xv.1 hs;exact g1 p hp
 .obtain⟨p,hp,rfl⟩:=Xv.1 hs;exact g2 p hp
theorem Wpl(h:HR w0 F G ν φ objs nx w)(hg:GLe G G'){t:Ty}{ps:List PTy}{id off:Nat}{cs:List Cell}{d:t.den}{m:List Nat}{A:Args ps}{vs:List Value}{ns:List Pc}{ks:List Nu}{bx:List (Nat×CS)}{v:Value}
  (hv:CellRel G ν nx (.ptr id off) v) (aY:look objs id=some (.box cs)) (hf:Waw t ((cs.drop off).take t.size) objs=some (d,m,[])) (aP:(id::(m++A.all)).Nodup) (hA:AOk G' ν φ objs w ps A vs ns ks bx):
  ∃b n1,v= .pointer (some ⟨b,(ν id).off+off,none⟩)/\(ν id).blk=some b/\Wfv G' w t d b ((ν id).off+off) n1/\Leaf ν t ((cs.drop off).take t.size) n1/\
   KeptBox objs ν ((id,rng b ((ν id).off+off) t.size)::bx) t ⟨id,off⟩ (Wcc b ((ν id).off+off))/\KeptOk objs ν ((id,rng b ((ν id).off+off) t.size)::bx) ps A.kept ks/\
   Sep (fps (⟨Wcc b ((ν id).off+off),rng b ((ν id).off+off) t.size⟩::(n1++ns)))/\
   (∀q∈(⟨Wcc b ((ν id).off+off),rng b ((ν id).off+off) t.size⟩:Pc)::(n1++ns),CS.le q.fp (Tk φ objs ((id,rng b ((ν id).off+off) t.size)::bx) (id::(m++A.all))))/\
   (∀p∈(id,rng b ((ν id).off+off) t.size)::bx,p.1∈id::(m++A.all))/\(∀i∈id::(m++A.all),Live objs i)/\
   (∀i∈m++A.moved,i∈id::(m++A.all))/\(∀i∈id::(m++A.all),i∈m++A.moved\/i∈id::kids A.kept)/\(id::kids A.kept).Sublist (id::(m++A.all))/\(∀i∈id::kids A.kept,i∉m++A.moved):=by
 obtain⟨bA,b,aU,rfl⟩:=hv;obtain⟨n1,n2⟩:=Xai.1 aP;obtain⟨n3,n4,n5⟩:=Xak.1 n2;have aw:Live objs id:=⟨_,aY,by simp⟩;obtain⟨b',us,hb',hrow,hmem,bn,eJ⟩:WcE G ν nx w id (φ id) (.box cs):=h.ob _ _ aY;rw[aU]at hb';injection hb' with hb';subst hb';obtain⟨q1,t1,t2,t3,t4,_,t5⟩:=Wah h hg t _ ((us.drop off).take t.size) d m [] ((bn.drop off).take _) (λi hi=>by simp at hi) n3 hf;have hlen:=WA _ _ _ _ t1;have bR:off+t.size<=cs.length:=by
  have:=bn.1;rw[Xap,Xdm]at hlen;have:=WbA t;omega
 have gg:CS.le (rng b ((ν id).off+off) t.size) (φ id):=λb' o ⟨k0,k1,k2⟩=>eJ b' o ⟨k0,by omega,by omega⟩;refine⟨b,q1,rfl,aU,⟨_,?_,?_,t1⟩,t5,⟨cs,b,aY,bR,aU,rfl,Xi ..⟩,KeptOk.mono (λp hp=>Xe _ hp) _ _ _ hA.kept,?_,?_,?_,?_,?_,?_,?_,?_⟩
 .obtain⟨row,TT,r1,r2⟩:=hrow;exact⟨row,TT,r1,by omega⟩
 .intro j v hj;rw[Xbo]at hj;split at hj
  .rw[Xbn]at hj;rw[Xar];exact hmem _ v hj
  .simp at hj
 .have s1:=Wcl h t2 hA.sep t3 (λq hq b o hh=>WiT b o (hA.tk q hq b o hh)) (λi hi hj=>n5 i hi i hj rfl);refine Xac.2 ⟨λs hs=>?_,s1⟩;obtain⟨p,hp,rfl⟩:=Xv.1 hs;refine CS.disj.mono (FromL.disj h (m:=[id]) (m':=m++A.all) (λi hi hj=>n1 (by rw[←Xz.1 hi];exact hj))) (λb o hh=>⟨id,by simp,aw,gg b o hh⟩) (λb o hh=>?_);rcases Xm.1 hp with hp|hp
  .exact FromL.mono (λi hi=>Xk _ hi) b o (t3 p hp b o hh)
  .exact FromL.mono (λi hi=>Xg _ hi) b o (WiT b o (hA.tk p hp b o hh))
 .intro q hq;rcases Xo.1 hq with rfl|hq
  .exactλb o hh=>⟨id,Xi ..,aw,gg b o hh,λp hp e=>by
    rcases Xo.1 hp with rfl|hp
    .exact hh
    .exact absurd (Xg _ (by rw[←e];exact hA.bx p hp)) n1⟩
  .rcases Xm.1 hq with hq|hq
   .refineλb o hh=>Wob (m:=m) (λi hi=>Xe _ (Xk _ hi)) (λp hp hm=>?_) b o (t3 q hq b o hh)
    rcases Xo.1 hp with rfl|hp
    .exact n1 (Xk _ hm)
    .exact n5 _ hm _ (hA.bx p hp) rfl
   .refineλb o hh=>WkS (λi hi=>Xe _ (Xg _ hi)) (λp hp=>?_) b o (hA.tk q hq b o hh)
    rcases Xo.1 hp with rfl|hp
    .exact .inr (λhm=>n1 (Xg _ hm))
    .exact .inl hp
 .intro p hp;rcases Xo.1 hp with rfl|hp
  .exact Xi ..
  .exact Xe _ (Xg _ (hA.bx p hp))
 .intro i hi;rcases Xo.1 hi with rfl|hi
  .exact aw
  .rcases Xm.1 hi with hi|hi
   .exact t4 i hi
   .exact hA.live i hi
 .intro i hi;rcases Xm.1 hi with hi|hi
  .exact Xe _ (Xk _ hi)
  .exact Xe _ (Xg _ (hA.mv i hi))
 .intro i hi;rcases Xo.1 hi with rfl|hi
  .exact .inr (Xi ..)
  .rcases Xm.1 hi with hi|hi
   .exact .inl (Xk _ hi)
   .rcases hA.mvk i hi with hi|hi
    .exact .inl (Xg _ hi)
    .exact .inr (Xe _ hi)
 .exact List.Sublist.cons_cons _ (List.Sublist.trans hA.sub (Xfl _ _))
 .intro i hi hm;rcases Xo.1 hi with rfl|hi
  .rcases Xm.1 hm with hm|hm
   .exact n1 (Xk _ hm)
   .exact n1 (Xg _ (hA.mv _ hm))
  .rcases Xm.1 hm with hm|hm
   .exact n5 _ hm _ (hA.sub.subset hi) rfl
   .exact hA.dis i hi hm
theorem WpI(h:HR w0 F G ν φ objs nx w){c:Cell}{y:AVal}{i:Nat}{u:Value}(hy:AValRel G ν nx y u)(he:Wry objs c y=some i):
  ∃r b,c= .own r/\(ν r).blk=some b/\i<(ν r).len/\u= .pointer (some ⟨b,(ν r).off+(i*(ν r).esz+0),none⟩):=by
 unfold Wry at he;split at he
 .rename_i r p off;split at he
  .rename_i e xs j p' aY;split at he
   .rename_i hp;injection he with he;subst he;have hp:=Xcb hp;subst hp;obtain⟨lO,k1,k2,k3,b,k4,k5,k6,_⟩:p<nx/\WhG w (TyRel G w e) e.size (ν r) (ν p) xs j (φ r):=h.ob _ _ aY;obtain⟨⟨_,b',hb',rfl⟩,_⟩:=hy;rw[k5]at hb';injection hb' with hb';subst hb';exact⟨r,b,rfl,k4,by omega,by rw[k6,k2,Xau,Xau]⟩
   .simp at he
  .simp at he
 .rename_i r r' j off;split at he
  .rename_i e xs aY;split at he
   .rename_i hp;injection he with he;subst he;have hp:=Xcb hp;subst hp;obtain⟨⟨_,hlt,b,hb,rfl⟩,_⟩:=hy;exact⟨r,b,rfl,hb,hlt,rfl⟩
   .simp at he
  .simp at he
 .simp at he
theorem WaJ(h:HR w0 F G ν φ objs nx w)(hg:GLe G G'):∀(ps:List PTy) (xs:List AVal) (vs:List Value) (A:Args ps),vs.length=xs.length->
  (∀(j:Nat) (x:AVal) (v:Value),xs[j]?=some x->vs[j]?=some v->AValRel G ν nx x v)->Lent G' w φ objs A.lent->A.all.Nodup->Wae ps xs objs=some A->
  ∃ns ks bx,AOk G' ν φ objs w ps A vs ns ks bx
 | [],xs,vs,A,hlen,hx,hl,aP,hf=>by
  simp only[Wae]at hf;split at hf
  .injection hf with hf;subst hf;have eH:vs= []:=Xy (by simpa using hlen);exact⟨[],[],[],⟨eH,rfl,rfl⟩,⟨rfl,rfl⟩,List.Pairwise.nil,by simp,by simp,by simp,by simp,by simp,by simp,List.Sublist.refl _,by simp[kids]⟩
  .cases hf
 | .v t agg::ps,xs,vs,A,hlen,hx,hl,aP,hf=>by
  simp only[Wae]at hf;split at hf
  .rename_i x xs;split at hf
   .rename_i d m r A' h1 h2;injection hf with hf;subst hf
    match vs,hlen with
    |v::vs,hlen=>
     cases hc:cellsOf agg x with
     |none=>simp[hc]at h1
     |some cs=>
      simp[hc]at h1;obtain⟨n1,n2,n3⟩:=Xak.1 aP;obtain⟨q1,g1,g2,g3,g4,g5⟩:=Wki h hg (hx 0 x v rfl rfl) (hl.mono (λi hi=>Xk _ hi)) n1 hc h1;obtain⟨ns,ks,bx,hA⟩:=WaJ h hg ps xs vs A' (by simpa using hlen) (λj y u hj hu=>hx (j+1) y u (by simpa using hj) (by simpa using hu)) (hl.mono (λi hi=>Xg _ hi)) n2 h2;refine⟨q1++ns,ks,bx,⟨v,vs,q1,ns,rfl,rfl,g1,hA.args⟩,hA.kept,Wcl h g2 hA.sep g3 (λq hq b o hh=>WiT b o (hA.tk q hq b o hh)) (λi hi hj=>n3 i hi i hj rfl),λq hq=>?_,λp hp=>Xg _ (hA.bx p hp),λi hi=>?_,λi hi=>?_,λi hi=>?_,λi hi=>?_,List.Sublist.trans hA.sub (Xfl _ _),λi hi hm=>?_⟩
      .rcases Xm.1 hq with hq|hq
       .exactλb o hh=>Wob (λi hi=>Xk _ hi) (λp hp hm=>n3 _ hm _ (hA.bx p hp) rfl) b o (g3 q hq b o hh)
       .exactλb o hh=>WkS (λi hi=>Xg _ hi) (λp hp=>.inl hp) b o (hA.tk q hq b o hh)
      .rcases Xm.1 hi with hi|hi
       .exact g4 i hi
       .exact hA.live i hi
      .rcases Xm.1 hi with hi|hi
       .exact g5 i hi
       .exact hA.lent i hi
      .rcases Xm.1 hi with hi|hi
       .exact Xk _ hi
       .exact Xg _ (hA.mv i hi)
      .rcases Xm.1 hi with hi|hi
       .exact .inl (Xk _ hi)
       .rcases hA.mvk i hi with hi|hi
        .exact .inl (Xg _ hi)
        .exact .inr hi
      .rcases Xm.1 hm with hm|hm
       .exact n3 _ hm _ (hA.sub.subset hi) rfl
       .exact hA.dis i hi hm
   .cases hf
  .cases hf
 | .box t::ps,xs,vs,A,hlen,hx,hl,aP,hf=>by
  simp only[Wae]at hf;split at hf
  .rename_i id off xs;split at hf
   .rename_i cs aY;split at hf
    .rename_i d m A' h1 h2;injection hf with hf;subst hf
     match vs,hlen with
     |v::vs,hlen=>
      obtain⟨n1,n2⟩:=Xai.1 aP;obtain⟨ns,ks,bx,hA⟩:=WaJ h hg ps xs vs A' (by simpa using hlen) (λj y u hj hu=>hx (j+1) y u (by simpa using hj) (by simpa using hu)) hl (Xak.1 n2).2.1 h2;obtain⟨b,q1,rfl,aU,k1,_,k2,k3,k4,k5,k6,k7,k8,k9,k10,qK⟩:=Wpl h hg (hx 0 _ v rfl rfl).1 aY h1 aP hA;exact⟨_,_,_,⟨b,_,vs,q1,ns,ks,rfl,rfl,rfl,k1,hA.args⟩,⟨_,_,_,_,rfl,rfl,k2,k3⟩,k4,k5,k6,k7,hA.lent,k8,k9,k10,qK⟩
    .cases hf
   .cases hf
  .cases hf
 | .vj _::_,_,_,_,_,_,_,_,hf=>by simp only[Wae]at hf;cases hf
 | .boxal t lf::ps,xs,vs,A,hlen,hx,hl,aP,hf=>by
  simp only[Wae]at hf;split at hf
  .rename_i id off y xs;split at hf
   .rename_i cs aY;split at hf
    .rename_i d m A' i h1 h2 h3;injection hf with hf;subst hf
     match vs,hlen with
     |v::u::vs,hlen=>
      obtain⟨n1,n2⟩:=Xai.1 aP;obtain⟨ns,ks,bx,hA⟩:=WaJ h hg ps xs vs A' (by simpa using hlen) (λj y u hj hu=>hx (j+2) y u (by simpa using hj) (by simpa using hu)) hl (Xak.1 n2).2.1 h2;obtain⟨b,q1,rfl,aU,k1,kl,k2,k3,k4,k5,k6,k7,k8,k9,k10,qK⟩:=Wpl h hg (hx 0 _ v rfl rfl).1 aY h1 aP hA;obtain⟨c,hc,h3⟩:=Xbv.1 h3;obtain⟨k,hk,hc⟩:=Xbv.1 hc;obtain⟨r,b',rfl,e1,e2,rfl⟩:=WpI h (hx 1 y u rfl rfl) h3;obtain⟨pc,e3,e4⟩:=kl lf k r hk hc;exact⟨_,_,_,⟨b,_,b',pc,vs,q1,ns,ks,by rw[e4],rfl,rfl,k1,e3,by rw[e4];exact e1,by rw[e4];exact e2,hA.args⟩,⟨_,_,_,_,rfl,rfl,k2,k3⟩,k4,k5,k6,k7,hA.lent,k8,k9,k10,qK⟩
    .cases hf
   .cases hf
  .cases hf
 | .mut e::ps,xs,vs,A,hlen,hx,hl,aP,hf=>by
  simp only[Wae]at hf;split at hf
  .rename_i id xs;split at hf
   .rename_i e' ys aY;split at hf
    .rename_i d A' h1 h2;injection hf with hf;subst hf;obtain⟨he,hd⟩:=Wax h1;subst he;simp only at hd;subst hd
     match vs,hlen with
     |v::vs,hlen=>
      obtain⟨⟨_,hv⟩,_⟩:=hx 0 _ v rfl rfl;subst hv;obtain⟨n1,n2⟩:=Xai.1 aP;have aw:Live objs id:=⟨_,aY,by simp⟩;have hown:OwnL w (TyRel G w e') e'.size (ν id) ys (φ id):=h.ob _ _ aY;obtain⟨ns,ks,bx,hA⟩:=WaJ h hg ps xs vs A' (by simpa using hlen) (λj y u hj hu=>hx (j+1) y u (by simpa using hj) (by simpa using hu)) hl n2 h2;refine⟨⟨ν id,φ id⟩::ns,ν id::ks,bx,⟨⟨ν id,φ id⟩,vs,ns,ks,rfl,rfl,rfl,Wc0 hg (Same.refl _ w) (λ_ _ hh=>hh) hown,hA.args⟩,⟨id,_,ks,ys,rfl,rfl,aY,hA.kept⟩,?_,λq hq=>?_,λp hp=>Xe _ (hA.bx p hp),λi hi=>?_,hA.lent,λi hi=>Xe _ (hA.mv i hi),λi hi=>?_,List.Sublist.cons_cons _ hA.sub,λi hi hm=>?_⟩
      .refine Wcl h (n1:=[⟨ν id,φ id⟩]) (m:=[id]) (List.pairwise_singleton _ _) hA.sep (λq hq=>?_) (λq hq b o hh=>WiT b o (hA.tk q hq b o hh)) (λi hi hj=>n1 (by rw[←Xz.1 hi];exact hj));rw[Xz.1 hq];exact FromL.one (by simp) aw
      .rcases Xo.1 hq with rfl|hq
       .exactλb o hh=>⟨id,Xi ..,aw,hh,λp hp e=>absurd (by rw[←e];exact hA.bx p hp) n1⟩
       .exactλb o hh=>WkS (λi hi=>Xe _ hi) (λp hp=>.inl hp) b o (hA.tk q hq b o hh)
      .rcases Xo.1 hi with rfl|hi
       .exact aw
       .exact hA.live i hi
      .rcases Xo.1 hi with rfl|hi
       .exact .inr (Xi ..)
       .rcases hA.mvk i hi with hi|hi
        .exact .inl hi
        .exact .inr (Xe _ hi)
      .rcases Xo.1 hi with rfl|hi
       .exact n1 (hA.mv _ hm)
       .exact hA.dis i hi hm
    .cases hf
   .cases hf
  .cases hf
 | .clos g n::ps,xs,vs,A,hlen,hx,hl,aP,hf=>by
  simp only[Wae]at hf;split at hf
  .rename_i g' caps xs;split at hf
   .rename_i hc;obtain⟨rfl,hcl⟩:=hc;cases hA:Wae ps (WjD caps++xs) objs with
    |none=>simp[hA]at hf
    |some A'=>
     simp only[hA,Xcd,Option.some.injEq]at hf;subst hf
     match vs,hlen with
     |v::vs,hlen=>
      obtain⟨⟨cvs,hv,hcv,rO⟩,_⟩:=hx 0 _ v rfl rfl;subst hv;obtain⟨ns,ks,bx,hAk⟩:=WaJ h hg ps (WjD caps++xs) (cvs++vs) A' (by simp[WjD,hcv];simpa using hlen) (λj y u hj hu=>by
       rw[Xaz]at hj hu;simp only[WjD,Xaf]at hj;rw[hcv]at hu;split at hj
       .rename_i hlt;rw[if_pos hlt]at hu;rw[Xal]at hj;obtain⟨id,bA,rfl⟩:=Xx.1 hj;obtain⟨h1,h3,h2⟩:=rO _ id u bA hu;exact⟨⟨h1,h2⟩,h3⟩
       .rename_i hlt;rw[if_neg hlt]at hu;exact hx (j-caps.length+1) y u (by simpa using hj) (by simpa using hu)) hl aP hA
      refine⟨ns,ks,bx,⟨cvs,vs,rfl,by rw[hcv];exact hcl,λu hu=>?_,hAk.args⟩,hAk.kept,hAk.sep,hAk.tk,hAk.bx,hAk.live,hAk.lent,hAk.mv,hAk.mvk,hAk.sub,hAk.dis⟩;obtain⟨j,hj⟩:=Xdw hu;have hlt:j<caps.length:=by rw[←hcv];exact(Xt.1 hj).1
      exact(rO j _ u (Xs hlt) hj).2.1
   .cases hf
  .cases hf
 | .kv t agg::ps,xs,vs,A,hlen,hx,hl,aP,hf=>by
  simp only[Wae]at hf;split at hf
  .rename_i x xs;split at hf
   .rename_i d m r A' h1 h2;split at hf
    .rename_i gE;injection hf with hf;subst hf
     match vs,hlen with
     |v::vs,hlen=>
      cases hc:cellsOf agg x with
      |none=>simp[hc]at h1
      |some cs=>
       simp[hc]at h1;obtain⟨n1,n2,n3⟩:=Xak.1 aP;have aT:Lent G' w φ objs r:=hl.mono (λi hi=>Xk _ hi);obtain⟨_,_,_,_,g4,g5⟩:=Wki h hg (hx 0 x v rfl rfl) aT n1 hc h1;obtain⟨k1,k2⟩:=WmZ h hg (hx 0 x v rfl rfl) aT hc h1 gE;obtain⟨ns,ks,bx,hA⟩:=WaJ h hg ps xs vs A' (by simpa using hlen) (λj y u hj hu=>hx (j+1) y u (by simpa using hj) (by simpa using hu)) (hl.mono (λi hi=>Xg _ hi)) n2 h2;have jI:kids (kp0 m++A'.kept)=m++kids A'.kept:=by simp only[kids,Xr];congr 1;exact WhV m
       have gp:∀q∈pcs ν φ m,CS.le q.fp (FromL φ objs m):=λq hq=>by
        obtain⟨i,hi,rfl⟩:=Xv.1 hq;exact FromL.one hi (g4 i hi)
       have gs:Sep (fps (pcs ν φ m)):=by
        rw[WnI];refine List.pairwise_map.2 (n1.imp_of_mem λ{i j} hi hj hne=>?_)
        exactλb o h1 h2=>hne (h.inj i j b o (g4 i hi) (g4 j hj) h1 h2)
       refine⟨pcs ν φ m++ns,m.map ν++ks,bx,⟨v,vs,pcs ν φ m,ns,ks,rfl,rfl,by rw[WvB],k1,hA.args⟩,⟨m,A'.kept,ks,rfl,rfl,k2,hA.kept⟩,Wcl h gs hA.sep gp (λq hq b o hh=>WiT b o (hA.tk q hq b o hh)) (λi hi hj=>n3 i hi i hj rfl),λq hq=>?_,λp hp=>Xg _ (hA.bx p hp),λi hi=>?_,λi hi=>?_,λi hi=>Xg _ (hA.mv i hi),λi hi=>?_,by rw[jI];exact List.Sublist.append (List.Sublist.refl _) hA.sub,λi hi hm=>?_⟩
       .rcases Xm.1 hq with hq|hq
        .exactλb o hh=>Wob (λi hi=>Xk _ hi) (λp hp hm=>n3 _ hm _ (hA.bx p hp) rfl) b o (gp q hq b o hh)
        .exactλb o hh=>WkS (λi hi=>Xg _ hi) (λp hp=>.inl hp) b o (hA.tk q hq b o hh)
       .rcases Xm.1 hi with hi|hi
        .exact g4 i hi
        .exact hA.live i hi
       .rcases Xm.1 hi with hi|hi
        .exact g5 i hi
        .exact hA.lent i hi
       .rw[jI];rcases Xm.1 hi with hi|hi
        .exact .inr (Xk _ hi)
        .rcases hA.mvk i hi with hi|hi
         .exact .inl hi
         .exact .inr (Xg _ hi)
       .rw[jI]at hi;rcases Xm.1 hi with hi|hi
        .exact n3 _ hi _ (hA.mv i hm) rfl
        .exact hA.dis i hi hm
    .cases hf
   .cases hf
  .cases hf
 | .rp t::ps,xs,vs,A,hlen,hx,hl,aP,hf=>by
  simp only[Wae]at hf;split at hf
  .rename_i id off xs;split at hf
   .rename_i cs aY;split at hf
    .rename_i d r A' h1 h2;split at hf
     case isFalse=>cases hf
     rename_i uV;injection hf with hf;subst hf
     match vs,hlen with
     |v::vs,hlen=>
      obtain⟨ns,ks,bx,hA⟩:=WaJ h hg ps xs vs A' (by simpa using hlen) (λj y u hj hu=>hx (j+1) y u (by simpa using hj) (by simpa using hu)) (hl.mono (λi hi=>Xe _ (Xg _ hi))) aP h2;obtain⟨⟨bA,b,aU,rfl⟩,_⟩:=hx 0 _ v rfl rfl;have aw:Live objs id:=⟨_,aY,by simp⟩;obtain⟨b',us,hb',hrow,hmem,bn,eJ⟩:WcE G ν nx w id (φ id) (.box cs):=h.ob _ _ aY;rw[aU]at hb';injection hb' with hb';subst hb';obtain⟨q1,t1,t2,t3,t4,t5,_⟩:=Wah h hg t _ ((us.drop off).take t.size) d [] r ((bn.drop off).take _) (hl.mono (λi hi=>Xe _ (Xk _ hi))) Xdk h1;have uW:∀p∈q1,Froz G' w p.fp:=λp hp b o v hh=>by
       obtain⟨i,hi,_⟩:=t3 p hp b o hh;simp at hi
      have henc:Enc G' t.ro (Wu3 t d) ((us.drop off).take t.size):=WdM (λ_ _ _ hh=>hh) t d _ q1 uW t1;have iL:=WA _ _ _ _ t1;have bR:off+t.size<=cs.length:=by
       have:=bn.1;rw[Xap,Xdm]at iL;have:=WbA t;omega
      have ay:Wfm G' b ((ν id).off+off) ((us.drop off).take t.size):=λj v hj=>by
       have uX:j<t.size:=by have:=(Xt.1 hj).1;omega
       rw[Xbo,if_pos uX,Xbn]at hj;have h3:=hmem _ v hj;rw[←Xar]at h3;exact hl id (Xi ..) aw b _ v (eJ b _ ⟨rfl,by omega,by omega⟩) h3
      exact⟨ns,ks,bx,⟨b,(ν id).off+off,(us.drop off).take t.size,vs,rfl,((Wa6 t d _ q1 uV).1 t1).1,ay,hA.args⟩,hA.kept,hA.sep,hA.tk,hA.bx,hA.live,λi hi=>by
       rcases Xo.1 hi with rfl|hi
       .exact aw
       .rcases Xm.1 hi with hi|hi
        .exact t5 i hi
        .exact hA.lent i hi,hA.mv,hA.mvk,hA.sub,hA.dis⟩
    .cases hf
   .cases hf
  .rename_i t' d' off xs;split at hf
   .rename_i d A' h1 h2;split at hf
    case isFalse=>cases hf
    rename_i uV;injection hf with hf;subst hf
    match vs,hlen with
    |v::vs,hlen=>
     obtain⟨ns,ks,bx,hA⟩:=WaJ h hg ps xs vs A' (by simpa using hlen) (λj y u hj hu=>hx (j+1) y u (by simpa using hj) (by simpa using hu)) hl aP h2;obtain⟨⟨b,o,cs,rfl,e1,e2⟩,_⟩:=hx 0 _ v rfl rfl;have bn:=WaI (ν:=ν) (nx:=nx) t' d' cs e1;obtain⟨q1,t1,t2,t3,t4,t5,_⟩:=Wah h hg t _ ((cs.drop off).take t.size) d [] [] ((bn.drop off).take _) (λi hi=>by simp at hi) Xdk h1;exact⟨ns,ks,bx,⟨b,o+off,(cs.drop off).take t.size,vs,rfl,((Wa6 t d _ q1 uV).1 t1).1,λj v hj=>by
      rw[Xbo]at hj;split at hj
      .rw[Xbn]at hj;rw[Xar];exact hg _ _ _ (e2 _ v hj)
      .simp at hj,hA.args⟩,hA.kept,hA.sep,hA.tk,hA.bx,hA.live,hA.lent,hA.mv,hA.mvk,hA.sub,hA.dis⟩
   .cases hf
  .cases hf
end
end Go.Sx
namespace Go.Sx
set_option linter.unusedVariables false
set_option linter.unusedSimpArgs false
theorem Wbk{G G':GH}{w:World}:∀(t:Ty) (d:t.den) (vs:List Value) (ns:List Pc),t.noRo=true->TyRel G w t d vs ns->TyRel G' w t d vs ns
 | .own e,_,_,_,hn,⟨pc,h1,h2,h3⟩=>⟨pc,h1,h2,WhS (λx c q hx=>WA e x c q hx) (Same.refl _ w) (λ_ _ hh=>hh) (λx c q _ hx=>Wbk e x c q hn hx) h3⟩
 | .prod a b,_,_,_,hn,⟨v1,v2,n1,n2,h1,h2,h3,h4⟩=>by
  simp only[Ty.noRo,Xh]at hn;exact⟨v1,v2,n1,n2,h1,h2,Wbk a _ _ _ hn.1 h3,Wbk b _ _ _ hn.2 h4⟩
 | .int _,_,_,_,_,h=>h
 | .bool,_,_,_,_,h=>h
 | .str,_,_,_,_,h=>h
 | .slice _,_,_,_,hn,_=>by simp[Ty.noRo]at hn
theorem WrK{G G':GH}{w:World}{e:Ty}{nu:Nu}{xs:List e.den}{S:CS}(hn:e.noRo=true)(h:OwnL w (TyRel G w e) e.size nu xs S):OwnL w (TyRel G' w e) e.size nu xs S:=
 WhS (λx c q hx=>WA e x c q hx) (Same.refl _ w) (λ_ _ hh=>hh) (λx c q _ hx=>Wbk e x c q hn hx) h
theorem WfD{G G':GH}{w:World}{t:Ty}{d:t.den}{b o:Nat}{ns:List Pc}(hn:t.noRo=true)(h:Wfv G w t d b o ns):Wfv G' w t d b o ns:=by
 obtain⟨us,h1,h2,h3⟩:=h;exact⟨us,h1,h2,Wbk _ _ _ _ hn h3⟩
theorem Wr6{G G':GH}{w:World}{t:Ty}{agg:Bool}{d:t.den}{v:Value}{ns:List Pc}(hn:t.noRo=true)(h:Wjb G w t agg d v ns):Wjb G' w t agg d v ns:=by
 unfold Wjb at h⊢;split
 .rename_i ha;rw[if_pos ha]at h;obtain⟨us,h1,h2⟩:=h;exact⟨us,h1,Wbk _ _ _ _ hn h2⟩
 .rename_i ha;rw[if_neg ha]at h;exact Wbk _ _ _ _ hn h
theorem Wd3{G G':GH}{w:World}:∀(rs:List PTy) (d:WgS rs) (vs:List Value) (ns:List Pc),rs.all PTy.freshR=true->Wgw G w rs d vs ns->Wgw G' w rs d vs ns
 | [],_,_,_,_,h=>h
 | .v t agg::rs,d,vs,ns,hn,⟨v,vs',n1,n2,h1,h2,h3,h4⟩=>by
  simp only[Xcj,Xh]at hn;exact⟨v,vs',n1,n2,h1,h2,Wr6 hn.1 h3,Wd3 rs _ _ _ hn.2 h4⟩
 | .box t::rs,d,vs,ns,hn,⟨b,o,vs',n1,n2,h1,h2,h3,h5⟩=>by
  simp only[Xcj,Xh]at hn;exact⟨b,o,vs',n1,n2,h1,h2,WfD hn.1 h3,Wd3 rs _ _ _ hn.2 h5⟩
 | .mut _::_,_,_,_,_,h=>h.elim
 | .clos _ _::_,_,_,_,_,h=>h.elim
 | .kv _ _::_,_,_,_,_,h=>h.elim
 | .rp _::_,_,_,_,_,h=>h.elim
 | .vj t::rs,d,vs,ns,hn,⟨us,u,vs',n1,n2,h1,h0,h2,h3,h4⟩=>by
  simp only[Xcj,Xh]at hn;exact⟨us,u,vs',n1,n2,h1,h0,h2,Wbk _ _ _ _ hn.1 h3,Wd3 rs _ _ _ hn.2 h4⟩
 | .boxal _ _::_,_,_,_,_,h=>h.elim
theorem WaV{G G':GH}{w:World}:∀(ps:List PTy) (o:WfY ps) (ks:List Nu) (kf:List CS) (ns:List Pc),ps.all PTy.fresh=true->WbD G w ps o ks kf ns->WbD G' w ps o ks kf ns
 | [],_,_,_,_,_,h=>h
 | .v _ _::ps,o,ks,kf,ns,hn,h=>by
  simp only[Xcj,Xh]at hn;exact WaV ps o ks kf ns hn.2 h
 | .box t::ps,o,ks,kf,ns,hn,⟨b,off,ks',cU,n1,n2,h1,h2,h3,h4,h5⟩=>by
  simp only[Xcj,Xh]at hn;exact⟨b,off,ks',cU,n1,n2,h1,h2,h3,WfD hn.1 h4,WaV ps _ _ _ _ hn.2 h5⟩
 | .mut e::ps,o,ks,kf,ns,hn,⟨pc,ks',cU,h1,h2,h3,h4⟩=>by
  simp only[Xcj,Xh]at hn;exact⟨pc,ks',cU,h1,h2,WrK hn.1 h3,WaV ps _ _ _ _ hn.2 h4⟩
 | .clos _ _::ps,o,ks,kf,ns,hn,h=>by
  simp only[Xcj,Xh]at hn;exact WaV ps o ks kf ns hn.2 h
 | .kv t _::ps,o,ks,kf,ns,hn,⟨n1,ks',cU,us,h1,h2,h3,h4⟩=>by
  simp only[Xcj,Xh]at hn;exact⟨n1,ks',cU,us,h1,h2,Wbk _ _ _ _ hn.1 h3,WaV ps _ _ _ _ hn.2 h4⟩
 | .rp _::ps,o,ks,kf,ns,hn,h=>by
  simp only[Xcj,Xh]at hn;exact WaV ps o ks kf ns hn.2 h
 | .vj _::_,_,_,_,_,_,h=>h.elim
 | .boxal t _::ps,o,ks,kf,ns,hn,⟨b,off,ks',cU,n1,n2,h1,h2,h3,h4,h5⟩=>by
  simp only[Xcj,Xh]at hn;exact⟨b,off,ks',cU,n1,n2,h1,h2,h3,WfD hn.1 h4,WaV ps _ _ _ _ hn.2 h5⟩
theorem Weu{objs:Waf}:∀(l:List Nat) (id:Nat),id∉l->look (kill objs l) id=look objs id
 | [],id,_=>rfl
 |i::l,id,h=>by
  simp only[kill];rw[WD,if_neg (λe=>h (by rw[e];exact Xi ..))];exact Weu l id λhm=>h (Xe _ hm)
theorem Wk2:∀{l:List CS},Sep l->∀{i j:Nat} {A B:CS} {b o:Nat},l[i]?=some A->l[j]?=some B->A b o->B b o->i=j
 | [],_,i,j,A,B,b,o,hi,_,_,_=>by simp at hi
 |C::l,hs,i,j,A,B,b,o,hi,hj,ha,hb=>by
  obtain⟨h1,h2⟩:=Xac.1 hs;cases i with
  |zero=>
   simp at hi;subst hi;cases j with
   |zero=>rfl
   |succ j=>
    simp at hj;exact(h1 B (Xax hj) b o ha hb).elim
  |succ i=>
   simp at hi;cases j with
   |zero=>
    simp at hj;subst hj;exact(h1 A (Xax hi) b o hb ha).elim
   |succ j=>
    simp at hj;rw[Wk2 h2 hi hj ha hb]
section
variable{w0:World}{F:CS}{nt:Slots}{G0 G G':GH}{ν:Nat->Nu}{φ:Nat->CS}{objs:Waf}{nx:Nat}{st ae:St}{a:Act}{w w':World}{P:Program}{T:Tab}
theorem Wp8{f g:Nat->Nu}:∀{l:List Nat},(∀i∈l,g i=f i)->l.map f=l.map g:=λ{l} h=>List.map_congr_left λi hi=>(h i hi).symm
theorem Wct{ν':Nat->Nu}{bx:List (Nat×CS)}:∀(ps:List PTy) (ids:List Kp) (ks:List Nu),(∀i∈kids ids,ν' i=ν i)->KeptOk objs ν bx ps ids ks->KeptOk objs ν' bx ps ids ks
 | [],_,_,_,h=>h
 | .v _ _::ps,ids,ks,hn,h=>Wct ps ids ks hn h
 | .box t::ps,ids,ks,hn,⟨k,aZ,nu,ks',h1,h2,⟨cs,b,g1,g2,g3,g4,g5⟩,h4⟩=>by
  subst h1;have e:=hn k.id (Xi ..);exact⟨k,aZ,nu,ks',rfl,h2,⟨cs,b,g1,g2,by rw[e];exact g3,by rw[e];exact g4,by rw[e];exact g5⟩,Wct ps aZ ks' (λi hi=>hn i (Xe _ hi)) h4⟩
 | .mut e::ps,ids,ks,hn,⟨id,aZ,ks',ys,h1,h2,h3,h4⟩=>by
  subst h1;exact⟨id,aZ,ks',ys,rfl,by rw[hn id (Xi ..)];exact h2,h3,Wct ps aZ ks' (λi hi=>hn i (Xe _ hi)) h4⟩
 | .clos _ _::ps,ids,ks,hn,h=>Wct ps ids ks hn h
 | .kv t _::ps,ids,ks,hn,⟨i1,i2,ks',h1,h2,h3,h4⟩=>by
  subst h1;have jI:kids (kp0 i1++i2)=i1++kids i2:=by simp only[kids,Xr];congr 1;exact WhV i1
  rw[jI]at hn;exact⟨i1,i2,ks',rfl,by rw[h2,Wp8 (λi hi=>hn i (Xk _ hi))],h3,Wct ps i2 ks' (λi hi=>hn i (Xg _ hi)) h4⟩
 | .rp _::ps,ids,ks,hn,h=>Wct ps ids ks hn h
 | .vj _::_,_,_,_,h=>h.elim
 | .boxal t _::ps,ids,ks,hn,⟨k,aZ,nu,ks',h1,h2,⟨cs,b,g1,g2,g3,g4,g5⟩,h4⟩=>by
  subst h1;have e:=hn k.id (Xi ..);exact⟨k,aZ,nu,ks',rfl,h2,⟨cs,b,g1,g2,by rw[e];exact g3,by rw[e];exact g4,by rw[e];exact g5⟩,Wct ps aZ ks' (λi hi=>hn i (Xe _ hi)) h4⟩
theorem WrN(hr:Rel w0 F nt G0 G ν st a w):∀(l:List Operand) (xs:List AVal),evs st l=some xs->xs.length=l.length/\
  ∀(j:Nat) (x:AVal) (v:Value),xs[j]?=some x->(l.map a.eval)[j]?=some v->AValRel G ν st.nx x v
 | [],xs,h=>by simp[evs]at h;subst h;exact⟨rfl,λj x v hj=>by simp at hj⟩
 |o::l,xs,h=>by
  simp only[evs]at h;split at h
  .rename_i y ys h1 h2;injection h with h;subst h;obtain⟨h3,h4⟩:=WrN hr l ys h2;refine⟨by simp[h3],λj x v hj hv=>?_⟩;cases j with
   |zero=>simp at hj hv;subst hj hv;exact WK hr o _ h1
   |succ j=>exact h4 j x v (by simpa using hj) (by simpa using hv)
  .simp at h
theorem WtB{o:Oper}{c:Call}{f:Operand}{g:FuncId}{caps:List Value}(ho:o.op= .call c)(hc:c.callee= .value f)(hf:a.eval f= .func (.func g) #[] caps.toArray)(rP:Wgy P g):
  (execOp a.eval o).run P w= .ok (.enter g (c.args.toList.map a.eval++caps).toArray) w:=by
 obtain⟨fn,h1,h2,h3⟩:=rP;obtain⟨callee,args,argTypes⟩:=c;simp only at hc;subst hc;have e:(#[]++args.map a.eval++caps.toArray)=(args.toList.map a.eval++caps).toArray:=by
  apply Array.ext';simp
 simp only[execOp,ho,resolve,Deferred.ofValue,hf,Sem.run_bind,Sem.run_pure,Result.andThen_ok,invoke,callFunc,run_program,h1,h2,h3,Xbi,if_false,e]
theorem Wug{b o k:Nat}{vs us:List Value}(hm:Mem w b o vs)(hu:Mem w' b (o+k) us)(hk:k+us.length<=vs.length)(bj:∀j,j<vs.length->¬(k<=j/\j<k+us.length)->w'.cell? ⟨b,o+j,none⟩=w.cell? ⟨b,o+j,none⟩):
  Mem w' b o (vs.take k++us++vs.drop (k+us.length)):=λj v hj=>by
 have gB:∀v',vs[j]?=some v'->¬(k<=j/\j<k+us.length)->w'.cell? ⟨b,o+j,none⟩=some v':=λv' hv hn=>by
  rw[bj j (Xt.1 hv).1 hn];exact hm j v' hv
 have cy:(vs.take k).length=k:=by simp;omega
 rw[Xbs,Xaz,cy]at hj;split at hj
 .rename_i hlt;rw[Xbo,if_pos hlt]at hj;exact gB v hj (by omega)
 .rw[Xaz]at hj;split at hj
  .have:=hu (j-k) v hj;rw[show o+j=o+k+(j-k) by omega];exact this
  .rw[Xbn,show k+us.length+(j-k-us.length)=j by omega]at hj;exact gB v hj (by omega)
theorem WkT{Γ:Ctx}(hΓ:Wfg P Γ)(hr:Rel w0 F nt G0 G ν st a w){o:Oper}(hd:∀d,o.dst=some d->nt.Ok d){c:Call}{f:Operand}{g:FuncId}{cvs:List Value}{xs:List AVal}{sg:Sig}{R:Type}{k:St->Option R}{r:R}
  (ho:o.op= .call c) (hc:c.callee= .value f) (rQ:a.eval f= .func (.func g) #[] cvs.toArray) (n7:look Γ g=some sg) (hlen:xs.length=(c.args.toList.map a.eval++cvs).length)
  (hargs:∀(j:Nat) (x:AVal) (v:Value),xs[j]?=some x->(c.args.toList.map a.eval++cvs)[j]?=some v->AValRel G ν st.nx x v)
  (h:Wfn sg st xs (λx objs nx=>k (({env:=st.env,objs:=objs,nx:=nx}:St).put o.dst x))=some r) {K:Act->World->Prop} {Q:Exit->Act->World->Prop}
  (hK:∀ae a' w' G' ν',Rel w0 F nt G0 G' ν' ae a' w'->k ae=some r->K a' w'):o.wp P a w K Q:=by
 obtain⟨kB,jh⟩:=hΓ g sg n7;unfold Wfn at h;split at h
 .rename_i A hA;split at h
  .rename_i bo;simp only[Xh]at bo;obtain⟨⟨aP,lU⟩,oa⟩:=bo;have aP:=(WeV _).1 aP;have lU:=Wl9 lU;obtain⟨out,hrun,hk⟩:=sg.law' A.d _ r h;dsimp only at hk;obtain⟨φ,hφ⟩:=hr.h;have gz:=hφ.addG_le A.lent;have hG1w:=hφ.addG_w A.lent;obtain⟨ns,ks,bx,hO⟩:=WaJ hφ gz sg.ps _ (c.args.toList.map a.eval++cvs) A hlen.symm hargs (λid bA hl=>(Wil _).mono (FromL.one bA hl)) aP hA;have hTk:∀b o,Of ns b o->Tk φ st.objs bx A.all b o:=λb o ⟨q,hq,hh⟩=>hO.tk q hq b o hh;have hfree:∀q∈ns,∀b off,q.fp b off->WqN G w (FromL φ st.objs A.lent) b off=none/\b<w.heap.size:=λq hq b off hh=>by
    obtain⟨i,hi,h1,h2,_⟩:=hO.tk q hq b off hh;refine⟨?_,hφ.bl i b off h1 h2⟩;rw[Wdd (λ⟨j,hj,h3,h4⟩=>by
     have:=hφ.inj i j b off h1 h3 h2 h4;subst this;exact lU _ hj hi)]
    exact hφ.gf i b off h1 h2
   have oc:=kB A.d out hrun _ w _ ns _ hO.args hO.sep hfree hG1w;unfold Oper.wp;rw[WtB ho hc rQ jh,Oper.upon_enter];refine oc.mono λe w' rR=>?_;obtain⟨rv,kf,ms,cD,G2,rfl,hA2⟩:=rR;simp only;have hG3:∃G3:GH,GLe G G3/\(∀b off v,G3 b off=some v->w'.cell? ⟨b,off,none⟩=some v)/\Wgw G3 w' sg.rs out.2 rv cD/\WbD G3 w' sg.ps out.1 ks kf ms/\
     GExt w0.heap.size F G0 G3/\(∀S∈kf++fps (ms++cD),∀b off,S b off->G3 b off=none)/\(∀id b off,Live st.objs id->φ id b off->¬Tk φ st.objs bx A.all b off->G3 b off=none):=by
    by_cases hle:A.lent= []
    .have hGG:WqN G w (FromL φ st.objs A.lent)=G:=by
      rw[hle];funext b off;exact Wdd (λ⟨i,hi,_⟩=>by simp at hi)
     rw[hGG]at hA2;refine⟨G2,hA2.gx.le,hA2.g,hA2.res,hA2.outs,⟨λb o v hv=>hA2.gx.le b o v (hr.gx.le b o v hv),λb o v hv=>?_⟩,λS hS b off hh=>(hA2.own S hS b off hh).1,λid b off hl hp hn=>?_⟩
     .rcases hA2.gx.new b o v hv with h1|h1|h1
      .exact hr.gx.new b o v h1
      .exact .inr (.inl (Xcq hφ.le.size h1))
      .obtain⟨i,hi,h2,h3,_⟩:=hTk b o h1;exact .inr (hφ.own i b o h2 h3)
     .cases hv:G2 b off with
      |none=>rfl
      |some v=>
       rcases hA2.gx.new b off v hv with h1|h1|h1
       .rw[hφ.gf id b off hl hp]at h1;cases h1
       .have:=hφ.bl id b off hl hp;omega
       .exact absurd (hTk b off h1) hn
    .have fK:sg.fresh=true:=by
      rcases Bool.or_eq_true_iff.1 oa with h1|h1
      .exact h1
      .exact absurd (by simpa using h1) hle
     unfold Sig.fresh at fK;simp only[Xh]at fK;refine⟨G,λ_ _ _ hh=>hh,λb o v hv=>hA2.g b o v (hA2.gx.le b o v (gz b o v hv)),Wd3 _ _ _ _ fK.1 hA2.res,WaV _ _ _ _ _ fK.2 hA2.outs,hr.gx,λS hS b off hh=>?_,λid b off hl hp _=>hφ.gf id b off hl hp⟩;cases hv:G b off with
     |none=>rfl
     |some v=>
      have:=hA2.gx.le b off v (gz b off v hv);rw[(hA2.own S hS b off hh).1]at this;cases this
   obtain⟨G3,uY,uZ,ij,rS,u0,u3,u4⟩:=hG3;obtain⟨ν2,hν2⟩:∃ν2:Nat->Nu,ν2= λi=>if i<st.nx then ν i else((nus (ms++cD))[i-st.nx]?).getD ⟨none,0,0,0,0⟩:=⟨_,rfl⟩;obtain⟨φ2,hφ2⟩:∃φ2:Nat->CS,φ2= λi=>if i<st.nx then(λb o=>(∃(j:Nat) (S:CS),(kids A.kept)[j]?=some i/\kf[j]?=some S/\S b o)\/(φ i b o/\¬Tk φ st.objs bx A.all b o))else((fps (ms++cD))[i-st.nx]?).getD (λ_ _=>False):=⟨_,rfl⟩;have hνold:Wso st.nx ν ν2:=λi hi=>by rw[hν2];simp[hi]
   have hAt:At ν2 φ2 st.nx (ms++cD):=λj pc hj=>by
    have e1:(nus (ms++cD))[j]?=some pc.nu:=by unfold nus;rw[Xal,hj];rfl
    have e2:(fps (ms++cD))[j]?=some pc.fp:=by unfold fps;rw[Xal,hj];rfl
    rw[hν2,hφ2];simp only;rw[if_neg (by omega),if_neg (by omega),Xbe,e1,e2];exact⟨rfl,rfl⟩
   have ji:∀i∈kids A.kept,i<st.nx:=λi hi=>hφ.lt i (hO.live i (hO.sub.subset hi));have lV:(kids A.kept).Nodup:=aP.sublist hO.sub;obtain⟨od,yP,oe⟩:=WaX (ν:=ν2) (φ:=φ2) (bx:=bx) st.objs sg.ps out.1 A.kept ks kf ms (kill st.objs A.moved) st.nx (st.nx+ms.length+cD.length) rS (Wct _ _ _ (λi hi=>hνold i (ji i hi)) hO.kept) hAt.left lV (λq hq=>by
    have eb:q.id∈kids A.kept:=Xan hq;exact⟨ji _ eb,Weu _ _ (hO.dis _ eb)⟩) (by omega)
   generalize hp:Wag sg.ps out.1 A.kept (kill st.objs A.moved) st.nx=p at*;obtain⟨uW,u5,yQ⟩:=Wd7 (ν:=ν2) (φ:=φ2) sg.rs out.2 rv cD p.1 (st.nx+ms.length) (st.nx+ms.length+cD.length) ij (hAt.right rfl) (by omega);rw[od]at hk;generalize hq:Wbw sg.rs out.2 p.1 (st.nx+ms.length)=q at*;have ik:∀id ob,look q.2.1 id=some ob->ob≠ .dead->
     (st.nx<=id/\id<st.nx+ms.length+cD.length/\Wwx G3 ν2 φ2 w' (st.nx+ms.length+cD.length) id ob)\/
     (∃(j:Nat) (S:CS),(kids A.kept)[j]?=some id/\kf[j]?=some S/\WmL G3 ν2 w' st.objs bx (st.nx+ms.length+cD.length) id S ob)\/(look st.objs id=some ob/\id∉A.all):=λid ob hl cI=>by
    rcases u5 id ob hl with⟨h1,h2,h3⟩|h1
    .exact .inl ⟨by omega,h2,h3⟩
    .rcases oe id ob h1 with⟨h2,h3,h4⟩|h2|⟨h2,h3⟩
     .exact .inl ⟨h2,by omega,.inl h4⟩
     .exact .inr (.inl h2)
     .obtain⟨h4,h5⟩:=WeM A.moved id ob h2 cI;exact .inr (.inr ⟨h4,λhm=>by rcases hO.mvk id hm with h6|h6;exact h5 h6;exact h3 h6⟩)
   have an:∀id b off,Live q.2.1 id->φ2 id b off->
     (∃(pos:Nat) (S:CS),(kf++fps (ms++cD))[pos]?=some S/\S b off/\id=(if pos<kf.length then((kids A.kept)[pos]?).getD 0 else st.nx+(pos-kf.length)))\/
     (Live st.objs id/\φ id b off/\¬Tk φ st.objs bx A.all b off/\id<st.nx):=λid b off ⟨ob,hl,cI⟩ hp=>by
    have og:id<st.nx->Live st.objs id:=λhlt=>by
     rcases ik id ob hl cI with⟨h1,_⟩|⟨j,S,h1,_⟩|⟨h1,_⟩
     .omega
     .exact hO.live id (hO.sub.subset (Xax h1))
     .exact⟨ob,h1,cI⟩
    rw[hφ2]at hp
    try simp only at hp
    by_cases hlt:id<st.nx
    .rw[if_pos hlt]at hp;rcases hp with⟨j,S,h1,h2,h3⟩|⟨h1,h2⟩
     .left;have hj:j<kf.length:=(Xt.1 h2).1;refine⟨j,S,by rw[Xbb hj];exact h2,h3,?_⟩;rw[if_pos hj,h1];rfl
     .exact .inr ⟨og hlt,h1,h2,hlt⟩
    .rw[if_neg hlt]at hp;left;cases hS:(fps (ms++cD))[id-st.nx]? with
     |none=>rw[hS]at hp;exact hp.elim
     |some S=>
      rw[hS]at hp;refine⟨kf.length+(id-st.nx),S,by rw[Xay (by omega),Xbe];exact hS,hp,?_⟩;rw[if_neg (by omega)];omega
   have hown:=hA2.own;have iM:∀{pos:Nat} {S:CS},(kf++fps (ms++cD))[pos]?=some S->S∈kf++fps (ms++cD):=λh=>Xax h;have hH:HR w0 F G3 ν2 φ2 q.2.1 (st.nx+ms.length+cD.length) w':={
    g:=uZ
    ob:=λid ob hl=>by
     by_cases cI:ob= .dead
     .subst cI;trivial
     .rcases ik id ob hl cI with⟨h1,h2,⟨e,xs,rfl,h3⟩|⟨cs,b,us,rfl,h3,h4,h5,h6,h7⟩⟩|⟨j,S,h1,h2,h3⟩|⟨h1,h2⟩
      .exact h3
      .exact⟨b,us,h3,h4,h5,h6,h7⟩
      .have bA:id∈kids A.kept:=Xax h1;have hlt:=ji id bA;have aw:Live st.objs id:=hO.live id (hO.sub.subset bA);have hSφ:CS.le S (φ2 id):=λb o hh=>by
        rw[hφ2];(try simp only);rw[if_pos hlt];exact .inl ⟨j,S,h1,h2,hh⟩
       rcases h3 with⟨lw,off,ds,b,us,g1,rfl,g2,g3,g4,g5,rfl,g6⟩|⟨e,ys,xs,g1,rfl,g2⟩
       .rw[hνold id hlt]at g3 g4 g6 hSφ;obtain⟨b',vs,e1,e2,e3,e4,e5⟩:WcE G ν st.nx w id (φ id) (.box lw):=hφ.ob _ _ g1;rw[g3]at e1;injection e1 with e1;subst e1;have cG:us.length=ds.length:=g5.1;have tO:vs.length=lw.length:=e4.1;have dL:∀o,(ν id).off<=o->o<(ν id).off+lw.length->¬((ν id).off+off<=o/\o<(ν id).off+off+ds.length)->φ id b o/\¬Tk φ st.objs bx A.all b o:=λo k1 k2 k3=>by
         have hφo:=e5 b o ⟨rfl,k1,k2⟩;refine⟨hφo,λ⟨i,hi,k4,k5,k6⟩=>?_⟩;have:=hφ.inj i id b o k4 aw k5 hφo;subst this;obtain⟨_,k7,k8⟩:=k6 _ g6 rfl;exact k3 ⟨k7,k8⟩
        refine⟨b,_,by rw[hνold id hlt];exact g3,by rw[hνold id hlt,We2 g2];exact hA2.le.rows.row _ _ e2,?_,We4 (e4.mono uY hνold (by omega)) g5,?_⟩
        .rw[hνold id hlt];refine Wug e3 g4 (by omega) (λj hj hn=>?_);obtain⟨k1,k2⟩:=dL ((ν id).off+j) (by omega) (by omega) (λ⟨k3,k4⟩=>hn ⟨by omega,by omega⟩);exact hA2.le.cell b _ (hφ.bl id b _ aw k1) (λoh=>k2 (hTk b _ oh))
        .rw[hνold id hlt,We2 g2];intro b' o ⟨k0,k1,k2⟩;subst k0;by_cases il:(ν id).off+off<=o/\o<(ν id).off+off+ds.length
         .exact hSφ b' o ⟨rfl,il.1,il.2⟩
         .rw[hφ2];(try simp only);rw[if_pos hlt];exact .inr (dL o k1 k2 il)
       .exact Wc0 (λ_ _ _ hh=>hh) (Same.refl _ w') hSφ g2
      .have lu:Live st.objs id:=⟨ob,h1,cI⟩;have hlt:=hφ.lt id lu;have xf:∀b o,φ id b o->¬Tk φ st.objs bx A.all b o:=λb o hp ⟨i,hi,k1,k2,_⟩=>by
        have:=hφ.inj i id b o k1 lu k2 hp;subst this;exact h2 hi
       refine Wdy uY (hA2.le.same (λb o oh hp=>xf b o hp (hTk b o oh)) (λb o hp=>hφ.bl id b o lu hp)) (λb o hp=>?_) hνold (by omega) hlt ob (hφ.ob id ob h1);rw[hφ2];(try simp only);rw[if_pos hlt];exact .inr ⟨hp,xf b o hp⟩
    gf:=λid b off hl hp=>by
     rcases an id b off hl hp with⟨pos,S,h1,h2,_⟩|⟨h1,h2,h3,_⟩
     .exact u3 S (iM h1) b off h2
     .exact u4 id b off h1 h2 h3
    inj:=λid bI b off hl bH hp cR=>by
     have key:∀bI,Live st.objs bI->φ bI b off->¬Tk φ st.objs bx A.all b off->∀(pos:Nat) (S:CS),(kf++fps (ms++cD))[pos]?=some S->S b off->False:=λbI g1 g2 g3 pos S g4 g5=>by
      rcases(hown S (iM g4) b off g5).2.1 with g6|g6
      .exact g3 (hTk b off g6)
      .have:=hφ.bl bI b off g1 g2;omega
     rcases an id b off hl hp with⟨pos,S,h1,h2,he⟩|⟨h1,h2,h3,h4⟩<;>rcases an bI b off bH cR with⟨u6,S',gy,jd,jG⟩|⟨gy,jd,cS,h4'⟩
     .have:=Wk2 hA2.sep h1 gy h2 jd;subst this;rw[he,jG]
     .exact(key bI gy jd cS pos S h1 h2).elim
     .exact(key id h1 h2 h3 u6 S' gy jd).elim
     .exact hφ.inj id bI b off h1 gy h2 jd
    own:=λid b off hl hp=>by
     rcases an id b off hl hp with⟨pos,S,h1,h2,_⟩|⟨h1,h2,h3,_⟩
     .rcases(hown S (iM h1) b off h2).2.1 with h5|h5
      .obtain⟨i,hi,h6,h7,_⟩:=hTk b off h5;exact hφ.own i b off h6 h7
      .exact .inl (Xcq hφ.le.size h5)
     .exact hφ.own id b off h1 h2
    lt:=λid ⟨ob,hl,cI⟩=>by
     rcases ik id ob hl cI with⟨_,h2,_⟩|⟨j,S,h1,_⟩|⟨h1,h2⟩
     .exact h2
     .have:=ji id (Xax h1);omega
     .have:=hφ.lt id ⟨ob,h1,cI⟩;omega
    bl:=λid b off hl hp=>by
     rcases an id b off hl hp with⟨pos,S,h1,h2,_⟩|⟨h1,h2,h3,_⟩
     .exact(hown S (iM h1) b off h2).2.2
     .exact Nat.lt_of_lt_of_le (hφ.bl id b off h1 h2) hA2.le.size
    le:=hφ.le.trans hA2.le (λb off oh=>by
     obtain⟨i,hi,h6,h7,_⟩:=hTk b off oh;exact hφ.own i b off h6 h7)}
   have hR:=hr.on uY hνold (by omega) ⟨φ2,hH⟩ u0;have hR2:=hR.put (dst:=o.dst) hd (Wr0 yQ);rw[uW]at hk;exact hK _ _ _ _ _ hR2 hk
  .cases h
 .cases h
theorem Wvj{Γ:Ctx}(hΓ:Wfg P Γ)(hr:Rel w0 F nt G0 G ν st a w){o:Oper}(hd:∀d,o.dst=some d->nt.Ok d){c:Call}{f:Operand}{g:FuncId}{caps:List Nat}{xs:List AVal}{sg:Sig}{R:Type}{k:St->Option R}{r:R}
  (ho:o.op= .call c) (hc:c.callee= .value f) (hf:ev st f=some (.s (.one (.clos g caps)))) (oi:evs st c.args.toList=some xs) (n7:look Γ g=some sg)
  (h:WmG sg st (xs++WjD caps) (λx objs nx=>k (({env:=st.env,objs:=objs,nx:=nx}:St).put o.dst x))=some r) {K:Act->World->Prop} {Q:Exit->Act->World->Prop}
  (hK:∀ae a' w' G' ν',Rel w0 F nt G0 G' ν' ae a' w'->k ae=some r->K a' w'):o.wp P a w K Q:=by
 obtain⟨⟨cvs,rQ,hcl,hcv⟩,_⟩:=WK hr f _ hf;obtain⟨je,yR⟩:=WrN hr _ _ oi;have hlen:(xs++WjD caps).length=(c.args.toList.map a.eval++cvs).length:=by simp[je,WjD,hcl]
 have hargs:∀(j:Nat) (x:AVal) (v:Value),(xs++WjD caps)[j]?=some x->(c.args.toList.map a.eval++cvs)[j]?=some v->AValRel G ν st.nx x v:=λj x v hj hv=>by
  rw[Xaz]at hj hv;rw[Xaf,←je]at hv;split at hj
  .rename_i hlt;rw[if_pos hlt]at hv;exact yR j x v hj hv
  .rename_i hlt;rw[if_neg hlt]at hv;simp only[WjD,Xal]at hj;cases hcj:caps[j-xs.length]? with
   |none=>simp[hcj]at hj
   |some id=>
    simp[hcj]at hj;subst hj;obtain⟨h1,h3,h2⟩:=hcv _ id v hcj hv;exact⟨⟨h1,h2⟩,h3⟩
 unfold WmG at h;cases oa:sg.fresh with
 |true=>
  rw[oa]at h;exact WkT hΓ hr hd ho hc rQ n7 hlen hargs h hK
 |false=>
  rw[oa]at h;simp only[cond_false]at h;split at h
  .rename_i A hA;split at h
   .exact WkT hΓ hr hd ho hc rQ n7 hlen hargs h hK
   .obtain⟨G1,hz⟩:=hr.frz A.lent;refine WkT hΓ hz.rel hd ho hc rQ n7 (by simpa using hlen) (λj x v hj hv=>?_) h hK;rw[Xal]at hj;obtain⟨y,hy,rfl⟩:=Xx.1 hj;exact hz.val y v (hargs j y v hy hv)
  .cases h
end
end Go.Sx
namespace Go.Sx
set_option linter.unusedVariables false
set_option linter.unusedSimpArgs false
section
variable{w0:World}{F:CS}{nt:Slots}{G0 G G':GH}{ν:Nat->Nu}{objs:Waf}{nx:Nat}{st ae:St}{a:Act}{w w':World}{P:Program}{T:Tab}{Γ:Ctx}
theorem Done.wp{o:Oper}{ae:St}(h:Done P w0 F nt G0 o a w ae){K:Act->World->Prop}{Q:Exit->Act->World->Prop}
  (hK:∀a' w' G' ν',Rel w0 F nt G0 G' ν' ae a' w'->K a' w'):o.wp P a w K Q:=by
 obtain⟨n,v,w',G',ν',h1,h2,h3⟩:=h;unfold Oper.wp;rw[h1];rcases h2 with rfl|⟨rfl,rfl⟩
 .exact hK _ _ _ _ h3
 .exact hK _ _ _ _ h3
theorem WmN{t:TypeId}{x v:AVal}{ae:St}(h:WcO T st t x v=some ae):({env:=st.env,objs:=ae.objs,nx:=ae.nx}:St)=ae:=by
 unfold WcO at h;split at h
 .split at h
  .split at h
   .injection h with h;subst h;rfl
   .cases h
  .cases h
 .split at h
  .split at h
   .split at h
    .injection h with h;subst h;rfl
    .cases h
   .split at h
    .split at h
     .split at h
      .injection h with h;subst h;rfl
      .cases h
     .cases h
    .cases h
  .cases h
 .cases h
theorem WaO{R:Type}{c:Bool}{x:Option R}{r:R}(h:(bif c then x else none)=some r):c=true/\x=some r:=by
 cases c
 .cases h
 .exact⟨rfl,h⟩
theorem WbQ{R:Type}{c:Prop}[Decidable c]{x:Option R}{r:R}(h:(if c then x else none)=some r):c/\x=some r:=by
 split at h
 .exact⟨by assumption,h⟩
 .cases h
theorem Wmx{e:Ty}{ps:List (Nat×AVal)}{R:Type}{k:KV R}{r:R}(h:Wdp st e ps k=some r):
  ∃x ds d m,ps= [(0,x)]/\WgJ (Whk st.objs (Whr e x) x)=some ds/\Waw e ds (WdR st.objs (Whr e x))=some (d,m,[])/\Wbz m=true/\
   k (.s (.one (.own st.nx))) ((st.nx,.arr e [d])::kill (WdR st.objs (Whr e x)) m) (st.nx+1)=some r:=by
 match ps with
 | [p]=>
  simp only[Wdp]at h;obtain⟨hp,h⟩:=WbQ h;split at h
  .rename_i ds gm;split at h
   .rename_i d m hf;obtain⟨aP,h⟩:=WbQ h;exact⟨p.2,ds,d,m,by rw[←hp],gm,hf,aP,h⟩
   .cases h
  .cases h
 | []=>cases h
 |_::_::_=>cases h
theorem Wny(hT:Wan P T)(hr:Rel w0 F nt G0 G ν st a w){o:Oper}(hd:∀d,o.dst=some d->nt.Ok d){R:Type}{k:St->Option R}{r:R}
  (h:(match Waj T st o.op with|some (c,v)=>bif c then k (({env:=st.env,objs:=st.objs,nx:=st.nx}:St).put o.dst v)else none|none=>none)=some r)
  {K:Act->World->Prop} {Q:Exit->Act->World->Prop} (hK:∀ae a' w' G' ν',Rel w0 F nt G0 G' ν' ae a' w'->k ae=some r->K a' w'):o.wp P a w K Q:=by
 split at h
 .rename_i c v hp;obtain⟨rfl,h⟩:=WaO h;exact(WsH hT hr hd hp).wp λa' w' G' ν' bO=>hK _ _ _ _ _ bO h
 .cases h
theorem WsR(hT:Wan P T)(hΓ:Wfg P Γ)(hr:Rel w0 F nt G0 G ν st a w){o:Oper}(hd:∀d,o.dst=some d->nt.Ok d){A:List (Nat×An)}{R:Type}{k:St->Option R}{r:R}(h:rx1 T Γ A o st k=some r)
  {K:Act->World->Prop} {Q:Exit->Act->World->Prop} (hK:∀ae a' w' G' ν',Rel w0 F nt G0 G' ν' ae a' w'->k ae=some r->K a' w'):o.wp P a w K Q:=by
 unfold rx1 rxe at h;split at h
 .rename_i t ho;split at h
  .rename_i e n et hl;obtain⟨hc,h⟩:=WbQ h;simp only[Xh]at hc;exact(WlD hT hr hd ho hl hc.1 hc.2).wp λa' w' G' ν' bO=>hK _ _ _ _ _ bO h
  .rename_i te _ hl;obtain⟨hc,h⟩:=WbQ h;exact(WpG hT hr hd ho hl hc).wp λa' w' G' ν' bO=>hK _ _ _ _ _ bO h
  .cases h
 .rename_i t x ho;split at h
  .rename_i te cs hl hb;cases hv:ev st x with
   |none=>simp[hv]at hb
   |some v=>
    simp only[hv,Xd]at hb;exact(Wti hr hd ho hv hb).wp λa' w' G' ν' bO=>hK _ _ _ _ _ bO h
  .cases h
 .rename_i t parts ho;split at h
  .rename_i ty fs ps hl bK;obtain⟨hc,h⟩:=WbQ h;split at h
   .rename_i cs hf;refine(WqA hT hr hd ho hl bK hf ?_).wp λa' w' G' ν' bO=>hK _ _ _ _ _ bO h;intro f hf;have:=Xae.1 hc f hf;split at this
    .rename_i te bC;exact⟨te,bC,this⟩
    .cases this
   .cases h
  .cases h
 .rename_i t n parts ho;split at h
  .rename_i ty et ps hl bK;split at h
   .rename_i te hle;split at h
    .rename_i e _;obtain⟨hc,h1⟩:=WbQ h;clear h;simp only[Xh,decide_eq_true_eq]at hc;obtain⟨⟨⟨hn,he⟩,hp⟩,hsz⟩:=hc;obtain⟨x,ds,d,m,rfl,gm,hf,aP,h⟩:=Wmx h1;clear h1;subst hn;have aP:=(WcQ _).1 aP;obtain⟨G1,hz⟩:=hr.frz (Whr e x);obtain⟨p1,p2⟩:=Wgd hr _ _ bK;have dX:∃y,parts.toList= [(0,y)]/\AValRel G ν st.nx x (a.eval y):=by
      match hZ:parts.toList,p1 with
      | [q],_=>
       rw[hZ]at p2;obtain⟨q1,q2⟩:=p2 0 _ q rfl rfl;refine⟨q.2,?_,q2⟩;have:q=(0,q.2):=Prod.ext q1.symm rfl;rw[←this]
     obtain⟨y,yS,yT⟩:=dX;exact(Wnh hT hz.rel hd ho yS hl hle (hz.val _ _ yT) gm hf aP he hp hsz).wp λa' w' G' ν' bO=>hK _ _ _ _ _ bO h
    split at h
    .rename_i xs hf;obtain⟨hc,h⟩:=WbQ h;simp only[Xh,decide_eq_true_eq]at hc;obtain⟨G1,hz⟩:=hr.frz (Wkm ps);obtain⟨p1,p2⟩:=Wgd hr _ _ bK;exact(Wh8 hT hz.rel hd ho hl hle (by simpa [WkM]using p1) (λj p q hp hq=>by
      simp only[WkM,Xal]at hp;obtain⟨y,hy,rfl⟩:=Xx.1 hp;exact⟨(p2 j y q hy hq).1,hz.val _ _ (p2 j y q hy hq).2⟩) hf hc.1.1 hc.1.2 hc.2).wp λa' w' G' ν' bO=>hK _ _ _ _ _ bO h
    .cases h
   .cases h
  .cases h
 .rename_i t n c ho;split at h
  .rename_i ty et n' c' hl hn hc;split at h
   .rename_i te hle;obtain⟨k1,jg⟩:∃k,a.eval n= .int k n':=by
     cases hv:ev st n with
     |none=>simp[hv]at hn
     |some v=>simp only[hv,Xd]at hn;exact WfQ _ _ _ (WK hr n _ hv) hn
    obtain⟨k2,fv⟩:∃k,a.eval c= .int k c':=by
     cases hv:ev st c with
     |none=>simp[hv]at hc
     |some v=>simp only[hv,Xd]at hc;exact WfQ _ _ _ (WK hr c _ hv) hc
    split at h
    .obtain⟨lW,h⟩:=WbQ h;obtain⟨hb,h⟩:=WaO h;simp only[Xh,decide_eq_true_eq]at hb lW;exact(Wiy hT hr hd ho hl hle jg fv hb.1.1 hb.1.2 hb.2 lW.1 lW.2).wp λa' w' G' ν' bO=>hK _ _ _ _ _ bO h
    .obtain⟨lW,h⟩:=WbQ h;obtain⟨hb,h⟩:=WaO h;simp only[Xh,decide_eq_true_eq]at hb lW;exact(Wi6 hT hr hd ho hl hle jg fv hb.1.1 hb.1.2 hb.2 lW.1 lW.2).wp λa' w' G' ν' bO=>hK _ _ _ _ _ bO h
   .cases h
  .cases h
 .rename_i t x y ho;split at h
  .rename_i p v hp hv;split at h
   .rename_i ae hs;split at h
    .rename_i jf;have h:k (({env:=st.env,objs:=ae.objs,nx:=ae.nx}:St).put o.dst (.tup []))=some r:=h;obtain⟨G1,hz⟩:=hr.frz (WfR st.objs p v);have bj:=WmN hs;simp only at bj;rw[bj,jf]at h;exact(Wqc hT hz.rel ho jf (AValRel.mono hz.le (λ_ _=>rfl) (Xn _) _ _ (WK hr x _ hp)) (hz.val _ _ (WK hr y _ hv)) hs).wp λa' w' G' ν' bO=>hK _ _ _ _ _ bO h
    .cases h
   .cases h
  .cases h
 .rename_i t x lo hi ho;split at h
  .rename_i id hx;split at h
   .rename_i ty et l hh hl aY qL;split at h
    .rename_i te hle;split at h
     .obtain⟨hp,h⟩:=WbQ h;obtain⟨ae,hk,fu⟩:=WsL hT hr hd ho hx hl hle hp aY qL h;exact fu.wp λa' w' G' ν' bO=>hK _ _ _ _ _ bO hk
     .split at h
      .rename_i h' e xs _ ar;obtain⟨⟨he,hp⟩,h⟩:=WbQ h;obtain⟨hb,h⟩:=WaO h;simp only[Xh,decide_eq_true_eq]at hb;exact(WpS hT hr hd ho hx hl hle hp he ar aY qL hb.1 hb.2).wp λa' w' G' ν' bO=>hK _ _ _ _ _ bO h
      .rename_i h' e xs i p _ ar;obtain⟨⟨he,hp,uU⟩,h⟩:=WbQ h;obtain⟨hb,h⟩:=WaO h;simp only[Xh,decide_eq_true_eq]at hb;exact(Wjg hT hr hd ho hx hl hle hp he ar uU aY qL hb.1.1 hb.1.2 hb.2).wp λa' w' G' ν' bO=>hK _ _ _ _ _ bO h
      .cases h
    .cases h
   .cases h
  .rename_i hx;exact Wny hT hr hd (by rw[ho];rw[ho]at h;exact h) hK
 .rename_i c ho;split at h
  .rename_i s x t t2 hc ha dh;split at h
   .rename_i sv xv hs hx;obtain⟨ae,hk,fu⟩:=Wot hT hr hd ho hc ha dh hs hx h;exact fu.wp λa' w' G' ν' bO=>hK _ _ _ _ _ bO hk
   .cases h
  .rename_i x t hc ha dh;split at h
   .rename_i id lo hi hx;split at h
    .rename_i ty et e xs hl ar;split at h
     .rename_i te hle;obtain⟨⟨he,hp,aS⟩,h⟩:=WbQ h;exact(WpU hT hr hd ho hc ha dh hx hl hle ar he hp aS).wp λa' w' G' ν' bO=>hK _ _ _ _ _ bO h
     .cases h
    .cases h
   .cases h
  .exact Wny hT hr hd h hK
  .rename_i f args _ hc;split at h
   .rename_i g caps xs hf oi;split at h
    .rename_i sg n7;exact Wvj hΓ hr hd ho hc hf oi n7 h hK
    .cases h
   .cases h
  .cases h
 .exact Wny hT hr hd h hK
end
end Go.Sx
namespace Go.Sx
set_option linter.unusedVariables false
set_option linter.unusedSimpArgs false
section
variable{w0:World}{F:CS}{nt:Slots}{G0 G G':GH}{ν ν':Nat->Nu}{φ φ':Nat->CS}{objs objs':Waf}{nx ah:Nat}{st ae:St}{a:Act}{w w':World}{P:Program}{T:Tab}{Γ:Ctx}
theorem Rel.rebind(h:Rel w0 F nt G0 G ν st a w){i:Nat}{x:AVal}{v:Value}(hv:a.tmps[i]?=some v)(hx:AValRel G ν st.nx x v):Rel w0 F nt G0 G ν (st.put (some i) x) a w:=
 ⟨h.defers,h.ntm,h.par,λj y hy=>by
  simp only[St.put]at hy;rw[WD]at hy;split at hy
  .rename_i e;subst e;injection hy with hy;subst hy;exact⟨v,hv,hx⟩
  .exact h.env j y hy,h.h,h.gx⟩
theorem CellsRel.set{cs:List Cell}{vs:List Value}(h:CellsRel G ν nx cs vs){off:Nat}{c:Cell}(hc:∀v,vs[off]?=some v->CellRel G ν nx c v):CellsRel G ν nx (cs.set off c) vs:=by
 refine⟨by simp[h.1],λj d v hd hv=>?_⟩;rw[List.getElem?_set]at hd;split at hd
 .rename_i e;subst e;split at hd
  .rename_i hlt;injection hd with hd;subst hd;exact⟨hc v hv,(h.2 off cs[off] v (Xs hlt) hv).2⟩
  .cases hd
 .exact h.2 j d v hd hv
theorem HRel.mk_box(h:HRel w0 F G ν objs nx w){id:Nat}{cs cs':List Cell}(ho:look objs id=some (.box cs))(hl:cs'.length=cs.length)
  (hc:∀vs,CellsRel G ν nx cs vs->CellsRel G ν nx cs' vs):HRel w0 F G ν ((id,.box cs')::objs) nx w:=by
 obtain⟨φ,h⟩:=h;have aw:Live objs id:=⟨_,ho,by simp⟩;obtain⟨b,vs,h1,h2,h3,h4,h5⟩:WcE G ν nx w id (φ id) (.box cs):=h.ob _ _ ho;exact⟨_,h.put (ν':=ν) (m:=[]) (λ_ _=>rfl) (Xn _) (h.lt id aw) (WLe.refl _ w) (λb o hh=>.inl ⟨id,.inl rfl,aw,hh⟩) (λ_=>⟨b,vs,h1,by rw[hl];exact h2,h3,hc _ h4,by rw[hl];exact h5⟩)⟩
theorem HRel.empt(h:HRel w0 F G ν objs nx w){id:Nat}{e e':Ty}(ho:look objs id=some (.arr e' []))(hs:e.size=e'.size):HRel w0 F G ν ((id,.arr e [])::objs) nx w:=by
 obtain⟨φ,h⟩:=h;have aw:Live objs id:=⟨_,ho,by simp⟩;have ar:WcE G ν nx w id (φ id) (.arr e' []):=h.ob _ _ ho;have ar:OwnL w (TyRel G w e') e'.size (ν id) [] (φ id):=ar;refine⟨_,h.put (ν':=ν) (m:=[]) (λ_ _=>rfl) (Xn _) (h.lt id aw) (WLe.refl _ w) (λb o hh=>.inl ⟨id,.inl rfl,aw,hh⟩) (λ_=>?_)⟩;show OwnL w (TyRel G w e) e.size (ν id) [] (φ id);rw[hs];unfold OwnL at*;refine⟨ar.1,ar.2.1,?_⟩;have h3:=ar.2.2;cases hb:(ν id).blk with
 |none=>rfl
 |some b=>
  rw[hb]at h3;obtain⟨a1,a2,a3,cs,ps,a4,a5,a6,a7⟩:=h3;exact⟨a1,a2,a3,cs,ps,by simpa [EncP]using a4,a5,a6,a7⟩
theorem HRel.adopt(h:HRel w0 F G ν objs nx w)(e:Ty):HRel w0 F G (upd ν nx ⟨none,0,0,0,e.size⟩) ((nx,.arr e [])::objs) (nx+1) w:=by
 obtain⟨φ,h⟩:=h;refine⟨_,h.put (m:=[]) (S:=λ_ _=>False) (Wfh ν nx _) (Xdj _) (Xbu _) (WLe.refl _ w) (λb o hh=>hh.elim) (λ_=>?_)⟩;show OwnL _ _ _ (upd ν nx ⟨none,0,0,0,e.size⟩ nx) _ _;rw[Wbr];exact⟨rfl,rfl,rfl⟩
theorem Wj3(e:Ty):CellRel G (upd ν nx ⟨none,0,0,0,e.size⟩) (nx+1) (.own nx) (.slice none 0 0):=
 ⟨Xbu _,by rw[Wbr];rfl⟩
theorem HRel.solo(h:HRel w0 F G ν objs nx w){id lo hi:Nat}{e:Ty}{xs:List e.den}(ho:look objs id=some (.arr e xs))(h1:lo<=hi)(h2:hi<=(ν id).len):
  HRel w0 F G (upd ν nx ((ν id).part lo hi)) ((nx,.arr e ((xs.take hi).drop lo))::(id,.dead)::objs) (nx+1) w:=by
 obtain⟨φ,h⟩:=h;have aw:Live objs id:=⟨_,ho,by simp⟩;have hown:OwnL w (TyRel G w e) e.size (ν id) xs (φ id):=h.ob _ _ ho;refine⟨_,h.put (m:=[id]) (S:=φ id) (Wfh ν nx _) (Xdj _) (Xbu _) (WLe.refl _ w) (λb o hh=>.inl ⟨id,.inr (by simp),aw,hh⟩) (λ_=>?_)⟩;show OwnL _ _ _ (upd ν nx ((ν id).part lo hi) nx) _ _;rw[Wbr];exact Wno hown h1 h2
theorem Wmo{id lo hi:Nat}:CellRel G (upd ν nx ((ν id).part lo hi)) (nx+1) (.own nx) ((ν id).vhdr lo hi):=
 ⟨Xbu _,by rw[Wbr,Wkp]⟩
theorem Wod(h:Rel w0 F nt G0 G ν st a w){p:Nat}(hg:WnC st p=some ae):Rel w0 F nt G0 G ν ae a w:=by
 unfold WnC at hg;split at hg
 .rename_i r _;split at hg
  .rename_i e xs i p' cs aY eI;split at hg
   .rename_i d m hf;split at hg
    .rename_i bo;injection hg with hg;subst hg;simp only[Xh]at bo;obtain⟨hp,aP⟩:=bo;have hp:=Xcb hp;subst hp;have aP:=(WcQ _).1 aP;obtain⟨n1,n2⟩:=Xai.1 aP;obtain⟨n3,n4⟩:=Xai.1 n2;obtain⟨φ,hφ⟩:=h.h;have aw:Live st.objs r:=⟨_,aY,by simp⟩;have dn:Live st.objs p:=⟨_,eI,by simp⟩;obtain⟨lO,hole⟩:p<st.nx/\WhG w (TyRel G w e) e.size (ν r) (ν p) xs i (φ r):=hφ.ob _ _ aY;obtain⟨b,us,hb,hrow,hmem,bn,eJ⟩:WcE G ν st.nx w p (φ p) (.box cs):=hφ.ob _ _ eI;obtain⟨ns,t1,t2,t3,t4,_⟩:=Wah (G':=G) hφ (λ_ _ _ hh=>hh) e cs us d m [] bn (λi hi=>by simp at hi) n4 hf;have cG:=WA _ _ _ _ t1;rw[←bn.1,cG]at eJ;have hne:r≠p:=λe=>n1 (by rw[e];exact Xi ..);refine h.on (λ_ _ _ hh=>hh) (λ_ _=>rfl) (Xn _) ⟨_,hφ.put (ν':=ν) (S:=λb o=>φ r b o\/FromL φ st.objs (p::m) b o) (λ_ _=>rfl) (Xn _) (hφ.lt r aw) (WLe.refl _ w) (λb o hh=>?_) (λ_=>?_)⟩ h.gx
     .rcases hh with hh|⟨j,hj,h1,h2⟩
      .exact .inl ⟨r,.inl rfl,aw,hh⟩
      .exact .inl ⟨j,.inr hj,h1,h2⟩
     .refine WoA hole t1 hb hmem eJ t2 t3 ?_ ?_ ?_ (λb o hh=>.inl hh) (λb o hh=>.inr ⟨p,Xi ..,dn,hh⟩) (λb o hh=>.inr (FromL.mono (λi hi=>Xe _ hi) b o hh))
      .exactλb o h1 h2=>hne (hφ.inj r p b o aw dn h1 h2)
      .exactλb o h1 ⟨j,hj,h2,h3⟩=>by
        have:=hφ.inj r j b o aw h2 h1 h3;subst this;exact n1 (Xe _ hj)
      .exactλb o h1 ⟨j,hj,h2,h3⟩=>by
        have:=hφ.inj p j b o dn h2 h1 h3;subst this;exact n3 hj
    .cases hg
   .cases hg
  .cases hg
 .cases hg
theorem WjL(h:Rel w0 F nt G0 G ν st a w){r i:Nat}{e:Ty}{xs:List e.den}(aY:look st.objs r=some (.arr e xs))(hi:i<xs.length)(hg:Wmc st r i=some ae):
  ∃ν' b,Rel w0 F nt G0 G ν' ae a w/\st.nx<ae.nx/\(ν r).blk=some b/\(ν' st.nx)=Wcc b ((ν r).off+i*(ν r).esz)/\ae.env=st.env:=by
 unfold Wmc at hg;rw[aY]at hg;simp only[Option.some.injEq]at hg;subst hg;obtain⟨φ,hφ⟩:=h.h;have aw:Live st.objs r:=⟨_,aY,by simp⟩;have hown:OwnL w (TyRel G w e) e.size (ν r) xs (φ r):=hφ.ob _ _ aY;obtain⟨g1,g2,g3⟩:=hown;have u7:=hφ.lt r aw;cases hb:(ν r).blk with
 |none=>simp only[hb]at g3;rw[g3]at hi;simp at hi
 |some b=>
  simp only[hb]at g3;obtain⟨g4,g5,g6,cs,ps,g7,g8,g9,rt⟩:=g3;obtain⟨c1,c,c2,p1,pc,p2,k1,k2,k3,k4,k5⟩:=Wn3 g7 e.dflt hi;have l1:=Wa1 (λx c q hx=>WA e x c q hx) _ _ _ k3;rw[Xap,Xcg (by omega)]at l1;have lc:=WA _ _ _ _ k4;have lo:=W8 _ _ _ _ k4;have e1:(i+1)*e.size=i*e.size+e.size:=Xbx i e.size;have e2:((ν r).cap-(i+1))*e.size+(i+1)*e.size=(ν r).cap*e.size:=by rw[←Xcx];congr 1;omega
  have rT:=WaQ e (xs.getD i e.dflt) (st.nx+1);have cG:=Wcf e (xs.getD i e.dflt) (st.nx+1);rw[k1]at g8;have m1:Mem w b (ν r).off c1:=g8.left;have m2:Mem w b ((ν r).off+i*e.size) c:=(g8.right l1).left;have m3:Mem w b ((ν r).off+(i+1)*e.size) c2:=by
   have:=(g8.right l1).right lc;rw[Xar,←e1]at this;exact this
  obtain⟨q1,q2⟩:=Xac.1 g9;have gg:=rt _ (Xi ..);have lR:∀p∈p1++(pc++p2),CS.le p.fp (φ r):=λp hp=>rt _ (Xe _ (Xan (by rw[k2];exact hp)));have qM:∀p∈p1++(pc++p2),CS.disj (rng b (ν r).off ((ν r).cap*e.size)) p.fp:=λp hp=>q1 _ (Xan (by rw[k2];exact hp));rw[k2,Xr,Xr]at q2;obtain⟨s1,s2,s3⟩:=Xag.1 q2;obtain⟨s4,s5,s6⟩:=Xag.1 s2;have rA:CS.le (rng b (ν r).off (i*e.size)) (rng b (ν r).off ((ν r).cap*e.size)):=λb o ⟨x0,x1,x2⟩=>⟨x0,by omega,by omega⟩;have rB:CS.le (rng b ((ν r).off+i*e.size) e.size) (rng b (ν r).off ((ν r).cap*e.size)):=λb o ⟨x0,x1,x2⟩=>⟨x0,by omega,by omega⟩;have rC:CS.le (rng b ((ν r).off+(i+1)*e.size) (((ν r).cap-(i+1))*e.size)) (rng b (ν r).off ((ν r).cap*e.size)):=λb o ⟨x0,x1,x2⟩=>⟨x0,by omega,by omega⟩;obtain⟨SR,hSR⟩:∃SR:CS,SR= λb' o=>rng b (ν r).off (i*e.size) b' o\/rng b ((ν r).off+(i+1)*e.size) (((ν r).cap-(i+1))*e.size) b' o\/∃p∈p1++p2,p.fp b' o:=⟨_,rfl⟩;have hSRφ:CS.le SR (φ r):=λb o hh=>by
   rw[hSR]at hh;rcases hh with hh|hh|⟨p,hp,hh⟩
   .exact gg b o (rA b o hh)
   .exact gg b o (rC b o hh)
   .refine lR p ?_ b o hh;rcases Xm.1 hp with hp|hp
    .exact Xk _ hp
    .exact Xg _ (Xg _ hp)
  obtain⟨ν',hν'⟩:∃ν':Nat->Nu,ν'= λj=>if j<st.nx then ν j else if j=st.nx then Wcc b ((ν r).off+i*e.size)else((nus pc)[j-(st.nx+1)]?).getD ⟨none,0,0,0,0⟩:=⟨_,rfl⟩;obtain⟨φ',hφ'⟩:∃φ':Nat->CS,φ'= λj=>if j=r then SR else if j<st.nx then φ j else if j=st.nx then rng b ((ν r).off+i*e.size) e.size else((fps pc)[j-(st.nx+1)]?).getD (λ_ _=>False):=⟨_,rfl⟩;have hνold:Wso st.nx ν ν':=λj hj=>by rw[hν'];simp[hj]
  have hνp:ν' st.nx=Wcc b ((ν r).off+i*e.size):=by rw[hν'];simp
  have hφr:φ' r=SR:=by rw[hφ'];simp
  have hφp:φ' st.nx=rng b ((ν r).off+i*e.size) e.size:=by rw[hφ'];simp;omega
  have hφold:∀j,j<st.nx->j≠r->φ' j=φ j:=λj hj hn=>by rw[hφ'];simp[hj,hn]
  have hAt:At ν' φ' (st.nx+1) pc:=λj q hj=>by
   have x1:(nus pc)[j]?=some q.nu:=by unfold nus;rw[Xal,hj];rfl
   have x2:(fps pc)[j]?=some q.fp:=by unfold fps;rw[Xal,hj];rfl
   rw[hν',hφ'];constructor
   .show(if st.nx+1+j<st.nx then _ else if st.nx+1+j=st.nx then _ else _)=_;rw[if_neg (by omega),if_neg (by omega),Xbe,x1];rfl
   .show(if st.nx+1+j=r then _ else if st.nx+1+j<st.nx then _ else if st.nx+1+j=st.nx then _ else _)=_;rw[if_neg (by omega),if_neg (by omega),if_neg (by omega),Xbe,x2];rfl
  obtain⟨uc,uo⟩:=Wav (ν:=ν') (φ:=φ') e (xs.getD i e.dflt) (st.nx+1) c pc k4 hAt;have ik:∀id ob,look ((r,Ob.hole e xs i st.nx)::(st.nx,Ob.box (unfold e (xs.getD i e.dflt) (st.nx+1)).1)::((unfold e (xs.getD i e.dflt) (st.nx+1)).2.1++st.objs)) id=some ob->ob≠ .dead->
    (id=r/\ob= .hole e xs i st.nx)\/(id=st.nx/\ob= .box (unfold e (xs.getD i e.dflt) (st.nx+1)).1)\/(st.nx+1<=id/\id<st.nx+1+e.owns/\Wqp G ν' φ' w id ob)\/(id≠r/\id<st.nx/\look st.objs id=some ob):=λid ob hl hd=>by
   rw[WD]at hl;split at hl
   .rename_i x;injection hl with hl;exact .inl ⟨x.symm,hl.symm⟩
   .rename_i tP;rw[WD]at hl;split at hl
    .rename_i x;injection hl with hl;exact .inr (.inl ⟨x.symm,hl.symm⟩)
    .rcases WH hl with hl|hl
     .obtain⟨x1,x2,x3⟩:=uo id ob hl;exact .inr (.inr (.inl ⟨x1,x2,x3⟩))
     .exact .inr (.inr (.inr ⟨λx=>tP x.symm,hφ.lt id ⟨ob,hl,hd⟩,hl⟩))
  have fw:∀id b' o,Live ((r,Ob.hole e xs i st.nx)::(st.nx,Ob.box (unfold e (xs.getD i e.dflt) (st.nx+1)).1)::((unfold e (xs.getD i e.dflt) (st.nx+1)).2.1++st.objs)) id->φ' id b' o->
    (id=r/\SR b' o)\/(id=st.nx/\rng b ((ν r).off+i*e.size) e.size b' o)\/(∃(j:Nat) (q:Pc),id=st.nx+1+j/\pc[j]?=some q/\q.fp b' o)\/(id≠r/\id<st.nx/\Live st.objs id/\φ id b' o):=λid b' o ⟨ob,hl,hd⟩ hp=>by
   rcases ik id ob hl hd with⟨rfl,_⟩|⟨rfl,_⟩|⟨x1,x2,_⟩|⟨x1,x2,x3⟩
   .rw[hφr]at hp;exact .inl ⟨rfl,hp⟩
   .rw[hφp]at hp;exact .inr (.inl ⟨rfl,hp⟩)
   .right;right;left;have hlt:id-(st.nx+1)<pc.length:=by omega
    refine⟨id-(st.nx+1),pc[id-(st.nx+1)],by omega,Xs hlt,?_⟩;have:=(hAt (id-(st.nx+1)) _ (Xs hlt)).2;rw[show st.nx+1+(id-(st.nx+1))=id by omega]at this;rw[this]at hp;exact hp
   .rw[hφold id x2 x1]at hp;exact .inr (.inr (.inr ⟨x1,x2,⟨ob,x3,hd⟩,hp⟩))
  have hq:∀(j:Nat) (q:Pc),pc[j]?=some q->q∈p1++(pc++p2):=λj q hj=>Xg _ (Xk _ (Xax hj));have dT:∀id b' o,(id=r/\SR b' o)\/(id=st.nx/\rng b ((ν r).off+i*e.size) e.size b' o)\/(∃(j:Nat) (q:Pc),id=st.nx+1+j/\pc[j]?=some q/\q.fp b' o)->φ r b' o:=λid b' o hh=>by
   rcases hh with⟨_,hh⟩|⟨_,hh⟩|⟨j,q,_,hj,hh⟩
   .exact hSRφ b' o hh
   .exact gg b' o (rB b' o hh)
   .exact lR q (hq j q hj) b' o hh
  have hH:HR w0 F G ν' φ' ((r,Ob.hole e xs i st.nx)::(st.nx,Ob.box (unfold e (xs.getD i e.dflt) (st.nx+1)).1)::((unfold e (xs.getD i e.dflt) (st.nx+1)).2.1++st.objs)) (st.nx+1+e.owns) w:=by
   refine hφ.step (WLe.refl _ w) (λid ob hl hd=>?_) (λid ⟨ob,hl,hd⟩=>?_) (λid b' o gw hp=>?_) (λid b' o gw hp=>?_) (λid bI b' o hl bH hp cR=>?_)
   .rcases ik id ob hl hd with⟨rfl,rfl⟩|⟨rfl,rfl⟩|⟨x1,x2,e',tV,rfl,x3⟩|⟨x1,x2,x3⟩
    .refine⟨by omega,?_⟩;rw[hφr,hνold id u7,hνp];refine⟨g1,g2,hi,b,hb,rfl,rfl,g4,g5,g6,c1,c2,p1,p2,k3,k5,m1,m3,?_,λs hs b' o hh=>?_⟩
     .refine Xac.2 ⟨λs hs=>?_,Xac.2 ⟨λs hs=>?_,?_⟩⟩
      .rcases Xo.1 hs with rfl|hs
       .exact Wtk (by omega)
       .obtain⟨p,hp,rfl⟩:=Xv.1 hs;refine(qM p ?_).mono rA (λ_ _ hh=>hh);rcases Xm.1 hp with hp|hp
        .exact Xk _ hp
        .exact Xg _ (Xg _ hp)
      .obtain⟨p,hp,rfl⟩:=Xv.1 hs;refine(qM p ?_).mono rC (λ_ _ hh=>hh);rcases Xm.1 hp with hp|hp
       .exact Xk _ hp
       .exact Xg _ (Xg _ hp)
      .rw[Xr];exact Xag.2 ⟨s1,s5,λs hs t ht=>s3 s hs t (Xg _ ht)⟩
     .rw[hSR];rcases Xo.1 hs with rfl|hs
      .exact .inl hh
      .rcases Xo.1 hs with rfl|hs
       .exact .inr (.inl hh)
       .obtain⟨p,hp,rfl⟩:=Xv.1 hs;exact .inr (.inr ⟨p,hp,hh⟩)
    .refine⟨b,c,by rw[hνp];rfl,?_,by rw[hνp];exact m2,uc _ (Xn _),?_⟩
     .rw[hνp,cG];obtain⟨row,TT,y1,y2⟩:=g6;exact⟨row,TT,y1,by show(ν r).off+i*e.size+e.size<=row.size;omega⟩
     .rw[hνp,cG,hφp];exactλ_ _ hh=>hh
    .exact x3
    .rw[hφold id x2 x1];exact Wdy (λ_ _ _ hh=>hh) (Same.refl _ w) (λ_ _ hh=>hh) hνold (by omega) x2 ob (hφ.ob id ob x3)
   .rcases ik id ob hl hd with⟨rfl,_⟩|⟨rfl,_⟩|⟨_,x2,_⟩|⟨_,x2,_⟩<;>omega
   .rcases fw id b' o gw hp with hh|hh|hh|⟨_,_,x3,x4⟩
    .exact .inl ⟨r,aw,dT id b' o (.inl hh)⟩
    .exact .inl ⟨r,aw,dT id b' o (.inr (.inl hh))⟩
    .exact .inl ⟨r,aw,dT id b' o (.inr (.inr hh))⟩
    .exact .inl ⟨id,x3,x4⟩
   .rcases fw id b' o gw hp with hh|hh|hh|⟨_,_,x3,x4⟩
    .exact hφ.bl r b' o aw (dT id b' o (.inl hh))
    .exact hφ.bl r b' o aw (dT id b' o (.inr (.inl hh)))
    .exact hφ.bl r b' o aw (dT id b' o (.inr (.inr hh)))
    .exact hφ.bl id b' o x3 x4
   .have out:∀bI,bI≠r->Live st.objs bI->φ bI b' o->φ r b' o->False:=λbI y1 y2 y3 y4=>y1 (hφ.inj bI r b' o y2 aw y3 y4);have dSP:SR b' o->∀s,(s=rng b ((ν r).off+i*e.size) e.size\/∃q∈pc,s=q.fp)->s b' o->False:=λy1 s y2 y3=>by
     rw[hSR]at y1;rcases y2 with rfl|⟨q,oj,rfl⟩
     .rcases y1 with y1|y1|⟨p,hp,y1⟩
      .obtain⟨z0,z1,z2⟩:=y1;obtain⟨z3,z4,z5⟩:=y3;omega
      .obtain⟨z0,z1,z2⟩:=y1;obtain⟨z3,z4,z5⟩:=y3;omega
      .refine qM p ?_ b' o (rB b' o y3) y1;rcases Xm.1 hp with hp|hp
       .exact Xk _ hp
       .exact Xg _ (Xg _ hp)
     .have rU:q∈p1++(pc++p2):=Xg _ (Xk _ oj);rcases y1 with y1|y1|⟨p,hp,y1⟩
      .exact qM q rU b' o (rA b' o y1) y3
      .exact qM q rU b' o (rC b' o y1) y3
      .rcases Xm.1 hp with hp|hp
       .exact s3 _ (Xan hp) _ (Xk _ (Xan oj)) b' o y1 y3
       .exact s6 _ (Xan oj) _ (Xan hp) b' o y3 y1
    have dPQ:∀(j:Nat) (q:Pc),pc[j]?=some q->rng b ((ν r).off+i*e.size) e.size b' o->q.fp b' o->False:=λj q hj y1 y2=>qM q (hq j q hj) b' o (rB b' o y1) y2;rcases fw id b' o hl hp with hh|hh|hh|⟨x1,x2,x3,x4⟩<;>rcases fw bI b' o bH cR with fb|fb|fb|⟨u9,x2',tW,tX⟩
    .rw[hh.1,fb.1]
    .exact(dSP hh.2 _ (.inl rfl) fb.2).elim
    .obtain⟨j,q,_,hj,y⟩:=fb;exact(dSP hh.2 _ (.inr ⟨q,Xax hj,rfl⟩) y).elim
    .exact(out bI u9 tW tX (dT id b' o (.inl hh))).elim
    .exact(dSP fb.2 _ (.inl rfl) hh.2).elim
    .rw[hh.1,fb.1]
    .obtain⟨j,q,_,hj,y⟩:=fb;exact(dPQ j q hj hh.2 y).elim
    .exact(out bI u9 tW tX (dT id b' o (.inr (.inl hh)))).elim
    .obtain⟨j,q,_,hj,y⟩:=hh;exact(dSP fb.2 _ (.inr ⟨q,Xax hj,rfl⟩) y).elim
    .obtain⟨j,q,_,hj,y⟩:=hh;exact(dPQ j q hj fb.2 y).elim
    .obtain⟨j,q,bA,hj,y⟩:=hh;obtain⟨j',q',vd,hj',y'⟩:=fb;have x1:(fps pc)[j]?=some q.fp:=by unfold fps;rw[Xal,hj];rfl
     have x2:(fps pc)[j']?=some q'.fp:=by unfold fps;rw[Xal,hj'];rfl
     have:=Wk2 (l:=fps pc) s4 x1 x2 y y';rw[bA,vd,this]
    .exact(out bI u9 tW tX (dT id b' o (.inr (.inr hh)))).elim
    .exact(out id x1 x3 x4 (dT bI b' o (.inl fb))).elim
    .exact(out id x1 x3 x4 (dT bI b' o (.inr (.inl fb)))).elim
    .exact(out id x1 x3 x4 (dT bI b' o (.inr (.inr fb)))).elim
    .exact hφ.inj id bI b' o x3 tW x4 tX
  refine⟨ν',b,?_,?_,rfl,by rw[hνp,g2],rfl⟩
  .have:=h.on (λ_ _ _ hh=>hh) hνold (by omega) ⟨φ',hH⟩ h.gx;rw[rT];exact this
  .show st.nx<(unfold e (xs.getD i e.dflt) (st.nx+1)).2.2;rw[rT];omega
end
end Go.Sx
namespace Go.Sx
set_option linter.unusedVariables false
set_option linter.unusedSimpArgs false
theorem Wdi:∀(l:List Nat) (i j:Nat),Wr5 i l=some j->l[j]?=some i
 | [],i,j,h=>by cases h
 |k::l,i,j,h=>by
  simp only[Wr5]at h;split at h
  .rename_i hb;injection h with h;subst h;have:i=k:=by simpa using hb
   rw[this];rfl
  .cases hp:Wr5 i l with
   |none=>simp[hp]at h
   |some n=>
    simp[hp]at h;subst h;exact Wdi l i n hp
theorem Wjv{m:List Nat}:∀(l r:List Nat),Wmt m l=some r->r.length=l.length/\∀(q j:Nat),r[q]?=some j->∃i,l[q]?=some i/\m[j]?=some i
 | [],r,h=>by simp[Wmt]at h;subst h;exact⟨rfl,λq j hq=>by simp at hq⟩
 |i::l,r,h=>by
  simp only[Wmt]at h;split at h
  .rename_i j r' h1 h2;injection h with h;subst h;obtain⟨h3,h4⟩:=Wjv l r' h2;refine⟨by simp[h3],λq j' hq=>?_⟩;cases q with
   |zero=>simp at hq;subst hq;exact⟨i,rfl,Wdi m i j h1⟩
   |succ q=>exact h4 q j' (by simpa using hq)
  .cases h
theorem Wca:∀(n:Nat) (todo acc:List Nat) (objs:Waf),acc.Nodup->(Wkv n todo acc objs).Nodup
 |0,_,_,_,h=>h
 |n+1,[],acc,objs,h=>h
 |n+1,i::l,acc,objs,h=>by
  simp only[Wkv];split
  .exact Wca n l acc objs h
  .rename_i hi;have ve:i∉acc:=λhm=>hi ((WaS i acc).2 hm);have h2:(acc++ [i]).Nodup:=by
    rw[Xak];refine⟨h,by simp,λx hx y hy=>?_⟩;simp at hy;subst hy
    exactλe=>ve (e▸hx)
   split
   .exact Wca n _ _ objs h2
   .exact Wca n _ _ objs h2
   .exact Wca n _ _ objs h2
   .exact Wca n _ _ objs h
theorem Wht{m:List Nat}{objs:Waf}:∀(l:List Nat) (j0:Nat) (j:Nat) (ob:Ob),look (WdU m objs j0 l) j=some ob->∃i co,j0<=j/\l[j-j0]?=some i/\look objs i=some co/\ob=WsF m co
 | [],j0,j,ob,h=>by cases h
 |i::l,j0,j,ob,h=>by
  simp only[WdU]at h;have step:look (WdU m objs (j0+1) l) j=some ob->∃i' co,j0<=j/\(i::l)[j-j0]?=some i'/\look objs i'=some co/\ob=WsF m co:=λh=>by
   obtain⟨i',co,h1,h2,h3,h4⟩:=Wht l (j0+1) j ob h;refine⟨i',co,by omega,?_,h3,h4⟩;rw[show j-j0=(j-(j0+1))+1 by omega];simpa using h2
  split at h
  .rename_i co ho;rw[WD]at h;split at h
   .rename_i e;subst e;injection h with h;exact⟨i,co,Xn _,by simp,ho,h.symm⟩
   .exact step h
  .exact step h
theorem WiV{env:List (Nat×AVal)}{f:AVal->AVal}:∀(l:List Nat) (i:Nat) (x:AVal),look ((WfP env l).map λp=>(p.1,f p.2)) i=some x->∃y,look env i=some y/\x=f y
 | [],i,x,h=>by cases h
 |j::l,i,x,h=>by
  simp only[WfP]at h;split at h
  .rename_i y hy;simp only[Xaj]at h;rw[WD]at h;split at h
   .rename_i e;subst e;injection h with h;exact⟨y,hy,h.symm⟩
   .exact WiV l i x h
  .exact WiV l i x h
section
variable{w0:World}{F:CS}{nt:Slots}{G0 G G':GH}{ν ν':Nat->Nu}{objs objs':Waf}{nx ah:Nat}{st ae:St}{a:Act}{w w':World}{P:Program}{T:Tab}{Γ:Ctx}
structure Ren(m:List Nat)(ν ν':Nat->Nu)(ah:Nat):Prop where
 nx:∀(i j:Nat),m[j]?=some i->j<ah
 nu:∀(i j:Nat),m[j]?=some i->ν' j=ν i
theorem CellRel.ren{m:List Nat}(hm:Ren m ν ν' ah):∀(c:Cell) (v:Value),CellRel G ν nx c v->CellRel G ν' ah (Wc2 m c) v
 | .val t d,v,h=>h
 | .nils,v,h=>h
 | .rptr t d off,v,h=>h
 | .junk,v,h=>h
 | .own id,v,h=>by
  simp only[Wc2];split
  .rename_i j hj;have hj:=Wdi _ _ _ hj;exact⟨hm.nx _ _ hj,by rw[hm.nu _ _ hj];exact h.2⟩
  .trivial
 | .vw id lo hi,v,h=>by
  simp only[Wc2];split
  .rename_i j hj;have hj:=Wdi _ _ _ hj;exact⟨hm.nx _ _ hj,by rw[hm.nu _ _ hj];exact h.2⟩
  .trivial
 | .aptr id,v,h=>by
  simp only[Wc2];split
  .rename_i j hj;have hj:=Wdi _ _ _ hj;exact⟨hm.nx _ _ hj,by rw[hm.nu _ _ hj];exact h.2⟩
  .trivial
 | .ptr id off,v,h=>by
  simp only[Wc2];split
  .rename_i j hj;have hj:=Wdi _ _ _ hj;exact⟨hm.nx _ _ hj,by rw[hm.nu _ _ hj];exact h.2⟩
  .trivial
 | .eptr id i off,v,h=>by
  simp only[Wc2];split
  .rename_i j hj;have hj:=Wdi _ _ _ hj;exact⟨hm.nx _ _ hj,by rw[hm.nu _ _ hj];exact h.2⟩
  .trivial
 | .clos f caps,v,h=>by
  simp only[Wc2];split
  .rename_i js hj;obtain⟨h1,h2⟩:=Wjv _ _ hj;obtain⟨vs,h3,h4,h5⟩:=h;refine⟨vs,h3,h4.trans h1.symm,λq id u hq hu=>?_⟩;obtain⟨i,h6,h7⟩:=h2 q id hq;obtain⟨h8,h9,ci⟩:=h5 q i u h6 hu;exact⟨hm.nx _ _ h7,h9,by rw[hm.nu _ _ h7];exact ci⟩
  .trivial
theorem CellsRel.ren{m:List Nat}(hm:Ren m ν ν' ah){cs:List Cell}{vs:List Value}(h:CellsRel G ν nx cs vs):CellsRel G ν' ah (cs.map (Wc2 m)) vs:=by
 refine⟨by simp[h.1],λj c v hc hv=>?_⟩;simp only[Xal]at hc;cases hd:cs[j]? with
 |none=>simp[hd]at hc
 |some d=>
  simp[hd]at hc;subst hc;obtain⟨h1,h2⟩:=h.2 j d v hd hv;exact⟨h1.ren hm,h2⟩
theorem AvRel.ren{m:List Nat}(hm:Ren m ν ν' ah):∀(x:AV) (v:Value),AvRel G ν nx x v->AvRel G ν' ah (Wv0 m x) v
 | .one c,v,h=>⟨h.1.ren hm,h.2⟩
 | .agg cs,v,⟨vs,h1,h2⟩=>⟨vs,h1,h2.ren hm⟩
theorem AValRel.ren{m:List Nat}(hm:Ren m ν ν' ah):∀(x:AVal) (v:Value),AValRel G ν nx x v->AValRel G ν' ah (Woq m x) v
 | .s x,v,h=>AvRel.ren hm x v h
 | .tup xs,v,⟨vs,h1,h2,h3⟩=>⟨vs,h1,by simp[h2],λj x u hx hu=>by
  simp only[Xal]at hx;cases hd:xs[j]? with
  |none=>simp[hd]at hx
  |some d=>
   simp[hd]at hx;subst hx;exact AvRel.ren hm d u (h3 j d u hd hu)⟩
theorem WrE(slots:List Nat)(h:Rel w0 F nt G0 G ν st a w):∃ν',Rel w0 F nt G0 G ν' (canon slots st) a w:=by
 obtain⟨m,hm⟩:∃m,m=Wkv 400 ((WfP st.env slots).flatMap λp=>Wa8 p.2) [] st.objs:=⟨_,rfl⟩;have aP:m.Nodup:=by rw[hm];exact Wca _ _ _ _ (by simp)
 have ol:canon slots st={env:=(WfP st.env slots).map λp=>(p.1,Woq m p.2),objs:=WdU m st.objs 0 m,nx:=m.length}:=by rw[hm];rfl
 obtain⟨ν',hν'⟩:∃ν':Nat->Nu,ν'= λj=>ν ((m[j]?).getD 0):=⟨_,rfl⟩;have lz:∀(i j:Nat),m[j]?=some i->ν' j=ν i:=λi j hj=>by rw[hν'];simp[hj]
 have rV:∀(j:Nat) (ob:Ob),look (WdU m st.objs 0 m) j=some ob->∃i co,m[j]?=some i/\look st.objs i=some co/\ob=WsF m co:=λj ob ho=>by
  obtain⟨i,co,_,h2,h3,h4⟩:=Wht _ _ _ _ ho;exact⟨i,co,by simpa using h2,h3,h4⟩
 have rW:Ren m ν ν' m.length:={
  nx:=λi j hj=>(Xt.1 hj).1
  nu:=lz}
 have cz:∀j,Live (WdU m st.objs 0 m) j->∃i,m[j]?=some i/\Live st.objs i:=λj ⟨ob,ho,hd⟩=>by
  obtain⟨i,co,h1,h2,h3⟩:=rV j ob ho;refine⟨i,h1,co,h2,λcO=>hd ?_⟩;rw[h3,cO];rfl
 rw[ol];refine⟨ν',h.defers,h.ntm,h.par,λi x hx=>?_,?_,h.gx⟩
 .obtain⟨y,h1,rfl⟩:=WiV _ _ _ hx;obtain⟨v,h2,h3⟩:=h.env i y h1;exact⟨v,h2,AValRel.ren rW y v h3⟩
 .obtain⟨φ,hφ⟩:=h.h;refine⟨λj=>φ ((m[j]?).getD 0),?_⟩;have mX:∀(i j:Nat),m[j]?=some i->φ ((m[j]?).getD 0)=φ i:=λi j hj=>by simp[hj]
  exact{
   g:=hφ.g
   ob:=λj ob ho=>by
    obtain⟨i,co,h1,h2,rfl⟩:=rV j ob ho;have:=hφ.ob i co h2;cases co with
    |dead=>trivial
    |arr e xs=>
     show OwnL w (TyRel G w e) e.size (ν' j) xs (φ ((m[j]?).getD 0));rw[lz i j h1,mX i j h1];exact this
    |hole e xs k p=>
     simp only[WsF];split
     .rename_i q hq;have hq:=Wdi _ _ _ hq;obtain⟨g1,g2⟩:=this;show q<m.length/\WhG w (TyRel G w e) e.size (ν' j) (ν' q) xs k (φ ((m[j]?).getD 0));rw[lz i j h1,mX i j h1,lz p q hq];exact⟨(Xt.1 hq).1,g2⟩
     .trivial
    |box cs=>
     obtain⟨b,vs,h4,h5,h6,h7,h8⟩:=this;refine⟨b,vs,by rw[lz i j h1];exact h4,?_,by rw[lz i j h1];exact h6,h7.ren rW,?_⟩
     .rw[lz i j h1,Xaf];exact h5
     .rw[lz i j h1,mX i j h1,Xaf];exact h8
   gf:=λj b o hj hp=>by
    obtain⟨i,h1,h2⟩:=cz j hj;rw[mX i j h1]at hp;exact hφ.gf i b o h2 hp
   inj:=λj j' b o hj hj' hp cR=>by
    obtain⟨i,h1,h2⟩:=cz j hj;obtain⟨i',gy,jd⟩:=cz j' hj';rw[mX i j h1]at hp;rw[mX i' j' gy]at cR;have:=hφ.inj i i' b o h2 jd hp cR;subst this;have hlt:=(Xt.1 h1).1;exact(List.getElem?_inj hlt aP).1 (h1.trans gy.symm)
   own:=λj b o hj hp=>by
    obtain⟨i,h1,h2⟩:=cz j hj;rw[mX i j h1]at hp;exact hφ.own i b o h2 hp
   lt:=λj hj=>by
    obtain⟨i,h1,h2⟩:=cz j hj;exact(Xt.1 h1).1
   bl:=λj b o hj hp=>by
    obtain⟨i,h1,h2⟩:=cz j hj;rw[mX i j h1]at hp;exact hφ.bl i b o h2 hp
   le:=hφ.le}
theorem Wjp(h:Rel w0 F nt G0 G ν st a w){r:Nat}{ix:Option Nat}(hg:Wpp st r ix=some (true,ae)):∃ν',Rel w0 F nt G0 G ν' ae a w:=by
 unfold Wpp at hg;split at hg
 .rename_i c i lB;obtain⟨s,hs,hg⟩:=Xx.1 hg;simp only[Prod.mk.injEq]at hg;obtain⟨rfl,rfl⟩:=hg;have hlt:∃(e:Ty) (xs:List e.den),look st.objs r=some (.arr e xs)/\i<xs.length:=by
   unfold WuU at lB;split at lB
   .split at lB
    .rename_i e xs ho;simp only[Option.some.injEq,Prod.mk.injEq]at lB;obtain⟨h1,rfl⟩:=lB;obtain⟨h2,h3⟩:=WdV h1;exact⟨e,xs,ho,by omega⟩
    .cases lB
   .split at lB
    .rename_i e xs n ho hn;simp only[Option.some.injEq,Prod.mk.injEq]at lB;obtain⟨h1,rfl⟩:=lB;obtain⟨h2,h3⟩:=WdV h1;exact⟨e,xs,ho,by omega⟩
    .cases lB
  obtain⟨e,xs,ho,hlt⟩:=hlt;obtain⟨ν',b,h1,_⟩:=WjL h ho hlt hs;exact⟨ν',h1⟩
 .cases hg
theorem Wmz{g:Ghost}(h:Rel w0 F nt G0 G ν st a w)(hg:WfS g st=some (true,ae)):∃G' ν',Rel w0 F nt G0 G' ν' ae a w:=by
 cases g with
 |canon slots=>
  simp only[WfS]at hg;injection hg with hg;injection hg with _ hg;subst hg;obtain⟨ν',h'⟩:=WrE slots h;exact⟨G,ν',h'⟩
 |adopt slot e=>
  simp only[WfS]at hg;split at hg
  .rename_i hs;injection hg with hg;injection hg with _ hg;subst hg;obtain⟨v,hv,hr⟩:=h.env _ _ hs;have gQ:v= .slice none 0 0:=hr.1;subst gQ;have h2:=h.on (λ_ _ _ hh=>hh) (Wfh ν st.nx _) (Xdj _) (h.h.adopt e) h.gx;exact⟨G,_,h2.rebind hv ⟨Wj3 e,rfl⟩⟩
  .injection hg with hg;injection hg with _ hg;subst hg;exact⟨G,ν,h⟩
  .cases hg
 |freeze slot=>
  simp only[WfS]at hg;split at hg
  .rename_i id hs;split at hg
   .rename_i e xs ho;injection hg with hg;injection hg with _ hg;subst hg;obtain⟨G1,h1,h2,h3,h4⟩:=h.h.freezeL h.gx [id];obtain⟨v,hv,hr⟩:=h.env _ _ hs;have gQ:v=(ν id).hdr:=hr.1.2;have h5:=h.on h1 (λ_ _=>rfl) (Xn _) h2 h3;exact⟨G1,ν,h5.rebind hv ⟨⟨v,rfl,gQ▸h4 id (by simp) e xs ho⟩,hr.2⟩⟩
   .cases hg
  .cases hg
 |adoptC slot off e=>
  simp only[WfS]at hg;split at hg
  .rename_i id hs;split at hg
   .rename_i cs ho;split at hg
    .rename_i hc;injection hg with hg;injection hg with _ hg;subst hg;have hne:st.nx≠id:=λe=>by
      obtain⟨φ,hφ⟩:=h.h;have:=hφ.lt id ⟨_,ho,by simp⟩;omega
     have h2:=h.h.adopt e;have lT:look ((st.nx,Ob.arr e [])::st.objs) id=some (.box cs):=by rw[WD,if_neg hne];exact ho
     have h3:=h2.mk_box lT (cs':=cs.set off (.own st.nx)) (by simp) (λvs eH=>eH.set λv hv=>by
      have:v= .slice none 0 0:=(eH.2 off _ v hc hv).1;subst this;exact Wj3 e)
     exact⟨G,_,h.on (λ_ _ _ hh=>hh) (Wfh ν st.nx _) (Xdj _) h3 h.gx⟩
    .injection hg with hg;injection hg with _ hg;subst hg;exact⟨G,ν,h⟩
    .cases hg
   .cases hg
  .cases hg
 |freezeC slot off=>
  simp only[WfS]at hg;split at hg
  .rename_i id hs;split at hg
   .rename_i cs ho;split at hg
    .rename_i j hc;split at hg
     .rename_i e xs mY;injection hg with hg;injection hg with _ hg;subst hg;obtain⟨G1,h1,h2,h3,h4⟩:=h.h.freezeL h.gx [j];have hne:j≠id:=λe=>by subst e;rw[ho]at mY;cases mY
      have lT:look ((j,Ob.dead)::st.objs) id=some (.box cs):=by rw[WD,if_neg hne];exact ho
      have h5:HRel w0 F G1 ν ((id,.box (cs.set off (.val (.slice e.ro) (WcA e xs))))::(j,.dead)::st.objs) st.nx w:=by
       refine HRel.mk_box h2 lT (by simp) (λvs eH=>eH.set λv hv=>?_);have gQ:v=(ν j).hdr:=(eH.2 off _ v hc hv).1.2;exact⟨v,rfl,gQ▸h4 j (by simp) e xs mY⟩
      exact⟨G1,ν,h.on h1 (λ_ _=>rfl) (Xn _) h5 h3⟩
     .cases hg
    .injection hg with hg;injection hg with _ hg;subst hg;exact⟨G,ν,h⟩
    .injection hg with hg;injection hg with _ hg;subst hg;exact⟨G,ν,h⟩
    .cases hg
   .cases hg
  .cases hg
 |nest d e=>injection hg with hg;injection hg with _ hg;subst hg;exact⟨G,ν,h⟩
 |view d=>injection hg with hg;injection hg with _ hg;subst hg;exact⟨G,ν,h⟩
 |opn d=>injection hg with hg;injection hg with _ hg;subst hg;exact⟨G,ν,h⟩
 |empt slot e=>
  simp only[WfS]at hg;split at hg
  .split at hg
   .rename_i e' ho;split at hg
    .rename_i hc;injection hg with hg;injection hg with _ hg;subst hg;exact⟨G,ν,h.on (λ_ _ _ hh=>hh) (λ_ _=>rfl) (Xn _) (h.h.empt ho hc.1) h.gx⟩
    .cases hg
   .cases hg
  .cases hg
 |unfE slot=>
  simp only[WfS]at hg;split at hg
  .rename_i r i hs;obtain⟨s,bP,hg⟩:=Xx.1 hg;injection hg with _ hg;subst hg;obtain⟨v,hv,hr⟩:=h.env _ _ hs;have gE:∃(e:Ty) (xs:List e.den),look st.objs r=some (.arr e xs):=by
    unfold Wmc at bP;split at bP
    .rename_i e xs ho;exact⟨e,xs,ho⟩
    .cases bP
   obtain⟨e,xs,ho⟩:=gE;obtain⟨⟨_,hlt,b,hb,rfl⟩,_⟩:=hr;obtain⟨S,hown⟩:=h.h.obj ho;obtain⟨ν',b',h1,h2,h3,h4,h5⟩:=WjL h ho (by rw[hown.1];exact hlt) bP;rw[hb]at h3;injection h3 with h3;subst h3;refine⟨G,ν',h1.rebind hv ⟨⟨h2,b,by rw[h4];rfl,?_⟩,rfl⟩⟩;rw[h4];rfl
  .cases hg
 |unfS slot ix=>
  simp only[WfS]at hg;split at hg
  .obtain⟨ν',h'⟩:=Wjp h hg;exact⟨G,ν',h'⟩
  .cases hg
 |unfC slot off ix=>
  simp only[WfS]at hg;split at hg
  .split at hg
   .split at hg
    .obtain⟨ν',h'⟩:=Wjp h hg;exact⟨G,ν',h'⟩
    .cases hg
   .cases hg
  .cases hg
 |refold slot=>
  simp only[WfS]at hg;split at hg
  .obtain⟨s,bP,hg⟩:=Xx.1 hg;injection hg with _ hg;subst hg;exact⟨G,ν,Wod h bP⟩
  .cases hg
 |solo slot=>
  simp only[WfS]at hg;split at hg
  .rename_i id lo hi hs;split at hg
   .rename_i e xs ho;injection hg with hg;injection hg with _ hg;subst hg;obtain⟨v,hv,hr⟩:=h.env _ _ hs;obtain⟨⟨_,g1,g2,g3,rfl⟩,_⟩:=hr;have h2:=h.on (λ_ _ _ hh=>hh) (Wfh ν st.nx _) (Xdj _) (h.h.solo ho g1 g2) h.gx;exact⟨G,_,h2.rebind hv ⟨Wmo,WoI _ _ _⟩⟩
   .cases hg
  .injection hg with hg;injection hg with _ hg;subst hg;exact⟨G,ν,h⟩
  .cases hg
 |soloC slot off=>
  simp only[WfS]at hg;split at hg
  .rename_i id o hs;split at hg
   .rename_i cs ho;split at hg
    .rename_i j lo hi hc;split at hg
     .rename_i e xs mY;injection hg with hg;injection hg with _ hg;subst hg;have hne:j≠id:=λe=>by subst e;rw[ho]at mY;cases mY
      have vf:st.nx≠id:=λe=>by
       obtain⟨φ,hφ⟩:=h.h;have:=hφ.lt id ⟨_,ho,by simp⟩;omega
      have an:lo<=hi/\hi<=(ν j).len:=by
       obtain⟨S,b,vs,k1,k2,k3,k4,k5⟩:=h.h.obj ho;have hlt:o+off<vs.length:=by rw[k4.1];exact(Xt.1 hc).1
       obtain⟨⟨_,g1,g2,_⟩,_⟩:=k4.2 _ _ _ hc (Xs hlt);exact⟨g1,g2⟩
      have h2:=h.h.solo mY an.1 an.2;have lT:look ((st.nx,Ob.arr e ((xs.take hi).drop lo))::(j,Ob.dead)::st.objs) id=some (.box cs):=by rw[WD,if_neg vf,WD,if_neg hne];exact ho
      have uI:j<st.nx:=by
       obtain⟨φ,hφ⟩:=h.h;exact hφ.lt j ⟨_,mY,by simp⟩
      have h3:=h2.mk_box lT (cs':=cs.set (o+off) (.own st.nx)) (by simp) (λvs eH=>eH.set λv hv=>by
       obtain⟨_,_,_,_,xg⟩:=(eH.2 _ _ v hc hv).1;rw[Wfh ν st.nx _ j uI]at xg;rw[xg];exact Wmo)
      exact⟨G,_,h.on (λ_ _ _ hh=>hh) (Wfh ν st.nx _) (Xdj _) h3 h.gx⟩
     .cases hg
    .injection hg with hg;injection hg with _ hg;subst hg;exact⟨G,ν,h⟩
    .cases hg
   .cases hg
  .cases hg
theorem Wdv:∀(l:List Ghost) (st ae:St) (G:GH) (ν:Nat->Nu),Rel w0 F nt G0 G ν st a w->Weh l st=some (true,ae)->∃G' ν',Rel w0 F nt G0 G' ν' ae a w
 | [],st,ae,G,ν,h,hg=>by injection hg with hg;injection hg with _ hg;subst hg;exact⟨G,ν,h⟩
 |g::l,st,ae,G,ν,h,hg=>by
  simp only[Weh]at hg;split at hg
  .rename_i c s yU;split at hg
   .rename_i c' s' hl;simp only[Option.some.injEq,Prod.mk.injEq,Xh]at hg;obtain⟨⟨rfl,rfl⟩,rfl⟩:=hg;obtain⟨G1,ν1,h1⟩:=Wmz h yU;exact Wdv l s s' G1 ν1 h1 hl
   .cases hg
  .cases hg
end
end Go.Sx
namespace Go.Sx
set_option linter.unusedVariables false
set_option linter.unusedSimpArgs false
section
variable{T:Tab}{Γ:Ctx}{env yV:List (Nat×AVal)}{objs objs':Waf}{nx ah:Nat}
theorem WcJ{st aj:St}:∀(l:List (Nat×Operand)),(∀p∈l,ev aj p.2=ev st p.2)->Wcz aj l=Wcz st l
 | [],_=>rfl
 |(i,x)::l,h=>by
  have h1:ev aj x=ev st x:=h (i,x) (Xi ..);simp only[Wcz,h1,WcJ l λp hp=>h p (Xe _ hp)]
theorem Wl2{st aj:St}:∀(l:List Operand),(∀x∈l,ev aj x=ev st x)->evs aj l=evs st l
 | [],_=>rfl
 |x::l,h=>by simp only[evs,h x (Xi ..),Wl2 l λp hp=>h p (Xe _ hp)]
theorem Whb{st aj:St}:∀(l:List Operand),(∀x∈l,ev aj x=ev st x)->Wf8 aj l=Wf8 st l
 | [],_=>rfl
 |x::l,h=>by simp only[Wf8,h x (Xi ..),Whb l λp hp=>h p (Xe _ hp)]
theorem Wj7{st aj:St}(x:Option Operand)(h:∀y∈x.toList,ev aj y=ev st y):WlK aj x=WlK st x:=by
 cases x with
 |none=>rfl
 |some y=>simp only[WlK,h y (by simp)]
def Wet(st aj:St)(v:AVal):Prop:=∀id∈Wa8 v,look aj.objs id=look st.objs id
theorem WnQ{st aj:St}{t:TypeId}{v:AVal}(h:Wet st aj v):WhB T aj t v=WhB T st t v:=by
 unfold WhB;cases v with
 |tup xs=>rfl
 |s x=>
  cases x with
  |agg cs=>rfl
  |one c=>
   cases c with
   |ptr id off=>have:=h id (by simp[Wa8,WfH,Wbn]);simp only[this]
   |eptr id i off=>have:=h id (by simp[Wa8,WfH,Wbn]);simp only[this]
   |_=>rfl
theorem Wl6{st aj:St}{t:TypeId}{v:AVal}(h:Wet st aj v):WfC T aj t v=WfC T st t v:=by
 unfold WfC;cases v with
 |tup xs=>rfl
 |s x=>
  cases x with
  |agg cs=>rfl
  |one c=>
   cases c with
   |aptr id=>have:=h id (by simp[Wa8,WfH,Wbn]);simp only[this]
   |_=>rfl
theorem WmB{st:St}{t:TypeId}{id:Nat}:Wji T st t (.s (.one (.own id)))=match look T t with
  |some ⟨_,false,.slice _⟩=>obL (look st.objs id)
  |_=>none:=by
 unfold Wji;generalize look T t=q;rcases q with _|⟨ty,agg,shape⟩
 .rfl
 .cases ty<;>cases agg<;>cases shape<;>rfl
theorem Woi{st aj:St}{t:TypeId}{v:AVal}(h:∀id,v≠ .s (.one (.own id))):Wji T aj t v=Wji T st t v:=by
 unfold Wji;generalize look T t=q;rcases q with _|⟨ty,agg,shape⟩
 .cases v<;>rfl
 .cases v with
  |tup xs=>cases ty<;>cases agg<;>cases shape<;>rfl
  |s x=>
   cases x with
   |agg cs=>cases ty<;>cases agg<;>cases shape<;>rfl
   |one c=>
    cases c with
    |own id=>exact absurd rfl (h id)
    |val t' d=>cases ty<;>cases agg<;>cases shape<;>cases t'<;>rfl
    |_=>cases ty<;>cases agg<;>cases shape<;>rfl
theorem WuW(v:AVal):(∃id,v= .s (.one (.own id)))\/∀id,v≠ .s (.one (.own id)):=by
 rcases v with x|xs
 .rcases x with c|cs
  .cases c with
   |own id=>exact .inl ⟨id,rfl⟩
   |_=>exact .inr λid h=>by injection h with h;injection h with h;cases h
  .exact .inr λid h=>by injection h with h;cases h
 .exact .inr λid h=>by cases h
theorem Wp1{st aj:St}{t:TypeId}{v:AVal}(h:Wet st aj v):Wji T aj t v=Wji T st t v:=by
 rcases WuW v with⟨id,rfl⟩|hv
 .rw[WmB,WmB,h id (by simp[Wa8,WfH,Wbn])]
 .exact Woi hv
theorem WhK{st aj:St}{t:TypeId}{v:AVal}{f:Nat}(h:Wet st aj v):Wb4 T aj t v f=Wb4 T st t v f:=by
 unfold Wb4;generalize Wgh T t f=q;rcases q with _|⟨off,te⟩
 .cases v<;>rfl
 .cases v with
  |tup xs=>rfl
  |s x=>
   cases x with
   |agg cs=>rfl
   |one c=>
    cases c with
    |ptr id o=>
     have:=h id (by simp[Wa8,WfH,Wbn]);show(λq:Option Ob=>match q with|some (.box _)=>some (true,AVal.s (.one (.ptr id (o+off))))|_=>none) (look aj.objs id)=(λq:Option Ob=>match q with|some (.box _)=>some (true,AVal.s (.one (.ptr id (o+off))))|_=>none) (look st.objs id);rw[this]
    |eptr id i o=>
     have:=h id (by simp[Wa8,WfH,Wbn]);show(λq:Option Ob=>match q with|some (.arr _ _)=>some (true,AVal.s (.one (.eptr id i (o+off))))|_=>none) (look aj.objs id)=(λq:Option Ob=>match q with|some (.arr _ _)=>some (true,AVal.s (.one (.eptr id i (o+off))))|_=>none) (look st.objs id);rw[this]
    |_=>rfl
theorem WhE{st aj:St}{t:TypeId}{v i:AVal}(h:Wet st aj v):Wcb T aj t v i=Wcb T st t v i:=by
 unfold Wcb;generalize look T t=q;generalize asI i=z;rcases q with _|⟨ty,agg,shape⟩
 .rfl
 rcases z with _|n
 .cases shape<;>rfl
 cases shape with
 |slice et=>
  show(match look T et with|some te=>_|none=>_)=(match look T et with|some te=>_|none=>_);generalize look T et=q;rcases q with _|te
  .rfl
  .show(if te.plain=true then _ else _)=(if te.plain=true then _ else _);by_cases hp:te.plain=true
   .rw[if_pos hp,if_pos hp];cases v with
    |tup xs=>rfl
    |s x=>
     cases x with
     |agg cs=>rfl
     |one c=>
      cases c with
      |own id=>
       have:=h id (by simp[Wa8,WfH,Wbn]);show obI te n id (look aj.objs id)=obI te n id (look st.objs id);rw[this]
      |vw id lo hi=>
       have:=h id (by simp[Wa8,WfH,Wbn]);show WwW te n id lo hi (look aj.objs id)=WwW te n id lo hi (look st.objs id);rw[this]
      |val t' d=>cases t'<;>rfl
      |_=>rfl
   .rw[if_neg hp,if_neg hp]
 |arr k et=>
  show(match look T et with|some te=>_|none=>_)=(match look T et with|some te=>_|none=>_);generalize look T et=q;rcases q with _|te
  .rfl
  .show(if te.plain=true then _ else _)=(if te.plain=true then _ else _);by_cases hp:te.plain=true
   .rw[if_pos hp,if_pos hp];cases v with
    |tup xs=>rfl
    |s x=>
     cases x with
     |agg cs=>rfl
     |one c=>
      cases c with
      |aptr id=>
       have:=h id (by simp[Wa8,WfH,Wbn]);show WwC te n k id (look aj.objs id)=WwC te n k id (look st.objs id);rw[this]
      |_=>rfl
   .rw[if_neg hp,if_neg hp]
 |_=>rfl
theorem Wqz{st aj:St}{v:AVal}(h:Wet st aj v):Wus aj v=Wus st v:=by
 rcases WuW v with⟨id,rfl⟩|hv
 .exact h id (by simp[Wa8,WfH,Wbn])
 .unfold Wus;split
  .rename_i id;exact absurd rfl (hv id)
  .rfl
theorem WnY{st aj:St}{s d:TypeId}{v:AVal}(h:Wet st aj v):Wjs T aj s d v=Wjs T st s d v:=by
 unfold Wjs;rw[Wqz h]
theorem WqD{st aj:St}{v:AVal}(h:Wet st aj v):Wqr aj v=Wqr st v:=by
 unfold Wqr;cases v with
 |tup xs=>rfl
 |s x=>
  cases x with
  |agg cs=>rfl
  |one c=>
   cases c with
   |ptr id off=>have:=h id (by simp[Wa8,WfH,Wbn]);simp only[this]
   |eptr id i off=>have:=h id (by simp[Wa8,WfH,Wbn]);simp only[this]
   |aptr id=>have:=h id (by simp[Wa8,WfH,Wbn]);simp only[this]
   |_=>rfl
theorem Wb3{α β:Type}{x:Option α}{f g:α->Option β}(h:∀v,x=some v->f v=g v):x.bind f=x.bind g:=by
 cases x with
 |none=>rfl
 |some v=>exact h v rfl
theorem Whl{st aj:St}(op:Op)(hm:∀t x l h m,op≠ .slice t x l h m)(he:∀x∈Wai op,ev aj x=ev st x)(hl:Wvi op=true->∀x∈Wai op,∀v,ev st x=some v->Wet st aj v):Waj T aj op=Waj T st op:=by
 cases op with
 |move x=>simp only[Waj,he x (by simp[Wai])]
 |assign x=>simp only[Waj,he x (by simp[Wai])]
 |pick c a b=>simp only[Waj,he c (by simp[Wai]),he a (by simp[Wai]),he b (by simp[Wai])]
 |load t a=>
  simp only[Waj,he a (by simp[Wai])];exact Wb3 λv hv=>by rw[WnQ (hl rfl a (by simp[Wai]) v hv),Wl6 (hl rfl a (by simp[Wai]) v hv)]
 |nilCheck x=>
  simp only[Waj,he x (by simp[Wai])];exact Wb3 λv hv=>WqD (hl rfl x (by simp[Wai]) v hv)
 |binOp op t x y z=>simp only[Waj,he x (by simp[Wai]),he y (by simp[Wai])]
 |unOp op t x=>simp only[Waj,he x (by simp[Wai])]
 |convert s d x=>
  simp only[Waj,he x (by simp[Wai])];exact Wb3 λv hv=>WnY (hl rfl x (by simp[Wai]) v hv)
 |slice t x l h m=>exact absurd rfl (hm t x l h m)
 |fieldAddr s x f=>
  simp only[Waj,he x (by simp[Wai])];exact Wb3 λv hv=>WhK (hl rfl x (by simp[Wai]) v hv)
 |field t x f=>simp only[Waj,he x (by simp[Wai])]
 |indexAddr t x i=>
  simp only[Waj,he x (by simp[Wai]),he i (by simp[Wai])];split
  .rename_i a b h1 h2;exact WhE (hl rfl x (by simp[Wai]) _ h1)
  .rfl
 |index t x i=>simp only[Waj,he x (by simp[Wai]),he i (by simp[Wai])]
 |extract t ix=>simp only[Waj,he t (by simp[Wai])]
 |makeFunc f first captured=>
  cases f with
  |func f=>simp only[Waj,Whb (st:=st) (aj:=aj) captured.toList λx hx=>he x (by simp[Wai];right;simpa using hx)]
  |_=>rfl
 |call c=>
  have hargs:∀x∈c.args.toList,ev aj x=ev st x:=λx hx=>he x (Xg _ hx);have om:∀x∈c.args.toList,∀v,ev st x=some v->Wet st aj v:=λx hx=>hl rfl x (Xg _ hx);simp only[Waj];split
  .rename_i x t _ ha _;rw[hargs x (by rw[ha];simp)];exact Wb3 λv hv=>Wp1 (om x (by rw[ha];simp) v hv)
  .rename_i x y _ _ _ ha _;rw[hargs x (by rw[ha];simp),hargs y (by rw[ha];simp)]
  .rename_i x y _ _ _ ha _;rw[hargs x (by rw[ha];simp),hargs y (by rw[ha];simp)]
  .rfl
 |_=>rfl
end
end Go.Sx
