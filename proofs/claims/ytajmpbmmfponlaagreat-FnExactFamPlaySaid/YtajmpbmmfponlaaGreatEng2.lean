/- The abstract machine, part 2: a reflective interpreter of the program's code over data, with its soundness over the model. -/
import Derived.Test.YtajmpbmmfponlaaGreatEng1
open Bool renaming and_eq_true→Xh,not_eq_true'→Xai,false_eq_true→Xbv
open List renaming nodup_cons→Xz,getElem?_append_left→Xar,getD→Xd,getElem?_append_right→Xaq,ext_getElem?→Xeq,getElem?_eq_none→Xbh,replicate→Xy,getElem?_map→Xah,prefix_refl→Xfa,nil_prefix→Xgb,prefix_append_right_inj→Xeh,length_replicate→Xff,append_nil→Xcj,getElem?_toArray→Xdx,append_assoc→Xbk,getElem?_append→Xao,getElem?_take→Xba,getElem?_drop→Xay,getElem?_eq_some_iff→Xn,drop_drop→Xdi,take_append_drop→Xcr,length_take→Xbc,mem_cons_self→Xg,mem_cons_of_mem→Xe,mem_map_of_mem→Xae,pairwise_cons→Xv,mem_append_left→Xi,mem_append_right→Xf,length_append→Xw,map_append→Xo,pairwise_append→Xac,mem_append→Xk,mem_map→Xt,mem_cons→Xm,getElem?_of_mem→Xdk,getElem?_eq_getElem→Xr,eq_nil_of_length_eq_zero→Xx,map_toArray→Xdm,map_cons→Xag,map_nil→Xca,append→Xp,take_length→Xdv,mem_singleton→Xab,length→Xb,append_inj→Xfb,length_map→Xad,mem_of_mem_take→Xec,mem_of_mem_drop→Xfm,nodup_append→Xaa,all_eq_true→Xaf,nodup_nil→Xcz,length_drop→Xdl,sublist_append_right→Xer,all_cons→Xcb,mem_of_getElem?→Xan
open Nat renaming succ_mul→Xbp,mul_le_mul_right→Xax,add_zero→Xap,le_trans→Xaz,zero_mul→Xeb,le_refl→Xj,min_eq_left→Xbu,add_assoc→Xak,lt_succ_self→Xbl,add_mul→Xci,zero_le→Xbq,eq_of_beq_eq_true→Xbs,add_sub_cancel_left→Xaw,le_succ→Xcx
open Array renaming range→Xby,foldl_toList→Xek,length_toList→Xal
open Int renaming mul_le_mul_of_nonneg_right→Xef
open Option renaming map_eq_some_iff→Xs,map_some→Xbt,bind_eq_some_iff→Xbn,bind_some→Xc
namespace Go.Sx
set_option linter.unusedVariables false
set_option linter.unusedSimpArgs false
theorem WbK:∀l:List Nat,WaJ l=true↔l.Nodup
 | []=>by simp[WaJ]
 |i::l=>by
  have h:=WeM i l;simp only[WaJ,Xh,Xai,Xz,WbK l];constructor
  .rintro⟨h1,h2⟩;exact⟨λhm=>(by rw[h.2 hm]at h1;exact absurd h1 (by simp)),h2⟩
  .rintro⟨h1,h2⟩;refine⟨?_,h2⟩;cases he:Wa7 i l with
   |false=>rfl
   |true=>exact absurd (h.1 he) h1
theorem WmZ{α:Type}(l:List α)(d:α):∀(n i:Nat),i<n*l.length->(rep l n)[i]?=some (l.getD (i%l.length) d)
 |0,i,h=>by simp at h
 |n+1,i,h=>by
  rw[rep];by_cases hi:i<l.length
  .rw[Xar hi,Nat.mod_eq_of_lt hi];simp[Xd,hi]
  .have cI:l.length<=i:=by omega
   rw[Xaq cI,WmZ l d n (i-l.length) (by rw[Xbp]at h;omega)];rw[Nat.mod_eq_sub_mod cI]
theorem WeC(z:Array Value)(n:Nat):((Xby (n*z.size)).map λi=>z[i%z.size]!).toList=rep z.toList n:=by
 apply Xeq;intro i;by_cases hi:i<n*z.size
 .rw[WmZ z.toList default n i (by simpa using hi)];have hpos:0<z.size:=Nat.pos_of_ne_zero (λh=>by rw[h]at hi;simp at hi);have hm:i%z.size<z.size:=Nat.mod_lt _ hpos;simp[hi,Xd,hm]
 .have h1:n*z.size<=i:=by omega
  rw[Xbh (by simp;exact h1),Xbh (by rw[Wia];simp;exact h1)]
section
variable{w0:World}{F:CS}{nt:Slots}{G0 G:GH}{ν:Nat->Nu}{objs:WP}{nx:Nat}{st ac:St}{a:Act}{w w':World}{P:Program}{T:Tab}
theorem Wf0(hh:HRel w0 F G ν objs nx w){e:Ty}(he:e.data=true):
  ∀(l:List (Nat×AVal)) (ps:List (Nat×Value)) (xs ys:List e.den) (vs:Array Value),EncL (Enc G e) xs vs.toList->ps.length=l.length->
   (∀(j:Nat) (p:Nat×AVal) (q:Nat×Value),l[j]?=some p->ps[j]?=some q->p.1=q.1/\AValRel G ν nx p.2 q.2)->Wmd e objs l xs=some ys->
   ∃vs',Instr.fill (λi=>some (i*e.size,e.size)) vs ps=some vs'/\EncL (Enc G e) ys vs'.toList/\ys.length=xs.length
 | [],[],xs,ys,vs,hc,_,_,h=>by simp[Wmd]at h;subst h;exact⟨vs,rfl,hc,rfl⟩
 |(i,x)::l,[],_,_,_,_,hl,_,_=>by simp at hl
 | [],_::_,_,_,_,_,hl,_,_=>by simp at hl
 |(i,x)::l,(i',v)::ps,xs,ys,vs,hc,hl,hp,h=>by
  obtain⟨hi,hx⟩:=hp 0 _ _ rfl rfl;simp only at hi hx;subst hi;simp only[Wmd]at h;split at h
  .rename_i ds dJ;split at h
   .rename_i d hf;split at h
    .rename_i hlt;obtain⟨h1,_⟩:=Wcd hx dJ;have henc:=Wjo hh h1 he hf;have hlen:v.cells.toList.length=e.size:=Enc_len _ _ _ henc;have cT:vs.toList.length=xs.length*e.size:=EncL_len (λx c hc=>Enc_len e x c hc) _ _ hc;have bd:i*e.size+e.size<=xs.length*e.size:=by rw[←Xbp];exact Xax _ hlt
     have cm:=Wgg v.cells.toList (i*e.size) 0 vs (by simp at hlen cT⊢;omega);simp only[Xap]at cm;have fO:=WhV (λx c hc=>Enc_len e x c hc) xs vs.toList i d v.cells.toList hc hlt henc;obtain⟨vs',h4,h5,h6⟩:=Wf0 hh he l ps (xs.set i d) ys _ (by rw[cm,hlen];exact fO) (by simpa using hl) (λj p q hj hq=>hp (j+1) p q (by simpa using hj) (by simpa using hq)) h;refine⟨vs',?_,h5,by rw[h6];simp⟩;simp only[Instr.fill];rw[if_neg (by simp at hlen cT⊢;omega)];rw[←h4];congr 1;rw[←Xek];simp
    .simp at h
   .simp at h
  .simp at h
theorem Wf7(hT:WW P T)(hr:Rel w0 F nt G0 G ν st a w){o:Oper}(hd:∀d,o.dst=some d->nt.Ok d){t:TypeId}{n:Nat}{parts:Array (Nat×Operand)}(ho:o.op= .buildSlice t n parts)
  {ty:Ty} {et:TypeId} {te:TE} {ps:List (Nat×AVal)} {xs:List te.ty.den} (hl:We T t=some ⟨ty,false,.slice et⟩) (hle:We T et=some te)
  (h1:ps.length=parts.toList.length) (h2:∀(j:Nat) (p:Nat×AVal) (q:Nat×Operand),ps[j]?=some p->parts.toList[j]?=some q->p.1=q.1/\AValRel G ν st.nx p.2 (a.eval q.2))
  (hf:Wmd te.ty st.objs ps (Xy n te.ty.dflt)=some xs) (hsz:n*te.ty.size<=16777216) (ay:te.ty.data=true) (hp:te.plain=true):
  Done P w0 F nt G0 o a w (st.new o.dst (.arr te.ty xs) (.s (.one (.own st.nx)))):=by
 have hu:=(hT _ _ hl).und.2.1;obtain⟨z,hz,bV⟩:=Wdh (w:=w) (hT _ _ hle);rw[WaV hp]at bV;have dK:z.cells.size=te.ty.size:=by rw[←Xal,bV,WaH]
 have bF:=WeC z.cells n;rw[dK,bV]at bF;obtain⟨vs',h3,h4,h5⟩:=Wf0 hr.h ay ps (parts.toList.map λp=>(p.1,a.eval p.2)) _ xs ((Xby (n*te.ty.size)).map λi=>z.cells[i%te.ty.size]!) (by rw[bF];exact WeT ay n) (by simp[h1]) (λj p q hp hq=>by
   simp only[Xah]at hq;cases cH:parts.toList[j]? with
   |none=>simp only[Array.getElem?_toList]at cH;simp[cH]at hq
   |some q'=>
    rw[cH]at hq;simp at hq;subst hq;exact h2 j p q' hp cH) hf
 have fj:xs.length=n:=by rw[h5];simp
 have hpos:=WaP te.ty;have hn:n<=16777216:=Xaz (Nat.le_mul_of_pos_right n hpos) hsz;have la:vs'.size=n*te.ty.size:=by
  rw[←Xal,EncL_len (λx c hc=>Enc_len te.ty x c hc) _ _ h4,fj]
 obtain⟨⟨ν',h6⟩,_⟩:=Wks (t:=et) (vs:=vs') hr hd (e:=te.ty) ay (xs:=xs) (cap:=n) (cs:=vs'.toList) (by omega) (by unfold maxLen;omega) la h4 (Xfa _) w rfl rfl rfl rfl;rw[fj]at h6;refine⟨_,_,_,G,ν',?_,.inl rfl,h6⟩;have dh:(parts.map λx=>match x with|(i,x)=>(i,a.eval x)).toList=parts.toList.map λp=>(p.1,a.eval p.2):=by simp
 simp only[execOp,ho,Instr.buildSlice,Sem.run_bind,Wb hu,Result.andThen_ok,(hT _ _ hle).sizeOf,WG hp,if_neg (show¬n*te.ty.size>2^24 by omega),Sem.run_pure];by_cases h0:n*te.ty.size=0
 .have nO:n=0:=by rcases Nat.mul_eq_zero.1 h0 with h|h<;>omega
  have e1:((Xby (n*te.ty.size)).map λi=>z.cells[i%te.ty.size]!)= #[]:=by rw[h0];simp
  rw[e1]at h3;have e2:∀zz:Array Value,((Xby (n*te.ty.size)).map λi=>zz[i%zz.size]!)= #[]:=λzz=>by rw[h0];simp
  simp only[if_pos h0,Sem.run_pure,Result.andThen_ok,e2,dh,h3,WbH];rfl
 .simp only[if_neg h0,Sem.run_bind,hz,Result.andThen_ok,Sem.run_pure,dK,dh,h3,WbH]
theorem WgE(hT:WW P T)(hr:Rel w0 F nt G0 G ν st a w){o:Oper}(hd:∀d,o.dst=some d->nt.Ok d){t:TypeId}{n c:Operand}(ho:o.op= .makeSlice t n c)
  {ty:Ty} {et:TypeId} {te:TE} {n' c':Int} {k k':IntKind} (hl:We T t=some ⟨ty,false,.slice et⟩) (hle:We T et=some te) (hn:a.eval n= .int k n') (hc:a.eval c= .int k' c')
  (h0:0<=n') (h1:n'<=c') (h2:WT c'.toNat=true) (ay:te.ty.data=true) (hp:te.plain=true):
  Done P w0 F nt G0 o a w (st.new o.dst (.arr te.ty (Xy n'.toNat te.ty.dflt)) (.s (.one (.own st.nx)))):=by
 have hu:=(hT _ _ hl).und.2.1;obtain⟨i,z,hi,hs,hz,bV,iA⟩:=(hT _ _ hle).info;rw[WaV hp]at bV;rw[WG hp]at hs;have dK:z.cells.size=te.ty.size:=by rw[←Xal,bV,WaH]
 have aj:c'.toNat<=1073741824:=by simpa [WT]using h2
 have bF:=WeC z.cells c'.toNat;rw[dK,bV]at bF;have iB:rep (WaT te.ty) n'.toNat<+:rep (WaT te.ty) c'.toNat:=by
  have:∀(l:List Value) (p q:Nat),rep l p<+:rep l (p+q):=λl p q=>by
   induction p with
   |zero=>exact Xgb
   |succ p ih=>rw[Nat.succ_add];simp only[rep];exact(Xeh _).2 ih
  have h:=this (WaT te.ty) n'.toNat (c'.toNat-n'.toNat)
  rwa [show n'.toNat+(c'.toNat-n'.toNat)=c'.toNat by omega]at h
 have hb:(i.bytes:Int)*c'<=281474976710656:=by
  have h3:(i.bytes:Int)*c'<=4096*c':=Xef (by omega) (by omega);omega
 have hm:madeCells z.cells (c'.toNat*i.size)=(Xby (c'.toNat*te.ty.size)).map λi=>z.cells[i%te.ty.size]!:=by
  rw[hs,←dK];rfl
 obtain⟨⟨ν',h6⟩,_⟩:=Wks (t:=et) (vs:=(Xby (c'.toNat*te.ty.size)).map λi=>z.cells[i%te.ty.size]!) hr hd (e:=te.ty) ay (xs:=Xy n'.toNat te.ty.dflt) (cap:=c'.toNat) (cs:=rep (WaT te.ty) n'.toNat) (by simp;omega) (by unfold maxLen;omega)
  (by simp) (WeT ay _) (by rw[bF];exact iB) w rfl rfl rfl rfl
 rw[Xff]at h6;refine⟨_,_,_,G,ν',?_,.inl rfl,h6⟩;simp only[execOp,ho,hn,hc,Sem.run_bind,run_make (P:=P) w t et i z hu hi hz k k' n' c' h0 h1 hb (by omega),Result.andThen_ok,hm,Sem.run_pure]
theorem WfU(hT:WW P T)(hr:Rel w0 F nt G0 G ν st a w){o:Oper}(hd:∀d,o.dst=some d->nt.Ok d){t:TypeId}{n c:Operand}(ho:o.op= .makeSlice t n c)
  {ty:Ty} {et:TypeId} {te:TE} {e:Ty} {n' c':Int} {k k':IntKind} (hl:We T t=some ⟨ty,false,.slice et⟩) (hle:We T et=some te) (hn:a.eval n= .int k n') (hc:a.eval c= .int k' c')
  (h0:0<=n') (h1:n'<=c') (h2:WT c'.toNat=true) (he:e.ro=te.ty) (hp:te.plain=true):
  Done P w0 F nt G0 o a w (st.new o.dst (.arr e (Xy n'.toNat e.dflt)) (.s (.one (.own st.nx)))):=by
 have hu:=(hT _ _ hl).und.2.1;obtain⟨i,z,hi,hs,hz,bV,iA⟩:=(hT _ _ hle).info;rw[WaV hp]at bV;rw[WG hp]at hs;have jR:te.ty.size=e.size:=by rw[←he,WaR]
 have dK:z.cells.size=te.ty.size:=by rw[←Xal,bV,WaH]
 have aj:c'.toNat<=1073741824:=by simpa [WT]using h2
 have bF:=WeC z.cells c'.toNat;rw[dK,bV]at bF;have iB:rep (WaT te.ty) n'.toNat<+:rep (WaT te.ty) c'.toNat:=by
  have:∀(l:List Value) (p q:Nat),rep l p<+:rep l (p+q):=λl p q=>by
   induction p with
   |zero=>exact Xgb
   |succ p ih=>rw[Nat.succ_add];simp only[rep];exact(Xeh _).2 ih
  have h:=this (WaT te.ty) n'.toNat (c'.toNat-n'.toNat)
  rwa [show n'.toNat+(c'.toNat-n'.toNat)=c'.toNat by omega]at h
 have hb:(i.bytes:Int)*c'<=281474976710656:=by
  have h3:(i.bytes:Int)*c'<=4096*c':=Xef (by omega) (by omega);omega
 have hm:madeCells z.cells (c'.toNat*i.size)=(Xby (c'.toNat*te.ty.size)).map λi=>z.cells[i%te.ty.size]!:=by
  rw[hs,←dK];rfl
 obtain⟨⟨ν',h6⟩,_⟩:=WfG (t:=et) (vs:=(Xby (c'.toNat*te.ty.size)).map λi=>z.cells[i%te.ty.size]!) hr hd [] (e:=e) (xs:=Xy n'.toNat e.dflt) (cap:=c'.toNat) (cs:=rep (WaT te.ty) n'.toNat) (by simp;omega) (by unfold maxLen;omega)
  (by simp[jR]) (λφ _=>by
   obtain⟨ps,g1,g2⟩:=Wo5 (G:=G) (w:=w) e n'.toNat;rw[he]at g1;exact⟨ps,g1,WiX ps g2,λp hp b o hh=>by rw[g2 p hp]at hh;exact hh.elim⟩) (by rw[bF];exact iB) w rfl rfl rfl rfl
 rw[Xff]at h6;refine⟨_,_,_,G,ν',?_,.inl rfl,h6⟩;simp only[execOp,ho,hn,hc,Sem.run_bind,run_make (P:=P) w t et i z hu hi hz k k' n' c' h0 h1 hb (by omega),Result.andThen_ok,hm,Sem.run_pure]
theorem Wjp(hT:WW P T)(hr:Rel w0 F nt G0 G ν st a w){o:Oper}(hd:∀d,o.dst=some d->nt.Ok d){t:TypeId}{parts:Array (Nat×Operand)}{x:Operand}(ho:o.op= .buildSlice t 1 parts)(bP:parts.toList= [(0,x)])
  {ty:Ty} {et:TypeId} {te:TE} {e:Ty} {xv:AVal} {ds:List Cell} {d:e.den} {m:List Nat} (hl:We T t=some ⟨ty,false,.slice et⟩) (hle:We T et=some te) (hx:AValRel G ν st.nx xv (a.eval x)) (dJ:WeQ xv=some ds)
  (hf:W1 e ds st.objs=some (d,m,[])) (hm:m.Nodup) (he:e.ro=te.ty) (hp:te.plain=true) (hsz:te.ty.size<=16777216):
  Done P w0 F nt G0 o a w (({env:=st.env,objs:=(st.nx,.arr e [d])::kill st.objs m,nx:=st.nx+1}:St).put o.dst (.s (.one (.own st.nx)))):=by
 have hu:=(hT _ _ hl).und.2.1;obtain⟨z,hz,bV⟩:=Wdh (w:=w) (hT _ _ hle);rw[WaV hp]at bV;have jR:te.ty.size=e.size:=by rw[←he,WaR]
 have dK:z.cells.size=te.ty.size:=by rw[←Xal,bV,WaH]
 have bF:=WeC z.cells 1;rw[dK,bV]at bF;simp only[rep,Xcj,Nat.one_mul]at bF;obtain⟨h1,h2⟩:=Wcd hx dJ;have cm:∀φ,HR w0 F G ν φ st.objs st.nx w->∃ps,EncP (TyRel G w e) [d] (a.eval x).cells.toList ps/\Sep (ps.map Pc.fp)/\∀p∈ps,CS.le p.fp (FromL φ st.objs m):=λφ hφ=>by
  obtain⟨ns,g1,g2,g3,_⟩:=WQ (G':=G) hφ (λ_ _ _ hh=>hh) e ds _ d m [] h1 (λi hi=>by simp at hi) hm hf;exact⟨ns,Wlc.2 g1,g2,g3⟩
 have hlen:(a.eval x).cells.size=e.size:=by
  obtain⟨φ,hφ⟩:=hr.h;obtain⟨ps,g1,_⟩:=cm φ hφ;have:=Wj _ _ _ _ (Wlc.1 g1);simpa using this
 have oL:((Xby te.ty.size).map λi=>z.cells[i%te.ty.size]!).size=te.ty.size:=by simp
 have fO:=Wgg (a.eval x).cells.toList 0 0 ((Xby te.ty.size).map λi=>z.cells[i%te.ty.size]!) (by simp;omega);have lN:((Xby te.ty.size).map λi=>z.cells[i%te.ty.size]!).toList.length=e.size:=by simp[jR]
 have cT:((a.eval x).cells.toList.zipIdx.foldl (λcs (c,j)=>cs.setIfInBounds (0+j) c) ((Xby te.ty.size).map λi=>z.cells[i%te.ty.size]!)).toList=(a.eval x).cells.toList:=by
  rw[fO];simp only[Nat.zero_add,List.take_zero,List.nil_append];rw[List.drop_eq_nil_of_le (by rw[lN];simp;omega),Xcj]
 generalize hV:(a.eval x).cells.toList.zipIdx.foldl (λcs (c,j)=>cs.setIfInBounds (0+j) c) ((Xby te.ty.size).map λi=>z.cells[i%te.ty.size]!)=V at cT;have hVs:V.size=1*e.size:=by rw[←Xal,cT];simp[hlen]
 obtain⟨⟨ν',h6⟩,_⟩:=WfG (t:=et) (vs:=V) hr hd m (e:=e) (xs:=[d]) (cap:=1) (cs:=(a.eval x).cells.toList) (by simp) (by unfold maxLen;omega) hVs cm (by rw[cT];exact Xfa _) w rfl rfl rfl rfl;refine⟨_,_,_,G,ν',?_,.inl rfl,h6⟩;have jS:Instr.fill (λi=>some (i*te.ty.size,te.ty.size)) ((Xby te.ty.size).map λi=>z.cells[i%te.ty.size]!) [(0,a.eval x)]=some V:=by
  simp only[Instr.fill,Xeb];rw[if_neg (by simp;omega),←hV];congr 1;rw[←Xek];simp
 have dh:(parts.map λx=>match x with|(i,x)=>(i,a.eval x)).toList= [(0,a.eval x)]:=by simp[bP]
 have hpos:=WaP te.ty;simp only[execOp,ho,Instr.buildSlice,Sem.run_bind,Wb hu,Result.andThen_ok,(hT _ _ hle).sizeOf,WG hp,Nat.one_mul,if_neg (show¬te.ty.size>2^24 by omega),if_neg (show¬te.ty.size=0 by omega),Sem.run_pure,hz,dK,dh,jS,WbH];rfl
theorem WcQ{t:TypeId}{te:TE}(aP:TEok P T t te){b off:Nat}{v:Value}{cur:Array Value}{TT:TypeId}(hg:w.heap[b]?=some (.cells cur TT (0,0)))(hsz:te.size=v.cells.size)(bd:off+v.cells.size<=cur.size)(h1:∀u∈v.cells.toList,u.oneCell'=true):
  (storeVar t ⟨b,off,none⟩ v).run P w= .ok () (w.setRow b (cur.toList.take off++v.cells.toList++cur.toList.drop (off+v.cells.size)).toArray):=by
 have h:=run_storeCells_at P b off TT v.cells.toList 0 cur w hg (by simpa using bd) h1;simp only[Xap,Xal]at h;simp[storeVar,aP.sizeOf,hsz,h]
theorem WbQ{b k:Nat}{vs:Array Value}{T:TypeId}{news:List Value}(h:w.heap[b]?=some (Obj.cells vs T (0,0)))(bd:k+news.length<=vs.size):
  WLe (rng b k news.length) w (w.setRow b (vs.toList.take k++news++vs.toList.drop (k+news.length)).toArray)/\Mem (w.setRow b (vs.toList.take k++news++vs.toList.drop (k+news.length)).toArray) b k news:=by
 have hk:(vs.toList.take k).length=k:=by simp;omega
 constructor
 .refine WLe.setRow h (by simp;omega) (λo hn=>?_);have lb:¬(k<=o/\o<k+news.length):=λ⟨h1,h2⟩=>hn ⟨rfl,h1,h2⟩;simp only[Xdx,Xbk];rw[Xao,hk];split
  .rename_i hlt;rw[Xba,if_pos hlt];simp
  .rw[Xao];split
   .omega
   .rw[Xay,show k+news.length+(o-k-news.length)=o by omega];simp
 .intro j v hj;rw[cell_of_row _ b _ _ T (0,0) (setRow_heap w b vs _ T (0,0) h)];have hlt:j<news.length:=(Xn.1 hj).1;simp only[Xdx,Xbk];rw[Xaq (by omega),hk,Xar (by omega),show k+j-k=j by omega];exact hj
theorem Wds{b o k:Nat}{vs us:List Value}(hm:Mem w b o vs)(hw:WLe (rng b (o+k) us.length) w w')(hu:Mem w' b (o+k) us)(hk:k+us.length<=vs.length):Mem w' b o (vs.take k++us++vs.drop (k+us.length)):=λj v hj=>by
 have dC:∀v',vs[j]?=some v'->¬(k<=j/\j<k+us.length)->w'.cell? ⟨b,o+j,none⟩=some v':=λv' hv hn=>by
  have h1:=hm j v' hv;rw[hw.cell b (o+j) (block_lt_of_cell h1) (λ⟨_,h2,h3⟩=>hn ⟨by omega,by omega⟩)];exact h1
 have d6:(vs.take k).length=k:=by simp;omega
 rw[Xbk,Xao,d6]at hj;split at hj
 .rename_i hlt;rw[Xba,if_pos hlt]at hj;exact dC v hj (by omega)
 .rw[Xao]at hj;split at hj
  .have:=hu (j-k) v hj;rw[show o+j=o+k+(j-k) by omega];exact this
  .rw[Xay,show k+us.length+(j-k-us.length)=j by omega]at hj;exact dC v hj (by omega)
theorem HR.turn{φ:Nat->CS}(h:HR w0 F G ν φ objs nx w){id:Nat}{ob bp:Ob}{m:List Nat}(ho:We objs id=some ob)(hd:ob≠ .dead){S:CS}(hw:WLe S w w')(hs:CS.le S (φ id))
  (ci:Wbv G ν nx w' id (λb o=>φ id b o\/FromL φ objs m b o) bp):HRel w0 F G ν ((id,bp)::kill objs m) nx w':=by
 have hl:Live objs id:=⟨ob,ho,hd⟩;exact⟨_,h.put (ν':=ν) (λ_ _=>rfl) (Xj _) (h.lt id hl) (hw.mono λb o hh=>⟨id,.inl rfl,hl,hs b o hh⟩) (λb o hh=>by
  rcases hh with hh|⟨i,hi,h1,h2⟩
  .exact .inl ⟨id,.inl rfl,hl,hh⟩
  .exact .inl ⟨i,.inr hi,h1,h2⟩) (λ_=>ci)⟩
theorem WlV(hT:WW P T)(hr:Rel w0 F nt G0 G ν st a w){o:Oper}{t:TypeId}{x y:Operand}(ho:o.op= .store t x y)(fm:o.dst=none){p v:AVal}(hx:AValRel G ν st.nx p (a.eval x))(hy:AValRel G ν st.nx v (a.eval y))
  (h:WbU T st t p v=some ac):Done P w0 F nt G0 o a w ac:=by
 unfold WbU at h;split at h
 .rename_i te id off ds hl dJ;obtain⟨eb,gL⟩:=Wcd hy dJ;split at h
  .rename_i cs al;split at h
   .rename_i aG;simp only[Xh,decide_eq_true_eq]at aG;obtain⟨⟨hs,dr⟩,bd⟩:=aG;injection h with h;subst h;obtain⟨⟨_,b,hb,fP⟩,_⟩:=hx;obtain⟨φ,hφ⟩:=hr.h;obtain⟨b',vs,hb',⟨row,TT,di,hrow⟩,hmem,aF,cU⟩:=hφ.ob _ _ al;rw[hb]at hb';injection hb' with hb';subst hb';have hlen:(a.eval y).cells.size=ds.length:=by have:=eb.1;simpa using this
    have hrun:=WcQ (w:=w) (hT _ _ hl) (b:=b) (off:=(ν id).off+off) (v:=a.eval y) di (by rw[WG dr,hlen];exact hs) (by omega) gL;obtain⟨hw,hm⟩:=WbQ (k:=(ν id).off+off) (news:=(a.eval y).cells.toList) di (by simp;omega);simp only[Xal]at hw hm;generalize w.setRow b (row.toList.take ((ν id).off+off)++(a.eval y).cells.toList++row.toList.drop ((ν id).off+off+(a.eval y).cells.size)).toArray=W at hrun hw hm;have ci:HRel w0 F G ν ((id,.box (WcE cs off ds))::st.objs) st.nx W:=by
     refine hφ.turn (m:=[]) al (by simp) hw (λb' o ⟨e,h1,h2⟩=>cU b' o ⟨e,by omega,by omega⟩) ?_;refine⟨b,_,hb,by rw[Wdn bd];exact hw.rows.row _ _ ⟨row,TT,di,hrow⟩,Wds hmem (us:=(a.eval y).cells.toList) (by rw[Xal];exact hw) hm (by rw[aF.1];simp;omega),Wdd aF eb,λb o hh=>.inl (cU b o (by rw[Wdn bd]at hh;exact hh))⟩
    refine⟨.skip,undef,W,G,ν,?_,.inr ⟨rfl,rfl⟩,?_⟩
    .simp only[execOp,ho,fP,Instr.storeAt,Instr.sureAddr,Sem.run_bind,Sem.run_pure,Result.andThen_ok,hrun]
    .rw[fm];exact hr.on (λ_ _ _ hh=>hh) (λ_ _=>rfl) (Xj _) ci hr.gx
   .simp at h
  .simp at h
 .rename_i te id i off ds hl dJ;obtain⟨eb,gL⟩:=Wcd hy dJ;split at h
  .rename_i e xs al;split at h
   .rename_i aG;simp only[Xh,decide_eq_true_eq]at aG;obtain⟨⟨⟨hs,dr⟩,bd⟩,ay⟩:=aG;split at h
    .rename_i d hf;injection h with h;subst h;obtain⟨⟨_,lO,b,hb,fP⟩,_⟩:=hx;obtain⟨φ,hφ⟩:=hr.h;have hown:OwnL w (TyRel G w e) e.size (ν id) xs (φ id):=hφ.ob _ _ al;obtain⟨fj,h4,h5,fQ,cs,h7,h8,h9⟩:=Wcc ay hown hb;obtain⟨row,TT,di,hrow⟩:=fQ;have bc:=hown.2.1;have hlt:i<xs.length:=by omega
     have hlen:(a.eval y).cells.toList.length=ds.length:=eb.1;have bK:(a.eval y).cells.size=ds.length:=by simpa using hlen
     have hcl:cs.length=xs.length*e.size:=EncL_len (λx c hc=>Enc_len e x c hc) _ _ h7;have oM:i*e.size+e.size<=xs.length*e.size:=by rw[←Xbp];exact Xax _ hlt
     have oN:xs.length*e.size<=(ν id).cap*e.size:=Xax _ h4;have oO:=WjD (λx c hc=>Enc_len e x c hc) xs cs i e.dflt h7 hlt;have lP:=Wdd (off:=off) (W9 (G:=G) (ν:=ν) (nx:=st.nx) e _ _ oO) eb;have henc:=Wjo hr.h lP ay hf;have fO:=WhV (λx c hc=>Enc_len e x c hc) xs cs i d _ h7 hlt henc;have hrun:=WcQ (w:=w) (hT _ _ hl) (b:=b) (off:=(ν id).off+(i*e.size+off)) (v:=a.eval y) di (by rw[WG dr];omega) (by omega) gL;obtain⟨hw,hm⟩:=WbQ (k:=(ν id).off+(i*e.size+off)) (news:=(a.eval y).cells.toList) di (by omega);simp only[Xal]at hw hm;generalize w.setRow b (row.toList.take ((ν id).off+(i*e.size+off))++(a.eval y).cells.toList++row.toList.drop ((ν id).off+(i*e.size+off)+(a.eval y).cells.size)).toArray=W at hrun hw hm;have iC:cs.take (i*e.size+off)++(a.eval y).cells.toList++cs.drop (i*e.size+off+(a.eval y).cells.toList.length)=
       cs.take (i*e.size)++(((cs.drop (i*e.size)).take e.size).take off++(a.eval y).cells.toList++((cs.drop (i*e.size)).take e.size).drop (off+(a.eval y).cells.toList.length))++cs.drop (i*e.size+e.size):=by
      rw[hlen];have e1:cs.take (i*e.size+off)=cs.take (i*e.size)++((cs.drop (i*e.size)).take e.size).take off:=by
       rw[List.take_take,Xbu (by omega),←List.take_add]
      have e2:cs.drop (i*e.size+off+ds.length)=((cs.drop (i*e.size)).take e.size).drop (off+ds.length)++cs.drop (i*e.size+e.size):=by
       rw[List.drop_take,Xdi];have:cs.drop (i*e.size+e.size)=(cs.drop (i*e.size+(off+ds.length))).drop (e.size-(off+ds.length)):=by rw[Xdi];congr 1;omega
       rw[this,Xcr];congr 1;omega
      rw[e1,e2];simp
     have ci:HRel w0 F G ν ((id,.arr e (xs.set i d))::st.objs) st.nx W:=by
      refine hφ.turn (m:=[]) al (by simp) hw (λb' o ⟨e',h1,h2⟩=>h9 b' o ⟨e',by omega,by omega⟩) ?_;refine Wi0 ay hb (by simpa using fj) bc (by simpa using h4) h5 (hw.rows.row _ _ ⟨row,TT,di,hrow⟩) fO ?_ (λb o hh=>.inl (h9 b o hh));rw[←iC];exact Wds h8 (us:=(a.eval y).cells.toList) (by rw[Xal];exact hw) hm (by omega)
     refine⟨.skip,undef,W,G,ν,?_,.inr ⟨rfl,rfl⟩,?_⟩
     .simp only[execOp,ho,fP,bc,Instr.storeAt,Instr.sureAddr,Sem.run_bind,Sem.run_pure,Result.andThen_ok,hrun]
     .rw[fm];exact hr.on (λ_ _ _ hh=>hh) (λ_ _=>rfl) (Xj _) ci hr.gx
    .simp at h
   .split at h
    .rename_i aG;simp only[Xh,decide_eq_true_eq]at aG;obtain⟨⟨⟨hs,dr⟩,lQ⟩,oP⟩:=aG;subst lQ;split at h
     .rename_i d m hf;split at h
      .rename_i au;injection h with h;subst h;have au:(id::m).Nodup:=(WbK _).1 au;obtain⟨ld,oQ⟩:=Xz.1 au;obtain⟨⟨_,lO,b,hb,fP⟩,_⟩:=hx;obtain⟨φ,hφ⟩:=hr.h;have hown:OwnL w (TyRel G w e) e.size (ν id) xs (φ id):=hφ.ob _ _ al;have an:Live st.objs id:=⟨_,al,by simp⟩;obtain⟨fj,bc,h3⟩:=hown;simp only[hb]at h3;obtain⟨h4,h5,fQ,cs,ps,h7,h8,h9,ba⟩:=h3;obtain⟨row,TT,di,hrow⟩:=fQ;have hlt:i<xs.length:=by omega
       have hlen:(a.eval y).cells.toList.length=ds.length:=eb.1;have bK:(a.eval y).cells.size=ds.length:=by simpa using hlen
       have oM:i*e.size+e.size<=xs.length*e.size:=by rw[←Xbp];exact Xax _ hlt
       have oN:xs.length*e.size<=(ν id).cap*e.size:=Xax _ h4;obtain⟨c1,c,c2,p1,pc,p2,g1,g2,g3,g4,g5⟩:=Wkv h7 e.dflt hlt;have l1:=Waq (λx c q hx=>Wj e x c q hx) _ _ _ g3;rw[Xbc,Xbu (by omega)]at l1;have lc:=Wj _ _ _ _ g4;obtain⟨ns,t1,t2,t3,t4,_⟩:=WQ (G':=G) hφ (λ_ _ _ hh=>hh) e ds _ d m [] eb (λi hi=>by simp at hi) oQ hf;have hrun:=WcQ (w:=w) (hT _ _ hl) (b:=b) (off:=(ν id).off+(i*e.size+0)) (v:=a.eval y) di (by rw[WG dr];omega) (by omega) gL;obtain⟨hw,hm⟩:=WbQ (k:=(ν id).off+(i*e.size+0)) (news:=(a.eval y).cells.toList) di (by omega);simp only[Xal]at hw hm;generalize w.setRow b (row.toList.take ((ν id).off+(i*e.size+0))++(a.eval y).cells.toList++row.toList.drop ((ν id).off+(i*e.size+0)+(a.eval y).cells.size)).toArray=W at hrun hw hm;have ee:CS.le (rng b ((ν id).off+(i*e.size+0)) (a.eval y).cells.size) (rng b (ν id).off ((ν id).cap*e.size)):=λb' o ⟨e',k1,k2⟩=>⟨e',by omega,by omega⟩;have dt:=ba _ (Xg ..);have hbl:∀p∈p1++(pc++p2),∀b o,p.fp b o->b<w.heap.size:=λp hp b o hh=>hφ.bl id b o an (ba p.fp (Xe _ (Xae (by rw[g2];exact hp))) b o hh);obtain⟨q1,q2⟩:=Xv.1 h9;have eN:∀p∈p1++(pc++p2),Same p.fp w W:=λp hp=>hw.same ((q1 p.fp (Xae (by rw[g2];exact hp))).mono ee (λ_ _ hh=>hh)) (hbl p hp);have fR:∀p∈ns,Same p.fp w W:=λp hp=>hw.same (λb o k1 k2=>by
        obtain⟨j,hj,k3,k4⟩:=t3 p hp b o k2;have:=hφ.inj id j b o an k3 (dt b o (ee b o k1)) k4;subst this;exact ld hj) (λb o hh=>by
        obtain⟨j,hj,k3,k4⟩:=t3 p hp b o hh;exact hφ.bl j b o k3 k4)
       have hEnc:EncP (TyRel G W e) (xs.set i d) (c1++((a.eval y).cells.toList++c2)) (p1++(ns++p2)):=by
        refine WkV hlt ?_ (W5 (λ_ _ _ hh=>hh) e _ _ _ fR t1) ?_
        .exact Wa6 (Q:=λq=>Same q.fp w W) (λx c q hq hx=>W5 (λ_ _ _ hh=>hh) e x c q hq hx) _ _ _ (λq hq=>eN q (Xi _ hq)) g3
        .exact Wa6 (Q:=λq=>Same q.fp w W) (λx c q hq hx=>W5 (λ_ _ _ hh=>hh) e x c q hq hx) _ _ _ (λq hq=>eN q (Xf _ (Xf _ hq))) g5
       have hMem:Mem W b (ν id).off (c1++((a.eval y).cells.toList++c2)):=by
        have:=Wds h8 (k:=i*e.size+0) (us:=(a.eval y).cells.toList) (by rw[Xal];exact hw) hm (by rw[g1];simp;omega);rw[g1,Xap,List.take_append_of_le_length (by omega),List.take_of_length_le (by omega)]at this;have jT:(c1++(c++c2)).drop (i*e.size+(a.eval y).cells.toList.length)=c2:=by
         rw[←Xbk,show i*e.size+(a.eval y).cells.toList.length=(c1++c).length by rw[Xw];omega,List.drop_left]
        rw[jT,Xbk]at this;exact this
       have ci:HRel w0 F G ν ((id,.arr e (xs.set i d))::kill st.objs m) st.nx W:=by
        refine hφ.turn al (by simp) hw (λb' o hh=>dt b' o (ee b' o hh)) ?_;refine⟨by simpa using fj,bc,?_⟩;simp only[hb];rw[g2,Xo,Xo]at q2 q1;have qA:=Xac.1 q2;have qB:=Xac.1 qA.2.1;have lR:∀p∈ns,∀s,CS.le s (φ id)->CS.disj p.fp s:=λp hp s hs b o k1 k2=>by
         obtain⟨j,hj,k3,k4⟩:=t3 p hp b o k1;have:=hφ.inj id j b o an k3 (hs b o k2) k4;subst this;exact ld hj
        have bP:∀p∈p1++(pc++p2),CS.le p.fp (φ id):=λp hp=>ba p.fp (Xe _ (Xae (by rw[g2];exact hp)));refine⟨by simpa using h4,h5,hw.rows.row _ _ ⟨row,TT,di,hrow⟩,_,p1++(ns++p2),hEnc,hMem,Xv.2 ⟨λs hs=>?_,?_⟩,λs hs=>?_⟩
        .simp only[Xo,Xk]at hs;rcases hs with hs|hs|hs
         .exact q1 s (Xi _ hs)
         .obtain⟨p,hp,rfl⟩:=Xt.1 hs;exact(lR p hp _ dt).symm
         .exact q1 s (Xf _ (Xf _ hs))
        .rw[Xo,Xo];refine Wjv (Xac.2 ⟨qA.1,qB.2.1,λs hs t ht=>qA.2.2 s hs t (Xf _ ht)⟩) t2 (λs hs t ht=>?_);obtain⟨p,hp,rfl⟩:=Xt.1 hs;rcases Xk.1 ht with ht|ht
         .obtain⟨q,hq,rfl⟩:=Xt.1 ht;exact lR p hp _ (bP q (Xi _ hq))
         .obtain⟨q,hq,rfl⟩:=Xt.1 ht;exact lR p hp _ (bP q (Xf _ (Xf _ hq)))
        .intro b o hh;rcases Xm.1 hs with rfl|hs
         .exact .inl (dt b o hh)
         .simp only[Xo,Xk]at hs;rcases hs with hs|hs|hs
          .obtain⟨q,hq,rfl⟩:=Xt.1 hs;exact .inl (bP q (Xi _ hq) b o hh)
          .obtain⟨q,hq,rfl⟩:=Xt.1 hs;exact .inr (t3 q hq b o hh)
          .obtain⟨q,hq,rfl⟩:=Xt.1 hs;exact .inl (bP q (Xf _ (Xf _ hq)) b o hh)
       refine⟨.skip,undef,W,G,ν,?_,.inr ⟨rfl,rfl⟩,?_⟩
       .simp only[execOp,ho,fP,bc,Instr.storeAt,Instr.sureAddr,Sem.run_bind,Sem.run_pure,Result.andThen_ok,hrun]
       .rw[fm];exact hr.on (λ_ _ _ hh=>hh) (λ_ _=>rfl) (Xj _) ci hr.gx
      .simp at h
     .simp at h
    .simp at h
  .simp at h
 .simp at h
end
end Go.Sx
namespace Go.Sx
set_option linter.unusedVariables false
set_option linter.unusedSimpArgs false
theorem Wpv{G:GH}(t:Ty)(d:t.den)(cs:List Value)(h:Enc G t d cs):∀u∈cs,u.oneCell'=true:=λu hu=>by
 obtain⟨j,hj⟩:=Xdk hu;have hc:=W9 (ν:=λ_=>⟨none,0,0,0,0⟩) (nx:=0) t d cs h;have hlt:j<(split t d).length:=by rw[←hc.1];exact(Xn.1 hj).1
 exact(hc.2 j _ u (Xr hlt) hj).2
theorem WkS{G:GH}{t:Ty}:∀(l:List t.den) (cs:List Value),EncL (Enc G t) l cs->∀u∈cs,u.oneCell'=true
 | [],cs,h,u,hu=>by simp[EncL]at h;subst h;simp at hu
 |x::l,cs,⟨c1,c2,he,h1,h2⟩,u,hu=>by
  subst he;rcases Xk.1 hu with hu|hu
  .exact Wpv t x c1 h1 u hu
  .exact WkS l c2 h2 u hu
theorem WnQ{G:GH}{w:World}(t:Ty)(d:t.den)(cs:List Value)(ps:List Pc)(h:TyRel G w t d cs ps):∀u∈cs,u.oneCell'=true:=λu hu=>by
 obtain⟨j,hj⟩:=Xdk hu;have hc:=WfE (ν:=λ_=>⟨none,0,0,0,0⟩) (nx:=0) t d cs ps h;have hlt:j<(split t d).length:=by rw[←hc.1];exact(Xn.1 hj).1
 exact(hc.2 j _ u (Xr hlt) hj).2
theorem Wi9{G:GH}{w:World}{t:Ty}:∀(l:List t.den) (cs:List Value) (ps:List Pc),EncP (TyRel G w t) l cs ps->∀u∈cs,u.oneCell'=true
 | [],cs,ps,h,u,hu=>by rw[h.1]at hu;simp at hu
 |x::l,cs,ps,⟨c1,c2,p1,p2,he,hp,h1,h2⟩,u,hu=>by
  subst he;rcases Xk.1 hu with hu|hu
  .exact WnQ t x c1 p1 h1 u hu
  .exact Wi9 l c2 p2 h2 u hu
section
variable{w0:World}{F:CS}{nt:Slots}{G0 G:GH}{ν:Nat->Nu}{φ:Nat->CS}{objs:WP}{nx:Nat}{st ac:St}{a:Act}{w w':World}{P:Program}{T:Tab}
structure Src(w0:World)(F:CS)(G:GH)(ν:Nat->Nu)(st:St)(w:World)(e:Ty)(l:List e.den)(m:List Nat)(v:Value)(news:List Value):Prop where
 enc:∀φ,HR w0 F G ν φ st.objs st.nx w->∃ps,EncP (TyRel G w e) l news ps/\Sep (ps.map Pc.fp)/\∀p∈ps,CS.le p.fp (FromL φ st.objs m)
 rd:(v= .slice none 0 0/\l= [])\/∃(p:Addr) (c:Nat),v= .slice (some p) l.length c/\∀(j:Nat) (u:Value),news[j]?=some u->w.cell? (p.add j)=some u
theorem Wbz{e:Ty}(he:e.data=true){l:List e.den}{m:List Nat}{v:Value}{news:List Value}(h:EncL (Enc G e) l news)
  (rd:(v= .slice none 0 0/\l= [])\/∃(p:Addr) (c:Nat),v= .slice (some p) l.length c/\∀(j:Nat) (u:Value),news[j]?=some u->w.cell? (p.add j)=some u):Src w0 F G ν st w e l m v news:=
 ⟨λφ _=>⟨[],(EncP_data he l news []).2 ⟨h,rfl⟩,List.Pairwise.nil,by simp⟩,rd⟩
theorem WfX(hr:Rel w0 F nt G0 G ν st a w){e:Ty}(he:e.data=true){x:AVal}{u:Value}{l:List e.den}(m:List Nat)(hx:AValRel G ν st.nx x u)(h:Wp1 st e x=some l):∃news,Src w0 F G ν st w e l m u news:=by
 unfold Wp1 at h;split at h
 .rename_i e' d';obtain⟨gM,hd⟩:=W0 h;subst gM;simp only at hd;subst hd;obtain⟨⟨v,hv,hs⟩,_⟩:=hx;simp at hv;subst hv;rcases hs with⟨rfl,hn⟩|⟨b,off,cap,cs,rfl,h1,h2,h3,h4⟩|⟨a',cap,rfl,hn⟩
  rotate_left 2
  .exact⟨[],Wbz he (by rw[hn];rfl) (.inr ⟨a',cap,by rw[hn];rfl,λj u hj=>by simp at hj⟩)⟩
  .exact⟨[],Wbz he (by rw[hn];rfl) (.inl ⟨rfl,hn⟩)⟩
  .exact⟨cs,Wbz he h3 (.inr ⟨⟨b,off,none⟩,cap,rfl,λj u hj=>by rw[Wao];exact hr.h.g (h4 j u hj)⟩)⟩
 .injection h with h;subst h;obtain⟨hv,_⟩:=hx;simp only[CellRel]at hv;subst hv;exact⟨[],Wbz he rfl (.inl ⟨rfl,rfl⟩)⟩
 .rename_i id;split at h
  .rename_i e' xs ho;obtain⟨gM,hd⟩:=W0 h;subst gM;simp only at hd;subst hd;obtain⟨⟨_,hv⟩,_⟩:=hx;subst hv;obtain⟨S,al⟩:=hr.h.obj ho;unfold Nu.hdr;cases hb:(ν id).blk with
   |none=>have:=Wbs al hb;exact⟨[],Wbz he (by rw[this];rfl) (.inl ⟨rfl,this⟩)⟩
   |some b=>
    obtain⟨h1,h2,h3,h4,cs,h5,h6,h7⟩:=Wcc he al hb;exact⟨cs,Wbz he h5 (.inr ⟨⟨b,(ν id).off,none⟩,(ν id).cap,by rw[h1],λj u hj=>by rw[Wao];exact h6 j u hj⟩)⟩
  .simp at h
 .rename_i id lo hi;split at h
  .rename_i e' xs ho;obtain⟨ys,hc,h⟩:=Xs.1 h;subst h;obtain⟨gM,hd⟩:=W0 hc;subst gM;simp only at hd;subst hd;obtain⟨⟨_,g1,g2,g3,hv⟩,_⟩:=hx;subst hv;obtain⟨S,al⟩:=hr.h.obj ho;have bc:=al.2.1;have nP:=al.1;unfold Nu.vhdr;cases hb:(ν id).blk with
   |none=>
    have:=Wbs al hb;subst this;exact⟨[],Wbz he (by simp;rfl) (.inl ⟨rfl,by simp⟩)⟩
   |some b=>
    obtain⟨h1,h2,h3,h4,cs,h5,h6,h7⟩:=Wcc he al hb;have hl:((xs.take hi).drop lo).length=hi-lo:=by simp;omega
    by_cases lS:(ν id).cap=lo
    .have h0:(xs.take hi).drop lo= []:=Xx (by omega);exact⟨[],Wbz he (by rw[h0];rfl) (.inr ⟨_,_,by rw[hl],λj u hj=>by simp at hj⟩)⟩
    .refine⟨(cs.take (hi*e'.size)).drop (lo*e'.size),Wbz he (WcZ (λx c hc=>Enc_len e' x c hc) _ _ lo (WcM (λx c hc=>Enc_len e' x c hc) _ _ hi h5)) (.inr ⟨_,_,by rw[hl,if_neg lS],λj u hj=>?_⟩)⟩;rw[Xay,Xba]at hj;rw[Wao,bc,Xak];split at hj
     .exact h6 _ u hj
     .simp at hj
  .simp at h
 .simp at h
theorem Wm9(hr:Rel w0 F nt G0 G ν st a w){dst:Option Tmp}(hd:∀d,dst=some d->nt.Ok d)(e:Ty)(m:List Nat):
  ∃ν',Rel w0 F nt G0 G ν' (({env:=st.env,objs:=(st.nx,.arr e [])::kill st.objs m,nx:=st.nx+1}:St).put dst (.s (.one (.own st.nx)))) (a.put dst (.slice none 0 0)) w:=by
 refine⟨upd ν st.nx ⟨none,0,0,0,e.size⟩,hr.fresh hd m (.arr e []) _ (λ_ _ _=>False) _ _ (λφ _=>WLe.refl _ w) (λφ _ b o hh=>hh.elim) (λφ _=>?_) ⟨⟨Xbl _,by rw[WaI];rfl⟩,rfl⟩⟩;show OwnL _ _ _ (upd ν st.nx ⟨none,0,0,0,e.size⟩ st.nx) _ _;rw[WaI];exact⟨rfl,rfl,rfl⟩
theorem Wga(t ty e TT:TypeId)(i:TypeInfo)(ht:P.underlying t=some (.slice e))(hi:P.info? e=some i)
  (g off sLen sCap:Nat) (cur:Array Value) (hg:w.heap[g]?=some (.cells cur TT (0,0)))
  (p:Addr) (m c:Nat) (news:List Value) (hl:news.length=m*i.size) (jU:∀j u,news[j]?=some u->w.cell? (p.add j)=some u) (h1:∀u∈news,u.oneCell'=true)
  (aj:sLen+m<=sCap) (bd:off+sLen*i.size+news.length<=cur.size):
  (Builtin.append_ #[t,t] ty #[.slice (some ⟨g,off,none⟩) sLen sCap,.slice (some p) m c]).run P w=
   .ok (.slice (some ⟨g,off,none⟩) (sLen+m) sCap) (w.setRow g (cur.toList.take (off+sLen*i.size)++news++cur.toList.drop (off+sLen*i.size+news.length)).toArray):=by
 have hf:=run_firstCells_some (P:=P) w i.size m p m c news hl jU;have bT:=run_storeCells_at P g (off+sLen*i.size) TT news 0 cur w hg (by simpa using bd) h1;simp only[Xap]at bT;simp[Builtin.append_,Wb ht,sizeOf,typeInfo,hi,Builtin.lenOf,aj,hf,Wao,bT]
theorem WcY(t ty e:TypeId)(i:TypeInfo)(ht:P.underlying t=some (.slice e))(hi:P.info? e=some i)(base:Option Addr)(n cap:Nat)(h:n<=cap):
  (Builtin.append_ #[t,t] ty #[.slice base n cap,.slice none 0 0]).run P w= .ok (.slice base n cap) w:=by
 cases base<;>simp[Builtin.append_,Wb ht,sizeOf,typeInfo,hi,Builtin.lenOf,h,Builtin.firstCells,storeCells]
theorem WfT(t ty e:TypeId)(i:TypeInfo)(ht:P.underlying t=some (.slice e))(hi:P.info? e=some i)(p:Addr)(c:Nat):
  (Builtin.append_ #[t,t] ty #[.slice none 0 0,.slice (some p) 0 c]).run P w= .ok (.slice none 0 0) w:=by
 simp[Builtin.append_,Wb ht,sizeOf,typeInfo,hi,Builtin.lenOf,Builtin.firstCells,loadCells,loadCellsFrom]
theorem Wbc{o:Oper}{c:Call}(ho:o.op= .call c){s x:Operand}{t:TypeId}(hc:c.callee= .builtin .append)(ha:c.args.toList= [s,x])(bQ:c.argTypes.toList= [t,t]){v:Value}
  (hrun:(Builtin.append_ #[t,t] o.type #[a.eval s,a.eval x]).run P w= .ok v w'):(execOp a.eval o).run P w= .ok (.value v) w':=by
 obtain⟨callee,args,argTypes⟩:=c;obtain⟨args⟩:=args;obtain⟨argTypes⟩:=argTypes;simp only at hc ha bQ;subst hc ha bQ;simp only[execOp,ho,resolve,invoke,builtin,Sem.run_bind,Sem.run_pure,Result.andThen_ok,Xdm,Xag,Xca,hrun]
theorem Wo2(w:World)(need old:Nat)(e:TypeId)(h:WT need=true):need<=grownCap w need old e/\grownCap w need old e<=maxLen:=
 ⟨grownCap_ge w need old e,grownCap_le_maxLen w need old e (by simp[WT]at h;unfold maxLen;omega)⟩
theorem Whl(hr:Rel w0 F nt G0 G ν st a w){dst:Option Tmp}(hd:∀d,dst=some d->nt.Ok d)(m:List Nat){e:Ty}{xs:List e.den}{cs:List Value}(hl:cs.length=xs.length*e.size)
  (hc:∀φ,HR w0 F G ν φ st.objs st.nx w->∃ps,EncP (TyRel G w e) xs cs ps/\Sep (ps.map Pc.fp)/\∀p∈ps,CS.le p.fp (FromL φ st.objs m)) {cap:Nat} (dY:xs.length<=cap) (jV:cap<=maxLen) (z:Array Value) (hz:z.size=e.size) (t:TypeId):
  ∃ν',Rel w0 F nt G0 G ν' (({env:=st.env,objs:=(st.nx,.arr e xs)::kill st.objs m,nx:=st.nx+1}:St).put dst (.s (.one (.own st.nx)))) (a.put dst (.slice (some ⟨w.heap.size,0,none⟩) xs.length cap)) (w.drew.alloc (.cells (cs.toArray++Builtin.zeroCells z (cap-xs.length)) t)):=by
 refine(WfG hr hd m (e:=e) (xs:=xs) (cap:=cap) (cs:=cs) (vs:=cs.toArray++Builtin.zeroCells z (cap-xs.length)) (t:=t) dY jV ?_ hc ?_ w.drew rfl rfl rfl rfl).1
 .simp only[Array.size_append,List.size_toArray,size_zeroCells,hz,hl,←Xci];congr 1;omega
 .simp
structure ElT(P:Program)(t et:TypeId)(e:Ty):Prop where
 u:P.underlying t=some (.slice et)
 i:∃i z,P.info? et=some i/\i.size=e.size/\i.zero=some z/\z.cells.size=e.size/\i.bytes<=4096
theorem elT(hT:WW P T){t et:TypeId}{ty:Ty}{ag:Bool}{te:TE}{e:Ty}(hl:We T t=some ⟨ty,ag,.slice et⟩)(hle:We T et=some te)(hp:te.plain=true)(he:te.ty.size=e.size):ElT P t et e:=by
 obtain⟨i,z,hi,hsz,hz,bV,iA⟩:=(hT _ _ hle).info;rw[WG hp]at hsz;rw[WaV hp]at bV;exact⟨(hT _ _ hl).und.2.1,i,z,hi,by rw[hsz,he],hz,by rw[←Xal,bV,WaH,he],iA⟩
theorem WaM(hr:Rel w0 F nt G0 G ν st a w){o:Oper}(hd:∀d,o.dst=some d->nt.Ok d){c:Call}{s x:Operand}{t et:TypeId}{e:Ty}(hE:ElT P t et e)
  (ho:o.op= .call c) (hc:c.callee= .builtin .append) (ha:c.args.toList= [s,x]) (bQ:c.argTypes.toList= [t,t]) (bJ:a.eval s= .slice none 0 0)
  {l:List e.den} {m m':List Nat} {news:List Value} (hx:Src w0 F G ν st w e l m (a.eval x) news) (hm:∀i∈m,i∈m') (aj:WT l.length=true):
  Done P w0 F nt G0 o a w (({env:=st.env,objs:=(st.nx,.arr e l)::kill st.objs m',nx:=st.nx+1}:St).put o.dst (.s (.one (.own st.nx)))):=by
 obtain⟨hu,i,z,hi,hsz,hz,dK,iA⟩:=hE;have lT:l.length<=1073741824:=by simpa [WT]using aj
 have hpos:=WaP e;rcases hx.rd with⟨aT,aX⟩|⟨pa,cc,aT,aI⟩
 .subst aX;obtain⟨ν',hh⟩:=Wm9 hr hd e m';exact⟨_,_,_,G,ν',Wbc ho hc ha bQ (by rw[bJ,aT];exact WcY t _ et i hu hi none 0 0 (Xj _)),.inl rfl,hh⟩
 .by_cases h0:l.length=0
  .have aX:l= []:=Xx h0;subst aX;obtain⟨ν',hh⟩:=Wm9 hr hd e m';exact⟨_,_,_,G,ν',Wbc ho hc ha bQ (by rw[bJ,aT];exact WfT t _ et i hu hi _ _),.inl rfl,hh⟩
  .obtain⟨φ,hφ⟩:=hr.h;obtain⟨oR,e0,_⟩:=hx.enc φ hφ;have eO:news.length=l.length*e.size:=Waq (λx c q hx=>Wj e x c q hx) _ _ _ e0;obtain⟨kZ,gK⟩:=Wo2 w l.length 0 et aj;obtain⟨ν',hh⟩:=Whl hr hd m' eO (λφ hφ=>by
    obtain⟨ps,k1,k2,k3⟩:=hx.enc φ hφ;exact⟨ps,k1,k2,λp hp b o hh=>FromL.mono hm b o (k3 p hp b o hh)⟩) kZ gK z.cells dK et
   have lU:l.length*i.bytes<=281474976710656:=by
    have:=Nat.mul_le_mul lT iA;omega
   refine⟨_,_,_,G,ν',Wbc ho hc ha bQ ?_,.inl rfl,hh⟩;rw[bJ,aT];exact run_append_nil (P:=P) w t _ et i z hu hi hz pa l.length cc news (by rw[hsz];exact eO) (λj v hj=>aI j v hj) (by omega) (by omega) lU
theorem Wcf{e:Ty}{nu:Nu}{xs:List e.den}{S:CS}{b k:Nat}(h:OwnL w (TyRel G w e) e.size nu xs S)(hb:nu.blk=some b)(hk:k<=xs.length):
  ∃c1 p1,EncP (TyRel G w e) (xs.take k) c1 p1/\c1.length=k*e.size/\Mem w b nu.off c1/\Sep (rng b nu.off (nu.cap*e.size)::p1.map Pc.fp)/\(∀s∈rng b nu.off (nu.cap*e.size)::p1.map Pc.fp,CS.le s S):=by
 obtain⟨h1,h2,h3⟩:=h;simp only[hb]at h3;obtain⟨h4,h5,h6,cs,ps,h7,h8,h9,ba⟩:=h3;obtain⟨c1,c2,p1,p2,g1,g2,g3,g4⟩:=Wc3 xs cs ps k h7;have hl:=Waq (λx c q hx=>Wj e x c q hx) _ _ _ g3;rw[Xbc,Xbu hk]at hl;obtain⟨q1,q2⟩:=Xv.1 h9;rw[g2,Xo]at q1 q2 ba;refine⟨c1,p1,g3,hl,by rw[g1]at h8;exact h8.left,Xv.2 ⟨λs hs=>q1 s (Xi _ hs),(Xac.1 q2).1⟩,λs hs=>?_⟩;rcases Xm.1 hs with rfl|hs
 .exact ba _ (Xg ..)
 .exact ba s (Xe _ (Xi _ hs))
theorem Wb9(hr:Rel w0 F nt G0 G ν st a w){o:Oper}(hd:∀d,o.dst=some d->nt.Ok d){c:Call}{s x:Operand}{t et:TypeId}{e:Ty}(hE:ElT P t et e)
  (ho:o.op= .call c) (hc:c.callee= .builtin .append) (ha:c.args.toList= [s,x]) (bQ:c.argTypes.toList= [t,t])
  {id g k:Nat} {xs:List e.den} (al:We st.objs id=some (.arr e xs)) (az:(ν id).blk=some g) (hk:k<=xs.length) (bJ:a.eval s= .slice (some ⟨g,(ν id).off,none⟩) k (ν id).cap)
  {l:List e.den} {m:List Nat} {news:List Value} (hx:Src w0 F G ν st w e l m (a.eval x) news) (hm:id∉m) (aj:WT (k+l.length)=true):
  Done P w0 F nt G0 o a w (({env:=st.env,objs:=(st.nx,.arr e (Xp (xs.take k) l))::kill st.objs (id::m),nx:=st.nx+1}:St).put o.dst (.s (.one (.own st.nx)))):=by
 obtain⟨hu,i,z,hi,hsz,hz,dK,iA⟩:=hE;have lT:k+l.length<=1073741824:=by simpa [WT]using aj
 have hpos:=WaP e;have hlen:(Xp (xs.take k) l).length=k+l.length:=by show(xs.take k++l).length=_;rw[Xw,Xbc,Xbu hk]
 obtain⟨φ0,hφ0⟩:=hr.h;have eP:OwnL w (TyRel G w e) e.size (ν id) xs (φ0 id):=hφ0.ob _ _ al;have ib:=eP.2.2;simp only[az]at ib;obtain⟨hxc,jV,⟨row,TT,di,hrow⟩,_⟩:=ib;obtain⟨c1,p10,_,jW,jX,_,_⟩:=Wcf eP az hk;obtain⟨oR,e0,_⟩:=hx.enc φ0 hφ0;have eO:news.length=l.length*e.size:=Waq (λx c q hx=>Wj e x c q hx) _ _ _ e0;have an:Live st.objs id:=⟨_,al,by simp⟩;have jY:∀{c2:List Value},c2.length=k*e.size->Mem w g (ν id).off c2->c2=c1:=λ{c2} h1 h2=>Xeq λj=>by
  by_cases hj:j<k*e.size
  .have jZ:j<c2.length:=by omega
   have j7:j<c1.length:=by omega
   have a1:=h2 j _ (Xr jZ);have a2:=jX j _ (Xr j7);rw[a1]at a2;rw[Xr jZ,Xr j7];exact a2
  .rw[Xbh (by omega),Xbh (by omega)]
 have inplace:∀(W:World),WLe (rng g ((ν id).off+k*e.size) (l.length*e.size)) w W->Mem W g ((ν id).off+k*e.size) news->k+l.length<=(ν id).cap->
   ∃ν',Rel w0 F nt G0 G ν' (({env:=st.env,objs:=(st.nx,.arr e (Xp (xs.take k) l))::kill st.objs (id::m),nx:=st.nx+1}:St).put o.dst (.s (.one (.own st.nx)))) (a.put o.dst (.slice (some ⟨g,(ν id).off,none⟩) (k+l.length) (ν id).cap)) W:=by
  intro W hW hM bd;have fJ:(k+l.length)*e.size<=(ν id).cap*e.size:=Xax _ bd;rw[Xci]at fJ;have ee:CS.le (rng g ((ν id).off+k*e.size) (l.length*e.size)) (rng g (ν id).off ((ν id).cap*e.size)):=λb o ⟨k0,k1,k2⟩=>⟨k0,by omega,by omega⟩;refine⟨upd ν st.nx ⟨some g,(ν id).off,k+l.length,(ν id).cap,e.size⟩,hr.fresh hd (id::m) (.arr e (Xp (xs.take k) l)) _ (λφ b o=>φ id b o\/FromL φ st.objs m b o) _ _ (λφ hφ=>?_) (λφ hφ b o hh=>?_) (λφ hφ=>?_) ⟨⟨Xbl _,by rw[WaI];rfl⟩,rfl⟩⟩
  .have hown:OwnL w (TyRel G w e) e.size (ν id) xs (φ id):=hφ.ob _ _ al;obtain⟨_,_,_,_,_,_,hle⟩:=Wcf hown az hk;exact hW.mono λb o hh=>⟨id,.inr (Xg ..),an,hle _ (Xg ..) b o (ee b o hh)⟩
  .rcases hh with hh|⟨j,hj,h1,h2⟩
   .exact .inl ⟨id,.inr (Xg ..),an,hh⟩
   .exact .inl ⟨j,.inr (Xe _ hj),h1,h2⟩
  .have hown:OwnL w (TyRel G w e) e.size (ν id) xs (φ id):=hφ.ob _ _ al;obtain⟨jr,p1,g3,g4,g5,g6,g7⟩:=Wcf hown az hk;obtain⟨ps,k1,k2,k3⟩:=hx.enc φ hφ;obtain⟨q1,q2⟩:=Xv.1 g6;have dt:=g7 _ (Xg ..);have gN:∀p∈p1,CS.le p.fp (φ id):=λp hp=>g7 _ (Xe _ (Xae hp));have fS:∀p∈ps,∀S,CS.le S (φ id)->CS.disj S p.fp:=λp hp S hS b o h1 h2=>by
    obtain⟨j,hj,h3,h4⟩:=k3 p hp b o h2;have:=hφ.inj id j b o an h3 (hS b o h1) h4;subst this;exact hm hj
   have eN:∀p∈p1,Same p.fp w W:=λp hp=>hW.same ((q1 p.fp (Xae hp)).mono ee (λ_ _ hh=>hh)) (λb o hh=>hφ.bl id b o an (gN p hp b o hh));have fR:∀p∈ps,Same p.fp w W:=λp hp=>hW.same (fS p hp _ (λb o hh=>dt b o (ee b o hh))) (λb o hh=>by
    obtain⟨j,hj,h3,h4⟩:=k3 p hp b o hh;exact hφ.bl j b o h3 h4)
   show OwnL W (TyRel G W e) e.size (upd ν st.nx ⟨some g,(ν id).off,k+l.length,(ν id).cap,e.size⟩ st.nx) _ _;rw[WaI];refine⟨hlen,rfl,by rw[hlen];exact bd,jV,hW.rows.row _ _ ⟨row,TT,di,hrow⟩,jr++news,p1++ps,WcA _ _ _ _ _ _ ?_ ?_,?_,Xv.2 ⟨λs hs=>?_,?_⟩,λs hs b o hh=>?_⟩
   .exact Wa6 (Q:=λq=>Same q.fp w W) (λx c q hq hx=>W5 (λ_ _ _ hh=>hh) e x c q hq hx) _ _ _ eN g3
   .exact Wa6 (Q:=λq=>Same q.fp w W) (λx c q hq hx=>W5 (λ_ _ _ hh=>hh) e x c q hq hx) _ _ _ fR k1
   .refine Mem.app (n:=k*e.size) (λj v hj=>?_) hM g4;have h1:=g5 j v hj;have hj':j<jr.length:=(Xn.1 hj).1;rw[hW.cell g ((ν id).off+j) (block_lt_of_cell h1) (λ⟨_,h2,_⟩=>by omega)];exact h1
   .rw[Xo]at hs;rcases Xk.1 hs with hs|hs
    .exact q1 s hs
    .obtain⟨p,hp,rfl⟩:=Xt.1 hs;exact fS p hp _ dt
   .rw[Xo];refine Xac.2 ⟨q2,k2,λs hs t ht=>?_⟩;obtain⟨p,hp,rfl⟩:=Xt.1 hs;obtain⟨q,hq,rfl⟩:=Xt.1 ht;exact fS q hq _ (gN p hp)
   .rcases Xm.1 hs with rfl|hs
    .exact .inl (dt b o hh)
    .rw[Xo]at hs;rcases Xk.1 hs with hs|hs
     .obtain⟨p,hp,rfl⟩:=Xt.1 hs;exact .inl (gN p hp b o hh)
     .obtain⟨q,hq,rfl⟩:=Xt.1 hs;exact .inr (k3 q hq b o hh)
 rcases hx.rd with⟨aT,aX⟩|⟨pa,cc,aT,aI⟩
 .have hl0:l.length=0:=by rw[aX];rfl
  have nO:news= []:=Xx (by rw[eO,hl0];simp);obtain⟨ν',hh⟩:=inplace w (WLe.refl _ w) (by rw[nO];exactλj v hj=>by simp at hj) (by omega);refine⟨_,_,_,G,ν',Wbc ho hc ha bQ ?_,.inl rfl,hh⟩;rw[bJ,aT,WcY t _ et i hu hi _ _ _ (by omega),hl0];rfl
 .by_cases bd:k+l.length<=(ν id).cap
  .have lV:(k+l.length)*e.size<=(ν id).cap*e.size:=Xax _ bd;rw[Xci]at lV;have hrun:=Wga (P:=P) (w:=w) t o.type et TT i hu hi g (ν id).off k (ν id).cap row di pa l.length cc news (by rw[hsz];exact eO) (λj v hj=>aI j v hj) (Wi9 _ _ _ e0) bd (by rw[hsz,eO];omega);obtain⟨hw,lW⟩:=WbQ (k:=(ν id).off+k*i.size) (news:=news) di (by rw[hsz,eO];omega);generalize w.setRow g (row.toList.take ((ν id).off+k*i.size)++news++row.toList.drop ((ν id).off+k*i.size+news.length)).toArray=W at hrun hw lW;rw[hsz]at hw lW;rw[eO]at hw;obtain⟨ν',hh⟩:=inplace W hw lW bd;exact⟨_,_,_,G,ν',Wbc ho hc ha bQ (by rw[bJ,aT,hrun]),.inl rfl,hh⟩
  .obtain⟨kZ,gK⟩:=Wo2 w (k+l.length) (ν id).cap et aj;have hcl:(c1++news).length=(Xp (xs.take k) l).length*e.size:=by rw[Xw,jW,eO,hlen,Xci]
   obtain⟨ν',hh⟩:=Whl hr hd (id::m) (xs:=Xp (xs.take k) l) hcl (λφ hφ=>by
    have hown:OwnL w (TyRel G w e) e.size (ν id) xs (φ id):=hφ.ob _ _ al;obtain⟨jr,p1,g3,g4,g5,g6,g7⟩:=Wcf hown az hk;obtain⟨ps,k1,k2,k3⟩:=hx.enc φ hφ;have:=jY g4 g5;subst this;obtain⟨q1,q2⟩:=Xv.1 g6;have gN:∀p∈p1,CS.le p.fp (φ id):=λp hp=>g7 _ (Xe _ (Xae hp));refine⟨p1++ps,WcA _ _ _ _ _ _ g3 k1,?_,λp hp b o hh=>?_⟩
    .rw[Xo];refine Xac.2 ⟨q2,k2,λs hs t ht=>?_⟩;obtain⟨p,hp,rfl⟩:=Xt.1 hs;obtain⟨q,hq,rfl⟩:=Xt.1 ht;intro b o h1 h2;obtain⟨j,hj,h3,h4⟩:=k3 q hq b o h2;have:=hφ.inj id j b o an h3 (gN p hp b o h1) h4;subst this;exact hm hj
    .rcases Xk.1 hp with hp|hp
     .exact⟨id,Xg ..,an,gN p hp b o hh⟩
     .exact FromL.mono (λi hi=>Xe _ hi) b o (k3 p hp b o hh)) (by rw[hlen];exact kZ) gK z.cells dK et
   have lU:(k+l.length)*i.bytes<=140737488355328:=by
    have:=Nat.mul_le_mul lT iA;omega
   have hrun:=run_append_grow (P:=P) w t o.type et i z hu hi hz ⟨g,(ν id).off,none⟩ k (ν id).cap c1 (by rw[hsz];exact jW) (λj v hj=>by rw[Wao];exact jX j v hj) pa l.length cc news (by rw[hsz];exact eO) (λj v hj=>aI j v hj) (by omega) (by omega) (growslice_fits (by omega) lU);refine⟨_,_,_,G,ν',Wbc ho hc ha bQ ?_,.inl rfl,hh⟩;rw[bJ,aT,hrun,hlen];simp
theorem WhY{id:Nat}{e:Ty}{xs:List e.den}(hh:HRel w0 F G ν objs nx w)(al:We objs id=some (.arr e xs)):
  ((ν id).blk=none/\xs= []/\(ν id).hdr= .slice none 0 0)\/∃g,(ν id).blk=some g/\(ν id).hdr= .slice (some ⟨g,(ν id).off,none⟩) xs.length (ν id).cap:=by
 obtain⟨S,ho⟩:=hh.obj al;unfold Nu.hdr;cases hb:(ν id).blk with
 |none=>exact .inl ⟨rfl,Wbs ho hb,rfl⟩
 |some g=>exact .inr ⟨g,rfl,by rw[ho.1]⟩
theorem WiV(hT:WW P T)(hr:Rel w0 F nt G0 G ν st a w){o:Oper}(hd:∀d,o.dst=some d->nt.Ok d){c:Call}{s x:Operand}{t et:TypeId}{ty:Ty}{te:TE}{sv xv:AVal}{R:Type}{k:St->Option R}{r:R}
  (hl:We T t=some ⟨ty,false,.slice et⟩) (hle:We T et=some te) (hp:te.plain=true)
  (ho:o.op= .call c) (hc:c.callee= .builtin .append) (ha:c.args.toList= [s,x]) (bQ:c.argTypes.toList= [t,t]) (hs:ev st s=some sv) (hx:ev st x=some xv)
  (h:Wda st te.ty sv xv (λx objs nx=>k (({env:=st.env,objs:=objs,nx:=nx}:St).put o.dst x))=some r):∃ac,k ac=some r/\Done P w0 F nt G0 o a w ac:=by
 have move:∀(e:Ty) (l:List e.den) (m:List Nat),Wof st e xv=some (l,m)->∃news,Src w0 F G ν st w e l m (a.eval x) news:=λe l m dD=>by
  unfold Wof at dD;split at dD
  .simp only[Option.some.injEq,Prod.mk.injEq]at dD;obtain⟨rfl,rfl⟩:=dD;obtain⟨hv,_⟩:=Wx hr x _ hx;exact⟨[],λφ _=>⟨[],⟨rfl,rfl⟩,List.Pairwise.nil,by simp⟩,.inl ⟨hv,rfl⟩⟩
  .rename_i id;split at dD
   .rename_i e' xs al;obtain⟨ys,aH,dD⟩:=Xs.1 dD;have h2:=Prod.mk.inj dD;obtain⟨h3,h4⟩:=h2;subst h3 h4;obtain⟨gM,nQ⟩:=W0 aH;subst gM;simp only at nQ;subst nQ;obtain⟨⟨_,hv⟩,_⟩:=Wx hr x _ hx;have an:Live st.objs id:=⟨_,al,by simp⟩;rcases WhY hr.h al with⟨hb,aX,hh⟩|⟨g,hb,hh⟩
    .subst aX;exact⟨[],λφ _=>⟨[],⟨rfl,rfl⟩,List.Pairwise.nil,by simp⟩,.inl ⟨by rw[hv,hh],rfl⟩⟩
    .obtain⟨φ0,hφ0⟩:=hr.h;have eP:OwnL w (TyRel G w e') e'.size (ν id) xs (φ0 id):=hφ0.ob _ _ al;obtain⟨c1,p1,g1,g2,g3,g4,g5⟩:=Wcf eP hb (Xj _);refine⟨c1,λφ hφ=>?_,.inr ⟨⟨g,(ν id).off,none⟩,(ν id).cap,by rw[hv,hh],λj u hj=>by rw[Wao];exact g3 j u hj⟩⟩;have hown:OwnL w (TyRel G w e') e'.size (ν id) xs (φ id):=hφ.ob _ _ al;obtain⟨jr,oS,k1,k2,k3,k4,k5⟩:=Wcf hown hb (Xj _);have:jr=c1:=Xeq λj=>by
      by_cases hj:j<xs.length*e'.size
      .have jZ:j<jr.length:=by omega
       have j7:j<c1.length:=by omega
       have a1:=k3 j _ (Xr jZ);have a2:=g3 j _ (Xr j7);rw[a1]at a2;rw[Xr jZ,Xr j7];exact a2
      .rw[Xbh (by omega),Xbh (by omega)]
     subst this;rw[Xdv]at k1;exact⟨oS,k1,(Xv.1 k4).2,λp hp b o hh=>⟨id,Xab.2 rfl,an,k5 _ (Xe _ (Xae hp)) b o hh⟩⟩
   .simp at dD
  .simp at dD
 unfold Wda at h;split at h
 .split at h
  .rename_i e hel;split at h
   .rename_i he;split at h
    .rename_i l m dD;obtain⟨news,bN⟩:=move e l m dD;cases aj:WT l.length with
     |false=>simp[aj]at h
     |true=>
      simp[aj]at h;obtain⟨bJ,_⟩:=Wx hr s _ hs;exact⟨_,h,WaM hr hd (elT hT hl hle hp (by rw[←he,WaR])) ho hc ha bQ bJ bN (λi hi=>hi) aj⟩
    .simp at h
   .simp at h
  .simp at h
 .rename_i id;split at h
  .rename_i e xs al;split at h
   .rename_i he;split at h
    .rename_i l m dD;obtain⟨news,bN⟩:=move e l m dD;split at h
     .rename_i au;have au:=(Xz.1 ((WbK _).1 au)).1;cases aj:WT (xs.length+l.length)with
      |false=>simp[aj]at h
      |true=>
       simp[aj]at h;refine⟨_,h,?_⟩;have hE:ElT P t et e:=elT hT hl hle hp (by rw[←he,WaR]);obtain⟨⟨_,bJ⟩,_⟩:=Wx hr s _ hs;rcases WhY hr.h al with⟨hb,aX,hh⟩|⟨g,hb,hh⟩
       .subst aX;exact WaM hr hd hE ho hc ha bQ (by rw[bJ,hh]) bN (λi hi=>Xe _ hi) (by simpa [WT]using aj)
       .have:=Wb9 hr hd hE ho hc ha bQ al hb (Xj _) (by rw[bJ,hh]) bN au aj;rw[Xdv]at this;exact this
     .simp at h
    .simp at h
   .simp at h
  .simp at h
 .simp at h
theorem WjR(hT:WW P T)(hr:Rel w0 F nt G0 G ν st a w){o:Oper}(hd:∀d,o.dst=some d->nt.Ok d){c:Call}{s x:Operand}{t t2:TypeId}{sv xv:AVal}{R:Type}{k:St->Option R}{r:R}
  (ho:o.op= .call c) (hc:c.callee= .builtin .append) (ha:c.args.toList= [s,x]) (bQ:c.argTypes.toList= [t,t2]) (hs:ev st s=some sv) (hx:ev st x=some xv)
  (h:Wcs T st t t2 sv xv (λx objs nx=>k (({env:=st.env,objs:=objs,nx:=nx}:St).put o.dst x))=some r):∃ac,k ac=some r/\Done P w0 F nt G0 o a w ac:=by
 unfold Wcs at h;split at h
 .rename_i ty et _ hl _;split at h
  .rename_i te hle;split at h
   .rename_i aG;obtain⟨rfl,hp,ay⟩:=aG;have hE:ElT P t et te.ty:=elT hT hl hle hp rfl;cases du:Wos st sv xv with
    |false=>
     simp only[du,Bool.not_false,cond_true]at h;exact WiV hT hr hd hl hle hp ho hc ha bQ hs hx h
    |true=>
    simp only[du,Bool.not_true,cond_false]at h;split at h
    .rename_i l bK;cases aj:WT l.length with
     |false=>simp[aj]at h
     |true=>
      simp[aj]at h;obtain⟨bJ,_⟩:=Wx hr s _ hs;obtain⟨news,bN⟩:=WfX hr ay [] (Wx hr x _ hx) bK;exact⟨_,h,WaM (m':=[]) hr hd hE ho hc ha bQ bJ bN (λi hi=>hi) aj⟩
    .rename_i id l bK;split at h
     .rename_i e0 xs al;split at h
      .rename_i ys aH;obtain⟨he,hy⟩:=WdY aH;injection he with he;subst he;simp only at hy;subst hy;cases aj:WT (Xb xs+l.length)with
       |false=>simp[aj]at h
       |true=>
        simp[aj]at h;refine⟨_,h,?_⟩;obtain⟨⟨_,bJ⟩,_⟩:=Wx hr s _ hs;obtain⟨news,bN⟩:=WfX hr ay [] (Wx hr x _ hx) bK;rcases WhY hr.h al with⟨hb,aX,hh⟩|⟨g,hb,hh⟩
        .subst aX;exact WaM (m':=[id]) hr hd hE ho hc ha bQ (by rw[bJ,hh]) bN (λi hi=>by simp at hi) (by simpa [WT]using aj)
        .have:=Wb9 hr hd hE ho hc ha bQ al hb (Xj _) (by rw[bJ,hh]) bN (by simp) aj;rw[Xdv]at this;exact this
      .simp at h
     .simp at h
    .rename_i id hi l bK;split at h
     .rename_i e0 xs al;split at h
      .rename_i ys aH;obtain⟨he,hy⟩:=WdY aH;injection he with he;subst he;simp only at hy;subst hy;cases aj:WT (hi+l.length)with
       |false=>simp[aj]at h
       |true=>
        simp[aj]at h;refine⟨_,h,?_⟩;obtain⟨⟨_,g1,g2,g3,bJ⟩,_⟩:=Wx hr s _ hs;obtain⟨news,bN⟩:=WfX hr ay [] (Wx hr x _ hx) bK;obtain⟨S,hown⟩:=hr.h.obj al;unfold Nu.vhdr at bJ;cases hb:(ν id).blk with
        |none=>
         have aX:=Wbs hown hb;simp only[hb]at bJ;have h0:=g3 hb;subst h0;show Done P w0 F nt G0 o a w (({env:=st.env,objs:=(st.nx,.arr te.ty l)::(id,.dead)::st.objs,nx:=st.nx+1}:St).put o.dst (.s (.one (.own st.nx))));exact WaM (m':=[id]) hr hd hE ho hc ha bQ bJ bN (λi hi=>by simp at hi) (by simpa [WT]using aj)
        |some g=>
         simp only[hb,Nat.sub_zero,Xeb,Xap,ite_self]at bJ;exact Wb9 hr hd hE ho hc ha bQ al hb (by rw[hown.1];exact g2) bJ bN (by simp) aj
      .simp at h
     .simp at h
    .simp at h
   .simp at h
  .simp at h
 .simp at h
end
end Go.Sx
namespace Go.Sx
set_option linter.unusedVariables false
set_option linter.unusedSimpArgs false
section
variable{w0:World}{F:CS}{nt:Slots}{G0 G:GH}{ν:Nat->Nu}{φ:Nat->CS}{objs:WP}{nx:Nat}{st ac:St}{a:Act}{w w':World}{P:Program}{T:Tab}
theorem Wf3{t et:TypeId}{te:TE}{nu:Nu}{n:Nat}{lo hi:Option Int}{vl vh:Option Value}(hu:P.underlying t=some (.slice et))(aP:TEok P T et te)(hp:te.plain=true)(bc:nu.esz=te.ty.size)
  (hc:n<=nu.cap) (hn:n=nu.len) (az:nu.blk=none->n=0) (hl:BRel lo vl) (hh:BRel hi vh) (hb:(WbE n lo hi).1=true):
  (Instr.sliceAt t nu.hdr vl vh none).run P w= .ok (nu.vhdr (WbE n lo hi).2.1 (WbE n lo hi).2.2) w/\(WbE n lo hi).2.1<=(WbE n lo hi).2.2/\(WbE n lo hi).2.2<=n:=by
 unfold Nu.hdr Nu.vhdr;cases hk:nu.blk with
 |none=>
  have h0:=az hk;subst h0;obtain⟨hr,h3,h4⟩:=WbF (P:=P) (w:=w) (isSlice:=true) (cap:=0) hl hh (Xj _) hb;have e1:(WbE 0 lo hi).2.2=0:=by omega
  have e2:(WbE 0 lo hi).2.1=0:=by omega
  rw[e1,e2]at hr⊢;refine⟨?_,Xj _,Xj _⟩;simp[Instr.sliceAt,Instr.slice,Wb hu,hr,aP.sizeOf]
 |some b=>
  obtain⟨hr,h7,h8⟩:=WbF (P:=P) (w:=w) (isSlice:=true) (cap:=nu.cap) hl hh hc hb;refine⟨?_,h7,h8⟩;rw[←hn];generalize (WbE n lo hi).2.1=p at*;generalize (WbE n lo hi).2.2=q at*;have hsz:te.size=nu.esz:=by rw[WG hp,bc]
  simp only[Instr.sliceAt,Instr.slice,Sem.run_bind,Wb hu,Result.andThen_ok,hr,aP.sizeOf,Sem.run_pure,hsz,Xbt,Wao];split<;>rfl
theorem Wni{id:Nat}{e:Ty}{xs:List e.den}{S:CS}(h:Wbv G ν nx w id S (.arr e xs)):((ν id).blk=none->xs.length=0)/\((ν id).blk≠none->xs.length<=(ν id).cap):=by
 refine⟨λhb=>by rw[Wbs h hb];rfl,λhb=>?_⟩;obtain⟨_,_,h3⟩:=h;cases hk:(ν id).blk with
 |none=>exact absurd hk hb
 |some b=>simp only[hk]at h3;exact h3.1
theorem WiF{t et:TypeId}{te:TE}{id:Nat}{e:Ty}{xs:List e.den}{S:CS}(ho:Wbv G ν nx w id S (.arr e xs)){lo hi:Option Int}{vl vh:Option Value}(hu:P.underlying t=some (.slice et))(aP:TEok P T et te)(hp:te.plain=true)(he:te.ty.size=e.size)
  (hl:BRel lo vl) (hh:BRel hi vh) (hb:(WbE xs.length lo hi).1=true):
  (Instr.sliceAt t (ν id).hdr vl vh none).run P w= .ok ((ν id).vhdr (WbE xs.length lo hi).2.1 (WbE xs.length lo hi).2.2) w/\(WbE xs.length lo hi).2.1<=(WbE xs.length lo hi).2.2/\(WbE xs.length lo hi).2.2<=xs.length:=by
 obtain⟨h1,h2⟩:=Wni ho;have hlen:=ho.1;have bc:=ho.2.1;cases hk:(ν id).blk with
 |some b=>exact Wf3 hu aP hp (by rw[bc,he]) (h2 (by rw[hk];simp)) hlen (λh=>by rw[hk]at h;cases h) hl hh hb
 |none=>
  have h0:=h1 hk;have aX:xs= []:=Xx h0;have e0:(ν id).hdr=(⟨none,(ν id).off,(ν id).len,0,(ν id).esz⟩:Nu).hdr:=by unfold Nu.hdr;simp only[hk]
  have e1:∀p q,(ν id).vhdr p q=(⟨none,(ν id).off,(ν id).len,0,(ν id).esz⟩:Nu).vhdr p q:=λp q=>by unfold Nu.vhdr;simp only[hk]
  rw[e0,e1];exact Wf3 hu aP hp (by show(ν id).esz=_;rw[bc,he]) (by rw[h0];exact Xj _) hlen (λ_=>h0) hl hh hb
theorem We0{o:Oper}{t:TypeId}{x:Operand}{lo hi:Option Operand}{v:Value}(ho:o.op= .slice t x lo hi none)(h:(Instr.sliceAt t (a.eval x) (lo.map a.eval) (hi.map a.eval) none).run P w= .ok v w):(execOp a.eval o).run P w= .ok (.value v) w:=by
 simp only[execOp,ho,Option.map_none,Sem.run_bind,h,Result.andThen_ok,Sem.run_pure]
theorem WnE(hT:WW P T)(hr:Rel w0 F nt G0 G ν st a w){o:Oper}(hd:∀d,o.dst=some d->nt.Ok d){t et:TypeId}{ty:Ty}{te:TE}{x:Operand}{lo hi:Option Operand}(ho:o.op= .slice t x lo hi none)
  {id:Nat} {l h:Option Int} {R:Type} {k:St->Option R} {r:R} (hx:ev st x=some (.s (.one (.own id)))) (hl:We T t=some ⟨ty,false,.slice et⟩) (hle:We T et=some te) (hp:te.plain=true) (h1:Wir st lo=some l) (h2:Wir st hi=some h)
  (hk:WdF st te.ty id l h (λx objs nx=>k (({env:=st.env,objs:=objs,nx:=nx}:St).put o.dst x))=some r):∃ac,k ac=some r/\Done P w0 F nt G0 o a w ac:=by
 unfold WdF at hk;split at hk
 .rename_i e xs al;split at hk
  case isFalse=>simp at hk
  rename_i jR;cases hb:(WbE (Xb xs) l h).1 with
  |false=>simp[hb]at hk
  |true=>
   simp only[hb,cond_true]at hk;refine⟨_,hk,?_⟩;obtain⟨⟨aO,bJ⟩,_⟩:=Wx hr x _ hx;obtain⟨S,hown⟩:=hr.h.obj al;have hbl:=Wb2 hr lo _ h1;have j8:=Wb2 hr hi _ h2;obtain⟨g1,g2,g3⟩:=WiF (w:=w) hown (hT _ _ hl).und.2.1 (hT _ _ hle) hp (by rw[jR,WaR]) hbl j8 hb;refine⟨_,_,w,G,ν,We0 ho (by rw[bJ];exact g1),.inl rfl,hr.put hd ⟨⟨aO,g2,by rw[←hown.1];exact g3,λj9=>?_,rfl⟩,WkY _ _ _⟩⟩;have:=(Wni hown).1 j9;omega
 .simp at hk
theorem WoB(n:Nu)(h:Nat):n.part 0 h=⟨n.blk,n.off,h,n.cap,n.esz⟩:=by
 unfold Nu.part;simp
theorem Wqt(n:Nu)(h:Nat):n.vhdr 0 h=(⟨n.blk,n.off,h,n.cap,n.esz⟩:Nu).hdr:=by
 rw[←WoB,WhQ]
theorem Wlv(hT:WW P T)(hr:Rel w0 F nt G0 G ν st a w){o:Oper}(hd:∀d,o.dst=some d->nt.Ok d){t et:TypeId}{ty:Ty}{x:Operand}{lo hi:Option Operand}(ho:o.op= .slice t x lo hi none)
  {id:Nat} {e:Ty} {xs:List e.den} {te:TE} {h:Int} (hx:ev st x=some (.s (.one (.own id)))) (hl:We T t=some ⟨ty,false,.slice et⟩) (hle:We T et=some te) (hp:te.plain=true) (he:te.ty=e.ro) (al:We st.objs id=some (.arr e xs)) (aA:Wir st lo=some none) (hh:Wir st hi=some (some h))
  (h0:0<=h) (h1:h<=(xs.length:Int)):Done P w0 F nt G0 o a w (({env:=st.env,objs:=(st.nx,.arr e (xs.take h.toNat))::kill st.objs [id],nx:=st.nx+1}:St).put o.dst (.s (.one (.own st.nx)))):=by
 obtain⟨⟨aO,bJ⟩,_⟩:=Wx hr x _ hx;obtain⟨S,hown⟩:=hr.h.obj al;have hbl:=Wb2 hr lo _ aA;have j8:=Wb2 hr hi _ hh;have hb:(WbE xs.length none (some h)).1=true:=by simp[WbE,h0,h1]
 obtain⟨g1,g2,g3⟩:=WiF (w:=w) hown (hT _ _ hl).und.2.1 (hT _ _ hle) hp (by rw[he,WaR]) hbl j8 hb;have e1:(WbE xs.length none (some h)).2.1=0:=rfl;have e2:(WbE xs.length none (some h)).2.2=h.toNat:=rfl;rw[e1,e2,Wqt]at g1;refine⟨_,_,w,G,upd ν st.nx ((ν id).part 0 h.toNat),We0 ho (by rw[bJ];exact g1),.inl rfl,?_⟩;have an:Live st.objs id:=⟨_,al,by simp⟩;refine hr.fresh hd [id] (.arr e (xs.take h.toNat)) _ (λφ=>φ id) _ _ (λφ _=>WLe.refl _ w) (λφ _ b o hh=>.inl ⟨id,.inr (Xab.2 rfl),an,hh⟩) (λφ hφ=>?_) ⟨⟨Xbl _,by rw[WaI,WoB]⟩,WfK _⟩;show OwnL w (TyRel G w e) e.size (upd ν st.nx ((ν id).part 0 h.toNat) st.nx) (xs.take h.toNat) (φ id);rw[WaI];have hown':OwnL w (TyRel G w e) e.size (ν id) xs (φ id):=hφ.ob _ _ al;have:=WkP (lo:=0) (hi:=h.toNat) hown' (Xbq _) (by rw[←hown'.1];omega);simpa using this
theorem WgH(hT:WW P T)(hr:Rel w0 F nt G0 G ν st a w){o:Oper}(hd:∀d,o.dst=some d->nt.Ok d){t et:TypeId}{ty:Ty}{x:Operand}{lo hi:Option Operand}(ho:o.op= .slice t x lo hi none)
  {id i p:Nat} {e:Ty} {xs:List e.den} {te:TE} {h:Int} (hx:ev st x=some (.s (.one (.own id)))) (hl:We T t=some ⟨ty,false,.slice et⟩) (hle:We T et=some te) (hp:te.plain=true) (he:te.ty=e.ro) (al:We st.objs id=some (.hole e xs i p)) (gO:Wnv (We st.objs p) e.size=true) (aA:Wir st lo=some none) (hh:Wir st hi=some (some h))
  (h0:0<=h) (h1:h<=(xs.length:Int)) (h2:h<=(i:Int)):Done P w0 F nt G0 o a w (({env:=st.env,objs:=(st.nx,.arr e (xs.take h.toNat))::kill st.objs [id,p],nx:=st.nx+1}:St).put o.dst (.s (.one (.own st.nx)))):=by
 obtain⟨⟨aO,bJ⟩,_⟩:=Wx hr x _ hx;obtain⟨S,iv,hole⟩:=hr.h.obj al;have dA:∃cs,We st.objs p=some (.box cs)/\cs.length=e.size:=by
  unfold Wnv at gO;split at gO
  .rename_i cs dA;exact⟨cs,dA,Xbs gO⟩
  .cases gO
 obtain⟨pcs,dA,dr⟩:=dA;have hbl:=Wb2 hr lo _ aA;have j8:=Wb2 hr hi _ hh;have hb:(WbE xs.length none (some h)).1=true:=by simp[WbE,h0,h1]
 obtain⟨k1,k2,k3,b,k4,k5,k6,k7,k8,k9,_⟩:=hole;obtain⟨g1,g2,g3⟩:=Wf3 (w:=w) (nu:=ν id) (hT _ _ hl).und.2.1 (hT _ _ hle) hp (by rw[k2,he,WaR]) k7 k1 (λhn=>by rw[hn]at k4;cases k4) hbl j8 hb;have e1:(WbE xs.length none (some h)).2.1=0:=rfl;have e2:(WbE xs.length none (some h)).2.2=h.toNat:=rfl;rw[e1,e2,Wqt]at g1;refine⟨_,_,w,G,upd ν st.nx ((ν id).part 0 h.toNat),We0 ho (by rw[bJ];exact g1),.inl rfl,?_⟩;have an:Live st.objs id:=⟨_,al,by simp⟩;have bW:Live st.objs p:=⟨_,dA,by simp⟩;refine hr.fresh hd [id,p] (.arr e (xs.take h.toNat)) _ (λφ b o=>φ id b o\/φ p b o) _ _ (λφ _=>WLe.refl _ w) (λφ _ b o hh=>?_) (λφ hφ=>?_) ⟨⟨Xbl _,by rw[WaI,WoB]⟩,WfK _⟩
 .rcases hh with hh|hh
  .exact .inl ⟨id,.inr (by simp),an,hh⟩
  .exact .inl ⟨p,.inr (by simp),bW,hh⟩
 .show OwnL w (TyRel G w e) e.size (upd ν st.nx ((ν id).part 0 h.toNat) st.nx) (xs.take h.toNat) _;rw[WaI,WoB];obtain⟨iv,hole⟩:p<st.nx/\WfB w (TyRel G w e) e.size (ν id) (ν p) xs i (φ id):=hφ.ob _ _ al;obtain⟨_,_,_,b',lg,k5',_,_,_,_,c1,c2,p1,p2,j1,j2,j3,j4,j5,j6⟩:=hole;rw[k4]at lg;injection lg with lg;subst lg;obtain⟨b2,vs,q1,q2,q3,q4,q5⟩:Wbv G ν st.nx w p (φ p) (.box pcs):=hφ.ob _ _ dA;rw[k5]at q1;injection q1 with q1;subst q1;rw[dr,k6]at q5;obtain⟨d1,d2,r1,r2,t1,t2,t3,t4⟩:=Wc3 _ _ _ h.toNat j1;rw[List.take_take,Xbu (by omega)]at t3;have gA:=j6 _ (Xg ..);have gC:=j6 _ (Xe _ (Xg ..));obtain⟨s1,s2⟩:=Xv.1 j5;obtain⟨s3,s4⟩:=Xv.1 s2;have ct:∀s∈r1.map Pc.fp,s∈(p1++p2).map Pc.fp:=λs hs=>by rw[t2,Xo,Xo];exact Xi _ (Xi _ hs)
  have gp:∀s∈r1.map Pc.fp,CS.le s (φ id):=λs hs=>j6 s (Xe _ (Xe _ (ct s hs)));have lX:∀b o,φ id b o->φ p b o->False:=λb o x1 x2=>by
   have:=hφ.inj id p b o an bW x1 x2;subst this;rw[al]at dA;cases dA
  refine⟨by simp;omega,k2,?_⟩;simp only[k4];refine⟨by simp;omega,k8,k9,d1,r1,t3,by rw[t1]at j3;exact j3.left,Xv.2 ⟨λs hs=>?_,?_⟩,λs hs=>?_⟩
  .exactλb' o iz eM=>(Wel (show i<(ν id).cap by omega) (S:=λb o=>¬s b o) (λb o hh eM=>s1 s (Xe _ (ct s hs)) b o hh eM) (λb o hh eM=>lX b o (gp s hs b o eM) (q5 b o hh)) (λb o hh eM=>s3 s (ct s hs) b o hh eM) b' o iz) eM
  .rw[t2,Xo,Xo]at s4;exact(Xac.1 (Xac.1 s4).1).1
  .rcases Xm.1 hs with rfl|hs
   .exact Wel (show i<(ν id).cap by omega) (λb o hh=>.inl (gA b o hh)) (λb o hh=>.inr (q5 b o hh)) (λb o hh=>.inl (gC b o hh))
   .exactλb o hh=>.inl (gp s hs b o hh)
theorem Wma(hT:WW P T)(hr:Rel w0 F nt G0 G ν st a w){o:Oper}(hd:∀d,o.dst=some d->nt.Ok d){c:Call}{x:Operand}{t et:TypeId}{ty:Ty}{te:TE}{e:Ty}{xs:List e.den}{id lo hi:Nat}
  (ho:o.op= .call c) (hc:c.callee= .builtin .clear) (ha:c.args.toList= [x]) (bQ:c.argTypes.toList= [t]) (hx:ev st x=some (.s (.one (.vw id lo hi)))) (hl:We T t=some ⟨ty,false,.slice et⟩) (hle:We T et=some te)
  (al:We st.objs id=some (.arr e xs)) (he:te.ty=e) (hp:te.plain=true) (ay:e.data=true):
  Done P w0 F nt G0 o a w (({env:=st.env,objs:=(id,.arr e (xs.take lo++Xy (hi-lo) e.dflt++xs.drop hi))::st.objs,nx:=st.nx}:St).put o.dst (.tup [])):=by
 have hu:=(hT _ _ hl).und.2.1;obtain⟨⟨aO,g1,g2,g3,hv⟩,_⟩:=Wx hr x _ hx;obtain⟨φ,hφ⟩:=hr.h;have hown:OwnL w (TyRel G w e) e.size (ν id) xs (φ id):=hφ.ob _ _ al;have an:Live st.objs id:=⟨_,al,by simp⟩;have ka:∀W,(Builtin.clear_ #[t] o.type #[a.eval x]).run P w= .ok (.tuple #[]) W->(execOp a.eval o).run P w= .ok (.value (.tuple #[])) W:=λW hrun=>by
  obtain⟨callee,args,argTypes⟩:=c;obtain⟨args⟩:=args;obtain⟨argTypes⟩:=argTypes;simp only at hc ha bQ;subst hc ha bQ;simp only[execOp,ho,resolve,invoke,builtin,Sem.run_bind,Sem.run_pure,Result.andThen_ok,Xdm,Xag,Xca,hrun]
 have c0:∀W,(Builtin.clear_ #[t] o.type #[a.eval x]).run P w= .ok (.tuple #[]) W->HRel w0 F G ν ((id,.arr e (xs.take lo++Xy (hi-lo) e.dflt++xs.drop hi))::st.objs) st.nx W->
   Done P w0 F nt G0 o a w (({env:=st.env,objs:=(id,.arr e (xs.take lo++Xy (hi-lo) e.dflt++xs.drop hi))::st.objs,nx:=st.nx}:St).put o.dst (.tup [])):=λW hrun hH=>
  ⟨_,_,W,G,ν,ka W hrun,.inl rfl,(hr.on (λ_ _ _ hh=>hh) (λ_ _=>rfl) (Xj _) hH hr.gx).put hd ⟨[],rfl,rfl,λj x v hj=>by simp at hj⟩⟩
 by_cases h0:hi-lo=0
 .have oT:hi=lo:=by omega
  have e1:xs.take lo++Xy (hi-lo) e.dflt++xs.drop hi=xs:=by
   rw[h0,oT];simp
  refine c0 w ?_ ?_
  .rw[hv];unfold Nu.vhdr;rw[h0];cases(ν id).blk<;>simp[Builtin.clear_,Wb hu]
  .rw[e1];exact⟨_,hφ.put (m:=[]) (ν':=ν) (λ_ _=>rfl) (Xj _) (hφ.lt id an) (WLe.refl _ w) (λb o hh=>.inl ⟨id,.inl rfl,an,hh⟩) (λ_=>hown)⟩
 .cases az:(ν id).blk with
  |none=>have:=g3 az;omega
  |some b=>
   obtain⟨fj,h4,h5,⟨row,TT,di,hrow⟩,cs,h7,h8,h9⟩:=Wcc ay hown az;obtain⟨z,hz,bV⟩:=Wdh (w:=w) (hT _ _ hle);rw[WaV hp,he]at bV;have dK:z.cells.size=e.size:=by rw[←Xal,bV,WaH]
   have bc:=hown.2.1;have hcl:cs.length=xs.length*e.size:=EncL_len (λx c hc=>Enc_len e x c hc) _ _ h7;have nR:(Builtin.zeroCells z.cells (hi-lo)).toList=rep (WaT e) (hi-lo):=by rw[←bV];exact WeC z.cells (hi-lo)
   have fB:(rep (WaT e) (hi-lo)).length=(hi-lo)*e.size:=by rw[Wia,WaH]
   have kb:lo*e.size+(hi-lo)*e.size=hi*e.size:=by rw[←Xci];congr 1;omega
   have lh:hi*e.size<=xs.length*e.size:=Xax _ (by omega);have hm3:xs.length*e.size<=(ν id).cap*e.size:=Xax _ h4;have cu:∀u∈rep (WaT e) (hi-lo),u.oneCell'=true:=WkS (G:=G) _ _ (WeT ay (hi-lo));have bT:=run_storeCells_at P b ((ν id).off+lo*e.size) TT (rep (WaT e) (hi-lo)) 0 row w di (by rw[fB];omega) cu;simp only[Xap]at bT;obtain⟨hw,hm⟩:=WbQ (k:=(ν id).off+lo*e.size) (news:=rep (WaT e) (hi-lo)) di (by rw[fB];omega);have hrun:(Builtin.clear_ #[t] o.type #[a.eval x]).run P w= .ok (.tuple #[]) (w.setRow b (row.toList.take ((ν id).off+lo*e.size)++rep (WaT e) (hi-lo)++row.toList.drop ((ν id).off+lo*e.size+(rep (WaT e) (hi-lo)).length)).toArray):=by
    rw[hv];unfold Nu.vhdr;simp only[az,bc];rw[if_neg (by omega)];obtain⟨n,hn⟩:∃n,hi-lo=n+1:=⟨hi-lo-1,by omega⟩;simp only[Builtin.clear_,Sem.run_bind,Wb hu,Result.andThen_ok,Xdx,List.getElem?_cons_zero];rw[hn]at bT nR⊢;simp only[Sem.run_bind,hz,Result.andThen_ok,nR,bT,Sem.run_pure]
   generalize w.setRow b (row.toList.take ((ν id).off+lo*e.size)++rep (WaT e) (hi-lo)++row.toList.drop ((ν id).off+lo*e.size+(rep (WaT e) (hi-lo)).length)).toArray=W at hrun hw hm;refine c0 W hrun (hφ.turn (m:=[]) al (by simp) hw (λb' o ⟨k0,k1,k2⟩=>h9 b' o ⟨k0,by omega,by omega⟩) ?_);have ic:(xs.take lo++Xy (hi-lo) e.dflt++xs.drop hi).length=xs.length:=by simp;omega
   have henc:EncL (Enc G e) (xs.take lo++Xy (hi-lo) e.dflt++xs.drop hi) (cs.take (lo*e.size)++rep (WaT e) (hi-lo)++cs.drop (hi*e.size)):=
    Wcl _ _ _ _ (Wcl _ _ _ _ (WcM (λx c hc=>Enc_len e x c hc) _ _ lo h7) (WeT ay _)) (WcZ (λx c hc=>Enc_len e x c hc) _ _ hi h7)
   refine Wi0 ay az (by rw[ic];exact fj) bc (by rw[ic];exact h4) h5 (hw.rows.row _ _ ⟨row,TT,di,hrow⟩) henc ?_ (λb o hh=>.inl (h9 b o hh));have:=Wds h8 hw hm (by rw[fB];omega);rw[fB,kb]at this;exact this
end
end Go.Sx
namespace Go.Sx
set_option linter.unusedVariables false
set_option linter.unusedSimpArgs false
def WgF(G:GH)(w:World)(t:Ty)(agg:Bool)(d:t.den)(v:Value)(ns:List Pc):Prop:=
 if agg then∃us:List Value,v= .agg us.toArray/\TyRel G w t d us ns else TyRel G w t d [v] ns
def Wbh(b o:Nat):Nu:=⟨some b,o,0,0,0⟩
def WdE(G:GH)(w:World)(t:Ty)(d:t.den)(b o:Nat)(ns:List Pc):Prop:=∃us,Row w b (o+t.size)/\Mem w b o us/\TyRel G w t d us ns
def fps(ns:List Pc):List CS:=ns.map Pc.fp
def nus(ns:List Pc):List Nu:=ns.map Pc.nu
def WaF(G:GH)(w:World):(ps:List PTy)->WdG ps->List Value->List Pc->List Nu->Prop
 | [],_,vs,ns,ks=>vs= []/\ns= []/\ks= []
 | .v t agg::ps,d,vs,ns,ks=>∃v vs' n1 n2,vs=v::vs'/\ns=n1++n2/\WgF G w t agg d.1 v n1/\WaF G w ps d.2 vs' n2 ks
 | .box t::ps,d,vs,ns,ks=>∃b o vs' n1 n2 ks',vs= .pointer (some ⟨b,o,none⟩)::vs'/\ns=⟨Wbh b o,rng b o t.size⟩::(n1++n2)/\ks=Wbh b o::ks'/\WdE G w t d.1 b o n1/\WaF G w ps d.2 vs' n2 ks'
 | .mut e::ps,d,vs,ns,ks=>∃pc vs' n2 ks',vs=pc.nu.hdr::vs'/\ns=pc::n2/\ks=pc.nu::ks'/\OwnL w (TyRel G w e) e.size pc.nu d.1 pc.fp/\WaF G w ps d.2 vs' n2 ks'
 | .clos g n::ps,d,vs,ns,ks=>∃cvs vs':List Value,vs= .func (.func g) #[] cvs.toArray::vs'/\cvs.length=n/\(∀u∈cvs,u.oneCell'=true)/\WaF G w ps d (cvs++vs') ns ks
 | .kv t agg::ps,d,vs,ns,ks=>∃v vs' n1 n2 ks',vs=v::vs'/\ns=n1++n2/\ks=nus n1++ks'/\WgF G w t agg d.1 v n1/\WaF G w ps d.2 vs' n2 ks'
 | .rp t::ps,d,vs,ns,ks=>∃b o us vs',vs= .pointer (some ⟨b,o,none⟩)::vs'/\Enc G t d.1 us/\WdD G b o us/\WaF G w ps d.2 vs' ns ks
 | .vj _::_,_,_,_,_=>False
 | .boxal t lf::ps,d,vs,ns,ks=>∃b o b' pc vs' n1 n2 ks',vs= .pointer (some ⟨b,o,none⟩):: .pointer (some ⟨b',pc.nu.off+(d.2.1*pc.nu.esz+0),none⟩)::vs'/\ns=⟨Wbh b o,rng b o t.size⟩::(n1++n2)/\ks=Wbh b o::ks'/\
   WdE G w t d.1 b o n1/\n1[lf]?=some pc/\pc.nu.blk=some b'/\d.2.1<pc.nu.len/\WaF G w ps d.2.2 vs' n2 ks'
def WaW(G:GH)(w:World):(ps:List PTy)->Wd1 ps->List Nu->List CS->List Pc->Prop
 | [],_,ks,kf,ns=>ks= []/\kf= []/\ns= []
 | .v _ _::ps,o,ks,kf,ns=>WaW G w ps o ks kf ns
 | .box t::ps,o,ks,kf,ns=>∃b off ks' bL n1 n2,ks=Wbh b off::ks'/\kf=rng b off t.size::bL/\ns=n1++n2/\WdE G w t o.1 b off n1/\WaW G w ps o.2 ks' bL n2
 | .mut e::ps,o,ks,kf,ns=>∃pc:Pc,∃ks' bL,ks=pc.nu::ks'/\kf=pc.fp::bL/\OwnL w (TyRel G w e) e.size pc.nu o.1 pc.fp/\WaW G w ps o.2 ks' bL ns
 | .clos _ _::ps,o,ks,kf,ns=>WaW G w ps o ks kf ns
 | .kv t _::ps,o,ks,kf,ns=>∃n1 ks' bL us,ks=nus n1++ks'/\kf=fps n1++bL/\TyRel G w t o.1 us n1/\WaW G w ps o.2 ks' bL ns
 | .rp _::ps,o,ks,kf,ns=>WaW G w ps o ks kf ns
 | .vj _::_,_,_,_,_=>False
 | .boxal t _::ps,o,ks,kf,ns=>∃b off ks' bL n1 n2,ks=Wbh b off::ks'/\kf=rng b off t.size::bL/\ns=n1++n2/\WdE G w t o.1 b off n1/\WaW G w ps o.2 ks' bL n2
def Wed(G:GH)(w:World):(rs:List PTy)->WeX rs->List Value->List Pc->Prop
 | [],_,vs,ns=>vs= []/\ns= []
 | .v t agg::rs,d,vs,ns=>∃v vs' n1 n2,vs=v::vs'/\ns=n1++n2/\WgF G w t agg d.1 v n1/\Wed G w rs d.2 vs' n2
 | .box t::rs,d,vs,ns=>∃b o vs' n1 n2,vs= .pointer (some ⟨b,o,none⟩)::vs'/\ns=⟨Wbh b o,rng b o t.size⟩::(n1++n2)/\WdE G w t d.1 b o n1/\Wed G w rs d.2 vs' n2
 | .mut _::_,_,_,_=>False
 | .clos _ _::_,_,_,_=>False
 | .kv _ _::_,_,_,_=>False
 | .rp _::_,_,_,_=>False
 | .vj t::rs,d,vs,ns=>∃us u vs' n1 n2,vs= .agg (us++ [u]).toArray::vs'/\u.oneCell'=true/\ns=n1++n2/\TyRel G w t d.1 us n1/\Wed G w rs d.2 vs' n2
 | .boxal _ _::_,_,_,_=>False
def Wgr:List Value->Value
 | [v]=>v
 |vs=>.tuple vs.toArray
def Of(ns:List Pc):CS:=λb o=>∃q∈ns,q.fp b o
structure After(sg:Sig)(o:Wd1 sg.ps×WeX sg.rs)(G:GH)(w:World)(ns:List Pc)(ks:List Nu)(rv:List Value)(kf:List CS)(ms bA:List Pc)(G':GH)(w':World):Prop where
 res:Wed G' w' sg.rs o.2 rv bA
 outs:WaW G' w' sg.ps o.1 ks kf ms
 sep:Sep (kf++fps (ms++bA))
 own:∀S∈kf++fps (ms++bA),∀b off,S b off->G' b off=none/\(Of ns b off\/w.heap.size<=b)/\b<w'.heap.size
 gx:GExt w.heap.size (Of ns) G G'
 g:∀b o v,G' b o=some v->w'.cell? ⟨b,o,none⟩=some v
 le:WLe (Of ns) w w'
def Good(P:Program)(k:FuncId)(sg:Sig):Prop:=
 ∀(d:WdG sg.ps) (o:Wd1 sg.ps×WeX sg.rs),sg.run d=some o->∀(G:GH) (w:World) (vs:List Value) (ns:List Pc) (ks:List Nu),WaF G w sg.ps d vs ns ks->Sep (fps ns)->
  (∀q∈ns,∀b off,q.fp b off->G b off=none/\b<w.heap.size)->(∀b o v,G b o=some v->w.cell? ⟨b,o,none⟩=some v)->
  Calls P k vs.toArray w λe w'=>∃rv kf ms bA G',e= .returned (Wgr rv)/\After sg o G w ns ks rv kf ms bA G' w'
def WeA(P:Program)(k:FuncId):Prop:=∃fn,P.funcs[k]?=some fn∧fn.body.isNone=false∧(fn.name== "runtime.NumGoroutine")=false
def Wdu(P:Program)(Γ:Ctx):Prop:=∀k sg,We Γ k=some sg->Good P k sg/\WeA P k
section
variable{w0:World}{F:CS}{nt:Slots}{G0 G G':GH}{ν:Nat->Nu}{φ:Nat->CS}{objs:WP}{nx:Nat}{st ac:St}{a:Act}{w w':World}{P:Program}{T:Tab}
theorem Wag:∀(t:Ty) (d:t.den) (nx:Nat),(unfold t d nx).2.2=nx+t.owns
 | .prod a b,d,nx=>by simp only[unfold,Wag a,Wag b,Ty.owns,Xak]
 | .own _,_,_=>rfl
 | .int _,_,_| .bool,_,_| .str,_,_| .slice _,_,_=>rfl
theorem Wu{α:Type}{l m:List (Nat×α)}{i:Nat}{x:α}(h:We (l++m) i=some x):We l i=some x\/We m i=some x:=by
 rw[WaS]at h;cases hl:We l i with
 |none=>simp[hl]at h;exact .inr h
 |some y=>simp[hl]at h;subst h;exact .inl rfl
def At(ν:Nat->Nu)(φ:Nat->CS)(nx:Nat)(ns:List Pc):Prop:=∀(j:Nat) (pc:Pc),ns[j]?=some pc->ν (nx+j)=pc.nu/\φ (nx+j)=pc.fp
theorem At.left{n1 n2:List Pc}(h:At ν φ nx (n1++n2)):At ν φ nx n1:=λj pc hj=>h j pc (by rw[Xar (Xn.1 hj).1];exact hj)
theorem At.right{n1 n2:List Pc}{k:Nat}(h:At ν φ nx (n1++n2))(hk:n1.length=k):At ν φ (nx+k) n2:=λj pc hj=>by
 have:=h (k+j) pc (by rw[Xaq (by omega),hk,Xaw];exact hj);rw[Xak];exact this
def Wl9(G:GH)(ν:Nat->Nu)(φ:Nat->CS)(w:World)(id:Nat)(ob:Ob):Prop:=∃(e:Ty) (xs:List e.den),ob= .arr e xs/\OwnL w (TyRel G w e) e.size (ν id) xs (φ id)
theorem W2:∀(t:Ty) (d:t.den) (nx:Nat) (vs:List Value) (ns:List Pc),TyRel G w t d vs ns->At ν φ nx ns->
  (∀(af:Nat),nx+t.owns<=af->CellsRel G ν af (unfold t d nx).1 vs)/\
  (∀id ob,We (unfold t d nx).2.1 id=some ob->nx<=id/\id<nx+t.owns/\Wl9 G ν φ w id ob)
 | .own e,d,nx,vs,ns,⟨pc,h1,h2,h3⟩,hν=>by
  obtain⟨hn,hp⟩:ν nx=pc.nu/\φ nx=pc.fp:=by have:=hν 0 pc (by rw[h1];rfl);simpa using this
  refine⟨λaf hx=>?_,λid ob hl=>?_⟩
  .rw[h2];refine CellsRel.one ⟨by simp[Ty.owns]at hx;omega,by rw[hn]⟩ (WfK _)
  .simp only[unfold]at hl;rw[Wl]at hl;split at hl
   .rename_i e1;subst e1;injection hl with hl;subst hl;exact⟨Xj _,by simp[Ty.owns],e,d,rfl,by rw[hn,hp];exact h3⟩
   .simp[We]at hl
 | .prod p q,d,nx,vs,ns,⟨v1,v2,n1,n2,h1,h2,h3,h4⟩,hν=>by
  subst h2;have bj:=WK p _ _ _ h3;obtain⟨c1,o1⟩:=W2 p d.1 nx v1 n1 h3 hν.left;obtain⟨c2,o2⟩:=W2 q d.2 (nx+p.owns) v2 n2 h4 (hν.right bj);refine⟨λaf hx=>?_,λid ob hl=>?_⟩
  .simp only[Ty.owns]at hx;simp only[unfold,Wag];rw[h1];exact(c1 af (by omega)).append (c2 af (by omega))
  .simp only[unfold,Wag]at hl;simp only[Ty.owns];rcases Wu hl with h|h
   .obtain⟨g1,g2,g3⟩:=o1 id ob h;exact⟨g1,by omega,g3⟩
   .obtain⟨g1,g2,g3⟩:=o2 id ob h;exact⟨by omega,by omega,g3⟩
 | .int k,d,nx,vs,ns,h,_=>⟨λaf _=>W9 (.int k) d vs h.2,λid ob hl=>by simp[unfold,We]at hl⟩
 | .bool,d,nx,vs,ns,h,_=>⟨λaf _=>W9 .bool d vs h.2,λid ob hl=>by simp[unfold,We]at hl⟩
 | .str,d,nx,vs,ns,h,_=>⟨λaf _=>W9 .str d vs h.2,λid ob hl=>by simp[unfold,We]at hl⟩
 | .slice e,d,nx,vs,ns,h,_=>⟨λaf _=>W9 (.slice e) d vs h.2,λid ob hl=>by simp[unfold,We]at hl⟩
theorem Wbg:∀(t:Ty) (d:t.den) (nx:Nat),(unfold t d nx).1.length=t.size
 | .prod a b,d,nx=>by simp only[unfold,Xw,Wbg a,Wbg b,Ty.size]
 | .own _,_,_| .int _,_,_| .bool,_,_| .str,_,_| .slice _,_,_=>rfl
theorem Whu{t:Ty}{agg:Bool}{d:t.den}{v:Value}{ns:List Pc}{nx af:Nat}(h:WgF G w t agg d v ns)(hν:At ν φ nx ns)(hx:nx+t.owns<=af):
  AvRel G ν af (Wqp agg (unfold t d nx).1) v:=by
 unfold WgF at h;unfold Wqp;cases agg with
 |true=>
  simp only[if_true]at h⊢;obtain⟨us,rfl,h⟩:=h;exact⟨us,rfl,(W2 t d nx us ns h hν).1 af hx⟩
 |false=>
  simp only[Xbv,if_false]at h⊢;have hc:=(W2 t d nx [v] ns h hν).1 af hx;have hl:=hc.1;generalize (unfold t d nx).1=cs at*
  match cs,hl with
  | [c],_=>exact hc.2 0 c v rfl rfl
theorem Wkw{t:Ty}{agg:Bool}{d:t.den}{v:Value}{ns:List Pc}(h:WgF G w t agg d v ns):∃us,TyRel G w t d us ns:=by
 unfold WgF at h;split at h
 .obtain⟨us,_,h⟩:=h;exact⟨us,h⟩
 .exact⟨_,h⟩
def Wge(objs:WP):Ty->List Nat->Prop
 | .own e,ids=>∃(id:Nat) (ys:List e.den),ids= [id]/\We objs id=some (.arr e ys)
 | .prod a b,ids=>∃i1 i2,ids=i1++i2/\Wge objs a i1/\Wge objs b i2
 | .int _,ids=>ids= []
 | .bool,ids=>ids= []
 | .str,ids=>ids= []
 | .slice _,ids=>ids= []
theorem Wdq{objs:WP}:∀(t:Ty) (ids:List Nat),Wge objs t ids->ids.length=t.owns
 | .own e,ids,⟨id,ys,h,_⟩=>by rw[h];rfl
 | .prod a b,ids,⟨i1,i2,h,h1,h2⟩=>by rw[h,Xw,Wdq a _ h1,Wdq b _ h2];rfl
 | .int _,ids,h=>by have:ids= []:=h;rw[this];rfl
 | .bool,ids,h=>by have:ids= []:=h;rw[this];rfl
 | .str,ids,h=>by have:ids= []:=h;rw[this];rfl
 | .slice _,ids,h=>by have:ids= []:=h;rw[this];rfl
def KeptBox(objs:WP)(ν:Nat->Nu)(bx:List (Nat×CS))(t:Ty)(k:Kp)(nu:Nu):Prop:=
 ∃cs b,We objs k.id=some (.box cs)/\k.off+t.size<=cs.length/\(ν k.id).blk=some b/\nu=Wbh b ((ν k.id).off+k.off)/\(k.id,rng b ((ν k.id).off+k.off) t.size)∈bx
def KeptOk(objs:WP)(ν:Nat->Nu)(bx:List (Nat×CS)):List PTy->List Kp->List Nu->Prop
 | [],ids,ks=>ids= []/\ks= []
 | .v _ _::ps,ids,ks=>KeptOk objs ν bx ps ids ks
 | .box t::ps,ids,ks=>∃k aB nu ks',ids=k::aB/\ks=nu::ks'/\KeptBox objs ν bx t k nu/\KeptOk objs ν bx ps aB ks'
 | .mut e::ps,ids,ks=>∃(id:Nat) (aB:List Kp) (ks':List Nu) (ys:List e.den),ids=⟨id,0⟩::aB/\ks=ν id::ks'/\We objs id=some (.arr e ys)/\KeptOk objs ν bx ps aB ks'
 | .clos _ _::ps,ids,ks=>KeptOk objs ν bx ps ids ks
 | .kv t _::ps,ids,ks=>∃i1 i2 ks',ids=kp0 i1++i2/\ks=i1.map ν++ks'/\Wge objs t i1/\KeptOk objs ν bx ps i2 ks'
 | .rp _::ps,ids,ks=>KeptOk objs ν bx ps ids ks
 | .vj _::_,_,_=>False
 | .boxal t _::ps,ids,ks=>∃k aB nu ks',ids=k::aB/\ks=nu::ks'/\KeptBox objs ν bx t k nu/\KeptOk objs ν bx ps aB ks'
theorem KeptBox.mono{bx ie:List (Nat×CS)}{t:Ty}{k:Kp}{nu:Nu}(hb:∀p∈bx,p∈ie)(h:KeptBox objs ν bx t k nu):KeptBox objs ν ie t k nu:=by
 obtain⟨cs,b,h1,h2,h3,h4,h5⟩:=h;exact⟨cs,b,h1,h2,h3,h4,hb _ h5⟩
theorem KeptOk.mono{bx ie:List (Nat×CS)}(hb:∀p∈bx,p∈ie):∀(ps:List PTy) (ids:List Kp) (ks:List Nu),KeptOk objs ν bx ps ids ks->KeptOk objs ν ie ps ids ks
 | [],_,_,h=>h
 | .v _ _::ps,ids,ks,h=>KeptOk.mono hb ps ids ks h
 | .box t::ps,ids,ks,⟨k,aB,nu,ks',h1,h2,h3,h4⟩=>⟨k,aB,nu,ks',h1,h2,h3.mono hb,KeptOk.mono hb ps aB ks' h4⟩
 | .mut e::ps,ids,ks,⟨id,aB,ks',ys,h1,h2,h3,h4⟩=>⟨id,aB,ks',ys,h1,h2,h3,KeptOk.mono hb ps aB ks' h4⟩
 | .clos _ _::ps,ids,ks,h=>KeptOk.mono hb ps ids ks h
 | .kv t _::ps,ids,ks,⟨i1,i2,ks',h1,h2,h3,h4⟩=>⟨i1,i2,ks',h1,h2,h3,KeptOk.mono hb ps i2 ks' h4⟩
 | .rp _::ps,ids,ks,h=>KeptOk.mono hb ps ids ks h
 | .vj _::_,_,_,h=>h.elim
 | .boxal t _::ps,ids,ks,⟨k,aB,nu,ks',h1,h2,h3,h4⟩=>⟨k,aB,nu,ks',h1,h2,h3.mono hb,KeptOk.mono hb ps aB ks' h4⟩
def Wjj(G:GH)(ν:Nat->Nu)(w:World)(ao:WP)(bx:List (Nat×CS))(af:Nat)(id:Nat)(S:CS)(ob:Ob):Prop:=
 (∃gr off ds b us,We ao id=some (.box gr)/\ob= .box (WcE gr off ds)/\off+ds.length<=gr.length/\(ν id).blk=some b/\Mem w b ((ν id).off+off) us/\CellsRel G ν af ds us/\
  S=rng b ((ν id).off+off) ds.length/\(id,rng b ((ν id).off+off) ds.length)∈bx)\/
 (∃(e:Ty) (ys xs:List e.den),We ao id=some (.arr e ys)/\ob= .arr e xs/\OwnL w (TyRel G w e) e.size (ν id) xs S)
theorem We3(ao:WP){bx:List (Nat×CS)}{af:Nat}:∀(t:Ty) (d:t.den) (us:List Value) (ns:List Pc) (ids:List Nat),TyRel G w t d us ns->nus ns=ids.map ν->Wge ao t ids->
  (∀id ob,We (Wbu t d ids) id=some ob->∃(j:Nat) (S:CS),ids[j]?=some id/\(fps ns)[j]?=some S/\Wjj G ν w ao bx af id S ob)/\∀id∈ids,∃ob,We (Wbu t d ids) id=some ob
 | .own e,d,us,ns,ids,⟨pc,h1,h2,h3⟩,hn,⟨id,ys,h,aA⟩=>by
  subst h h1;simp only[nus,Xag,Xca,List.cons.injEq,and_true]at hn;refine⟨λi ob hl=>?_,λi hi=>?_⟩
  .simp only[Wbu,Wl]at hl;split at hl
   .rename_i e3;subst e3;injection hl with hl;subst hl;exact⟨0,pc.fp,rfl,rfl,.inr ⟨e,ys,d,aA,rfl,by rw[←hn];exact h3⟩⟩
   .simp[We]at hl
  .rw[Xab.1 hi];exact⟨.arr e d,by simp[Wbu,We]⟩
 | .prod a b,d,us,ns,ids,⟨u1,u2,n1,n2,h1,h2,h3,h4⟩,hn,⟨i1,i2,h,nS,gP⟩=>by
  subst h h2;have bj:=WK a _ _ _ h3;have fN:=Wdq a _ nS;simp only[nus,Xo]at hn;obtain⟨e1,e2⟩:=Xfb hn (by rw[Xad,Xad,bj,fN]);have t1:(i1++i2).take a.owns=i1:=by rw[←fN];simp
  have t2:(i1++i2).drop a.owns=i2:=by rw[←fN];simp
  obtain⟨a1,a2⟩:=We3 ao (bx:=bx) (af:=af) a d.1 _ n1 i1 h3 e1 nS;obtain⟨b1,b2⟩:=We3 ao (bx:=bx) (af:=af) b d.2 _ n2 i2 h4 e2 gP;simp only[Wbu,t1,t2];refine⟨λi ob hl=>?_,λi hi=>?_⟩
  .rcases Wu hl with hl|hl
   .obtain⟨j,S,g1,g2,g3⟩:=a1 i ob hl;simp only[fps]at g2;refine⟨j,S,?_,?_,g3⟩
    .rw[Xar (Xn.1 g1).1];exact g1
    .simp only[fps,Xo];rw[Xar (Xn.1 g2).1];exact g2
   .obtain⟨j,S,g1,g2,g3⟩:=b1 i ob hl;simp only[fps]at g2;refine⟨i1.length+j,S,?_,?_,g3⟩
    .rw[Xaq (by omega),Xaw];exact g1
    .simp only[fps,Xo];rw[Xaq (by rw[Xad,bj,fN];omega),Xad,bj,fN,Xaw];exact g2
  .rcases Xk.1 hi with hi|hi
   .obtain⟨ob,ho⟩:=a2 i hi;exact⟨ob,by rw[WaS,ho]⟩
   .obtain⟨ob,ho⟩:=b2 i hi;rw[WaS];cases hq:We (Wbu a d.1 i1) i with
    |some bp=>exact⟨bp,rfl⟩
    |none=>exact⟨ob,ho⟩
 | .int _,d,us,ns,ids,hr,_,h=>by have:ids= []:=h;subst this;exact⟨λi ob hl=>by simp[Wbu,We]at hl,λi hi=>by simp at hi⟩
 | .bool,d,us,ns,ids,hr,_,h=>by have:ids= []:=h;subst this;exact⟨λi ob hl=>by simp[Wbu,We]at hl,λi hi=>by simp at hi⟩
 | .str,d,us,ns,ids,hr,_,h=>by have:ids= []:=h;subst this;exact⟨λi ob hl=>by simp[Wbu,We]at hl,λi hi=>by simp at hi⟩
 | .slice _,d,us,ns,ids,hr,_,h=>by have:ids= []:=h;subst this;exact⟨λi ob hl=>by simp[Wbu,We]at hl,λi hi=>by simp at hi⟩
theorem WfM:∀(t:Ty) (d:t.den) (ids:List Nat) (id:Nat) (ob:Ob),We (Wbu t d ids) id=some ob->id∈ids
 | .own e,d,ids,id,ob,h=>by
  cases ids with
  |nil=>simp[Wbu,We]at h
  |cons i l=>
   simp only[Wbu,Wl]at h;split at h
   .rename_i e;subst e;exact Xg ..
   .simp[We]at h
 | .prod a b,d,ids,id,ob,h=>by
  simp only[Wbu]at h;rcases Wu h with h|h
  .exact Xec (WfM a d.1 _ id ob h)
  .exact Xfm (WfM b d.2 _ id ob h)
 | .int _,_,_,_,_,h=>by simp[Wbu,We]at h
 | .bool,_,_,_,_,h=>by simp[Wbu,We]at h
 | .str,_,_,_,_,h=>by simp[Wbu,We]at h
 | .slice _,_,_,_,_,h=>by simp[Wbu,We]at h
def kids(l:List Kp):List Nat:=l.map Kp.id
theorem WfC(l:List Nat):kids (kp0 l)=l:=by simp[kids,kp0,Function.comp_def]
theorem Wal(ao:WP){bx:List (Nat×CS)}:∀(ps:List PTy) (o:Wd1 ps) (ids:List Kp) (ks:List Nu) (kf:List CS) (ms:List Pc) (objs:WP) (nx af:Nat),WaW G w ps o ks kf ms->KeptOk ao ν bx ps ids ks->At ν φ nx ms->
  (kids ids).Nodup->(∀k∈ids,k.id<nx/\We objs k.id=We ao k.id)->nx+ms.length<=af->
  (WS ps o ids objs nx).2=nx+ms.length/\kf.length=ids.length/\
  ∀id ob,We (WS ps o ids objs nx).1 id=some ob->(nx<=id/\id<nx+ms.length/\Wl9 G ν φ w id ob)\/(∃(j:Nat) (S:CS),(kids ids)[j]?=some id/\kf[j]?=some S/\Wjj G ν w ao bx af id S ob)\/(We objs id=some ob/\id∉kids ids)
 | [],o,ids,ks,kf,ms,objs,nx,af,⟨_,h1,h2⟩,hk,_,_,_,_=>by subst h1 h2;obtain⟨hk,_⟩:=hk;subst hk;exact⟨rfl,rfl,λid ob hl=>.inr (.inr ⟨hl,by simp[kids]⟩)⟩
 | .v _ _::ps,o,ids,ks,kf,ms,objs,nx,af,h,hk,hν,hn,hi,hx=>Wal ao ps o ids ks kf ms objs nx af h hk hν hn hi hx
 | .box t::ps,o,ids,ks,kf,ms,objs,nx,af,⟨b,off,ks',bL,n1,n2,h1,h2,h3,hb,h5⟩,hk,hν,hn,hi,hx=>putOuts_box ao t ps o.1 o.2 ids ks kf ms objs nx af (λids ks kf ms objs nx af=>Wal ao ps o.2 ids ks kf ms objs nx af) ⟨b,off,ks',bL,n1,n2,h1,h2,h3,hb,h5⟩ hk hν hn hi hx
 | .vj _::_,_,_,_,_,_,_,_,_,h,_,_,_,_,_=>h.elim
 | .boxal t _::ps,o,ids,ks,kf,ms,objs,nx,af,⟨b,off,ks',bL,n1,n2,h1,h2,h3,hb,h5⟩,hk,hν,hn,hi,hx=>putOuts_box ao t ps o.1 o.2 ids ks kf ms objs nx af (λids ks kf ms objs nx af=>Wal ao ps o.2 ids ks kf ms objs nx af) ⟨b,off,ks',bL,n1,n2,h1,h2,h3,hb,h5⟩ hk hν hn hi hx
 | .mut e::ps,o,ids,ks,kf,ms,objs,nx,af,⟨pc,ks',bL,h1,h2,h3,h4⟩,hk,hν,hn,hi,hx=>by
  obtain⟨id,aB,nT,ys,rfl,iD,aA,d6⟩:=hk;rw[h1]at iD;simp only[List.cons.injEq]at iD;obtain⟨hνid,rfl⟩:=iD;subst h2;have au:=Xz.1 hn;obtain⟨e1,el,e2⟩:=Wal ao ps o.2 aB ks' bL ms ((id,.arr e o.1)::objs) nx af h4 d6 hν au.2 (λk ig=>by
   obtain⟨g1,g2⟩:=hi k (Xe _ ig);have hne:id≠k.id:=λe=>au.1 (by show id∈kids aB;rw[e];exact Xae ig);exact⟨g1,by rw[Wl,if_neg hne];exact g2⟩) hx
  simp only[WS];refine⟨e1,by simp[el],λi ob hl=>?_⟩;rcases e2 i ob hl with g|⟨j,S,g1,g2,g3⟩|⟨g,gn⟩
  .exact .inl g
  .exact .inr (.inl ⟨j+1,S,g1,g2,g3⟩)
  .rw[Wl]at g;split at g
   .rename_i e3;subst e3;injection g with g;subst g;exact .inr (.inl ⟨0,pc.fp,rfl,rfl,.inr ⟨e,ys,o.1,aA,rfl,by rw[←hνid];exact h3⟩⟩)
   .rename_i hne;exact .inr (.inr ⟨g,λhm=>by rcases Xm.1 hm with hm|hm;exact hne hm.symm;exact gn hm⟩)
 | .clos _ _::ps,o,ids,ks,kf,ms,objs,nx,af,h,hk,hν,hn,hi,hx=>Wal ao ps o ids ks kf ms objs nx af h hk hν hn hi hx
 | .rp _::ps,o,ids,ks,kf,ms,objs,nx,af,h,hk,hν,hn,hi,hx=>Wal ao ps o ids ks kf ms objs nx af h hk hν hn hi hx
 | .kv t agg::ps,o,ids,ks,kf,ms,objs,nx,af,⟨n1,ks',bL,us,h1,h2,h3,h4⟩,⟨i1,i2,nT,aO,kc,ho,d6⟩,hν,hn,hi,hx=>by
  subst aO h2;have bj:=WK t _ _ _ h3;have fN:=Wdq t _ ho;rw[h1]at kc;obtain⟨q1,q2⟩:=Xfb kc (by simp[nus,bj,fN]);subst q2;have kd:(kp0 i1).length=t.owns:=by simp[kp0,fN]
  have t1:((kp0 i1++i2).take t.owns).map Kp.id=i1:=by rw[←kd];simp;exact WfC i1
  have t2:(kp0 i1++i2).drop t.owns=i2:=by rw[←kd];simp
  obtain⟨r1,r2⟩:=We3 (bx:=bx) (af:=af) ao t o.1 us n1 i1 h3 q1 ho;have eQ:kids (kp0 i1++i2)=i1++kids i2:=by simp only[kids,Xo];congr 1;exact WfC i1
  rw[eQ]at hn;obtain⟨m1,m2,m3⟩:=Xaa.1 hn;obtain⟨e1,el,e2⟩:=Wal ao ps o.2 i2 ks' bL ms (Wbu t o.1 i1++objs) nx af h4 d6 hν m2 (λk ig=>by
   obtain⟨g1,g2⟩:=hi k (Xf _ ig);refine⟨g1,?_⟩;rw[WaS];cases hq:We (Wbu t o.1 i1) k.id with
   |none=>exact g2
   |some ob=>exact absurd rfl (m3 _ (WfM t o.1 i1 _ ob hq) _ (Xae ig))) hx
  simp only[WS,t1,t2];have du:(fps n1).length=i1.length:=by simp[fps,bj,fN]
  refine⟨e1,by simp[du,el,kp0],λi ob hl=>?_⟩;rw[eQ];rcases e2 i ob hl with g|⟨j,S,g1,g2,g3⟩|⟨g,gn⟩
  .exact .inl g
  .refine .inr (.inl ⟨i1.length+j,S,?_,?_,g3⟩)
   .rw[Xaq (by omega),Xaw];exact g1
   .rw[Xaq (by omega),du,Xaw];exact g2
  .rw[WaS]at g;cases hq:We (Wbu t o.1 i1) i with
   |some bp=>
    rw[hq]at g;injection g with g;subst g;obtain⟨j,S,g1,g2,g3⟩:=r1 i _ hq;refine .inr (.inl ⟨j,S,?_,?_,g3⟩)
    .rw[Xar (Xn.1 g1).1];exact g1
    .rw[Xar (Xn.1 g2).1];exact g2
   |none=>
    rw[hq]at g;refine .inr (.inr ⟨g,λlh=>?_⟩);rcases Xk.1 lh with h|h
    .obtain⟨bp,eR⟩:=r2 i h;rw[hq]at eR;cases eR
    .exact gn h
where
 putOuts_box (ao:WP) {bx:List (Nat×CS)} (t:Ty) (ps:List PTy) (o1:t.den) (o2:Wd1 ps) (ids:List Kp) (ks:List Nu) (kf:List CS) (ms:List Pc) (objs:WP) (nx af:Nat)
   (ih:∀(ids:List Kp) (ks:List Nu) (kf:List CS) (ms:List Pc) (objs:WP) (nx af:Nat),WaW G w ps o2 ks kf ms->KeptOk ao ν bx ps ids ks->At ν φ nx ms->
    (kids ids).Nodup->(∀k∈ids,k.id<nx/\We objs k.id=We ao k.id)->nx+ms.length<=af->
    (WS ps o2 ids objs nx).2=nx+ms.length/\kf.length=ids.length/\
    ∀id ob,We (WS ps o2 ids objs nx).1 id=some ob->(nx<=id/\id<nx+ms.length/\Wl9 G ν φ w id ob)\/(∃(j:Nat) (S:CS),(kids ids)[j]?=some id/\kf[j]?=some S/\Wjj G ν w ao bx af id S ob)\/(We objs id=some ob/\id∉kids ids))
   (h:∃b off ks' bL n1 n2,ks=Wbh b off::ks'/\kf=rng b off t.size::bL/\ms=n1++n2/\WdE G w t o1 b off n1/\WaW G w ps o2 ks' bL n2)
   (hk:∃k aB nu ks',ids=k::aB/\ks=nu::ks'/\KeptBox ao ν bx t k nu/\KeptOk ao ν bx ps aB ks') (hν:At ν φ nx ms)
   (hn:(kids ids).Nodup) (hi:∀k∈ids,k.id<nx/\We objs k.id=We ao k.id) (hx:nx+ms.length<=af):
   (WS (.box t::ps) (o1,o2) ids objs nx).2=nx+ms.length/\kf.length=ids.length/\
   ∀id ob,We (WS (.box t::ps) (o1,o2) ids objs nx).1 id=some ob->(nx<=id/\id<nx+ms.length/\Wl9 G ν φ w id ob)\/(∃(j:Nat) (S:CS),(kids ids)[j]?=some id/\kf[j]?=some S/\Wjj G ν w ao bx af id S ob)\/(We objs id=some ob/\id∉kids ids):=by
  obtain⟨b,off,ks',bL,n1,n2,h1,h2,h3,⟨us,_,hmem,dL⟩,h5⟩:=h;obtain⟨k,aB,nu,nT,rfl,iD,⟨gr,b0,aA,bd,az,gt,lY⟩,d6⟩:=hk;rw[h1]at iD;simp only[List.cons.injEq]at iD;obtain⟨j9,rfl⟩:=iD;rw[gt]at j9;unfold Wbh at j9;injection j9 with lZ oU;injection lZ with lZ;subst lZ oU h2 h3;have bj:=WK t _ _ _ dL;have hlen:(n1++n2).length=t.owns+n2.length:=by rw[Xw,bj]
  obtain⟨c1,li⟩:=W2 t o1 nx us n1 dL hν.left;have au:=Xz.1 hn;obtain⟨l0,gu⟩:=hi k (Xg ..);have cg:=Wbg t o1 nx;have jJ:Wfl (We objs k.id) k.off (unfold t o1 nx).1= .box (WcE gr k.off (unfold t o1 nx).1):=by rw[gu,aA];rfl
  obtain⟨e1,el,e2⟩:=ih aB ks' bL n2 ((k.id,Wfl (We objs k.id) k.off (unfold t o1 nx).1)::((unfold t o1 nx).2.1++objs)) (nx+t.owns) af h5 d6 (hν.right bj) au.2 (λk' ig=>by
   obtain⟨g1,g2⟩:=hi k' (Xe _ ig);refine⟨by omega,?_⟩;rw[Wl,if_neg (λe=>au.1 (by rw[e];exact Xae ig)),WaS];cases hq:We (unfold t o1 nx).2.1 k'.id with
   |none=>exact g2
   |some ob=>have:=(li _ ob hq).1;omega) (by omega)
  simp only[WS,Wag];refine⟨by rw[e1,hlen];omega,by simp[el],λi ob hl=>?_⟩;rcases e2 i ob hl with⟨g1,g2,g3⟩|⟨j,S,g1,g2,g3⟩|⟨g,gn⟩
  .exact .inl ⟨by omega,by omega,g3⟩
  .exact .inr (.inl ⟨j+1,S,g1,g2,g3⟩)
  .rw[Wl]at g;split at g
   .rename_i e3;subst e3;injection g with g;rw[jJ]at g;subst g;refine .inr (.inl ⟨0,_,rfl,rfl,.inl ⟨gr,k.off,_,_,us,aA,rfl,by rw[cg];exact bd,az,hmem,c1 af (by omega),by rw[cg],by rw[cg];exact lY⟩⟩)
   .rename_i hne;rcases Wu g with g|g
    .obtain⟨g1,g2,g3⟩:=li i ob g;exact .inl ⟨g1,by omega,g3⟩
    .exact .inr (.inr ⟨g,λhm=>by rcases Xm.1 hm with hm|hm;exact hne hm.symm;exact gn hm⟩)
def Wqb(G:GH)(ν:Nat->Nu)(φ:Nat->CS)(w:World)(af:Nat)(id:Nat)(ob:Ob):Prop:=
 Wl9 G ν φ w id ob\/∃cs b us,ob= .box cs/\(ν id).blk=some b/\Row w b ((ν id).off+cs.length)/\Mem w b (ν id).off us/\CellsRel G ν af cs us/\CS.le (rng b (ν id).off cs.length) (φ id)
theorem Wcn:∀(rs:List PTy) (d:WeX rs) (vs:List Value) (ns:List Pc) (objs:WP) (nx af:Nat),Wed G w rs d vs ns->At ν φ nx ns->nx+ns.length<=af->
  (WaG rs d objs nx).2.2=nx+ns.length/\
  (∀id ob,We (WaG rs d objs nx).2.1 id=some ob->(nx<=id/\id<nx+ns.length/\Wqb G ν φ w af id ob)\/We objs id=some ob)/\
  WnK G ν af (WaG rs d objs nx).1 vs
 | [],d,vs,ns,objs,nx,af,⟨h1,h2⟩,_,_=>by subst h1 h2;exact⟨rfl,λid ob hl=>.inr hl,rfl,λj x v hj=>by simp[WaG]at hj⟩
 | .v t agg::rs,d,vs,ns,objs,nx,af,⟨v,vs',n1,n2,h1,h2,h3,h4⟩,hν,hx=>by
  subst h2;obtain⟨us,fA⟩:=Wkw h3;have bj:=WK _ _ _ _ fA;have hlen:(n1++n2).length=t.owns+n2.length:=by rw[Xw,bj]
  obtain⟨_,o1⟩:=W2 t d.1 nx us n1 fA hν.left;obtain⟨e1,e2,e4,e5⟩:=Wcn rs d.2 vs' n2 ((unfold t d.1 nx).2.1++objs) (nx+t.owns) af h4 (hν.right bj) (by omega);simp only[WaG,Wag];refine⟨by rw[e1,hlen];omega,λi ob hl=>?_,?_⟩
  .rcases e2 i ob hl with⟨g1,g2,g3⟩|g
   .exact .inl ⟨by omega,by omega,g3⟩
   .rcases Wu g with g|g
    .obtain⟨g1,g2,g3⟩:=o1 i ob g;exact .inl ⟨g1,by omega,.inl g3⟩
    .exact .inr g
  .rw[h1];refine⟨by simp[e4],λj x u hj hu=>?_⟩;cases j with
   |zero=>simp at hj hu;subst hj hu;exact Whu h3 hν.left (by omega)
   |succ j=>exact e5 j x u (by simpa using hj) (by simpa using hu)
 | .box t::rs,d,vs,ns,objs,nx,af,⟨b,o,vs',n1,n2,h1,h2,⟨us,hrow,hmem,dL⟩,h5⟩,hν,hx=>by
  subst h2;have bj:=WK _ _ _ _ dL;have hlen:((⟨Wbh b o,rng b o t.size⟩:Pc)::(n1++n2)).length=1+t.owns+n2.length:=by rw[List.length_cons,Xw,bj];omega
  obtain⟨hν0,hφ0⟩:ν nx=Wbh b o/\φ nx=rng b o t.size:=by have:=hν 0 _ rfl;simpa using this
  have hν1:At ν φ (nx+1) (n1++n2):=hν.right (n1:=[⟨Wbh b o,rng b o t.size⟩]) rfl;obtain⟨c1,o1⟩:=W2 t d.1 (nx+1) us n1 dL hν1.left;obtain⟨e1,e2,e4,e5⟩:=Wcn rs d.2 vs' n2 ((nx,.box (unfold t d.1 (nx+1)).1)::((unfold t d.1 (nx+1)).2.1++objs)) (nx+1+t.owns) af h5 (hν1.right bj) (by omega);have cg:=Wbg t d.1 (nx+1);simp only[WaG,Wag];refine⟨by rw[e1,hlen];omega,λid ob hl=>?_,?_⟩
  .rcases e2 id ob hl with⟨g1,g2,g3⟩|g
   .exact .inl ⟨by omega,by omega,g3⟩
   .rw[Wl]at g;split at g
    .rename_i e;subst e;injection g with g;subst g;refine .inl ⟨Xj _,by omega,.inr ⟨_,b,us,rfl,by rw[hν0];rfl,?_,?_,c1 af (by omega),?_⟩⟩
     .rw[hν0,cg];exact hrow
     .rw[hν0];exact hmem
     .rw[hν0,cg,hφ0];exactλ_ _ hh=>hh
    .rcases Wu g with g|g
     .obtain⟨g1,g2,g3⟩:=o1 id ob g;exact .inl ⟨by omega,by omega,.inl g3⟩
     .exact .inr g
  .rw[h1];refine⟨by simp[e4],λj x u hj hu=>?_⟩;cases j with
   |zero=>
    simp at hj hu;subst hj hu;exact⟨⟨by omega,b,by rw[hν0];rfl,by rw[hν0];rfl⟩,rfl⟩
   |succ j=>exact e5 j x u (by simpa using hj) (by simpa using hu)
 | .mut _::_,_,_,_,_,_,_,h,_,_=>h.elim
 | .clos _ _::_,_,_,_,_,_,_,h,_,_=>h.elim
 | .kv _ _::_,_,_,_,_,_,_,h,_,_=>h.elim
 | .rp _::_,_,_,_,_,_,_,h,_,_=>h.elim
 | .vj t::rs,d,vs,ns,objs,nx,af,⟨us,u,vs',n1,n2,h1,h0,h2,h3,h4⟩,hν,hx=>by
  subst h2;have bj:=WK _ _ _ _ h3;have hlen:(n1++n2).length=t.owns+n2.length:=by rw[Xw,bj]
  obtain⟨c1,o1⟩:=W2 t d.1 nx us n1 h3 hν.left;obtain⟨e1,e2,e4,e5⟩:=Wcn rs d.2 vs' n2 ((unfold t d.1 nx).2.1++objs) (nx+t.owns) af h4 (hν.right bj) (by omega);simp only[WaG,Wag];refine⟨by rw[e1,hlen];omega,λi ob hl=>?_,?_⟩
  .rcases e2 i ob hl with⟨g1,g2,g3⟩|g
   .exact .inl ⟨by omega,by omega,g3⟩
   .rcases Wu g with g|g
    .obtain⟨g1,g2,g3⟩:=o1 i ob g;exact .inl ⟨g1,by omega,.inl g3⟩
    .exact .inr g
  .rw[h1];refine⟨by simp[e4],λj x v hj hv=>?_⟩;cases j with
   |zero=>simp at hj hv;subst hj hv;exact⟨us++ [u],rfl,(c1 af (by omega)).append (CellsRel.one trivial h0)⟩
   |succ j=>exact e5 j x v (by simpa using hj) (by simpa using hv)
 | .boxal _ _::_,_,_,_,_,_,_,h,_,_=>h.elim
theorem Wm2{xs:List AV}{vs:List Value}(h:WnK G ν nx xs vs):AValRel G ν nx (Wqv xs) (Wgr vs):=by
 obtain⟨h1,h2⟩:=h
 match xs,vs,h1 with
 | [],[],_=>exact⟨[],rfl,rfl,λj x v hj=>by simp at hj⟩
 | [x],[v],_=>exact h2 0 x v rfl rfl
 |x::y::xs,v::u::vs,h1=>exact⟨v::u::vs,rfl,h1,h2⟩
end
end Go.Sx
namespace Go.Sx
set_option linter.unusedVariables false
set_option linter.unusedSimpArgs false
theorem Wah(i:Nat):∀l:List Nat,Wa7 i l=true↔i∈l
 | []=>by simp[Wa7]
 |j::l=>by
  simp only[Wa7,Bool.or_eq_true,Wah i l,Xm];rw[show(Nat.beq i j=true)=(i=j)from by simp]
theorem Wdb:∀l:List Nat,WaJ l=true↔l.Nodup
 | []=>by simp[WaJ]
 |i::l=>by
  have h:=Wah i l;simp only[WaJ,Xh,Xai,Xz,Wdb l];constructor
  .rintro⟨h1,h2⟩;exact⟨λhm=>(by rw[h.2 hm]at h1;exact absurd h1 (by simp)),h2⟩
  .rintro⟨h1,h2⟩;refine⟨?_,h2⟩;cases he:Wa7 i l with
   |false=>rfl
   |true=>exact absurd (h.1 he) h1
theorem WiL{l m:List Nat}(h:We4 l m=true):∀i∈l,i∉m:=λi hi hm=>by
 unfold We4 at h;have:=Xaf.1 h i hi;rw[(Wah i m).2 hm]at this;cases this
section
variable{w0:World}{F:CS}{nt:Slots}{G0 G G':GH}{ν:Nat->Nu}{φ:Nat->CS}{objs:WP}{nx:Nat}{st ac:St}{a:Act}{w w':World}{P:Program}{T:Tab}
theorem Wii(h:HR w0 F G ν φ objs nx w){t:Ty}{agg:Bool}{x:AVal}{v:Value}{cs:List Cell}{d:t.den}{m l:List Nat}(hg:GLe G G')(hx:AValRel G ν nx x v)(hl:Lent G' w φ objs l)(hm:m.Nodup)
  (hc:cellsOf agg x=some cs) (hf:W1 t cs objs=some (d,m,l)):∃ns,WgF G' w t agg d v ns/\Sep (fps ns)/\(∀p∈ns,CS.le p.fp (FromL φ objs m))/\(∀i∈m,Live objs i)/\(∀i∈l,Live objs i):=by
 unfold cellsOf at hc;split at hc
 .split at hc
  .cases hc
  .rename_i c ha;injection hc with hc;subst hc;obtain⟨ns,h1,h2,h3,h4,h5,_⟩:=WQ h hg t [c] [v] d m l (CellsRel.one hx.1 hx.2) hl hm hf;refine⟨ns,?_,h2,h3,h4,h5⟩;unfold WgF;rw[if_neg ha];exact h1
 .split at hc
  .rename_i ds ha;injection hc with hc;subst hc;obtain⟨us,rfl,aF⟩:=hx;obtain⟨ns,h1,h2,h3,h4,h5,_⟩:=WQ h hg t ds us d m l aF hl hm hf;refine⟨ns,?_,h2,h3,h4,h5⟩;unfold WgF;rw[if_pos ha];exact⟨us,rfl,h1⟩
  .cases hc
 .cases hc
def Wqc(objs:WP)(m:List Nat):Prop:=∀i∈m,∃(e:Ty) (xs:List e.den),We objs i=some (.arr e xs)
theorem WfD:∀(t:Ty) (cs:List Cell) (d:t.den) (m l:List Nat),Wqc objs m->W1 t cs objs=some (d,m,l)->m.length<=t.owns
 | .prod a b,cs,d,m,l,ha,h=>by
  simp only[W1]at h;split at h
  .rename_i x m1 l1 y m2 l2 h1 h2;simp only[Option.some.injEq,Prod.mk.injEq]at h;obtain⟨rfl,rfl,rfl⟩:=h;have:=WfD a _ _ _ _ (λi hi=>ha i (Xi _ hi)) h1;have:=WfD b _ _ _ _ (λi hi=>ha i (Xf _ hi)) h2;rw[Xw];show _<=a.owns+b.owns;omega
  .simp at h
 | .own e,cs,d,m,l,ha,h=>by
  simp only[W1]at h;split at h
  .rename_i id;obtain⟨⟨ys,m'⟩,ho,hf⟩:=Xs.1 h;simp only[Prod.mk.injEq]at hf;obtain⟨rfl,rfl,rfl⟩:=hf;unfold Woy at ho;split at ho
   .obtain⟨zs,_,ho⟩:=Xs.1 ho;obtain⟨_,rfl⟩:=Prod.mk.inj ho;exact Xj 1
   .rename_i e' xs i p aA;split at ho
    .split at ho
     .simp only[Option.some.injEq,Prod.mk.injEq]at ho;obtain⟨_,rfl⟩:=ho;obtain⟨e2,oV,h2⟩:=ha id (Xg ..);rw[aA]at h2;cases h2
     .simp at ho
    .simp at ho
   .simp at ho
  .split at h
   .obtain⟨zs,_,h⟩:=Xs.1 h;have h2:=(Prod.mk.inj (Prod.mk.inj h).2).1;subst h2;exact Xj 1
   .simp at h
  .simp only[Option.some.injEq,Prod.mk.injEq]at h;obtain⟨rfl,rfl,rfl⟩:=h;exact Xbq _
  .simp at h
 | .slice e,cs,d,m,l,_,h=>by
  have hm:m= []:=by
   simp only[W1]at h;split at h
   .obtain⟨q,_,h⟩:=Xs.1 h;exact((Prod.mk.inj (Prod.mk.inj h).2).1).symm
   .split at h
    .obtain⟨q,_,h⟩:=Xs.1 h;exact((Prod.mk.inj (Prod.mk.inj h).2).1).symm
    .simp at h
   .injection h with h;exact((Prod.mk.inj (Prod.mk.inj h).2).1).symm
   .obtain⟨q,_,h⟩:=Xs.1 h;exact((Prod.mk.inj (Prod.mk.inj h).2).1).symm
   .simp at h
  rw[hm];exact Xbq _
 | .int k,cs,d,m,l,_,h=>by
  simp only[W1]at h;split at h
  .obtain⟨q,hq,h⟩:=Xs.1 h;simp only[Prod.mk.injEq]at h;obtain⟨rfl,rfl,rfl⟩:=h;exact Xj 0
  .simp at h
 | .bool,cs,d,m,l,_,h=>by
  simp only[W1]at h;split at h
  .obtain⟨q,hq,h⟩:=Xs.1 h;simp only[Prod.mk.injEq]at h;obtain⟨rfl,rfl,rfl⟩:=h;exact Xj 0
  .simp at h
 | .str,cs,d,m,l,_,h=>by
  simp only[W1]at h;split at h
  .obtain⟨q,hq,h⟩:=Xs.1 h;simp only[Prod.mk.injEq]at h;obtain⟨rfl,rfl,rfl⟩:=h;exact Xj 0
  .simp at h
theorem Wdt(h:HR w0 F G ν φ objs nx w)(hg:GLe G G'){t:Ty}(ht:t.owns=0){cs:List Cell}{vs:List Value}{d:t.den}{m l:List Nat}(hc:CellsRel G ν nx cs vs)(hl:Lent G' w φ objs l)(hf:W1 t cs objs=some (d,m,l))(hm:m= []):TyRel G' w t d vs []:=by
 subst hm;obtain⟨ns,h1,_⟩:=WQ h hg t cs vs d [] l hc hl Xcz hf;have:=WK _ _ _ _ h1;rw[ht]at this;rw[Xx this]at h1;exact h1
def pcs(ν:Nat->Nu)(φ:Nat->CS)(m:List Nat):List Pc:=m.map λi=>⟨ν i,φ i⟩
theorem Wp2(m:List Nat):nus (pcs ν φ m)=m.map ν:=by simp[nus,pcs,Function.comp_def]
theorem Wkc(m:List Nat):fps (pcs ν φ m)=m.map φ:=by simp[fps,pcs,Function.comp_def]
theorem Wdm(h:HR w0 F G ν φ objs nx w)(hg:GLe G G'):∀(t:Ty) (cs:List Cell) (vs:List Value) (d:t.den) (m l:List Nat),CellsRel G ν nx cs vs->Lent G' w φ objs l->(∀c∈cs,WmU c=true)->Wqc objs m->
  W1 t cs objs=some (d,m,l)->m.length=t.owns->TyRel G' w t d vs (pcs ν φ m)/\Wge objs t m
 | .prod a b,cs,vs,d,m,l,hc,hl,hw,ha,hf,hm=>by
  have hf0:=hf;simp only[W1]at hf;split at hf
  .rename_i x m1 l1 y m2 l2 h1 h2;simp only[Option.some.injEq,Prod.mk.injEq]at hf;obtain⟨rfl,rfl,rfl⟩:=hf;have nU:Wqc objs m1:=λi hi=>ha i (Xi _ hi);have nV:Wqc objs m2:=λi hi=>ha i (Xf _ hi);have q1:=WfD a _ _ _ _ nU h1;have q2:=WfD b _ _ _ _ nV h2;rw[Xw]at hm;have lj:m1.length+m2.length=a.owns+b.owns:=hm;obtain⟨g1,g2⟩:=Wdm h hg a _ (vs.take a.size) x m1 l1 (hc.take _) (hl.mono (by simp;intro i hi;exact .inl hi)) (λc hc=>hw c (Xec hc)) nU h1 (by omega);obtain⟨g3,g4⟩:=Wdm h hg b _ (vs.drop a.size) y m2 l2 (hc.drop _) (hl.mono (by simp;intro i hi;exact .inr hi)) (λc hc=>hw c (Xfm hc)) nV h2 (by omega);exact⟨⟨_,_,pcs ν φ m1,pcs ν φ m2,(Xcr a.size vs).symm,by simp[pcs],g1,g3⟩,m1,m2,rfl,g2,g4⟩
  .simp at hf
 | .own e,cs,vs,d,m,l,hc,hl,hw,ha,hf,hm=>by
  simp only[W1]at hf;split at hf
  .rename_i id;obtain⟨v,rfl,⟨_,hv⟩,_⟩:=hc.single;subst hv;obtain⟨⟨ys,m'⟩,ho,hf⟩:=Xs.1 hf;simp only[Prod.mk.injEq]at hf;obtain⟨rfl,rfl,rfl⟩:=hf;unfold Woy at ho;split at ho
   .rename_i e' xs aA;obtain⟨zs,aH,ho⟩:=Xs.1 ho;obtain⟨rfl,rfl⟩:=Prod.mk.inj ho;obtain⟨he,hy⟩:=W0 aH;subst he;simp only at hy;subst hy;have al:OwnL w (TyRel G w e') e'.size (ν id) xs (φ id):=h.ob _ _ aA;exact⟨⟨⟨ν id,φ id⟩,rfl,rfl,WbR hg (Same.refl _ w) (λ_ _ hh=>hh) al⟩,id,xs,rfl,aA⟩
   .rename_i e' xs i p aA;split at ho
    .split at ho
     .simp only[Option.some.injEq,Prod.mk.injEq]at ho;obtain⟨_,rfl⟩:=ho;obtain⟨e2,oV,h2⟩:=ha id (Xg ..);rw[aA]at h2;cases h2
     .simp at ho
    .simp at ho
   .simp at ho
  .have:=hw _ (Xab.2 rfl);cases this
  .simp only[Option.some.injEq,Prod.mk.injEq]at hf;obtain⟨rfl,rfl,rfl⟩:=hf;exact absurd hm (by show¬(0=1);omega)
  .simp at hf
 | .slice e,cs,vs,d,m,l,hc,hl,hw,ha,hf,hm=>by
  have fT:m= []:=Xx hm;have:=Wdt h hg (t:=.slice e) rfl hc hl hf fT;subst fT;exact⟨this,rfl⟩
 | .int k,cs,vs,d,m,l,hc,hl,hw,ha,hf,hm=>by
  have fT:m= []:=Xx hm;have:=Wdt h hg (t:=.int k) rfl hc hl hf fT;subst fT;exact⟨this,rfl⟩
 | .bool,cs,vs,d,m,l,hc,hl,hw,ha,hf,hm=>by
  have fT:m= []:=Xx hm;have:=Wdt h hg (t:=.bool) rfl hc hl hf fT;subst fT;exact⟨this,rfl⟩
 | .str,cs,vs,d,m,l,hc,hl,hw,ha,hf,hm=>by
  have fT:m= []:=Xx hm;have:=Wdt h hg (t:=.str) rfl hc hl hf fT;subst fT;exact⟨this,rfl⟩
theorem Wmb{t:Ty}{m:List Nat}{x:AVal}(h:WjC objs t m x=true):m.length=t.owns/\Wpi x=true/\Wqc objs m:=by
 unfold WjC at h;simp only[Xh,decide_eq_true_eq,Xaf]at h;obtain⟨⟨h1,h2⟩,h3⟩:=h;refine⟨h1,h2,λi hi=>?_⟩;have:=h3 i hi;split at this
 .rename_i e xs hl;exact⟨e,xs,hl⟩
 .cases this
theorem WjG(h:HR w0 F G ν φ objs nx w){t:Ty}{agg:Bool}{x:AVal}{v:Value}{cs:List Cell}{d:t.den}{m l:List Nat}(hg:GLe G G')(hx:AValRel G ν nx x v)(hl:Lent G' w φ objs l)
  (hc:cellsOf agg x=some cs) (hf:W1 t cs objs=some (d,m,l)) (ha:WjC objs t m x=true):WgF G' w t agg d v (pcs ν φ m)/\Wge objs t m:=by
 obtain⟨hm,hw,dE⟩:=Wmb ha;unfold cellsOf at hc;split at hc
 .split at hc
  .cases hc
  .rename_i c gH;injection hc with hc;subst hc;obtain⟨h1,h2⟩:=Wdm h hg t [c] [v] d m l (CellsRel.one hx.1 hx.2) hl (λc' fM=>by rw[Xab.1 fM];exact hw) dE hf hm;refine⟨?_,h2⟩;unfold WgF;rw[if_neg gH];exact h1
 .split at hc
  .rename_i ds gH;injection hc with hc;subst hc;obtain⟨us,rfl,aF⟩:=hx;obtain⟨h1,h2⟩:=Wdm h hg t ds us d m l aF hl (λc' fM=>Xaf.1 hw c' fM) dE hf hm;refine⟨?_,h2⟩;unfold WgF;rw[if_pos gH];exact⟨us,rfl,h1⟩
  .cases hc
 .cases hc
def Tk(φ:Nat->CS)(objs:WP)(bx:List (Nat×CS))(l:List Nat):CS:=λb o=>∃i∈l,Live objs i/\φ i b o/\∀p∈bx,p.1=i->p.2 b o
structure AOk(G':GH)(ν:Nat->Nu)(φ:Nat->CS)(objs:WP)(w:World)(ps:List PTy)(A:Args ps)(vs:List Value)(ns:List Pc)(ks:List Nu)(bx:List (Nat×CS)):Prop where
 args:WaF G' w ps A.d vs ns ks
 kept:KeptOk objs ν bx ps A.kept ks
 sep:Sep (fps ns)
 tk:∀q∈ns,CS.le q.fp (Tk φ objs bx A.all)
 bx:∀p∈bx,p.1∈A.all
 live:∀i∈A.all,Live objs i
 lent:∀i∈A.lent,Live objs i
 mv:∀i∈A.moved,i∈A.all
 mvk:∀i∈A.all,i∈A.moved\/i∈kids A.kept
 sub:(kids A.kept).Sublist A.all
 dis:∀i∈kids A.kept,i∉A.moved
theorem WfO{bx:List (Nat×CS)}{l:List Nat}:CS.le (Tk φ objs bx l) (FromL φ objs l):=λb o ⟨i,hi,h1,h2,_⟩=>⟨i,hi,h1,h2⟩
theorem Whs{bx ie:List (Nat×CS)}{l l':List Nat}(hl:∀i∈l,i∈l')(hb:∀p∈ie,p∈bx\/p.1∉l):CS.le (Tk φ objs bx l) (Tk φ objs ie l'):=λb o ⟨i,hi,h1,h2,h3⟩=>
 ⟨i,hl i hi,h1,h2,λp hp e=>by
  rcases hb p hp with h|h
  .exact h3 p h e
  .exact absurd (by rw[e];exact hi) h⟩
theorem Wkh{bx:List (Nat×CS)}{m l:List Nat}(hm:∀i∈m,i∈l)(hb:∀p∈bx,p.1∉m):CS.le (FromL φ objs m) (Tk φ objs bx l):=λb o ⟨i,hi,h1,h2⟩=>
 ⟨i,hm i hi,h1,h2,λp hp e=>absurd (by rw[e];exact hi) (hb p hp)⟩
theorem Wbk(h:HR w0 F G ν φ objs nx w){n1 n2:List Pc}{m l:List Nat}(h1:Sep (fps n1))(h2:Sep (fps n2))(g1:∀q∈n1,CS.le q.fp (FromL φ objs m))(g2:∀q∈n2,CS.le q.fp (FromL φ objs l))(hd:∀i∈m,i∉l):Sep (fps (n1++n2)):=by
 unfold fps;rw[Xo];refine Wkt h1 h2 (A:=FromL φ objs m) (B:=FromL φ objs l) (λs hs=>?_) (λs hs=>?_) (FromL.disj h hd)
 .obtain⟨p,hp,rfl⟩:=Xt.1 hs;exact g1 p hp
 .obtain⟨p,hp,rfl⟩:=Xt.1 hs;exact g2 p hp
theorem Wk3(h:HR w0 F G ν φ objs nx w)(hg:GLe G G'){t:Ty}{ps:List PTy}{id off:Nat}{cs:List Cell}{d:t.den}{m:List Nat}{A:Args ps}{vs:List Value}{ns:List Pc}{ks:List Nu}{bx:List (Nat×CS)}{v:Value}
  (hv:CellRel G ν nx (.ptr id off) v) (aA:We objs id=some (.box cs)) (hf:W1 t ((cs.drop off).take t.size) objs=some (d,m,[])) (au:(id::(m++A.all)).Nodup) (hA:AOk G' ν φ objs w ps A vs ns ks bx):
  ∃b n1,v= .pointer (some ⟨b,(ν id).off+off,none⟩)/\(ν id).blk=some b/\WdE G' w t d b ((ν id).off+off) n1/\Leaf ν t ((cs.drop off).take t.size) n1/\
   KeptBox objs ν ((id,rng b ((ν id).off+off) t.size)::bx) t ⟨id,off⟩ (Wbh b ((ν id).off+off))/\KeptOk objs ν ((id,rng b ((ν id).off+off) t.size)::bx) ps A.kept ks/\
   Sep (fps (⟨Wbh b ((ν id).off+off),rng b ((ν id).off+off) t.size⟩::(n1++ns)))/\
   (∀q∈(⟨Wbh b ((ν id).off+off),rng b ((ν id).off+off) t.size⟩:Pc)::(n1++ns),CS.le q.fp (Tk φ objs ((id,rng b ((ν id).off+off) t.size)::bx) (id::(m++A.all))))/\
   (∀p∈(id,rng b ((ν id).off+off) t.size)::bx,p.1∈id::(m++A.all))/\(∀i∈id::(m++A.all),Live objs i)/\
   (∀i∈m++A.moved,i∈id::(m++A.all))/\(∀i∈id::(m++A.all),i∈m++A.moved\/i∈id::kids A.kept)/\(id::kids A.kept).Sublist (id::(m++A.all))/\(∀i∈id::kids A.kept,i∉m++A.moved):=by
 obtain⟨aO,b,az,rfl⟩:=hv;obtain⟨n1,n2⟩:=Xz.1 au;obtain⟨n3,n4,n5⟩:=Xaa.1 n2;have an:Live objs id:=⟨_,aA,by simp⟩;obtain⟨b',us,hb',hrow,hmem,aF,cU⟩:Wbv G ν nx w id (φ id) (.box cs):=h.ob _ _ aA;rw[az]at hb';injection hb' with hb';subst hb';obtain⟨q1,t1,t2,t3,t4,_,t5⟩:=WQ h hg t _ ((us.drop off).take t.size) d m [] ((aF.drop off).take _) (λi hi=>by simp at hi) n3 hf;have hlen:=Wj _ _ _ _ t1;have bd:off+t.size<=cs.length:=by
  have:=aF.1;rw[Xbc,Xdl]at hlen;have:=WaP t;omega
 have dt:CS.le (rng b ((ν id).off+off) t.size) (φ id):=λb' o ⟨k0,k1,k2⟩=>cU b' o ⟨k0,by omega,by omega⟩;refine⟨b,q1,rfl,az,⟨_,?_,?_,t1⟩,t5,⟨cs,b,aA,bd,az,rfl,Xg ..⟩,KeptOk.mono (λp hp=>Xe _ hp) _ _ _ hA.kept,?_,?_,?_,?_,?_,?_,?_,?_⟩
 .obtain⟨row,TT,r1,r2⟩:=hrow;exact⟨row,TT,r1,by omega⟩
 .intro j v hj;rw[Xba]at hj;split at hj
  .rw[Xay]at hj;rw[Xak];exact hmem _ v hj
  .simp at hj
 .have s1:=Wbk h t2 hA.sep t3 (λq hq b o hh=>WfO b o (hA.tk q hq b o hh)) (λi hi hj=>n5 i hi i hj rfl);refine Xv.2 ⟨λs hs=>?_,s1⟩;obtain⟨p,hp,rfl⟩:=Xt.1 hs;refine CS.disj.mono (FromL.disj h (m:=[id]) (m':=m++A.all) (λi hi hj=>n1 (by rw[←Xab.1 hi];exact hj))) (λb o hh=>⟨id,by simp,an,dt b o hh⟩) (λb o hh=>?_);rcases Xk.1 hp with hp|hp
  .exact FromL.mono (λi hi=>Xi _ hi) b o (t3 p hp b o hh)
  .exact FromL.mono (λi hi=>Xf _ hi) b o (WfO b o (hA.tk p hp b o hh))
 .intro q hq;rcases Xm.1 hq with rfl|hq
  .exactλb o hh=>⟨id,Xg ..,an,dt b o hh,λp hp e=>by
    rcases Xm.1 hp with rfl|hp
    .exact hh
    .exact absurd (Xf _ (by rw[←e];exact hA.bx p hp)) n1⟩
  .rcases Xk.1 hq with hq|hq
   .refineλb o hh=>Wkh (m:=m) (λi hi=>Xe _ (Xi _ hi)) (λp hp hm=>?_) b o (t3 q hq b o hh)
    rcases Xm.1 hp with rfl|hp
    .exact n1 (Xi _ hm)
    .exact n5 _ hm _ (hA.bx p hp) rfl
   .refineλb o hh=>Whs (λi hi=>Xe _ (Xf _ hi)) (λp hp=>?_) b o (hA.tk q hq b o hh)
    rcases Xm.1 hp with rfl|hp
    .exact .inr (λhm=>n1 (Xf _ hm))
    .exact .inl hp
 .intro p hp;rcases Xm.1 hp with rfl|hp
  .exact Xg ..
  .exact Xe _ (Xf _ (hA.bx p hp))
 .intro i hi;rcases Xm.1 hi with rfl|hi
  .exact an
  .rcases Xk.1 hi with hi|hi
   .exact t4 i hi
   .exact hA.live i hi
 .intro i hi;rcases Xk.1 hi with hi|hi
  .exact Xe _ (Xi _ hi)
  .exact Xe _ (Xf _ (hA.mv i hi))
 .intro i hi;rcases Xm.1 hi with rfl|hi
  .exact .inr (Xg ..)
  .rcases Xk.1 hi with hi|hi
   .exact .inl (Xi _ hi)
   .rcases hA.mvk i hi with hi|hi
    .exact .inl (Xf _ hi)
    .exact .inr (Xe _ hi)
 .exact List.Sublist.cons_cons _ (List.Sublist.trans hA.sub (Xer _ _))
 .intro i hi hm;rcases Xm.1 hi with rfl|hi
  .rcases Xk.1 hm with hm|hm
   .exact n1 (Xi _ hm)
   .exact n1 (Xf _ (hA.mv _ hm))
  .rcases Xk.1 hm with hm|hm
   .exact n5 _ hm _ (hA.sub.subset hi) rfl
   .exact hA.dis i hi hm
theorem Wmg(h:HR w0 F G ν φ objs nx w){c:Cell}{y:AVal}{i:Nat}{u:Value}(hy:AValRel G ν nx y u)(he:Wm6 objs c y=some i):
  ∃r b,c= .own r/\(ν r).blk=some b/\i<(ν r).len/\u= .pointer (some ⟨b,(ν r).off+(i*(ν r).esz+0),none⟩):=by
 unfold Wm6 at he;split at he
 .rename_i r p off;split at he
  .rename_i e xs j p' aA;split at he
   .rename_i hp;injection he with he;subst he;have hp:=Xbs hp;subst hp;obtain⟨iv,k1,k2,k3,b,k4,k5,k6,_⟩:p<nx/\WfB w (TyRel G w e) e.size (ν r) (ν p) xs j (φ r):=h.ob _ _ aA;obtain⟨⟨_,b',hb',rfl⟩,_⟩:=hy;rw[k5]at hb';injection hb' with hb';subst hb';exact⟨r,b,rfl,k4,by omega,by rw[k6,k2,Xap,Xap]⟩
   .simp at he
  .simp at he
 .rename_i r r' j off;split at he
  .rename_i e xs aA;split at he
   .rename_i hp;injection he with he;subst he;have hp:=Xbs hp;subst hp;obtain⟨⟨_,hlt,b,hb,rfl⟩,_⟩:=hy;exact⟨r,b,rfl,hb,hlt,rfl⟩
   .simp at he
  .simp at he
 .simp at he
theorem W8(h:HR w0 F G ν φ objs nx w)(hg:GLe G G'):∀(ps:List PTy) (xs:List AVal) (vs:List Value) (A:Args ps),vs.length=xs.length->
  (∀(j:Nat) (x:AVal) (v:Value),xs[j]?=some x->vs[j]?=some v->AValRel G ν nx x v)->Lent G' w φ objs A.lent->A.all.Nodup->WM ps xs objs=some A->
  ∃ns ks bx,AOk G' ν φ objs w ps A vs ns ks bx
 | [],xs,vs,A,hlen,hx,hl,au,hf=>by
  simp only[WM]at hf;split at hf
  .injection hf with hf;subst hf;have cT:vs= []:=Xx (by simpa using hlen);exact⟨[],[],[],⟨cT,rfl,rfl⟩,⟨rfl,rfl⟩,List.Pairwise.nil,by simp,by simp,by simp,by simp,by simp,by simp,List.Sublist.refl _,by simp[kids]⟩
  .cases hf
 | .v t agg::ps,xs,vs,A,hlen,hx,hl,au,hf=>by
  simp only[WM]at hf;split at hf
  .rename_i x xs;split at hf
   .rename_i d m r A' h1 h2;injection hf with hf;subst hf
    match vs,hlen with
    |v::vs,hlen=>
     cases hc:cellsOf agg x with
     |none=>simp[hc]at h1
     |some cs=>
      simp[hc]at h1;obtain⟨n1,n2,n3⟩:=Xaa.1 au;obtain⟨q1,g1,g2,g3,g4,g5⟩:=Wii h hg (hx 0 x v rfl rfl) (hl.mono (λi hi=>Xi _ hi)) n1 hc h1;obtain⟨ns,ks,bx,hA⟩:=W8 h hg ps xs vs A' (by simpa using hlen) (λj y u hj hu=>hx (j+1) y u (by simpa using hj) (by simpa using hu)) (hl.mono (λi hi=>Xf _ hi)) n2 h2;refine⟨q1++ns,ks,bx,⟨v,vs,q1,ns,rfl,rfl,g1,hA.args⟩,hA.kept,Wbk h g2 hA.sep g3 (λq hq b o hh=>WfO b o (hA.tk q hq b o hh)) (λi hi hj=>n3 i hi i hj rfl),λq hq=>?_,λp hp=>Xf _ (hA.bx p hp),λi hi=>?_,λi hi=>?_,λi hi=>?_,λi hi=>?_,List.Sublist.trans hA.sub (Xer _ _),λi hi hm=>?_⟩
      .rcases Xk.1 hq with hq|hq
       .exactλb o hh=>Wkh (λi hi=>Xi _ hi) (λp hp hm=>n3 _ hm _ (hA.bx p hp) rfl) b o (g3 q hq b o hh)
       .exactλb o hh=>Whs (λi hi=>Xf _ hi) (λp hp=>.inl hp) b o (hA.tk q hq b o hh)
      .rcases Xk.1 hi with hi|hi
       .exact g4 i hi
       .exact hA.live i hi
      .rcases Xk.1 hi with hi|hi
       .exact g5 i hi
       .exact hA.lent i hi
      .rcases Xk.1 hi with hi|hi
       .exact Xi _ hi
       .exact Xf _ (hA.mv i hi)
      .rcases Xk.1 hi with hi|hi
       .exact .inl (Xi _ hi)
       .rcases hA.mvk i hi with hi|hi
        .exact .inl (Xf _ hi)
        .exact .inr hi
      .rcases Xk.1 hm with hm|hm
       .exact n3 _ hm _ (hA.sub.subset hi) rfl
       .exact hA.dis i hi hm
   .cases hf
  .cases hf
 | .box t::ps,xs,vs,A,hlen,hx,hl,au,hf=>by
  simp only[WM]at hf;split at hf
  .rename_i id off xs;split at hf
   .rename_i cs aA;split at hf
    .rename_i d m A' h1 h2;injection hf with hf;subst hf
     match vs,hlen with
     |v::vs,hlen=>
      obtain⟨n1,n2⟩:=Xz.1 au;obtain⟨ns,ks,bx,hA⟩:=W8 h hg ps xs vs A' (by simpa using hlen) (λj y u hj hu=>hx (j+1) y u (by simpa using hj) (by simpa using hu)) hl (Xaa.1 n2).2.1 h2;obtain⟨b,q1,rfl,az,k1,_,k2,k3,k4,k5,k6,k7,k8,k9,k10,ii⟩:=Wk3 h hg (hx 0 _ v rfl rfl).1 aA h1 au hA;exact⟨_,_,_,⟨b,_,vs,q1,ns,ks,rfl,rfl,rfl,k1,hA.args⟩,⟨_,_,_,_,rfl,rfl,k2,k3⟩,k4,k5,k6,k7,hA.lent,k8,k9,k10,ii⟩
    .cases hf
   .cases hf
  .cases hf
 | .vj _::_,_,_,_,_,_,_,_,hf=>by simp only[WM]at hf;cases hf
 | .boxal t lf::ps,xs,vs,A,hlen,hx,hl,au,hf=>by
  simp only[WM]at hf;split at hf
  .rename_i id off y xs;split at hf
   .rename_i cs aA;split at hf
    .rename_i d m A' i h1 h2 h3;injection hf with hf;subst hf
     match vs,hlen with
     |v::u::vs,hlen=>
      obtain⟨n1,n2⟩:=Xz.1 au;obtain⟨ns,ks,bx,hA⟩:=W8 h hg ps xs vs A' (by simpa using hlen) (λj y u hj hu=>hx (j+2) y u (by simpa using hj) (by simpa using hu)) hl (Xaa.1 n2).2.1 h2;obtain⟨b,q1,rfl,az,k1,kl,k2,k3,k4,k5,k6,k7,k8,k9,k10,ii⟩:=Wk3 h hg (hx 0 _ v rfl rfl).1 aA h1 au hA;obtain⟨c,hc,h3⟩:=Xbn.1 h3;obtain⟨k,hk,hc⟩:=Xbn.1 hc;obtain⟨r,b',rfl,e1,e2,rfl⟩:=Wmg h (hx 1 y u rfl rfl) h3;obtain⟨pc,e3,e4⟩:=kl lf k r hk hc;exact⟨_,_,_,⟨b,_,b',pc,vs,q1,ns,ks,by rw[e4],rfl,rfl,k1,e3,by rw[e4];exact e1,by rw[e4];exact e2,hA.args⟩,⟨_,_,_,_,rfl,rfl,k2,k3⟩,k4,k5,k6,k7,hA.lent,k8,k9,k10,ii⟩
    .cases hf
   .cases hf
  .cases hf
 | .mut e::ps,xs,vs,A,hlen,hx,hl,au,hf=>by
  simp only[WM]at hf;split at hf
  .rename_i id xs;split at hf
   .rename_i e' ys aA;split at hf
    .rename_i d A' h1 h2;injection hf with hf;subst hf;obtain⟨he,hd⟩:=W0 h1;subst he;simp only at hd;subst hd
     match vs,hlen with
     |v::vs,hlen=>
      obtain⟨⟨_,hv⟩,_⟩:=hx 0 _ v rfl rfl;subst hv;obtain⟨n1,n2⟩:=Xz.1 au;have an:Live objs id:=⟨_,aA,by simp⟩;have hown:OwnL w (TyRel G w e') e'.size (ν id) ys (φ id):=h.ob _ _ aA;obtain⟨ns,ks,bx,hA⟩:=W8 h hg ps xs vs A' (by simpa using hlen) (λj y u hj hu=>hx (j+1) y u (by simpa using hj) (by simpa using hu)) hl n2 h2;refine⟨⟨ν id,φ id⟩::ns,ν id::ks,bx,⟨⟨ν id,φ id⟩,vs,ns,ks,rfl,rfl,rfl,WbR hg (Same.refl _ w) (λ_ _ hh=>hh) hown,hA.args⟩,⟨id,_,ks,ys,rfl,rfl,aA,hA.kept⟩,?_,λq hq=>?_,λp hp=>Xe _ (hA.bx p hp),λi hi=>?_,hA.lent,λi hi=>Xe _ (hA.mv i hi),λi hi=>?_,List.Sublist.cons_cons _ hA.sub,λi hi hm=>?_⟩
      .refine Wbk h (n1:=[⟨ν id,φ id⟩]) (m:=[id]) (List.pairwise_singleton _ _) hA.sep (λq hq=>?_) (λq hq b o hh=>WfO b o (hA.tk q hq b o hh)) (λi hi hj=>n1 (by rw[←Xab.1 hi];exact hj));rw[Xab.1 hq];exact FromL.one (by simp) an
      .rcases Xm.1 hq with rfl|hq
       .exactλb o hh=>⟨id,Xg ..,an,hh,λp hp e=>absurd (by rw[←e];exact hA.bx p hp) n1⟩
       .exactλb o hh=>Whs (λi hi=>Xe _ hi) (λp hp=>.inl hp) b o (hA.tk q hq b o hh)
      .rcases Xm.1 hi with rfl|hi
       .exact an
       .exact hA.live i hi
      .rcases Xm.1 hi with rfl|hi
       .exact .inr (Xg ..)
       .rcases hA.mvk i hi with hi|hi
        .exact .inl hi
        .exact .inr (Xe _ hi)
      .rcases Xm.1 hi with rfl|hi
       .exact n1 (hA.mv _ hm)
       .exact hA.dis i hi hm
    .cases hf
   .cases hf
  .cases hf
 | .clos g n::ps,xs,vs,A,hlen,hx,hl,au,hf=>by
  simp only[WM]at hf;split at hf
  .rename_i g' caps xs;split at hf
   .rename_i hc;obtain⟨rfl,hcl⟩:=hc;cases hA:WM ps (Wg0 caps++xs) objs with
    |none=>simp[hA]at hf
    |some A'=>
     simp only[hA,Xbt,Option.some.injEq]at hf;subst hf
     match vs,hlen with
     |v::vs,hlen=>
      obtain⟨⟨cvs,hv,hcv,ke⟩,_⟩:=hx 0 _ v rfl rfl;subst hv;obtain⟨ns,ks,bx,hAk⟩:=W8 h hg ps (Wg0 caps++xs) (cvs++vs) A' (by simp[Wg0,hcv];simpa using hlen) (λj y u hj hu=>by
       rw[Xao]at hj hu;simp only[Wg0,Xad]at hj;rw[hcv]at hu;split at hj
       .rename_i hlt;rw[if_pos hlt]at hu;rw[Xah]at hj;obtain⟨id,aO,rfl⟩:=Xs.1 hj;obtain⟨h1,h3,h2⟩:=ke _ id u aO hu;exact⟨⟨h1,h2⟩,h3⟩
       .rename_i hlt;rw[if_neg hlt]at hu;exact hx (j-caps.length+1) y u (by simpa using hj) (by simpa using hu)) hl au hA
      refine⟨ns,ks,bx,⟨cvs,vs,rfl,by rw[hcv];exact hcl,λu hu=>?_,hAk.args⟩,hAk.kept,hAk.sep,hAk.tk,hAk.bx,hAk.live,hAk.lent,hAk.mv,hAk.mvk,hAk.sub,hAk.dis⟩;obtain⟨j,hj⟩:=Xdk hu;have hlt:j<caps.length:=by rw[←hcv];exact(Xn.1 hj).1
      exact(ke j _ u (Xr hlt) hj).2.1
   .cases hf
  .cases hf
 | .kv t agg::ps,xs,vs,A,hlen,hx,hl,au,hf=>by
  simp only[WM]at hf;split at hf
  .rename_i x xs;split at hf
   .rename_i d m r A' h1 h2;split at hf
    .rename_i dE;injection hf with hf;subst hf
     match vs,hlen with
     |v::vs,hlen=>
      cases hc:cellsOf agg x with
      |none=>simp[hc]at h1
      |some cs=>
       simp[hc]at h1;obtain⟨n1,n2,n3⟩:=Xaa.1 au;have bj:Lent G' w φ objs r:=hl.mono (λi hi=>Xi _ hi);obtain⟨_,_,_,_,g4,g5⟩:=Wii h hg (hx 0 x v rfl rfl) bj n1 hc h1;obtain⟨k1,k2⟩:=WjG h hg (hx 0 x v rfl rfl) bj hc h1 dE;obtain⟨ns,ks,bx,hA⟩:=W8 h hg ps xs vs A' (by simpa using hlen) (λj y u hj hu=>hx (j+1) y u (by simpa using hj) (by simpa using hu)) (hl.mono (λi hi=>Xf _ hi)) n2 h2;have eQ:kids (kp0 m++A'.kept)=m++kids A'.kept:=by simp only[kids,Xo];congr 1;exact WfC m
       have gp:∀q∈pcs ν φ m,CS.le q.fp (FromL φ objs m):=λq hq=>by
        obtain⟨i,hi,rfl⟩:=Xt.1 hq;exact FromL.one hi (g4 i hi)
       have gs:Sep (fps (pcs ν φ m)):=by
        rw[Wkc];refine List.pairwise_map.2 (n1.imp_of_mem λ{i j} hi hj hne=>?_)
        exactλb o h1 h2=>hne (h.inj i j b o (g4 i hi) (g4 j hj) h1 h2)
       refine⟨pcs ν φ m++ns,m.map ν++ks,bx,⟨v,vs,pcs ν φ m,ns,ks,rfl,rfl,by rw[Wp2],k1,hA.args⟩,⟨m,A'.kept,ks,rfl,rfl,k2,hA.kept⟩,Wbk h gs hA.sep gp (λq hq b o hh=>WfO b o (hA.tk q hq b o hh)) (λi hi hj=>n3 i hi i hj rfl),λq hq=>?_,λp hp=>Xf _ (hA.bx p hp),λi hi=>?_,λi hi=>?_,λi hi=>Xf _ (hA.mv i hi),λi hi=>?_,by rw[eQ];exact List.Sublist.append (List.Sublist.refl _) hA.sub,λi hi hm=>?_⟩
       .rcases Xk.1 hq with hq|hq
        .exactλb o hh=>Wkh (λi hi=>Xi _ hi) (λp hp hm=>n3 _ hm _ (hA.bx p hp) rfl) b o (gp q hq b o hh)
        .exactλb o hh=>Whs (λi hi=>Xf _ hi) (λp hp=>.inl hp) b o (hA.tk q hq b o hh)
       .rcases Xk.1 hi with hi|hi
        .exact g4 i hi
        .exact hA.live i hi
       .rcases Xk.1 hi with hi|hi
        .exact g5 i hi
        .exact hA.lent i hi
       .rw[eQ];rcases Xk.1 hi with hi|hi
        .exact .inr (Xi _ hi)
        .rcases hA.mvk i hi with hi|hi
         .exact .inl hi
         .exact .inr (Xf _ hi)
       .rw[eQ]at hi;rcases Xk.1 hi with hi|hi
        .exact n3 _ hi _ (hA.mv i hm) rfl
        .exact hA.dis i hi hm
    .cases hf
   .cases hf
  .cases hf
 | .rp t::ps,xs,vs,A,hlen,hx,hl,au,hf=>by
  simp only[WM]at hf;split at hf
  .rename_i id off xs;split at hf
   .rename_i cs aA;split at hf
    .rename_i d r A' h1 h2;split at hf
     case isFalse=>cases hf
     rename_i l6;injection hf with hf;subst hf
     match vs,hlen with
     |v::vs,hlen=>
      obtain⟨ns,ks,bx,hA⟩:=W8 h hg ps xs vs A' (by simpa using hlen) (λj y u hj hu=>hx (j+1) y u (by simpa using hj) (by simpa using hu)) (hl.mono (λi hi=>Xe _ (Xf _ hi))) au h2;obtain⟨⟨aO,b,az,rfl⟩,_⟩:=hx 0 _ v rfl rfl;have an:Live objs id:=⟨_,aA,by simp⟩;obtain⟨b',us,hb',hrow,hmem,aF,cU⟩:Wbv G ν nx w id (φ id) (.box cs):=h.ob _ _ aA;rw[az]at hb';injection hb' with hb';subst hb';obtain⟨q1,t1,t2,t3,t4,t5,_⟩:=WQ h hg t _ ((us.drop off).take t.size) d [] r ((aF.drop off).take _) (hl.mono (λi hi=>Xe _ (Xi _ hi))) Xcz h1;have ma:∀p∈q1,Froz G' w p.fp:=λp hp b o v hh=>by
       obtain⟨i,hi,_⟩:=t3 p hp b o hh;simp at hi
      have henc:Enc G' t.ro (Wpd t d) ((us.drop off).take t.size):=Wcy (λ_ _ _ hh=>hh) t d _ q1 ma t1;have fU:=Wj _ _ _ _ t1;have bd:off+t.size<=cs.length:=by
       have:=aF.1;rw[Xbc,Xdl]at fU;have:=WaP t;omega
      have bT:WdD G' b ((ν id).off+off) ((us.drop off).take t.size):=λj v hj=>by
       have mb:j<t.size:=by have:=(Xn.1 hj).1;omega
       rw[Xba,if_pos mb,Xay]at hj;have h3:=hmem _ v hj;rw[←Xak]at h3;exact hl id (Xg ..) an b _ v (cU b _ ⟨rfl,by omega,by omega⟩) h3
      exact⟨ns,ks,bx,⟨b,(ν id).off+off,(us.drop off).take t.size,vs,rfl,((Was t d _ q1 l6).1 t1).1,bT,hA.args⟩,hA.kept,hA.sep,hA.tk,hA.bx,hA.live,λi hi=>by
       rcases Xm.1 hi with rfl|hi
       .exact an
       .rcases Xk.1 hi with hi|hi
        .exact t5 i hi
        .exact hA.lent i hi,hA.mv,hA.mvk,hA.sub,hA.dis⟩
    .cases hf
   .cases hf
  .rename_i t' d' off xs;split at hf
   .rename_i d A' h1 h2;split at hf
    case isFalse=>cases hf
    rename_i l6;injection hf with hf;subst hf
    match vs,hlen with
    |v::vs,hlen=>
     obtain⟨ns,ks,bx,hA⟩:=W8 h hg ps xs vs A' (by simpa using hlen) (λj y u hj hu=>hx (j+1) y u (by simpa using hj) (by simpa using hu)) hl au h2;obtain⟨⟨b,o,cs,rfl,e1,e2⟩,_⟩:=hx 0 _ v rfl rfl;have aF:=W9 (ν:=ν) (nx:=nx) t' d' cs e1;obtain⟨q1,t1,t2,t3,t4,t5,_⟩:=WQ h hg t _ ((cs.drop off).take t.size) d [] [] ((aF.drop off).take _) (λi hi=>by simp at hi) Xcz h1;exact⟨ns,ks,bx,⟨b,o+off,(cs.drop off).take t.size,vs,rfl,((Was t d _ q1 l6).1 t1).1,λj v hj=>by
      rw[Xba]at hj;split at hj
      .rw[Xay]at hj;rw[Xak];exact hg _ _ _ (e2 _ v hj)
      .simp at hj,hA.args⟩,hA.kept,hA.sep,hA.tk,hA.bx,hA.live,hA.lent,hA.mv,hA.mvk,hA.sub,hA.dis⟩
   .cases hf
  .cases hf
end
end Go.Sx
namespace Go.Sx
set_option linter.unusedVariables false
set_option linter.unusedSimpArgs false
theorem WaC{G G':GH}{w:World}:∀(t:Ty) (d:t.den) (vs:List Value) (ns:List Pc),t.noRo=true->TyRel G w t d vs ns->TyRel G' w t d vs ns
 | .own e,_,_,_,hn,⟨pc,h1,h2,h3⟩=>⟨pc,h1,h2,WfI (λx c q hx=>Wj e x c q hx) (Same.refl _ w) (λ_ _ hh=>hh) (λx c q _ hx=>WaC e x c q hn hx) h3⟩
 | .prod a b,_,_,_,hn,⟨v1,v2,n1,n2,h1,h2,h3,h4⟩=>by
  simp only[Ty.noRo,Xh]at hn;exact⟨v1,v2,n1,n2,h1,h2,WaC a _ _ _ hn.1 h3,WaC b _ _ _ hn.2 h4⟩
 | .int _,_,_,_,_,h=>h
 | .bool,_,_,_,_,h=>h
 | .str,_,_,_,_,h=>h
 | .slice _,_,_,_,hn,_=>by simp[Ty.noRo]at hn
theorem WmC{G G':GH}{w:World}{e:Ty}{nu:Nu}{xs:List e.den}{S:CS}(hn:e.noRo=true)(h:OwnL w (TyRel G w e) e.size nu xs S):OwnL w (TyRel G' w e) e.size nu xs S:=
 WfI (λx c q hx=>Wj e x c q hx) (Same.refl _ w) (λ_ _ hh=>hh) (λx c q _ hx=>WaC e x c q hn hx) h
theorem WdJ{G G':GH}{w:World}{t:Ty}{d:t.den}{b o:Nat}{ns:List Pc}(hn:t.noRo=true)(h:WdE G w t d b o ns):WdE G' w t d b o ns:=by
 obtain⟨us,h1,h2,h3⟩:=h;exact⟨us,h1,h2,WaC _ _ _ _ hn h3⟩
theorem WnO{G G':GH}{w:World}{t:Ty}{agg:Bool}{d:t.den}{v:Value}{ns:List Pc}(hn:t.noRo=true)(h:WgF G w t agg d v ns):WgF G' w t agg d v ns:=by
 unfold WgF at h⊢;split
 .rename_i ha;rw[if_pos ha]at h;obtain⟨us,h1,h2⟩:=h;exact⟨us,h1,WaC _ _ _ _ hn h2⟩
 .rename_i ha;rw[if_neg ha]at h;exact WaC _ _ _ _ hn h
theorem WcB{G G':GH}{w:World}:∀(rs:List PTy) (d:WeX rs) (vs:List Value) (ns:List Pc),rs.all PTy.freshR=true->Wed G w rs d vs ns->Wed G' w rs d vs ns
 | [],_,_,_,_,h=>h
 | .v t agg::rs,d,vs,ns,hn,⟨v,vs',n1,n2,h1,h2,h3,h4⟩=>by
  simp only[Xcb,Xh]at hn;exact⟨v,vs',n1,n2,h1,h2,WnO hn.1 h3,WcB rs _ _ _ hn.2 h4⟩
 | .box t::rs,d,vs,ns,hn,⟨b,o,vs',n1,n2,h1,h2,h3,h5⟩=>by
  simp only[Xcb,Xh]at hn;exact⟨b,o,vs',n1,n2,h1,h2,WdJ hn.1 h3,WcB rs _ _ _ hn.2 h5⟩
 | .mut _::_,_,_,_,_,h=>h.elim
 | .clos _ _::_,_,_,_,_,h=>h.elim
 | .kv _ _::_,_,_,_,_,h=>h.elim
 | .rp _::_,_,_,_,_,h=>h.elim
 | .vj t::rs,d,vs,ns,hn,⟨us,u,vs',n1,n2,h1,h0,h2,h3,h4⟩=>by
  simp only[Xcb,Xh]at hn;exact⟨us,u,vs',n1,n2,h1,h0,h2,WaC _ _ _ _ hn.1 h3,WcB rs _ _ _ hn.2 h4⟩
 | .boxal _ _::_,_,_,_,_,h=>h.elim
theorem Wak{G G':GH}{w:World}:∀(ps:List PTy) (o:Wd1 ps) (ks:List Nu) (kf:List CS) (ns:List Pc),ps.all PTy.fresh=true->WaW G w ps o ks kf ns->WaW G' w ps o ks kf ns
 | [],_,_,_,_,_,h=>h
 | .v _ _::ps,o,ks,kf,ns,hn,h=>by
  simp only[Xcb,Xh]at hn;exact Wak ps o ks kf ns hn.2 h
 | .box t::ps,o,ks,kf,ns,hn,⟨b,off,ks',bL,n1,n2,h1,h2,h3,h4,h5⟩=>by
  simp only[Xcb,Xh]at hn;exact⟨b,off,ks',bL,n1,n2,h1,h2,h3,WdJ hn.1 h4,Wak ps _ _ _ _ hn.2 h5⟩
 | .mut e::ps,o,ks,kf,ns,hn,⟨pc,ks',bL,h1,h2,h3,h4⟩=>by
  simp only[Xcb,Xh]at hn;exact⟨pc,ks',bL,h1,h2,WmC hn.1 h3,Wak ps _ _ _ _ hn.2 h4⟩
 | .clos _ _::ps,o,ks,kf,ns,hn,h=>by
  simp only[Xcb,Xh]at hn;exact Wak ps o ks kf ns hn.2 h
 | .kv t _::ps,o,ks,kf,ns,hn,⟨n1,ks',bL,us,h1,h2,h3,h4⟩=>by
  simp only[Xcb,Xh]at hn;exact⟨n1,ks',bL,us,h1,h2,WaC _ _ _ _ hn.1 h3,Wak ps _ _ _ _ hn.2 h4⟩
 | .rp _::ps,o,ks,kf,ns,hn,h=>by
  simp only[Xcb,Xh]at hn;exact Wak ps o ks kf ns hn.2 h
 | .vj _::_,_,_,_,_,_,h=>h.elim
 | .boxal t _::ps,o,ks,kf,ns,hn,⟨b,off,ks',bL,n1,n2,h1,h2,h3,h4,h5⟩=>by
  simp only[Xcb,Xh]at hn;exact⟨b,off,ks',bL,n1,n2,h1,h2,h3,WdJ hn.1 h4,Wak ps _ _ _ _ hn.2 h5⟩
theorem Wc1{objs:WP}:∀(l:List Nat) (id:Nat),id∉l->We (kill objs l) id=We objs id
 | [],id,_=>rfl
 |i::l,id,h=>by
  simp only[kill];rw[Wl,if_neg (λe=>h (by rw[e];exact Xg ..))];exact Wc1 l id λhm=>h (Xe _ hm)
theorem Wh0:∀{l:List CS},Sep l->∀{i j:Nat} {A B:CS} {b o:Nat},l[i]?=some A->l[j]?=some B->A b o->B b o->i=j
 | [],_,i,j,A,B,b,o,hi,_,_,_=>by simp at hi
 |C::l,hs,i,j,A,B,b,o,hi,hj,ha,hb=>by
  obtain⟨h1,h2⟩:=Xv.1 hs;cases i with
  |zero=>
   simp at hi;subst hi;cases j with
   |zero=>rfl
   |succ j=>
    simp at hj;exact(h1 B (Xan hj) b o ha hb).elim
  |succ i=>
   simp at hi;cases j with
   |zero=>
    simp at hj;subst hj;exact(h1 A (Xan hi) b o hb ha).elim
   |succ j=>
    simp at hj;rw[Wh0 h2 hi hj ha hb]
section
variable{w0:World}{F:CS}{nt:Slots}{G0 G G':GH}{ν:Nat->Nu}{φ:Nat->CS}{objs:WP}{nx:Nat}{st ac:St}{a:Act}{w w':World}{P:Program}{T:Tab}
theorem Wlz{f g:Nat->Nu}:∀{l:List Nat},(∀i∈l,g i=f i)->l.map f=l.map g:=λ{l} h=>List.map_congr_left λi hi=>(h i hi).symm
theorem Wbn{ν':Nat->Nu}{bx:List (Nat×CS)}:∀(ps:List PTy) (ids:List Kp) (ks:List Nu),(∀i∈kids ids,ν' i=ν i)->KeptOk objs ν bx ps ids ks->KeptOk objs ν' bx ps ids ks
 | [],_,_,_,h=>h
 | .v _ _::ps,ids,ks,hn,h=>Wbn ps ids ks hn h
 | .box t::ps,ids,ks,hn,⟨k,aB,nu,ks',h1,h2,⟨cs,b,g1,g2,g3,g4,g5⟩,h4⟩=>by
  subst h1;have e:=hn k.id (Xg ..);exact⟨k,aB,nu,ks',rfl,h2,⟨cs,b,g1,g2,by rw[e];exact g3,by rw[e];exact g4,by rw[e];exact g5⟩,Wbn ps aB ks' (λi hi=>hn i (Xe _ hi)) h4⟩
 | .mut e::ps,ids,ks,hn,⟨id,aB,ks',ys,h1,h2,h3,h4⟩=>by
  subst h1;exact⟨id,aB,ks',ys,rfl,by rw[hn id (Xg ..)];exact h2,h3,Wbn ps aB ks' (λi hi=>hn i (Xe _ hi)) h4⟩
 | .clos _ _::ps,ids,ks,hn,h=>Wbn ps ids ks hn h
 | .kv t _::ps,ids,ks,hn,⟨i1,i2,ks',h1,h2,h3,h4⟩=>by
  subst h1;have eQ:kids (kp0 i1++i2)=i1++kids i2:=by simp only[kids,Xo];congr 1;exact WfC i1
  rw[eQ]at hn;exact⟨i1,i2,ks',rfl,by rw[h2,Wlz (λi hi=>hn i (Xi _ hi))],h3,Wbn ps i2 ks' (λi hi=>hn i (Xf _ hi)) h4⟩
 | .rp _::ps,ids,ks,hn,h=>Wbn ps ids ks hn h
 | .vj _::_,_,_,_,h=>h.elim
 | .boxal t _::ps,ids,ks,hn,⟨k,aB,nu,ks',h1,h2,⟨cs,b,g1,g2,g3,g4,g5⟩,h4⟩=>by
  subst h1;have e:=hn k.id (Xg ..);exact⟨k,aB,nu,ks',rfl,h2,⟨cs,b,g1,g2,by rw[e];exact g3,by rw[e];exact g4,by rw[e];exact g5⟩,Wbn ps aB ks' (λi hi=>hn i (Xe _ hi)) h4⟩
theorem WmQ(hr:Rel w0 F nt G0 G ν st a w):∀(l:List Operand) (xs:List AVal),evs st l=some xs->xs.length=l.length/\
  ∀(j:Nat) (x:AVal) (v:Value),xs[j]?=some x->(l.map a.eval)[j]?=some v->AValRel G ν st.nx x v
 | [],xs,h=>by simp[evs]at h;subst h;exact⟨rfl,λj x v hj=>by simp at hj⟩
 |o::l,xs,h=>by
  simp only[evs]at h;split at h
  .rename_i y ys h1 h2;injection h with h;subst h;obtain⟨h3,h4⟩:=WmQ hr l ys h2;refine⟨by simp[h3],λj x v hj hv=>?_⟩;cases j with
   |zero=>simp at hj hv;subst hj hv;exact Wx hr o _ h1
   |succ j=>exact h4 j x v (by simpa using hj) (by simpa using hv)
  .simp at h
theorem WoO{o:Oper}{c:Call}{f:Operand}{g:FuncId}{caps:List Value}(ho:o.op= .call c)(hc:c.callee= .value f)(hf:a.eval f= .func (.func g) #[] caps.toArray)(kg:WeA P g):
  (execOp a.eval o).run P w= .ok (.enter g (c.args.toList.map a.eval++caps).toArray) w:=by
 obtain⟨fn,h1,h2,h3⟩:=kg;obtain⟨callee,args,argTypes⟩:=c;simp only at hc;subst hc;have e:(#[]++args.map a.eval++caps.toArray)=(args.toList.map a.eval++caps).toArray:=by
  apply Array.ext';simp
 simp only[execOp,ho,resolve,Deferred.ofValue,hf,Sem.run_bind,Sem.run_pure,Result.andThen_ok,invoke,callFunc,run_program,h1,h2,h3,Xbv,if_false,e]
theorem Wod{b o k:Nat}{vs us:List Value}(hm:Mem w b o vs)(hu:Mem w' b (o+k) us)(hk:k+us.length<=vs.length)(eS:∀j,j<vs.length->¬(k<=j/\j<k+us.length)->w'.cell? ⟨b,o+j,none⟩=w.cell? ⟨b,o+j,none⟩):
  Mem w' b o (vs.take k++us++vs.drop (k+us.length)):=λj v hj=>by
 have dC:∀v',vs[j]?=some v'->¬(k<=j/\j<k+us.length)->w'.cell? ⟨b,o+j,none⟩=some v':=λv' hv hn=>by
  rw[eS j (Xn.1 hv).1 hn];exact hm j v' hv
 have d6:(vs.take k).length=k:=by simp;omega
 rw[Xbk,Xao,d6]at hj;split at hj
 .rename_i hlt;rw[Xba,if_pos hlt]at hj;exact dC v hj (by omega)
 .rw[Xao]at hj;split at hj
  .have:=hu (j-k) v hj;rw[show o+j=o+k+(j-k) by omega];exact this
  .rw[Xay,show k+us.length+(j-k-us.length)=j by omega]at hj;exact dC v hj (by omega)
theorem Wim{Γ:Ctx}(hΓ:Wdu P Γ)(hr:Rel w0 F nt G0 G ν st a w){o:Oper}(hd:∀d,o.dst=some d->nt.Ok d){c:Call}{f:Operand}{g:FuncId}{cvs:List Value}{xs:List AVal}{sg:Sig}{R:Type}{k:St->Option R}{r:R}
  (ho:o.op= .call c) (hc:c.callee= .value f) (kh:a.eval f= .func (.func g) #[] cvs.toArray) (iE:We Γ g=some sg) (hlen:xs.length=(c.args.toList.map a.eval++cvs).length)
  (hargs:∀(j:Nat) (x:AVal) (v:Value),xs[j]?=some x->(c.args.toList.map a.eval++cvs)[j]?=some v->AValRel G ν st.nx x v)
  (h:Wdy sg st xs (λx objs nx=>k (({env:=st.env,objs:=objs,nx:=nx}:St).put o.dst x))=some r) {K:Act->World->Prop} {Q:Exit->Act->World->Prop}
  (hK:∀ac a' w' G' ν',Rel w0 F nt G0 G' ν' ac a' w'->k ac=some r->K a' w'):o.wp P a w K Q:=by
 obtain⟨fV,fo⟩:=hΓ g sg iE;unfold Wdy at h;split at h
 .rename_i A hA;split at h
  .rename_i aG;simp only[Xh]at aG;obtain⟨⟨au,gQ⟩,ll⟩:=aG;have au:=(Wdb _).1 au;have gQ:=WiL gQ;obtain⟨out,hrun,hk⟩:=sg.law' A.d _ r h;dsimp only at hk;obtain⟨φ,hφ⟩:=hr.h;have dB:=hφ.addG_le A.lent;have hG1w:=hφ.addG_w A.lent;obtain⟨ns,ks,bx,hO⟩:=W8 hφ dB sg.ps _ (c.args.toList.map a.eval++cvs) A hlen.symm hargs (λid aO hl=>(Wgp _).mono (FromL.one aO hl)) au hA;have hTk:∀b o,Of ns b o->Tk φ st.objs bx A.all b o:=λb o ⟨q,hq,hh⟩=>hO.tk q hq b o hh;have hfree:∀q∈ns,∀b off,q.fp b off->Wmm G w (FromL φ st.objs A.lent) b off=none/\b<w.heap.size:=λq hq b off hh=>by
    obtain⟨i,hi,h1,h2,_⟩:=hO.tk q hq b off hh;refine⟨?_,hφ.bl i b off h1 h2⟩;rw[Wb0 (λ⟨j,hj,h3,h4⟩=>by
     have:=hφ.inj i j b off h1 h3 h2 h4;subst this;exact gQ _ hj hi)]
    exact hφ.gf i b off h1 h2
   have iF:=fV A.d out hrun _ w _ ns _ hO.args hO.sep hfree hG1w;unfold Oper.wp;rw[WoO ho hc kh fo,Oper.upon_enter];refine iF.mono λe w' ki=>?_;obtain⟨rv,kf,ms,bA,G2,rfl,hA2⟩:=ki;simp only;have hG3:∃G3:GH,GLe G G3/\(∀b off v,G3 b off=some v->w'.cell? ⟨b,off,none⟩=some v)/\Wed G3 w' sg.rs out.2 rv bA/\WaW G3 w' sg.ps out.1 ks kf ms/\
     GExt w0.heap.size F G0 G3/\(∀S∈kf++fps (ms++bA),∀b off,S b off->G3 b off=none)/\(∀id b off,Live st.objs id->φ id b off->¬Tk φ st.objs bx A.all b off->G3 b off=none):=by
    by_cases hle:A.lent= []
    .have hGG:Wmm G w (FromL φ st.objs A.lent)=G:=by
      rw[hle];funext b off;exact Wb0 (λ⟨i,hi,_⟩=>by simp at hi)
     rw[hGG]at hA2;refine⟨G2,hA2.gx.le,hA2.g,hA2.res,hA2.outs,⟨λb o v hv=>hA2.gx.le b o v (hr.gx.le b o v hv),λb o v hv=>?_⟩,λS hS b off hh=>(hA2.own S hS b off hh).1,λid b off hl hp hn=>?_⟩
     .rcases hA2.gx.new b o v hv with h1|h1|h1
      .exact hr.gx.new b o v h1
      .exact .inr (.inl (Xaz hφ.le.size h1))
      .obtain⟨i,hi,h2,h3,_⟩:=hTk b o h1;exact .inr (hφ.own i b o h2 h3)
     .cases hv:G2 b off with
      |none=>rfl
      |some v=>
       rcases hA2.gx.new b off v hv with h1|h1|h1
       .rw[hφ.gf id b off hl hp]at h1;cases h1
       .have:=hφ.bl id b off hl hp;omega
       .exact absurd (hTk b off h1) hn
    .have dj:sg.fresh=true:=by
      rcases Bool.or_eq_true_iff.1 ll with h1|h1
      .exact h1
      .exact absurd (by simpa using h1) hle
     unfold Sig.fresh at dj;simp only[Xh]at dj;refine⟨G,λ_ _ _ hh=>hh,λb o v hv=>hA2.g b o v (hA2.gx.le b o v (dB b o v hv)),WcB _ _ _ _ dj.1 hA2.res,Wak _ _ _ _ _ dj.2 hA2.outs,hr.gx,λS hS b off hh=>?_,λid b off hl hp _=>hφ.gf id b off hl hp⟩;cases hv:G b off with
     |none=>rfl
     |some v=>
      have:=hA2.gx.le b off v (dB b off v hv);rw[(hA2.own S hS b off hh).1]at this;cases this
   obtain⟨G3,mc,md,eh,kj,me,mf,mg⟩:=hG3;obtain⟨ν2,hν2⟩:∃ν2:Nat->Nu,ν2= λi=>if i<st.nx then ν i else((nus (ms++bA))[i-st.nx]?).getD ⟨none,0,0,0,0⟩:=⟨_,rfl⟩;obtain⟨φ2,hφ2⟩:∃φ2:Nat->CS,φ2= λi=>if i<st.nx then(λb o=>(∃(j:Nat) (S:CS),(kids A.kept)[j]?=some i/\kf[j]?=some S/\S b o)\/(φ i b o/\¬Tk φ st.objs bx A.all b o))else((fps (ms++bA))[i-st.nx]?).getD (λ_ _=>False):=⟨_,rfl⟩;have hνold:Wnk st.nx ν ν2:=λi hi=>by rw[hν2];simp[hi]
   have hAt:At ν2 φ2 st.nx (ms++bA):=λj pc hj=>by
    have e1:(nus (ms++bA))[j]?=some pc.nu:=by unfold nus;rw[Xah,hj];rfl
    have e2:(fps (ms++bA))[j]?=some pc.fp:=by unfold fps;rw[Xah,hj];rfl
    rw[hν2,hφ2];simp only;rw[if_neg (by omega),if_neg (by omega),Xaw,e1,e2];exact⟨rfl,rfl⟩
   have gR:∀i∈kids A.kept,i<st.nx:=λi hi=>hφ.lt i (hO.live i (hO.sub.subset hi));have gS:(kids A.kept).Nodup:=au.sublist hO.sub;obtain⟨oW,oX,gT⟩:=Wal (ν:=ν2) (φ:=φ2) (bx:=bx) st.objs sg.ps out.1 A.kept ks kf ms (kill st.objs A.moved) st.nx (st.nx+ms.length+bA.length) kj (Wbn _ _ _ (λi hi=>hνold i (gR i hi)) hO.kept) hAt.left gS (λq hq=>by
    have cH:q.id∈kids A.kept:=Xae hq;exact⟨gR _ cH,Wc1 _ _ (hO.dis _ cH)⟩) (by omega)
   generalize hp:WS sg.ps out.1 A.kept (kill st.objs A.moved) st.nx=p at*;obtain⟨ma,oY,oZ⟩:=Wcn (ν:=ν2) (φ:=φ2) sg.rs out.2 rv bA p.1 (st.nx+ms.length) (st.nx+ms.length+bA.length) eh (hAt.right rfl) (by omega);rw[oW]at hk;generalize hq:WaG sg.rs out.2 p.1 (st.nx+ms.length)=q at*;have ek:∀id ob,We q.2.1 id=some ob->ob≠ .dead->
     (st.nx<=id/\id<st.nx+ms.length+bA.length/\Wqb G3 ν2 φ2 w' (st.nx+ms.length+bA.length) id ob)\/
     (∃(j:Nat) (S:CS),(kids A.kept)[j]?=some id/\kf[j]?=some S/\Wjj G3 ν2 w' st.objs bx (st.nx+ms.length+bA.length) id S ob)\/(We st.objs id=some ob/\id∉A.all):=λid ob hl bG=>by
    rcases oY id ob hl with⟨h1,h2,h3⟩|h1
    .exact .inl ⟨by omega,h2,h3⟩
    .rcases gT id ob h1 with⟨h2,h3,h4⟩|h2|⟨h2,h3⟩
     .exact .inl ⟨h2,by omega,.inl h4⟩
     .exact .inr (.inl h2)
     .obtain⟨h4,h5⟩:=WcT A.moved id ob h2 bG;exact .inr (.inr ⟨h4,λhm=>by rcases hO.mvk id hm with h6|h6;exact h5 h6;exact h3 h6⟩)
   have aI:∀id b off,Live q.2.1 id->φ2 id b off->
     (∃(pos:Nat) (S:CS),(kf++fps (ms++bA))[pos]?=some S/\S b off/\id=(if pos<kf.length then((kids A.kept)[pos]?).getD 0 else st.nx+(pos-kf.length)))\/
     (Live st.objs id/\φ id b off/\¬Tk φ st.objs bx A.all b off/\id<st.nx):=λid b off ⟨ob,hl,bG⟩ hp=>by
    have iG:id<st.nx->Live st.objs id:=λhlt=>by
     rcases ek id ob hl bG with⟨h1,_⟩|⟨j,S,h1,_⟩|⟨h1,_⟩
     .omega
     .exact hO.live id (hO.sub.subset (Xan h1))
     .exact⟨ob,h1,bG⟩
    rw[hφ2]at hp
    try simp only at hp
    by_cases hlt:id<st.nx
    .rw[if_pos hlt]at hp;rcases hp with⟨j,S,h1,h2,h3⟩|⟨h1,h2⟩
     .left;have hj:j<kf.length:=(Xn.1 h2).1;refine⟨j,S,by rw[Xar hj];exact h2,h3,?_⟩;rw[if_pos hj,h1];rfl
     .exact .inr ⟨iG hlt,h1,h2,hlt⟩
    .rw[if_neg hlt]at hp;left;cases hS:(fps (ms++bA))[id-st.nx]? with
     |none=>rw[hS]at hp;exact hp.elim
     |some S=>
      rw[hS]at hp;refine⟨kf.length+(id-st.nx),S,by rw[Xaq (by omega),Xaw];exact hS,hp,?_⟩;rw[if_neg (by omega)];omega
   have hown:=hA2.own;have eT:∀{pos:Nat} {S:CS},(kf++fps (ms++bA))[pos]?=some S->S∈kf++fps (ms++bA):=λh=>Xan h;have hH:HR w0 F G3 ν2 φ2 q.2.1 (st.nx+ms.length+bA.length) w':={
    g:=md
    ob:=λid ob hl=>by
     by_cases bG:ob= .dead
     .subst bG;trivial
     .rcases ek id ob hl bG with⟨h1,h2,⟨e,xs,rfl,h3⟩|⟨cs,b,us,rfl,h3,h4,h5,h6,h7⟩⟩|⟨j,S,h1,h2,h3⟩|⟨h1,h2⟩
      .exact h3
      .exact⟨b,us,h3,h4,h5,h6,h7⟩
      .have aO:id∈kids A.kept:=Xan h1;have hlt:=gR id aO;have an:Live st.objs id:=hO.live id (hO.sub.subset aO);have hSφ:CS.le S (φ2 id):=λb o hh=>by
        rw[hφ2];(try simp only);rw[if_pos hlt];exact .inl ⟨j,S,h1,h2,hh⟩
       rcases h3 with⟨gr,off,ds,b,us,g1,rfl,g2,g3,g4,g5,rfl,g6⟩|⟨e,ys,xs,g1,rfl,g2⟩
       .rw[hνold id hlt]at g3 g4 g6 hSφ;obtain⟨b',vs,e1,e2,e3,e4,e5⟩:Wbv G ν st.nx w id (φ id) (.box gr):=hφ.ob _ _ g1;rw[g3]at e1;injection e1 with e1;subst e1;have cg:us.length=ds.length:=g5.1;have la:vs.length=gr.length:=e4.1;have dF:∀o,(ν id).off<=o->o<(ν id).off+gr.length->¬((ν id).off+off<=o/\o<(ν id).off+off+ds.length)->φ id b o/\¬Tk φ st.objs bx A.all b o:=λo k1 k2 k3=>by
         have hφo:=e5 b o ⟨rfl,k1,k2⟩;refine⟨hφo,λ⟨i,hi,k4,k5,k6⟩=>?_⟩;have:=hφ.inj i id b o k4 an k5 hφo;subst this;obtain⟨_,k7,k8⟩:=k6 _ g6 rfl;exact k3 ⟨k7,k8⟩
        refine⟨b,_,by rw[hνold id hlt];exact g3,by rw[hνold id hlt,Wdn g2];exact hA2.le.rows.row _ _ e2,?_,Wdd (e4.mono mc hνold (by omega)) g5,?_⟩
        .rw[hνold id hlt];refine Wod e3 g4 (by omega) (λj hj hn=>?_);obtain⟨k1,k2⟩:=dF ((ν id).off+j) (by omega) (by omega) (λ⟨k3,k4⟩=>hn ⟨by omega,by omega⟩);exact hA2.le.cell b _ (hφ.bl id b _ an k1) (λkm=>k2 (hTk b _ km))
        .rw[hνold id hlt,Wdn g2];intro b' o ⟨k0,k1,k2⟩;subst k0;by_cases dG:(ν id).off+off<=o/\o<(ν id).off+off+ds.length
         .exact hSφ b' o ⟨rfl,dG.1,dG.2⟩
         .rw[hφ2];(try simp only);rw[if_pos hlt];exact .inr (dF o k1 k2 dG)
       .exact WbR (λ_ _ _ hh=>hh) (Same.refl _ w') hSφ g2
      .have gJ:Live st.objs id:=⟨ob,h1,bG⟩;have hlt:=hφ.lt id gJ;have nW:∀b o,φ id b o->¬Tk φ st.objs bx A.all b o:=λb o hp ⟨i,hi,k1,k2,_⟩=>by
        have:=hφ.inj i id b o k1 gJ k2 hp;subst this;exact h2 hi
       refine Wci mc (hA2.le.same (λb o km hp=>nW b o hp (hTk b o km)) (λb o hp=>hφ.bl id b o gJ hp)) (λb o hp=>?_) hνold (by omega) hlt ob (hφ.ob id ob h1);rw[hφ2];(try simp only);rw[if_pos hlt];exact .inr ⟨hp,nW b o hp⟩
    gf:=λid b off hl hp=>by
     rcases aI id b off hl hp with⟨pos,S,h1,h2,_⟩|⟨h1,h2,h3,_⟩
     .exact mf S (eT h1) b off h2
     .exact mg id b off h1 h2 h3
    inj:=λid aW b off hl bK hp bU=>by
     have key:∀aW,Live st.objs aW->φ aW b off->¬Tk φ st.objs bx A.all b off->∀(pos:Nat) (S:CS),(kf++fps (ms++bA))[pos]?=some S->S b off->False:=λaW g1 g2 g3 pos S g4 g5=>by
      rcases(hown S (eT g4) b off g5).2.1 with g6|g6
      .exact g3 (hTk b off g6)
      .have:=hφ.bl aW b off g1 g2;omega
     rcases aI id b off hl hp with⟨pos,S,h1,h2,he⟩|⟨h1,h2,h3,h4⟩<;>rcases aI aW b off bK bU with⟨mh,S',dz,fi,gM⟩|⟨dz,fi,kY,h4'⟩
     .have:=Wh0 hA2.sep h1 dz h2 fi;subst this;rw[he,gM]
     .exact(key aW dz fi kY pos S h1 h2).elim
     .exact(key id h1 h2 h3 mh S' dz fi).elim
     .exact hφ.inj id aW b off h1 dz h2 fi
    own:=λid b off hl hp=>by
     rcases aI id b off hl hp with⟨pos,S,h1,h2,_⟩|⟨h1,h2,h3,_⟩
     .rcases(hown S (eT h1) b off h2).2.1 with h5|h5
      .obtain⟨i,hi,h6,h7,_⟩:=hTk b off h5;exact hφ.own i b off h6 h7
      .exact .inl (Xaz hφ.le.size h5)
     .exact hφ.own id b off h1 h2
    lt:=λid ⟨ob,hl,bG⟩=>by
     rcases ek id ob hl bG with⟨_,h2,_⟩|⟨j,S,h1,_⟩|⟨h1,h2⟩
     .exact h2
     .have:=gR id (Xan h1);omega
     .have:=hφ.lt id ⟨ob,h1,bG⟩;omega
    bl:=λid b off hl hp=>by
     rcases aI id b off hl hp with⟨pos,S,h1,h2,_⟩|⟨h1,h2,h3,_⟩
     .exact(hown S (eT h1) b off h2).2.2
     .exact Nat.lt_of_lt_of_le (hφ.bl id b off h1 h2) hA2.le.size
    le:=hφ.le.trans hA2.le (λb off km=>by
     obtain⟨i,hi,h6,h7,_⟩:=hTk b off km;exact hφ.own i b off h6 h7)}
   have hR:=hr.on mc hνold (by omega) ⟨φ2,hH⟩ me;have hR2:=hR.put (dst:=o.dst) hd (Wm2 oZ);rw[ma]at hk;exact hK _ _ _ _ _ hR2 hk
  .cases h
 .cases h
theorem WpU{Γ:Ctx}(hΓ:Wdu P Γ)(hr:Rel w0 F nt G0 G ν st a w){o:Oper}(hd:∀d,o.dst=some d->nt.Ok d){c:Call}{f:Operand}{g:FuncId}{caps:List Nat}{xs:List AVal}{sg:Sig}{R:Type}{k:St->Option R}{r:R}
  (ho:o.op= .call c) (hc:c.callee= .value f) (hf:ev st f=some (.s (.one (.clos g caps)))) (iH:evs st c.args.toList=some xs) (iE:We Γ g=some sg)
  (h:WiG sg st (xs++Wg0 caps) (λx objs nx=>k (({env:=st.env,objs:=objs,nx:=nx}:St).put o.dst x))=some r) {K:Act->World->Prop} {Q:Exit->Act->World->Prop}
  (hK:∀ac a' w' G' ν',Rel w0 F nt G0 G' ν' ac a' w'->k ac=some r->K a' w'):o.wp P a w K Q:=by
 obtain⟨⟨cvs,kh,hcl,hcv⟩,_⟩:=Wx hr f _ hf;obtain⟨fj,o0⟩:=WmQ hr _ _ iH;have hlen:(xs++Wg0 caps).length=(c.args.toList.map a.eval++cvs).length:=by simp[fj,Wg0,hcl]
 have hargs:∀(j:Nat) (x:AVal) (v:Value),(xs++Wg0 caps)[j]?=some x->(c.args.toList.map a.eval++cvs)[j]?=some v->AValRel G ν st.nx x v:=λj x v hj hv=>by
  rw[Xao]at hj hv;rw[Xad,←fj]at hv;split at hj
  .rename_i hlt;rw[if_pos hlt]at hv;exact o0 j x v hj hv
  .rename_i hlt;rw[if_neg hlt]at hv;simp only[Wg0,Xah]at hj;cases hcj:caps[j-xs.length]? with
   |none=>simp[hcj]at hj
   |some id=>
    simp[hcj]at hj;subst hj;obtain⟨h1,h3,h2⟩:=hcv _ id v hcj hv;exact⟨⟨h1,h2⟩,h3⟩
 unfold WiG at h;cases ll:sg.fresh with
 |true=>
  rw[ll]at h;exact Wim hΓ hr hd ho hc kh iE hlen hargs h hK
 |false=>
  rw[ll]at h;simp only[cond_false]at h;split at h
  .rename_i A hA;split at h
   .exact Wim hΓ hr hd ho hc kh iE hlen hargs h hK
   .obtain⟨G1,hz⟩:=hr.frz A.lent;refine Wim hΓ hz.rel hd ho hc kh iE (by simpa using hlen) (λj x v hj hv=>?_) h hK;rw[Xah]at hj;obtain⟨y,hy,rfl⟩:=Xs.1 hj;exact hz.val y v (hargs j y v hy hv)
  .cases h
end
end Go.Sx
namespace Go.Sx
set_option linter.unusedVariables false
set_option linter.unusedSimpArgs false
section
variable{w0:World}{F:CS}{nt:Slots}{G0 G G':GH}{ν:Nat->Nu}{objs:WP}{nx:Nat}{st ac:St}{a:Act}{w w':World}{P:Program}{T:Tab}{Γ:Ctx}
theorem Done.wp{o:Oper}{ac:St}(h:Done P w0 F nt G0 o a w ac){K:Act->World->Prop}{Q:Exit->Act->World->Prop}
  (hK:∀a' w' G' ν',Rel w0 F nt G0 G' ν' ac a' w'->K a' w'):o.wp P a w K Q:=by
 obtain⟨n,v,w',G',ν',h1,h2,h3⟩:=h;unfold Oper.wp;rw[h1];rcases h2 with rfl|⟨rfl,rfl⟩
 .exact hK _ _ _ _ h3
 .exact hK _ _ _ _ h3
theorem Wiu{t:TypeId}{x v:AVal}{ac:St}(h:WbU T st t x v=some ac):({env:=st.env,objs:=ac.objs,nx:=ac.nx}:St)=ac:=by
 unfold WbU at h;split at h
 .split at h
  .split at h
   .injection h with h;subst h;rfl
   .cases h
  .cases h
 .split at h
  .split at h
   .split at h
    .injection h with h;subst h;rfl
    .cases h
   .split at h
    .split at h
     .split at h
      .injection h with h;subst h;rfl
      .cases h
     .cases h
    .cases h
  .cases h
 .cases h
theorem Wae{R:Type}{c:Bool}{x:Option R}{r:R}(h:(bif c then x else none)=some r):c=true/\x=some r:=by
 cases c
 .cases h
 .exact⟨rfl,h⟩
theorem Wa0{R:Type}{c:Prop}[Decidable c]{x:Option R}{r:R}(h:(if c then x else none)=some r):c/\x=some r:=by
 split at h
 .exact⟨by assumption,h⟩
 .cases h
theorem WiP{e:Ty}{ps:List (Nat×AVal)}{R:Type}{k:KV R}{r:R}(h:Wb8 st e ps k=some r):
  ∃x ds d m,ps= [(0,x)]/\WeQ (We6 st.objs (Wfa e x) x)=some ds/\W1 e ds (Wcw st.objs (Wfa e x))=some (d,m,[])/\WaJ m=true/\
   k (.s (.one (.own st.nx))) ((st.nx,.arr e [d])::kill (Wcw st.objs (Wfa e x)) m) (st.nx+1)=some r:=by
 match ps with
 | [p]=>
  simp only[Wb8]at h;obtain⟨hp,h⟩:=Wa0 h;split at h
  .rename_i ds dJ;split at h
   .rename_i d m hf;obtain⟨au,h⟩:=Wa0 h;exact⟨p.2,ds,d,m,by rw[←hp],dJ,hf,au,h⟩
   .cases h
  .cases h
 | []=>cases h
 |_::_::_=>cases h
theorem Wkl(hT:WW P T)(hr:Rel w0 F nt G0 G ν st a w){o:Oper}(hd:∀d,o.dst=some d->nt.Ok d){R:Type}{k:St->Option R}{r:R}
  (h:(match WR T st o.op with|some (c,v)=>bif c then k (({env:=st.env,objs:=st.objs,nx:=st.nx}:St).put o.dst v)else none|none=>none)=some r)
  {K:Act->World->Prop} {Q:Exit->Act->World->Prop} (hK:∀ac a' w' G' ν',Rel w0 F nt G0 G' ν' ac a' w'->k ac=some r->K a' w'):o.wp P a w K Q:=by
 split at h
 .rename_i c v hp;obtain⟨rfl,h⟩:=Wae h;exact(WnS hT hr hd hp).wp λa' w' G' ν' bb=>hK _ _ _ _ _ bb h
 .cases h
theorem Wnw(hT:WW P T)(hΓ:Wdu P Γ)(hr:Rel w0 F nt G0 G ν st a w){o:Oper}(hd:∀d,o.dst=some d->nt.Ok d){A:List (Nat×An)}{R:Type}{k:St->Option R}{r:R}(h:rx1 T Γ A o st k=some r)
  {K:Act->World->Prop} {Q:Exit->Act->World->Prop} (hK:∀ac a' w' G' ν',Rel w0 F nt G0 G' ν' ac a' w'->k ac=some r->K a' w'):o.wp P a w K Q:=by
 unfold rx1 rxe at h;split at h
 .rename_i t ho;split at h
  .rename_i e n et hl;obtain⟨hc,h⟩:=Wa0 h;simp only[Xh]at hc;exact(WhU hT hr hd ho hl hc.1 hc.2).wp λa' w' G' ν' bb=>hK _ _ _ _ _ bb h
  .rename_i te _ hl;obtain⟨hc,h⟩:=Wa0 h;exact(Wly hT hr hd ho hl hc).wp λa' w' G' ν' bb=>hK _ _ _ _ _ bb h
  .cases h
 .rename_i t x ho;split at h
  .rename_i te cs hl hb;cases hv:ev st x with
   |none=>simp[hv]at hb
   |some v=>
    simp only[hv,Xc]at hb;exact(Woe hr hd ho hv hb).wp λa' w' G' ν' bb=>hK _ _ _ _ _ bb h
  .cases h
 .rename_i t parts ho;split at h
  .rename_i ty fs ps hl bP;obtain⟨hc,h⟩:=Wa0 h;split at h
   .rename_i cs hf;refine(WlT hT hr hd ho hl bP hf ?_).wp λa' w' G' ν' bb=>hK _ _ _ _ _ bb h;intro f hf;have:=Xaf.1 hc f hf;split at this
    .rename_i te aP;exact⟨te,aP,this⟩
    .cases this
   .cases h
  .cases h
 .rename_i t n parts ho;split at h
  .rename_i ty et ps hl bP;split at h
   .rename_i te hle;split at h
    .rename_i e _;obtain⟨hc,h1⟩:=Wa0 h;clear h;simp only[Xh,decide_eq_true_eq]at hc;obtain⟨⟨⟨hn,he⟩,hp⟩,hsz⟩:=hc;obtain⟨x,ds,d,m,rfl,dJ,hf,au,h⟩:=WiP h1;clear h1;subst hn;have au:=(WbK _).1 au;obtain⟨G1,hz⟩:=hr.frz (Wfa e x);obtain⟨p1,p2⟩:=Wd3 hr _ _ bP;have dr:∃y,parts.toList= [(0,y)]/\AValRel G ν st.nx x (a.eval y):=by
      match dZ:parts.toList,p1 with
      | [q],_=>
       rw[dZ]at p2;obtain⟨q1,q2⟩:=p2 0 _ q rfl rfl;refine⟨q.2,?_,q2⟩;have:q=(0,q.2):=Prod.ext q1.symm rfl;rw[←this]
     obtain⟨y,pd,pe⟩:=dr;exact(Wjp hT hz.rel hd ho pd hl hle (hz.val _ _ pe) dJ hf au he hp hsz).wp λa' w' G' ν' bb=>hK _ _ _ _ _ bb h
    split at h
    .rename_i xs hf;obtain⟨hc,h⟩:=Wa0 h;simp only[Xh,decide_eq_true_eq]at hc;obtain⟨G1,hz⟩:=hr.frz (WhN ps);obtain⟨p1,p2⟩:=Wd3 hr _ _ bP;exact(Wf7 hT hz.rel hd ho hl hle (by simpa [Wh6]using p1) (λj p q hp hq=>by
      simp only[Wh6,Xah]at hp;obtain⟨y,hy,rfl⟩:=Xs.1 hp;exact⟨(p2 j y q hy hq).1,hz.val _ _ (p2 j y q hy hq).2⟩) hf hc.1.1 hc.1.2 hc.2).wp λa' w' G' ν' bb=>hK _ _ _ _ _ bb h
    .cases h
   .cases h
  .cases h
 .rename_i t n c ho;split at h
  .rename_i ty et n' c' hl hn hc;split at h
   .rename_i te hle;obtain⟨k1,l0⟩:∃k,a.eval n= .int k n':=by
     cases hv:ev st n with
     |none=>simp[hv]at hn
     |some v=>simp only[hv,Xc]at hn;exact WdT _ _ _ (Wx hr n _ hv) hn
    obtain⟨k2,gu⟩:∃k,a.eval c= .int k c':=by
     cases hv:ev st c with
     |none=>simp[hv]at hc
     |some v=>simp only[hv,Xc]at hc;exact WdT _ _ _ (Wx hr c _ hv) hc
    split at h
    .obtain⟨fW,h⟩:=Wa0 h;obtain⟨hb,h⟩:=Wae h;simp only[Xh,decide_eq_true_eq]at hb fW;exact(WfU hT hr hd ho hl hle l0 gu hb.1.1 hb.1.2 hb.2 fW.1 fW.2).wp λa' w' G' ν' bb=>hK _ _ _ _ _ bb h
    .obtain⟨fW,h⟩:=Wa0 h;obtain⟨hb,h⟩:=Wae h;simp only[Xh,decide_eq_true_eq]at hb fW;exact(WgE hT hr hd ho hl hle l0 gu hb.1.1 hb.1.2 hb.2 fW.1 fW.2).wp λa' w' G' ν' bb=>hK _ _ _ _ _ bb h
   .cases h
  .cases h
 .rename_i t x y ho;split at h
  .rename_i p v hp hv;split at h
   .rename_i ac hs;split at h
    .rename_i fm;have h:k (({env:=st.env,objs:=ac.objs,nx:=ac.nx}:St).put o.dst (.tup []))=some r:=h;obtain⟨G1,hz⟩:=hr.frz (WdN st.objs p v);have eS:=Wiu hs;simp only at eS;rw[eS,fm]at h;exact(WlV hT hz.rel ho fm (AValRel.mono hz.le (λ_ _=>rfl) (Xj _) _ _ (Wx hr x _ hp)) (hz.val _ _ (Wx hr y _ hv)) hs).wp λa' w' G' ν' bb=>hK _ _ _ _ _ bb h
    .cases h
   .cases h
  .cases h
 .rename_i t x lo hi ho;split at h
  .rename_i id hx;split at h
   .rename_i ty et l hh hl aA jt;split at h
    .rename_i te hle;split at h
     .obtain⟨hp,h⟩:=Wa0 h;obtain⟨ac,hk,c0⟩:=WnE hT hr hd ho hx hl hle hp aA jt h;exact c0.wp λa' w' G' ν' bb=>hK _ _ _ _ _ bb hk
     .split at h
      .rename_i h' e xs _ al;obtain⟨⟨he,hp⟩,h⟩:=Wa0 h;obtain⟨hb,h⟩:=Wae h;simp only[Xh,decide_eq_true_eq]at hb;exact(Wlv hT hr hd ho hx hl hle hp he al aA jt hb.1 hb.2).wp λa' w' G' ν' bb=>hK _ _ _ _ _ bb h
      .rename_i h' e xs i p _ al;obtain⟨⟨he,hp,lY⟩,h⟩:=Wa0 h;obtain⟨hb,h⟩:=Wae h;simp only[Xh,decide_eq_true_eq]at hb;exact(WgH hT hr hd ho hx hl hle hp he al lY aA jt hb.1.1 hb.1.2 hb.2).wp λa' w' G' ν' bb=>hK _ _ _ _ _ bb h
      .cases h
    .cases h
   .cases h
  .rename_i hx;exact Wkl hT hr hd (by rw[ho];rw[ho]at h;exact h) hK
 .rename_i c ho;split at h
  .rename_i s x t t2 hc ha bQ;split at h
   .rename_i sv xv hs hx;obtain⟨ac,hk,c0⟩:=WjR hT hr hd ho hc ha bQ hs hx h;exact c0.wp λa' w' G' ν' bb=>hK _ _ _ _ _ bb hk
   .cases h
  .rename_i x t hc ha bQ;split at h
   .rename_i id lo hi hx;split at h
    .rename_i ty et e xs hl al;split at h
     .rename_i te hle;obtain⟨⟨he,hp,ay⟩,h⟩:=Wa0 h;exact(Wma hT hr hd ho hc ha bQ hx hl hle al he hp ay).wp λa' w' G' ν' bb=>hK _ _ _ _ _ bb h
     .cases h
    .cases h
   .cases h
  .exact Wkl hT hr hd h hK
  .rename_i f args _ hc;split at h
   .rename_i g caps xs hf iH;split at h
    .rename_i sg iE;exact WpU hΓ hr hd ho hc hf iH iE h hK
    .cases h
   .cases h
  .cases h
 .exact Wkl hT hr hd h hK
end
end Go.Sx
namespace Go.Sx
set_option linter.unusedVariables false
set_option linter.unusedSimpArgs false
section
variable{w0:World}{F:CS}{nt:Slots}{G0 G G':GH}{ν ν':Nat->Nu}{φ φ':Nat->CS}{objs objs':WP}{nx af:Nat}{st ac:St}{a:Act}{w w':World}{P:Program}{T:Tab}{Γ:Ctx}
theorem Rel.rebind(h:Rel w0 F nt G0 G ν st a w){i:Nat}{x:AVal}{v:Value}(hv:a.tmps[i]?=some v)(hx:AValRel G ν st.nx x v):Rel w0 F nt G0 G ν (st.put (some i) x) a w:=
 ⟨h.defers,h.ntm,h.par,λj y hy=>by
  simp only[St.put]at hy;rw[Wl]at hy;split at hy
  .rename_i e;subst e;injection hy with hy;subst hy;exact⟨v,hv,hx⟩
  .exact h.env j y hy,h.h,h.gx⟩
theorem CellsRel.set{cs:List Cell}{vs:List Value}(h:CellsRel G ν nx cs vs){off:Nat}{c:Cell}(hc:∀v,vs[off]?=some v->CellRel G ν nx c v):CellsRel G ν nx (cs.set off c) vs:=by
 refine⟨by simp[h.1],λj d v hd hv=>?_⟩;rw[List.getElem?_set]at hd;split at hd
 .rename_i e;subst e;split at hd
  .rename_i hlt;injection hd with hd;subst hd;exact⟨hc v hv,(h.2 off cs[off] v (Xr hlt) hv).2⟩
  .cases hd
 .exact h.2 j d v hd hv
theorem HRel.mk_box(h:HRel w0 F G ν objs nx w){id:Nat}{cs cs':List Cell}(ho:We objs id=some (.box cs))(hl:cs'.length=cs.length)
  (hc:∀vs,CellsRel G ν nx cs vs->CellsRel G ν nx cs' vs):HRel w0 F G ν ((id,.box cs')::objs) nx w:=by
 obtain⟨φ,h⟩:=h;have an:Live objs id:=⟨_,ho,by simp⟩;obtain⟨b,vs,h1,h2,h3,h4,h5⟩:Wbv G ν nx w id (φ id) (.box cs):=h.ob _ _ ho;exact⟨_,h.put (ν':=ν) (m:=[]) (λ_ _=>rfl) (Xj _) (h.lt id an) (WLe.refl _ w) (λb o hh=>.inl ⟨id,.inl rfl,an,hh⟩) (λ_=>⟨b,vs,h1,by rw[hl];exact h2,h3,hc _ h4,by rw[hl];exact h5⟩)⟩
theorem HRel.empt(h:HRel w0 F G ν objs nx w){id:Nat}{e e':Ty}(ho:We objs id=some (.arr e' []))(hs:e.size=e'.size):HRel w0 F G ν ((id,.arr e [])::objs) nx w:=by
 obtain⟨φ,h⟩:=h;have an:Live objs id:=⟨_,ho,by simp⟩;have al:Wbv G ν nx w id (φ id) (.arr e' []):=h.ob _ _ ho;have al:OwnL w (TyRel G w e') e'.size (ν id) [] (φ id):=al;refine⟨_,h.put (ν':=ν) (m:=[]) (λ_ _=>rfl) (Xj _) (h.lt id an) (WLe.refl _ w) (λb o hh=>.inl ⟨id,.inl rfl,an,hh⟩) (λ_=>?_)⟩;show OwnL w (TyRel G w e) e.size (ν id) [] (φ id);rw[hs];unfold OwnL at*;refine⟨al.1,al.2.1,?_⟩;have h3:=al.2.2;cases hb:(ν id).blk with
 |none=>rfl
 |some b=>
  rw[hb]at h3;obtain⟨a1,a2,a3,cs,ps,a4,a5,a6,a7⟩:=h3;exact⟨a1,a2,a3,cs,ps,by simpa [EncP]using a4,a5,a6,a7⟩
theorem HRel.adopt(h:HRel w0 F G ν objs nx w)(e:Ty):HRel w0 F G (upd ν nx ⟨none,0,0,0,e.size⟩) ((nx,.arr e [])::objs) (nx+1) w:=by
 obtain⟨φ,h⟩:=h;refine⟨_,h.put (m:=[]) (S:=λ_ _=>False) (Wdz ν nx _) (Xcx _) (Xbl _) (WLe.refl _ w) (λb o hh=>hh.elim) (λ_=>?_)⟩;show OwnL _ _ _ (upd ν nx ⟨none,0,0,0,e.size⟩ nx) _ _;rw[WaI];exact⟨rfl,rfl,rfl⟩
theorem Whi(e:Ty):CellRel G (upd ν nx ⟨none,0,0,0,e.size⟩) (nx+1) (.own nx) (.slice none 0 0):=
 ⟨Xbl _,by rw[WaI];rfl⟩
theorem HRel.solo(h:HRel w0 F G ν objs nx w){id lo hi:Nat}{e:Ty}{xs:List e.den}(ho:We objs id=some (.arr e xs))(h1:lo<=hi)(h2:hi<=(ν id).len):
  HRel w0 F G (upd ν nx ((ν id).part lo hi)) ((nx,.arr e ((xs.take hi).drop lo))::(id,.dead)::objs) (nx+1) w:=by
 obtain⟨φ,h⟩:=h;have an:Live objs id:=⟨_,ho,by simp⟩;have hown:OwnL w (TyRel G w e) e.size (ν id) xs (φ id):=h.ob _ _ ho;refine⟨_,h.put (m:=[id]) (S:=φ id) (Wdz ν nx _) (Xcx _) (Xbl _) (WLe.refl _ w) (λb o hh=>.inl ⟨id,.inr (by simp),an,hh⟩) (λ_=>?_)⟩;show OwnL _ _ _ (upd ν nx ((ν id).part lo hi) nx) _ _;rw[WaI];exact WiI hown h1 h2
theorem Wi5{id lo hi:Nat}:CellRel G (upd ν nx ((ν id).part lo hi)) (nx+1) (.own nx) ((ν id).vhdr lo hi):=
 ⟨Xbl _,by rw[WaI,WhQ]⟩
theorem Wj2(h:Rel w0 F nt G0 G ν st a w){p:Nat}(hg:WjW st p=some ac):Rel w0 F nt G0 G ν ac a w:=by
 unfold WjW at hg;split at hg
 .rename_i r _;split at hg
  .rename_i e xs i p' cs aA dA;split at hg
   .rename_i d m hf;split at hg
    .rename_i aG;injection hg with hg;subst hg;simp only[Xh]at aG;obtain⟨hp,au⟩:=aG;have hp:=Xbs hp;subst hp;have au:=(WbK _).1 au;obtain⟨n1,n2⟩:=Xz.1 au;obtain⟨n3,n4⟩:=Xz.1 n2;obtain⟨φ,hφ⟩:=h.h;have an:Live st.objs r:=⟨_,aA,by simp⟩;have bW:Live st.objs p:=⟨_,dA,by simp⟩;obtain⟨iv,hole⟩:p<st.nx/\WfB w (TyRel G w e) e.size (ν r) (ν p) xs i (φ r):=hφ.ob _ _ aA;obtain⟨b,us,hb,hrow,hmem,aF,cU⟩:Wbv G ν st.nx w p (φ p) (.box cs):=hφ.ob _ _ dA;obtain⟨ns,t1,t2,t3,t4,_⟩:=WQ (G':=G) hφ (λ_ _ _ hh=>hh) e cs us d m [] aF (λi hi=>by simp at hi) n4 hf;have cg:=Wj _ _ _ _ t1;rw[←aF.1,cg]at cU;have hne:r≠p:=λe=>n1 (by rw[e];exact Xg ..);refine h.on (λ_ _ _ hh=>hh) (λ_ _=>rfl) (Xj _) ⟨_,hφ.put (ν':=ν) (S:=λb o=>φ r b o\/FromL φ st.objs (p::m) b o) (λ_ _=>rfl) (Xj _) (hφ.lt r an) (WLe.refl _ w) (λb o hh=>?_) (λ_=>?_)⟩ h.gx
     .rcases hh with hh|⟨j,hj,h1,h2⟩
      .exact .inl ⟨r,.inl rfl,an,hh⟩
      .exact .inl ⟨j,.inr hj,h1,h2⟩
     .refine Wlf hole t1 hb hmem cU t2 t3 ?_ ?_ ?_ (λb o hh=>.inl hh) (λb o hh=>.inr ⟨p,Xg ..,bW,hh⟩) (λb o hh=>.inr (FromL.mono (λi hi=>Xe _ hi) b o hh))
      .exactλb o h1 h2=>hne (hφ.inj r p b o an bW h1 h2)
      .exactλb o h1 ⟨j,hj,h2,h3⟩=>by
        have:=hφ.inj r j b o an h2 h1 h3;subst this;exact n1 (Xe _ hj)
      .exactλb o h1 ⟨j,hj,h2,h3⟩=>by
        have:=hφ.inj p j b o bW h2 h1 h3;subst this;exact n3 hj
    .cases hg
   .cases hg
  .cases hg
 .cases hg
theorem WgR(h:Rel w0 F nt G0 G ν st a w){r i:Nat}{e:Ty}{xs:List e.den}(aA:We st.objs r=some (.arr e xs))(hi:i<xs.length)(hg:WiH st r i=some ac):
  ∃ν' b,Rel w0 F nt G0 G ν' ac a w/\st.nx<ac.nx/\(ν r).blk=some b/\(ν' st.nx)=Wbh b ((ν r).off+i*(ν r).esz)/\ac.env=st.env:=by
 unfold WiH at hg;rw[aA]at hg;simp only[Option.some.injEq]at hg;subst hg;obtain⟨φ,hφ⟩:=h.h;have an:Live st.objs r:=⟨_,aA,by simp⟩;have hown:OwnL w (TyRel G w e) e.size (ν r) xs (φ r):=hφ.ob _ _ aA;obtain⟨g1,g2,g3⟩:=hown;have mi:=hφ.lt r an;cases hb:(ν r).blk with
 |none=>simp only[hb]at g3;rw[g3]at hi;simp at hi
 |some b=>
  simp only[hb]at g3;obtain⟨g4,g5,g6,cs,ps,g7,g8,g9,jP⟩:=g3;obtain⟨c1,c,c2,p1,pc,p2,k1,k2,k3,k4,k5⟩:=Wkv g7 e.dflt hi;have l1:=Waq (λx c q hx=>Wj e x c q hx) _ _ _ k3;rw[Xbc,Xbu (by omega)]at l1;have lc:=Wj _ _ _ _ k4;have lo:=WK _ _ _ _ k4;have e1:(i+1)*e.size=i*e.size+e.size:=Xbp i e.size;have e2:((ν r).cap-(i+1))*e.size+(i+1)*e.size=(ν r).cap*e.size:=by rw[←Xci];congr 1;omega
  have kn:=Wag e (xs.getD i e.dflt) (st.nx+1);have cg:=Wbg e (xs.getD i e.dflt) (st.nx+1);rw[k1]at g8;have m1:Mem w b (ν r).off c1:=g8.left;have m2:Mem w b ((ν r).off+i*e.size) c:=(g8.right l1).left;have m3:Mem w b ((ν r).off+(i+1)*e.size) c2:=by
   have:=(g8.right l1).right lc;rw[Xak,←e1]at this;exact this
  obtain⟨q1,q2⟩:=Xv.1 g9;have dt:=jP _ (Xg ..);have gN:∀p∈p1++(pc++p2),CS.le p.fp (φ r):=λp hp=>jP _ (Xe _ (Xae (by rw[k2];exact hp)));have ju:∀p∈p1++(pc++p2),CS.disj (rng b (ν r).off ((ν r).cap*e.size)) p.fp:=λp hp=>q1 _ (Xae (by rw[k2];exact hp));rw[k2,Xo,Xo]at q2;obtain⟨s1,s2,s3⟩:=Xac.1 q2;obtain⟨s4,s5,s6⟩:=Xac.1 s2;have rA:CS.le (rng b (ν r).off (i*e.size)) (rng b (ν r).off ((ν r).cap*e.size)):=λb o ⟨x0,x1,x2⟩=>⟨x0,by omega,by omega⟩;have rB:CS.le (rng b ((ν r).off+i*e.size) e.size) (rng b (ν r).off ((ν r).cap*e.size)):=λb o ⟨x0,x1,x2⟩=>⟨x0,by omega,by omega⟩;have rC:CS.le (rng b ((ν r).off+(i+1)*e.size) (((ν r).cap-(i+1))*e.size)) (rng b (ν r).off ((ν r).cap*e.size)):=λb o ⟨x0,x1,x2⟩=>⟨x0,by omega,by omega⟩;obtain⟨SR,hSR⟩:∃SR:CS,SR= λb' o=>rng b (ν r).off (i*e.size) b' o\/rng b ((ν r).off+(i+1)*e.size) (((ν r).cap-(i+1))*e.size) b' o\/∃p∈p1++p2,p.fp b' o:=⟨_,rfl⟩;have hSRφ:CS.le SR (φ r):=λb o hh=>by
   rw[hSR]at hh;rcases hh with hh|hh|⟨p,hp,hh⟩
   .exact dt b o (rA b o hh)
   .exact dt b o (rC b o hh)
   .refine gN p ?_ b o hh;rcases Xk.1 hp with hp|hp
    .exact Xi _ hp
    .exact Xf _ (Xf _ hp)
  obtain⟨ν',hν'⟩:∃ν':Nat->Nu,ν'= λj=>if j<st.nx then ν j else if j=st.nx then Wbh b ((ν r).off+i*e.size)else((nus pc)[j-(st.nx+1)]?).getD ⟨none,0,0,0,0⟩:=⟨_,rfl⟩;obtain⟨φ',hφ'⟩:∃φ':Nat->CS,φ'= λj=>if j=r then SR else if j<st.nx then φ j else if j=st.nx then rng b ((ν r).off+i*e.size) e.size else((fps pc)[j-(st.nx+1)]?).getD (λ_ _=>False):=⟨_,rfl⟩;have hνold:Wnk st.nx ν ν':=λj hj=>by rw[hν'];simp[hj]
  have hνp:ν' st.nx=Wbh b ((ν r).off+i*e.size):=by rw[hν'];simp
  have hφr:φ' r=SR:=by rw[hφ'];simp
  have hφp:φ' st.nx=rng b ((ν r).off+i*e.size) e.size:=by rw[hφ'];simp;omega
  have hφold:∀j,j<st.nx->j≠r->φ' j=φ j:=λj hj hn=>by rw[hφ'];simp[hj,hn]
  have hAt:At ν' φ' (st.nx+1) pc:=λj q hj=>by
   have x1:(nus pc)[j]?=some q.nu:=by unfold nus;rw[Xah,hj];rfl
   have x2:(fps pc)[j]?=some q.fp:=by unfold fps;rw[Xah,hj];rfl
   rw[hν',hφ'];constructor
   .show(if st.nx+1+j<st.nx then _ else if st.nx+1+j=st.nx then _ else _)=_;rw[if_neg (by omega),if_neg (by omega),Xaw,x1];rfl
   .show(if st.nx+1+j=r then _ else if st.nx+1+j<st.nx then _ else if st.nx+1+j=st.nx then _ else _)=_;rw[if_neg (by omega),if_neg (by omega),if_neg (by omega),Xaw,x2];rfl
  obtain⟨uc,uo⟩:=W2 (ν:=ν') (φ:=φ') e (xs.getD i e.dflt) (st.nx+1) c pc k4 hAt;have ek:∀id ob,We ((r,Ob.hole e xs i st.nx)::(st.nx,Ob.box (unfold e (xs.getD i e.dflt) (st.nx+1)).1)::((unfold e (xs.getD i e.dflt) (st.nx+1)).2.1++st.objs)) id=some ob->ob≠ .dead->
    (id=r/\ob= .hole e xs i st.nx)\/(id=st.nx/\ob= .box (unfold e (xs.getD i e.dflt) (st.nx+1)).1)\/(st.nx+1<=id/\id<st.nx+1+e.owns/\Wl9 G ν' φ' w id ob)\/(id≠r/\id<st.nx/\We st.objs id=some ob):=λid ob hl hd=>by
   rw[Wl]at hl;split at hl
   .rename_i x;injection hl with hl;exact .inl ⟨x.symm,hl.symm⟩
   .rename_i ld;rw[Wl]at hl;split at hl
    .rename_i x;injection hl with hl;exact .inr (.inl ⟨x.symm,hl.symm⟩)
    .rcases Wu hl with hl|hl
     .obtain⟨x1,x2,x3⟩:=uo id ob hl;exact .inr (.inr (.inl ⟨x1,x2,x3⟩))
     .exact .inr (.inr (.inr ⟨λx=>ld x.symm,hφ.lt id ⟨ob,hl,hd⟩,hl⟩))
  have da:∀id b' o,Live ((r,Ob.hole e xs i st.nx)::(st.nx,Ob.box (unfold e (xs.getD i e.dflt) (st.nx+1)).1)::((unfold e (xs.getD i e.dflt) (st.nx+1)).2.1++st.objs)) id->φ' id b' o->
    (id=r/\SR b' o)\/(id=st.nx/\rng b ((ν r).off+i*e.size) e.size b' o)\/(∃(j:Nat) (q:Pc),id=st.nx+1+j/\pc[j]?=some q/\q.fp b' o)\/(id≠r/\id<st.nx/\Live st.objs id/\φ id b' o):=λid b' o ⟨ob,hl,hd⟩ hp=>by
   rcases ek id ob hl hd with⟨rfl,_⟩|⟨rfl,_⟩|⟨x1,x2,_⟩|⟨x1,x2,x3⟩
   .rw[hφr]at hp;exact .inl ⟨rfl,hp⟩
   .rw[hφp]at hp;exact .inr (.inl ⟨rfl,hp⟩)
   .right;right;left;have hlt:id-(st.nx+1)<pc.length:=by omega
    refine⟨id-(st.nx+1),pc[id-(st.nx+1)],by omega,Xr hlt,?_⟩;have:=(hAt (id-(st.nx+1)) _ (Xr hlt)).2;rw[show st.nx+1+(id-(st.nx+1))=id by omega]at this;rw[this]at hp;exact hp
   .rw[hφold id x2 x1]at hp;exact .inr (.inr (.inr ⟨x1,x2,⟨ob,x3,hd⟩,hp⟩))
  have hq:∀(j:Nat) (q:Pc),pc[j]?=some q->q∈p1++(pc++p2):=λj q hj=>Xf _ (Xi _ (Xan hj));have cw:∀id b' o,(id=r/\SR b' o)\/(id=st.nx/\rng b ((ν r).off+i*e.size) e.size b' o)\/(∃(j:Nat) (q:Pc),id=st.nx+1+j/\pc[j]?=some q/\q.fp b' o)->φ r b' o:=λid b' o hh=>by
   rcases hh with⟨_,hh⟩|⟨_,hh⟩|⟨j,q,_,hj,hh⟩
   .exact hSRφ b' o hh
   .exact dt b' o (rB b' o hh)
   .exact gN q (hq j q hj) b' o hh
  have hH:HR w0 F G ν' φ' ((r,Ob.hole e xs i st.nx)::(st.nx,Ob.box (unfold e (xs.getD i e.dflt) (st.nx+1)).1)::((unfold e (xs.getD i e.dflt) (st.nx+1)).2.1++st.objs)) (st.nx+1+e.owns) w:=by
   refine hφ.step (WLe.refl _ w) (λid ob hl hd=>?_) (λid ⟨ob,hl,hd⟩=>?_) (λid b' o fL hp=>?_) (λid b' o fL hp=>?_) (λid aW b' o hl bK hp bU=>?_)
   .rcases ek id ob hl hd with⟨rfl,rfl⟩|⟨rfl,rfl⟩|⟨x1,x2,e',lm,rfl,x3⟩|⟨x1,x2,x3⟩
    .refine⟨by omega,?_⟩;rw[hφr,hνold id mi,hνp];refine⟨g1,g2,hi,b,hb,rfl,rfl,g4,g5,g6,c1,c2,p1,p2,k3,k5,m1,m3,?_,λs hs b' o hh=>?_⟩
     .refine Xv.2 ⟨λs hs=>?_,Xv.2 ⟨λs hs=>?_,?_⟩⟩
      .rcases Xm.1 hs with rfl|hs
       .exact Woq (by omega)
       .obtain⟨p,hp,rfl⟩:=Xt.1 hs;refine(ju p ?_).mono rA (λ_ _ hh=>hh);rcases Xk.1 hp with hp|hp
        .exact Xi _ hp
        .exact Xf _ (Xf _ hp)
      .obtain⟨p,hp,rfl⟩:=Xt.1 hs;refine(ju p ?_).mono rC (λ_ _ hh=>hh);rcases Xk.1 hp with hp|hp
       .exact Xi _ hp
       .exact Xf _ (Xf _ hp)
      .rw[Xo];exact Xac.2 ⟨s1,s5,λs hs t ht=>s3 s hs t (Xf _ ht)⟩
     .rw[hSR];rcases Xm.1 hs with rfl|hs
      .exact .inl hh
      .rcases Xm.1 hs with rfl|hs
       .exact .inr (.inl hh)
       .obtain⟨p,hp,rfl⟩:=Xt.1 hs;exact .inr (.inr ⟨p,hp,hh⟩)
    .refine⟨b,c,by rw[hνp];rfl,?_,by rw[hνp];exact m2,uc _ (Xj _),?_⟩
     .rw[hνp,cg];obtain⟨row,TT,y1,y2⟩:=g6;exact⟨row,TT,y1,by show(ν r).off+i*e.size+e.size<=row.size;omega⟩
     .rw[hνp,cg,hφp];exactλ_ _ hh=>hh
    .exact x3
    .rw[hφold id x2 x1];exact Wci (λ_ _ _ hh=>hh) (Same.refl _ w) (λ_ _ hh=>hh) hνold (by omega) x2 ob (hφ.ob id ob x3)
   .rcases ek id ob hl hd with⟨rfl,_⟩|⟨rfl,_⟩|⟨_,x2,_⟩|⟨_,x2,_⟩<;>omega
   .rcases da id b' o fL hp with hh|hh|hh|⟨_,_,x3,x4⟩
    .exact .inl ⟨r,an,cw id b' o (.inl hh)⟩
    .exact .inl ⟨r,an,cw id b' o (.inr (.inl hh))⟩
    .exact .inl ⟨r,an,cw id b' o (.inr (.inr hh))⟩
    .exact .inl ⟨id,x3,x4⟩
   .rcases da id b' o fL hp with hh|hh|hh|⟨_,_,x3,x4⟩
    .exact hφ.bl r b' o an (cw id b' o (.inl hh))
    .exact hφ.bl r b' o an (cw id b' o (.inr (.inl hh)))
    .exact hφ.bl r b' o an (cw id b' o (.inr (.inr hh)))
    .exact hφ.bl id b' o x3 x4
   .have out:∀aW,aW≠r->Live st.objs aW->φ aW b' o->φ r b' o->False:=λaW y1 y2 y3 y4=>y1 (hφ.inj aW r b' o y2 an y3 y4);have dSP:SR b' o->∀s,(s=rng b ((ν r).off+i*e.size) e.size\/∃q∈pc,s=q.fp)->s b' o->False:=λy1 s y2 y3=>by
     rw[hSR]at y1;rcases y2 with rfl|⟨q,mj,rfl⟩
     .rcases y1 with y1|y1|⟨p,hp,y1⟩
      .obtain⟨z0,z1,z2⟩:=y1;obtain⟨z3,z4,z5⟩:=y3;omega
      .obtain⟨z0,z1,z2⟩:=y1;obtain⟨z3,z4,z5⟩:=y3;omega
      .refine ju p ?_ b' o (rB b' o y3) y1;rcases Xk.1 hp with hp|hp
       .exact Xi _ hp
       .exact Xf _ (Xf _ hp)
     .have ko:q∈p1++(pc++p2):=Xf _ (Xi _ mj);rcases y1 with y1|y1|⟨p,hp,y1⟩
      .exact ju q ko b' o (rA b' o y1) y3
      .exact ju q ko b' o (rC b' o y1) y3
      .rcases Xk.1 hp with hp|hp
       .exact s3 _ (Xae hp) _ (Xi _ (Xae mj)) b' o y1 y3
       .exact s6 _ (Xae mj) _ (Xae hp) b' o y3 y1
    have dPQ:∀(j:Nat) (q:Pc),pc[j]?=some q->rng b ((ν r).off+i*e.size) e.size b' o->q.fp b' o->False:=λj q hj y1 y2=>ju q (hq j q hj) b' o (rB b' o y1) y2;rcases da id b' o hl hp with hh|hh|hh|⟨x1,x2,x3,x4⟩<;>rcases da aW b' o bK bU with eU|eU|eU|⟨ml,x2',ln,lq⟩
    .rw[hh.1,eU.1]
    .exact(dSP hh.2 _ (.inl rfl) eU.2).elim
    .obtain⟨j,q,_,hj,y⟩:=eU;exact(dSP hh.2 _ (.inr ⟨q,Xan hj,rfl⟩) y).elim
    .exact(out aW ml ln lq (cw id b' o (.inl hh))).elim
    .exact(dSP eU.2 _ (.inl rfl) hh.2).elim
    .rw[hh.1,eU.1]
    .obtain⟨j,q,_,hj,y⟩:=eU;exact(dPQ j q hj hh.2 y).elim
    .exact(out aW ml ln lq (cw id b' o (.inr (.inl hh)))).elim
    .obtain⟨j,q,_,hj,y⟩:=hh;exact(dSP eU.2 _ (.inr ⟨q,Xan hj,rfl⟩) y).elim
    .obtain⟨j,q,_,hj,y⟩:=hh;exact(dPQ j q hj eU.2 y).elim
    .obtain⟨j,q,aO,hj,y⟩:=hh;obtain⟨j',q',mm,hj',y'⟩:=eU;have x1:(fps pc)[j]?=some q.fp:=by unfold fps;rw[Xah,hj];rfl
     have x2:(fps pc)[j']?=some q'.fp:=by unfold fps;rw[Xah,hj'];rfl
     have:=Wh0 (l:=fps pc) s4 x1 x2 y y';rw[aO,mm,this]
    .exact(out aW ml ln lq (cw id b' o (.inr (.inr hh)))).elim
    .exact(out id x1 x3 x4 (cw aW b' o (.inl eU))).elim
    .exact(out id x1 x3 x4 (cw aW b' o (.inr (.inl eU)))).elim
    .exact(out id x1 x3 x4 (cw aW b' o (.inr (.inr eU)))).elim
    .exact hφ.inj id aW b' o x3 ln x4 lq
  refine⟨ν',b,?_,?_,rfl,by rw[hνp,g2],rfl⟩
  .have:=h.on (λ_ _ _ hh=>hh) hνold (by omega) ⟨φ',hH⟩ h.gx;rw[kn];exact this
  .show st.nx<(unfold e (xs.getD i e.dflt) (st.nx+1)).2.2;rw[kn];omega
end
end Go.Sx
namespace Go.Sx
set_option linter.unusedVariables false
set_option linter.unusedSimpArgs false
theorem WbY:∀(l:List Nat) (i j:Nat),Wnr i l=some j->l[j]?=some i
 | [],i,j,h=>by cases h
 |k::l,i,j,h=>by
  simp only[Wnr]at h;split at h
  .rename_i hb;injection h with h;subst h;have:i=k:=by simpa using hb
   rw[this];rfl
  .cases hp:Wnr i l with
   |none=>simp[hp]at h
   |some n=>
    simp[hp]at h;subst h;exact WbY l i n hp
theorem Whb{m:List Nat}:∀(l r:List Nat),WiM m l=some r->r.length=l.length/\∀(q j:Nat),r[q]?=some j->∃i,l[q]?=some i/\m[j]?=some i
 | [],r,h=>by simp[WiM]at h;subst h;exact⟨rfl,λq j hq=>by simp at hq⟩
 |i::l,r,h=>by
  simp only[WiM]at h;split at h
  .rename_i j r' h1 h2;injection h with h;subst h;obtain⟨h3,h4⟩:=Whb l r' h2;refine⟨by simp[h3],λq j' hq=>?_⟩;cases q with
   |zero=>simp at hq;subst hq;exact⟨i,rfl,WbY m i j h1⟩
   |succ q=>exact h4 q j' (by simpa using hq)
  .cases h
theorem Wba:∀(n:Nat) (todo acc:List Nat) (objs:WP),acc.Nodup->(WhJ n todo acc objs).Nodup
 |0,_,_,_,h=>h
 |n+1,[],acc,objs,h=>h
 |n+1,i::l,acc,objs,h=>by
  simp only[WhJ];split
  .exact Wba n l acc objs h
  .rename_i hi;have pf:i∉acc:=λhm=>hi ((Wah i acc).2 hm);have h2:(acc++ [i]).Nodup:=by
    rw[Xaa];refine⟨h,by simp,λx hx y hy=>?_⟩;simp at hy;subst hy
    exactλe=>pf (e▸hx)
   split
   .exact Wba n _ _ objs h2
   .exact Wba n _ _ objs h2
   .exact Wba n _ _ objs h2
   .exact Wba n _ _ objs h
theorem Wfc{m:List Nat}{objs:WP}:∀(l:List Nat) (j0:Nat) (j:Nat) (ob:Ob),We (Wcq m objs j0 l) j=some ob->∃i bp,j0<=j/\l[j-j0]?=some i/\We objs i=some bp/\ob=Wns m bp
 | [],j0,j,ob,h=>by cases h
 |i::l,j0,j,ob,h=>by
  simp only[Wcq]at h;have step:We (Wcq m objs (j0+1) l) j=some ob->∃i' bp,j0<=j/\(i::l)[j-j0]?=some i'/\We objs i'=some bp/\ob=Wns m bp:=λh=>by
   obtain⟨i',bp,h1,h2,h3,h4⟩:=Wfc l (j0+1) j ob h;refine⟨i',bp,by omega,?_,h3,h4⟩;rw[show j-j0=(j-(j0+1))+1 by omega];simpa using h2
  split at h
  .rename_i bp ho;rw[Wl]at h;split at h
   .rename_i e;subst e;injection h with h;exact⟨i,bp,Xj _,by simp,ho,h.symm⟩
   .exact step h
  .exact step h
theorem WfP{env:List (Nat×AVal)}{f:AVal->AVal}:∀(l:List Nat) (i:Nat) (x:AVal),We ((WdW env l).map λp=>(p.1,f p.2)) i=some x->∃y,We env i=some y/\x=f y
 | [],i,x,h=>by cases h
 |j::l,i,x,h=>by
  simp only[WdW]at h;split at h
  .rename_i y hy;simp only[Xag]at h;rw[Wl]at h;split at h
   .rename_i e;subst e;injection h with h;exact⟨y,hy,h.symm⟩
   .exact WfP l i x h
  .exact WfP l i x h
section
variable{w0:World}{F:CS}{nt:Slots}{G0 G G':GH}{ν ν':Nat->Nu}{objs objs':WP}{nx af:Nat}{st ac:St}{a:Act}{w w':World}{P:Program}{T:Tab}{Γ:Ctx}
structure Ren(m:List Nat)(ν ν':Nat->Nu)(af:Nat):Prop where
 nx:∀(i j:Nat),m[j]?=some i->j<af
 nu:∀(i j:Nat),m[j]?=some i->ν' j=ν i
theorem CellRel.ren{m:List Nat}(hm:Ren m ν ν' af):∀(c:Cell) (v:Value),CellRel G ν nx c v->CellRel G ν' af (WbT m c) v
 | .val t d,v,h=>h
 | .nils,v,h=>h
 | .rptr t d off,v,h=>h
 | .junk,v,h=>h
 | .own id,v,h=>by
  simp only[WbT];split
  .rename_i j hj;have hj:=WbY _ _ _ hj;exact⟨hm.nx _ _ hj,by rw[hm.nu _ _ hj];exact h.2⟩
  .trivial
 | .vw id lo hi,v,h=>by
  simp only[WbT];split
  .rename_i j hj;have hj:=WbY _ _ _ hj;exact⟨hm.nx _ _ hj,by rw[hm.nu _ _ hj];exact h.2⟩
  .trivial
 | .aptr id,v,h=>by
  simp only[WbT];split
  .rename_i j hj;have hj:=WbY _ _ _ hj;exact⟨hm.nx _ _ hj,by rw[hm.nu _ _ hj];exact h.2⟩
  .trivial
 | .ptr id off,v,h=>by
  simp only[WbT];split
  .rename_i j hj;have hj:=WbY _ _ _ hj;exact⟨hm.nx _ _ hj,by rw[hm.nu _ _ hj];exact h.2⟩
  .trivial
 | .eptr id i off,v,h=>by
  simp only[WbT];split
  .rename_i j hj;have hj:=WbY _ _ _ hj;exact⟨hm.nx _ _ hj,by rw[hm.nu _ _ hj];exact h.2⟩
  .trivial
 | .clos f caps,v,h=>by
  simp only[WbT];split
  .rename_i js hj;obtain⟨h1,h2⟩:=Whb _ _ hj;obtain⟨vs,h3,h4,h5⟩:=h;refine⟨vs,h3,h4.trans h1.symm,λq id u hq hu=>?_⟩;obtain⟨i,h6,h7⟩:=h2 q id hq;obtain⟨h8,h9,ba⟩:=h5 q i u h6 hu;exact⟨hm.nx _ _ h7,h9,by rw[hm.nu _ _ h7];exact ba⟩
  .trivial
theorem CellsRel.ren{m:List Nat}(hm:Ren m ν ν' af){cs:List Cell}{vs:List Value}(h:CellsRel G ν nx cs vs):CellsRel G ν' af (cs.map (WbT m)) vs:=by
 refine⟨by simp[h.1],λj c v hc hv=>?_⟩;simp only[Xah]at hc;cases hd:cs[j]? with
 |none=>simp[hd]at hc
 |some d=>
  simp[hd]at hc;subst hc;obtain⟨h1,h2⟩:=h.2 j d v hd hv;exact⟨h1.ren hm,h2⟩
theorem AvRel.ren{m:List Nat}(hm:Ren m ν ν' af):∀(x:AV) (v:Value),AvRel G ν nx x v->AvRel G ν' af (WpV m x) v
 | .one c,v,h=>⟨h.1.ren hm,h.2⟩
 | .agg cs,v,⟨vs,h1,h2⟩=>⟨vs,h1,h2.ren hm⟩
theorem AValRel.ren{m:List Nat}(hm:Ren m ν ν' af):∀(x:AVal) (v:Value),AValRel G ν nx x v->AValRel G ν' af (Wkn m x) v
 | .s x,v,h=>AvRel.ren hm x v h
 | .tup xs,v,⟨vs,h1,h2,h3⟩=>⟨vs,h1,by simp[h2],λj x u hx hu=>by
  simp only[Xah]at hx;cases hd:xs[j]? with
  |none=>simp[hd]at hx
  |some d=>
   simp[hd]at hx;subst hx;exact AvRel.ren hm d u (h3 j d u hd hu)⟩
theorem Wmq(slots:List Nat)(h:Rel w0 F nt G0 G ν st a w):∃ν',Rel w0 F nt G0 G ν' (canon slots st) a w:=by
 obtain⟨m,hm⟩:∃m,m=WhJ 400 ((WdW st.env slots).flatMap λp=>Wap p.2) [] st.objs:=⟨_,rfl⟩;have au:m.Nodup:=by rw[hm];exact Wba _ _ _ _ (by simp)
 have iI:canon slots st={env:=(WdW st.env slots).map λp=>(p.1,Wkn m p.2),objs:=Wcq m st.objs 0 m,nx:=m.length}:=by rw[hm];rfl
 obtain⟨ν',hν'⟩:∃ν':Nat->Nu,ν'= λj=>ν ((m[j]?).getD 0):=⟨_,rfl⟩;have gt:∀(i j:Nat),m[j]?=some i->ν' j=ν i:=λi j hj=>by rw[hν'];simp[hj]
 have kp:∀(j:Nat) (ob:Ob),We (Wcq m st.objs 0 m) j=some ob->∃i bp,m[j]?=some i/\We st.objs i=some bp/\ob=Wns m bp:=λj ob ho=>by
  obtain⟨i,bp,_,h2,h3,h4⟩:=Wfc _ _ _ _ ho;exact⟨i,bp,by simpa using h2,h3,h4⟩
 have kq:Ren m ν ν' m.length:={
  nx:=λi j hj=>(Xn.1 hj).1
  nu:=gt}
 have cn:∀j,Live (Wcq m st.objs 0 m) j->∃i,m[j]?=some i/\Live st.objs i:=λj ⟨ob,ho,hd⟩=>by
  obtain⟨i,bp,h1,h2,h3⟩:=kp j ob ho;refine⟨i,h1,bp,h2,λpg=>hd ?_⟩;rw[h3,pg];rfl
 rw[iI];refine⟨ν',h.defers,h.ntm,h.par,λi x hx=>?_,?_,h.gx⟩
 .obtain⟨y,h1,rfl⟩:=WfP _ _ _ hx;obtain⟨v,h2,h3⟩:=h.env i y h1;exact⟨v,h2,AValRel.ren kq y v h3⟩
 .obtain⟨φ,hφ⟩:=h.h;refine⟨λj=>φ ((m[j]?).getD 0),?_⟩;have ij:∀(i j:Nat),m[j]?=some i->φ ((m[j]?).getD 0)=φ i:=λi j hj=>by simp[hj]
  exact{
   g:=hφ.g
   ob:=λj ob ho=>by
    obtain⟨i,bp,h1,h2,rfl⟩:=kp j ob ho;have:=hφ.ob i bp h2;cases bp with
    |dead=>trivial
    |arr e xs=>
     show OwnL w (TyRel G w e) e.size (ν' j) xs (φ ((m[j]?).getD 0));rw[gt i j h1,ij i j h1];exact this
    |hole e xs k p=>
     simp only[Wns];split
     .rename_i q hq;have hq:=WbY _ _ _ hq;obtain⟨g1,g2⟩:=this;show q<m.length/\WfB w (TyRel G w e) e.size (ν' j) (ν' q) xs k (φ ((m[j]?).getD 0));rw[gt i j h1,ij i j h1,gt p q hq];exact⟨(Xn.1 hq).1,g2⟩
     .trivial
    |box cs=>
     obtain⟨b,vs,h4,h5,h6,h7,h8⟩:=this;refine⟨b,vs,by rw[gt i j h1];exact h4,?_,by rw[gt i j h1];exact h6,h7.ren kq,?_⟩
     .rw[gt i j h1,Xad];exact h5
     .rw[gt i j h1,ij i j h1,Xad];exact h8
   gf:=λj b o hj hp=>by
    obtain⟨i,h1,h2⟩:=cn j hj;rw[ij i j h1]at hp;exact hφ.gf i b o h2 hp
   inj:=λj j' b o hj hj' hp bU=>by
    obtain⟨i,h1,h2⟩:=cn j hj;obtain⟨i',dz,fi⟩:=cn j' hj';rw[ij i j h1]at hp;rw[ij i' j' dz]at bU;have:=hφ.inj i i' b o h2 fi hp bU;subst this;have hlt:=(Xn.1 h1).1;exact(List.getElem?_inj hlt au).1 (h1.trans dz.symm)
   own:=λj b o hj hp=>by
    obtain⟨i,h1,h2⟩:=cn j hj;rw[ij i j h1]at hp;exact hφ.own i b o h2 hp
   lt:=λj hj=>by
    obtain⟨i,h1,h2⟩:=cn j hj;exact(Xn.1 h1).1
   bl:=λj b o hj hp=>by
    obtain⟨i,h1,h2⟩:=cn j hj;rw[ij i j h1]at hp;exact hφ.bl i b o h2 hp
   le:=hφ.le}
theorem WgO(h:Rel w0 F nt G0 G ν st a w){r:Nat}{ix:Option Nat}(hg:Wk9 st r ix=some (true,ac)):∃ν',Rel w0 F nt G0 G ν' ac a w:=by
 unfold Wk9 at hg;split at hg
 .rename_i c i gv;obtain⟨s,hs,hg⟩:=Xs.1 hg;simp only[Prod.mk.injEq]at hg;obtain⟨rfl,rfl⟩:=hg;have hlt:∃(e:Ty) (xs:List e.den),We st.objs r=some (.arr e xs)/\i<xs.length:=by
   unfold WoZ at gv;split at gv
   .split at gv
    .rename_i e xs ho;simp only[Option.some.injEq,Prod.mk.injEq]at gv;obtain⟨h1,rfl⟩:=gv;obtain⟨h2,h3⟩:=Wco h1;exact⟨e,xs,ho,by omega⟩
    .cases gv
   .split at gv
    .rename_i e xs n ho hn;simp only[Option.some.injEq,Prod.mk.injEq]at gv;obtain⟨h1,rfl⟩:=gv;obtain⟨h2,h3⟩:=Wco h1;exact⟨e,xs,ho,by omega⟩
    .cases gv
  obtain⟨e,xs,ho,hlt⟩:=hlt;obtain⟨ν',b,h1,_⟩:=WgR h ho hlt hs;exact⟨ν',h1⟩
 .cases hg
theorem WjF{g:Ghost}(h:Rel w0 F nt G0 G ν st a w)(hg:WdM g st=some (true,ac)):∃G' ν',Rel w0 F nt G0 G' ν' ac a w:=by
 cases g with
 |canon slots=>
  simp only[WdM]at hg;injection hg with hg;injection hg with _ hg;subst hg;obtain⟨ν',h'⟩:=Wmq slots h;exact⟨G,ν',h'⟩
 |adopt slot e=>
  simp only[WdM]at hg;split at hg
  .rename_i hs;injection hg with hg;injection hg with _ hg;subst hg;obtain⟨v,hv,hr⟩:=h.env _ _ hs;have iJ:v= .slice none 0 0:=hr.1;subst iJ;have h2:=h.on (λ_ _ _ hh=>hh) (Wdz ν st.nx _) (Xcx _) (h.h.adopt e) h.gx;exact⟨G,_,h2.rebind hv ⟨Whi e,rfl⟩⟩
  .injection hg with hg;injection hg with _ hg;subst hg;exact⟨G,ν,h⟩
  .cases hg
 |freeze slot=>
  simp only[WdM]at hg;split at hg
  .rename_i id hs;split at hg
   .rename_i e xs ho;injection hg with hg;injection hg with _ hg;subst hg;obtain⟨G1,h1,h2,h3,h4⟩:=h.h.freezeL h.gx [id];obtain⟨v,hv,hr⟩:=h.env _ _ hs;have iJ:v=(ν id).hdr:=hr.1.2;have h5:=h.on h1 (λ_ _=>rfl) (Xj _) h2 h3;exact⟨G1,ν,h5.rebind hv ⟨⟨v,rfl,iJ▸h4 id (by simp) e xs ho⟩,hr.2⟩⟩
   .cases hg
  .cases hg
 |adoptC slot off e=>
  simp only[WdM]at hg;split at hg
  .rename_i id hs;split at hg
   .rename_i cs ho;split at hg
    .rename_i hc;injection hg with hg;injection hg with _ hg;subst hg;have hne:st.nx≠id:=λe=>by
      obtain⟨φ,hφ⟩:=h.h;have:=hφ.lt id ⟨_,ho,by simp⟩;omega
     have h2:=h.h.adopt e;have gP:We ((st.nx,Ob.arr e [])::st.objs) id=some (.box cs):=by rw[Wl,if_neg hne];exact ho
     have h3:=h2.mk_box gP (cs':=cs.set off (.own st.nx)) (by simp) (λvs cT=>cT.set λv hv=>by
      have:v= .slice none 0 0:=(cT.2 off _ v hc hv).1;subst this;exact Whi e)
     exact⟨G,_,h.on (λ_ _ _ hh=>hh) (Wdz ν st.nx _) (Xcx _) h3 h.gx⟩
    .injection hg with hg;injection hg with _ hg;subst hg;exact⟨G,ν,h⟩
    .cases hg
   .cases hg
  .cases hg
 |freezeC slot off=>
  simp only[WdM]at hg;split at hg
  .rename_i id hs;split at hg
   .rename_i cs ho;split at hg
    .rename_i j hc;split at hg
     .rename_i e xs ik;injection hg with hg;injection hg with _ hg;subst hg;obtain⟨G1,h1,h2,h3,h4⟩:=h.h.freezeL h.gx [j];have hne:j≠id:=λe=>by subst e;rw[ho]at ik;cases ik
      have gP:We ((j,Ob.dead)::st.objs) id=some (.box cs):=by rw[Wl,if_neg hne];exact ho
      have h5:HRel w0 F G1 ν ((id,.box (cs.set off (.val (.slice e.ro) (Wbw e xs))))::(j,.dead)::st.objs) st.nx w:=by
       refine HRel.mk_box h2 gP (by simp) (λvs cT=>cT.set λv hv=>?_);have iJ:v=(ν j).hdr:=(cT.2 off _ v hc hv).1.2;exact⟨v,rfl,iJ▸h4 j (by simp) e xs ik⟩
      exact⟨G1,ν,h.on h1 (λ_ _=>rfl) (Xj _) h5 h3⟩
     .cases hg
    .injection hg with hg;injection hg with _ hg;subst hg;exact⟨G,ν,h⟩
    .injection hg with hg;injection hg with _ hg;subst hg;exact⟨G,ν,h⟩
    .cases hg
   .cases hg
  .cases hg
 |nest d e=>injection hg with hg;injection hg with _ hg;subst hg;exact⟨G,ν,h⟩
 |view d=>injection hg with hg;injection hg with _ hg;subst hg;exact⟨G,ν,h⟩
 |opn d=>injection hg with hg;injection hg with _ hg;subst hg;exact⟨G,ν,h⟩
 |empt slot e=>
  simp only[WdM]at hg;split at hg
  .split at hg
   .rename_i e' ho;split at hg
    .rename_i hc;injection hg with hg;injection hg with _ hg;subst hg;exact⟨G,ν,h.on (λ_ _ _ hh=>hh) (λ_ _=>rfl) (Xj _) (h.h.empt ho hc.1) h.gx⟩
    .cases hg
   .cases hg
  .cases hg
 |unfE slot=>
  simp only[WdM]at hg;split at hg
  .rename_i r i hs;obtain⟨s,bB,hg⟩:=Xs.1 hg;injection hg with _ hg;subst hg;obtain⟨v,hv,hr⟩:=h.env _ _ hs;have dE:∃(e:Ty) (xs:List e.den),We st.objs r=some (.arr e xs):=by
    unfold WiH at bB;split at bB
    .rename_i e xs ho;exact⟨e,xs,ho⟩
    .cases bB
   obtain⟨e,xs,ho⟩:=dE;obtain⟨⟨_,hlt,b,hb,rfl⟩,_⟩:=hr;obtain⟨S,hown⟩:=h.h.obj ho;obtain⟨ν',b',h1,h2,h3,h4,h5⟩:=WgR h ho (by rw[hown.1];exact hlt) bB;rw[hb]at h3;injection h3 with h3;subst h3;refine⟨G,ν',h1.rebind hv ⟨⟨h2,b,by rw[h4];rfl,?_⟩,rfl⟩⟩;rw[h4];rfl
  .cases hg
 |unfS slot ix=>
  simp only[WdM]at hg;split at hg
  .obtain⟨ν',h'⟩:=WgO h hg;exact⟨G,ν',h'⟩
  .cases hg
 |unfC slot off ix=>
  simp only[WdM]at hg;split at hg
  .split at hg
   .split at hg
    .obtain⟨ν',h'⟩:=WgO h hg;exact⟨G,ν',h'⟩
    .cases hg
   .cases hg
  .cases hg
 |refold slot=>
  simp only[WdM]at hg;split at hg
  .obtain⟨s,bB,hg⟩:=Xs.1 hg;injection hg with _ hg;subst hg;exact⟨G,ν,Wj2 h bB⟩
  .cases hg
 |solo slot=>
  simp only[WdM]at hg;split at hg
  .rename_i id lo hi hs;split at hg
   .rename_i e xs ho;injection hg with hg;injection hg with _ hg;subst hg;obtain⟨v,hv,hr⟩:=h.env _ _ hs;obtain⟨⟨_,g1,g2,g3,rfl⟩,_⟩:=hr;have h2:=h.on (λ_ _ _ hh=>hh) (Wdz ν st.nx _) (Xcx _) (h.h.solo ho g1 g2) h.gx;exact⟨G,_,h2.rebind hv ⟨Wi5,WkY _ _ _⟩⟩
   .cases hg
  .injection hg with hg;injection hg with _ hg;subst hg;exact⟨G,ν,h⟩
  .cases hg
 |soloC slot off=>
  simp only[WdM]at hg;split at hg
  .rename_i id o hs;split at hg
   .rename_i cs ho;split at hg
    .rename_i j lo hi hc;split at hg
     .rename_i e xs ik;injection hg with hg;injection hg with _ hg;subst hg;have hne:j≠id:=λe=>by subst e;rw[ho]at ik;cases ik
      have mn:st.nx≠id:=λe=>by
       obtain⟨φ,hφ⟩:=h.h;have:=hφ.lt id ⟨_,ho,by simp⟩;omega
      have aI:lo<=hi/\hi<=(ν j).len:=by
       obtain⟨S,b,vs,k1,k2,k3,k4,k5⟩:=h.h.obj ho;have hlt:o+off<vs.length:=by rw[k4.1];exact(Xn.1 hc).1
       obtain⟨⟨_,g1,g2,_⟩,_⟩:=k4.2 _ _ _ hc (Xr hlt);exact⟨g1,g2⟩
      have h2:=h.h.solo ik aI.1 aI.2;have gP:We ((st.nx,Ob.arr e ((xs.take hi).drop lo))::(j,Ob.dead)::st.objs) id=some (.box cs):=by rw[Wl,if_neg mn,Wl,if_neg hne];exact ho
      have lG:j<st.nx:=by
       obtain⟨φ,hφ⟩:=h.h;exact hφ.lt j ⟨_,ik,by simp⟩
      have h3:=h2.mk_box gP (cs':=cs.set (o+off) (.own st.nx)) (by simp) (λvs cT=>cT.set λv hv=>by
       obtain⟨_,_,_,_,nX⟩:=(cT.2 _ _ v hc hv).1;rw[Wdz ν st.nx _ j lG]at nX;rw[nX];exact Wi5)
      exact⟨G,_,h.on (λ_ _ _ hh=>hh) (Wdz ν st.nx _) (Xcx _) h3 h.gx⟩
     .cases hg
    .injection hg with hg;injection hg with _ hg;subst hg;exact⟨G,ν,h⟩
    .cases hg
   .cases hg
  .cases hg
theorem Wck:∀(l:List Ghost) (st ac:St) (G:GH) (ν:Nat->Nu),Rel w0 F nt G0 G ν st a w->WcH l st=some (true,ac)->∃G' ν',Rel w0 F nt G0 G' ν' ac a w
 | [],st,ac,G,ν,h,hg=>by injection hg with hg;injection hg with _ hg;subst hg;exact⟨G,ν,h⟩
 |g::l,st,ac,G,ν,h,hg=>by
  simp only[WcH]at hg;split at hg
  .rename_i c s ph;split at hg
   .rename_i c' s' hl;simp only[Option.some.injEq,Prod.mk.injEq,Xh]at hg;obtain⟨⟨rfl,rfl⟩,rfl⟩:=hg;obtain⟨G1,ν1,h1⟩:=WjF h ph;exact Wck l s s' G1 ν1 h1 hl
   .cases hg
  .cases hg
end
end Go.Sx
namespace Go.Sx
set_option linter.unusedVariables false
set_option linter.unusedSimpArgs false
section
variable{T:Tab}{Γ:Ctx}{env pi:List (Nat×AVal)}{objs objs':WP}{nx af:Nat}
theorem WbA{st ah:St}:∀(l:List (Nat×Operand)),(∀p∈l,ev ah p.2=ev st p.2)->Wbx ah l=Wbx st l
 | [],_=>rfl
 |(i,x)::l,h=>by
  have h1:ev ah x=ev st x:=h (i,x) (Xg ..);simp only[Wbx,h1,WbA l λp hp=>h p (Xe _ hp)]
theorem WiB{st ah:St}:∀(l:List Operand),(∀x∈l,ev ah x=ev st x)->evs ah l=evs st l
 | [],_=>rfl
 |x::l,h=>by simp only[evs,h x (Xg ..),WiB l λp hp=>h p (Xe _ hp)]
theorem Wfg{st ah:St}:∀(l:List Operand),(∀x∈l,ev ah x=ev st x)->Weu ah l=Weu st l
 | [],_=>rfl
 |x::l,h=>by simp only[Weu,h x (Xg ..),Wfg l λp hp=>h p (Xe _ hp)]
theorem WgV{st ah:St}(x:Option Operand)(h:∀y∈x.toList,ev ah y=ev st y):Wir ah x=Wir st x:=by
 cases x with
 |none=>rfl
 |some y=>simp only[Wir,h y (by simp)]
def WcF(st ah:St)(v:AVal):Prop:=∀id∈Wap v,We ah.objs id=We st.objs id
theorem Wj1{st ah:St}{t:TypeId}{v:AVal}(h:WcF st ah v):We8 T ah t v=We8 T st t v:=by
 unfold We8;cases v with
 |tup xs=>rfl
 |s x=>
  cases x with
  |agg cs=>rfl
  |one c=>
   cases c with
   |ptr id off=>have:=h id (by simp[Wap,Wdv,Wav]);simp only[this]
   |eptr id i off=>have:=h id (by simp[Wap,Wdv,Wav]);simp only[this]
   |_=>rfl
theorem Wjh{st ah:St}{t:TypeId}{v:AVal}(h:WcF st ah v):WdS T ah t v=WdS T st t v:=by
 unfold WdS;cases v with
 |tup xs=>rfl
 |s x=>
  cases x with
  |agg cs=>rfl
  |one c=>
   cases c with
   |aptr id=>have:=h id (by simp[Wap,Wdv,Wav]);simp only[this]
   |_=>rfl
theorem WjB{st:St}{t:TypeId}{id:Nat}:Wgu T st t (.s (.one (.own id)))=match We T t with
  |some ⟨_,false,.slice _⟩=>obL (We st.objs id)
  |_=>none:=by
 unfold Wgu;generalize We T t=q;rcases q with _|⟨ty,agg,shape⟩
 .rfl
 .cases ty<;>cases agg<;>cases shape<;>rfl
theorem Wkr{st ah:St}{t:TypeId}{v:AVal}(h:∀id,v≠ .s (.one (.own id))):Wgu T ah t v=Wgu T st t v:=by
 unfold Wgu;generalize We T t=q;rcases q with _|⟨ty,agg,shape⟩
 .cases v<;>rfl
 .cases v with
  |tup xs=>cases ty<;>cases agg<;>cases shape<;>rfl
  |s x=>
   cases x with
   |agg cs=>cases ty<;>cases agg<;>cases shape<;>rfl
   |one c=>
    cases c with
    |own id=>exact absurd rfl (h id)
    |val t' d=>cases ty<;>cases agg<;>cases shape<;>cases t'<;>rfl
    |_=>cases ty<;>cases agg<;>cases shape<;>rfl
theorem Wpl(v:AVal):(∃id,v= .s (.one (.own id)))\/∀id,v≠ .s (.one (.own id)):=by
 rcases v with x|xs
 .rcases x with c|cs
  .cases c with
   |own id=>exact .inl ⟨id,rfl⟩
   |_=>exact .inr λid h=>by injection h with h;injection h with h;cases h
  .exact .inr λid h=>by injection h with h;cases h
 .exact .inr λid h=>by cases h
theorem WlE{st ah:St}{t:TypeId}{v:AVal}(h:WcF st ah v):Wgu T ah t v=Wgu T st t v:=by
 rcases Wpl v with⟨id,rfl⟩|hv
 .rw[WjB,WjB,h id (by simp[Wap,Wdv,Wav])]
 .exact Wkr hv
theorem Wfy{st ah:St}{t:TypeId}{v:AVal}{f:Nat}(h:WcF st ah v):Wbf T ah t v f=Wbf T st t v f:=by
 unfold Wbf;generalize Weh T t f=q;rcases q with _|⟨off,te⟩
 .cases v<;>rfl
 .cases v with
  |tup xs=>rfl
  |s x=>
   cases x with
   |agg cs=>rfl
   |one c=>
    cases c with
    |ptr id o=>
     have:=h id (by simp[Wap,Wdv,Wav]);show(λq:Option Ob=>match q with|some (.box _)=>some (true,AVal.s (.one (.ptr id (o+off))))|_=>none) (We ah.objs id)=(λq:Option Ob=>match q with|some (.box _)=>some (true,AVal.s (.one (.ptr id (o+off))))|_=>none) (We st.objs id);rw[this]
    |eptr id i o=>
     have:=h id (by simp[Wap,Wdv,Wav]);show(λq:Option Ob=>match q with|some (.arr _ _)=>some (true,AVal.s (.one (.eptr id i (o+off))))|_=>none) (We ah.objs id)=(λq:Option Ob=>match q with|some (.arr _ _)=>some (true,AVal.s (.one (.eptr id i (o+off))))|_=>none) (We st.objs id);rw[this]
    |_=>rfl
theorem WfA{st ah:St}{t:TypeId}{v i:AVal}(h:WcF st ah v):Wbd T ah t v i=Wbd T st t v i:=by
 unfold Wbd;generalize We T t=q;generalize asI i=z;rcases q with _|⟨ty,agg,shape⟩
 .rfl
 rcases z with _|n
 .cases shape<;>rfl
 cases shape with
 |slice et=>
  show(match We T et with|some te=>_|none=>_)=(match We T et with|some te=>_|none=>_);generalize We T et=q;rcases q with _|te
  .rfl
  .show(if te.plain=true then _ else _)=(if te.plain=true then _ else _);by_cases hp:te.plain=true
   .rw[if_pos hp,if_pos hp];cases v with
    |tup xs=>rfl
    |s x=>
     cases x with
     |agg cs=>rfl
     |one c=>
      cases c with
      |own id=>
       have:=h id (by simp[Wap,Wdv,Wav]);show obI te n id (We ah.objs id)=obI te n id (We st.objs id);rw[this]
      |vw id lo hi=>
       have:=h id (by simp[Wap,Wdv,Wav]);show Wqx te n id lo hi (We ah.objs id)=Wqx te n id lo hi (We st.objs id);rw[this]
      |val t' d=>cases t'<;>rfl
      |_=>rfl
   .rw[if_neg hp,if_neg hp]
 |arr k et=>
  show(match We T et with|some te=>_|none=>_)=(match We T et with|some te=>_|none=>_);generalize We T et=q;rcases q with _|te
  .rfl
  .show(if te.plain=true then _ else _)=(if te.plain=true then _ else _);by_cases hp:te.plain=true
   .rw[if_pos hp,if_pos hp];cases v with
    |tup xs=>rfl
    |s x=>
     cases x with
     |agg cs=>rfl
     |one c=>
      cases c with
      |aptr id=>
       have:=h id (by simp[Wap,Wdv,Wav]);show Wqf te n k id (We ah.objs id)=Wqf te n k id (We st.objs id);rw[this]
      |_=>rfl
   .rw[if_neg hp,if_neg hp]
 |_=>rfl
theorem WlA{st ah:St}{v:AVal}(h:WcF st ah v):WoT ah v=WoT st v:=by
 rcases Wpl v with⟨id,rfl⟩|hv
 .exact h id (by simp[Wap,Wdv,Wav])
 .unfold WoT;split
  .rename_i id;exact absurd rfl (hv id)
  .rfl
theorem WjT{st ah:St}{s d:TypeId}{v:AVal}(h:WcF st ah v):Wg3 T ah s d v=Wg3 T st s d v:=by
 unfold Wg3;rw[WlA h]
theorem Wlw{st ah:St}{v:AVal}(h:WcF st ah v):Wl1 ah v=Wl1 st v:=by
 unfold Wl1;cases v with
 |tup xs=>rfl
 |s x=>
  cases x with
  |agg cs=>rfl
  |one c=>
   cases c with
   |ptr id off=>have:=h id (by simp[Wap,Wdv,Wav]);simp only[this]
   |eptr id i off=>have:=h id (by simp[Wap,Wdv,Wav]);simp only[this]
   |aptr id=>have:=h id (by simp[Wap,Wdv,Wav]);simp only[this]
   |_=>rfl
theorem Wl3{st ah:St}{op:BinOp}{t:TypeId}{v z:AVal}(h:WcF st ah v):WlX T ah op t v z=WlX T st op t v z:=by
 unfold WlX;split
 .rename_i id;rw[h id (by simp[Wap,Wdv,Wav])]
 .rfl
theorem Wbb{α β:Type}{x:Option α}{f g:α->Option β}(h:∀v,x=some v->f v=g v):x.bind f=x.bind g:=by
 cases x with
 |none=>rfl
 |some v=>exact h v rfl
theorem Wfh{st ah:St}(op:Op)(hm:∀t x l h m,op≠ .slice t x l h m)(he:∀x∈WN op,ev ah x=ev st x)(hl:WpO op=true->∀x∈WN op,∀v,ev st x=some v->WcF st ah v):WR T ah op=WR T st op:=by
 cases op with
 |move x=>simp only[WR,he x (by simp[WN])]
 |assign x=>simp only[WR,he x (by simp[WN])]
 |pick c a b=>simp only[WR,he c (by simp[WN]),he a (by simp[WN]),he b (by simp[WN])]
 |load t a=>
  simp only[WR,he a (by simp[WN])];exact Wbb λv hv=>by rw[Wj1 (hl rfl a (by simp[WN]) v hv),Wjh (hl rfl a (by simp[WN]) v hv)]
 |nilCheck x=>
  simp only[WR,he x (by simp[WN])];exact Wbb λv hv=>Wlw (hl rfl x (by simp[WN]) v hv)
 |binOp op t x y z=>
  simp only[WR,he x (by simp[WN]),he y (by simp[WN])];split
  .rename_i a b h1 h2;rw[Wl3 (hl rfl x (by simp[WN]) _ h1)]
  .rfl
 |unOp op t x=>simp only[WR,he x (by simp[WN])]
 |convert s d x=>
  simp only[WR,he x (by simp[WN])];exact Wbb λv hv=>WjT (hl rfl x (by simp[WN]) v hv)
 |slice t x l h m=>exact absurd rfl (hm t x l h m)
 |fieldAddr s x f=>
  simp only[WR,he x (by simp[WN])];exact Wbb λv hv=>Wfy (hl rfl x (by simp[WN]) v hv)
 |field t x f=>simp only[WR,he x (by simp[WN])]
 |indexAddr t x i=>
  simp only[WR,he x (by simp[WN]),he i (by simp[WN])];split
  .rename_i a b h1 h2;exact WfA (hl rfl x (by simp[WN]) _ h1)
  .rfl
 |index t x i=>simp only[WR,he x (by simp[WN]),he i (by simp[WN])]
 |extract t ix=>simp only[WR,he t (by simp[WN])]
 |makeFunc f first captured=>
  cases f with
  |func f=>simp only[WR,Wfg (st:=st) (ah:=ah) captured.toList λx hx=>he x (by simp[WN];right;simpa using hx)]
  |_=>rfl
 |call c=>
  have hargs:∀x∈c.args.toList,ev ah x=ev st x:=λx hx=>he x (Xf _ hx);have iK:∀x∈c.args.toList,∀v,ev st x=some v->WcF st ah v:=λx hx=>hl rfl x (Xf _ hx);simp only[WR];split
  .rename_i x t _ ha _;rw[hargs x (by rw[ha];simp)];exact Wbb λv hv=>WlE (iK x (by rw[ha];simp) v hv)
  .rename_i x y _ _ _ ha _;rw[hargs x (by rw[ha];simp),hargs y (by rw[ha];simp)]
  .rename_i x y _ _ _ ha _;rw[hargs x (by rw[ha];simp),hargs y (by rw[ha];simp)]
  .rfl
 |_=>rfl
end
end Go.Sx
