/- The abstract machine, part 2: a reflective interpreter of the program's code over data, with its soundness over the model. -/
import Derived.Test.YtlemhlmemchiaaaGreatEng1
open Bool renaming and_eq_true→Xi,not_eq_true'→Xam,false_eq_true→Xby
open List renaming nodup_cons→Xae,getElem?_append_left→Xav,getD→Xc,getElem?_append_right→Xas,ext_getElem?→Xfc,getElem?_eq_none→Xbf,replicate→Xag,getElem?_map→Xak,prefix_refl→Xfk,nil_prefix→Xgv,prefix_append_right_inj→Xey,length_replicate→Xfs,append_nil→Xcz,getElem?_toArray→Xel,append_assoc→Xbo,getElem?_append→Xaq,getElem?_take→Xbb,getElem?_drop→Xbc,getElem?_eq_some_iff→Xr,drop_drop→Xds,take_append_drop→Xcm,length_take→Xau,mem_cons_self→Xh,mem_cons_of_mem→Xe,mem_map_of_mem→Xal,pairwise_cons→Xy,mem_append_left→Xj,mem_append_right→Xg,length_append→Xs,map_append→Xn,pairwise_append→Xaa,mem_append→Xk,mem_map→Xu,mem_cons→Xm,getElem?_of_mem→Xdv,getElem?_eq_getElem→Xq,eq_nil_of_length_eq_zero→Xx,map_toArray→Xdt,map_cons→Xaj,map_nil→Xbh,append→Xf,take_length→Xct,mem_singleton→Xab,length→Xa,append_inj→Xfo,length_map→Xz,mem_of_mem_take→Xcf,mem_of_mem_drop→Xdx,nodup_append→Xaf,all_eq_true→Xai,nodup_nil→Xcw,length_drop→Xcu,sublist_append_right→Xfg,all_cons→Xcc,mem_of_getElem?→Xar
open Nat renaming succ_mul→Xbq,mul_le_mul_right→Xaz,add_zero→Xat,le_trans→Xck,zero_mul→Xeq,le_refl→Xl,min_eq_left→Xbw,add_assoc→Xan,lt_succ_self→Xbl,add_mul→Xcp,zero_le→Xbk,eq_of_beq_eq_true→Xbt,add_sub_cancel_left→Xay,le_succ→Xdj
open Array renaming range→Xcb,foldl_toList→Xez,length_toList→Xap
open Int renaming mul_le_mul_of_nonneg_right→Xep
open Option renaming map_eq_some_iff→Xw,map_some→Xbu,bind_eq_some_iff→Xbp,bind_some→Xd
namespace Go.Sx
set_option linter.unusedVariables false
set_option linter.unusedSimpArgs false
theorem WbO:∀l:List Nat,WaQ l=true↔l.Nodup
 | []=>by simp[WaQ]
 |i::l=>by
  have h:=WeU i l;simp only[WaQ,Xi,Xam,Xae,WbO l];constructor
  .rintro⟨h1,h2⟩;exact⟨λhm=>(by rw[h.2 hm]at h1;exact absurd h1 (by simp)),h2⟩
  .rintro⟨h1,h2⟩;refine⟨?_,h2⟩;cases he:Wba i l with
   |false=>rfl
   |true=>exact absurd (h.1 he) h1
theorem WmJ{α:Type}(l:List α)(d:α):∀(n i:Nat),i<n*l.length->(rep l n)[i]?=some (l.getD (i%l.length) d)
 |0,i,h=>by simp at h
 |n+1,i,h=>by
  rw[rep];by_cases hi:i<l.length
  .rw[Xav hi,Nat.mod_eq_of_lt hi];simp[Xc,hi]
  .have eD:l.length<=i:=by omega
   rw[Xas eD,WmJ l d n (i-l.length) (by rw[Xbq]at h;omega)];rw[Nat.mod_eq_sub_mod eD]
theorem Weg(z:Array Value)(n:Nat):((Xcb (n*z.size)).map λi=>z[i%z.size]!).toList=rep z.toList n:=by
 apply Xfc;intro i;by_cases hi:i<n*z.size
 .rw[WmJ z.toList default n i (by simpa using hi)];have hpos:0<z.size:=Nat.pos_of_ne_zero (λh=>by rw[h]at hi;simp at hi);have hm:i%z.size<z.size:=Nat.mod_lt _ hpos;simp[hi,Xc,hm]
 .have h1:n*z.size<=i:=by omega
  rw[Xbf (by simp;exact h1),Xbf (by rw[WhL];simp;exact h1)]
section
variable{w0:World}{F:CS}{nt:Slots}{G0 G:GH}{ν:Nat->Nu}{objs:WS}{nx:Nat}{st af:St}{a:Act}{w w':World}{P:Program}{T:Tab}
theorem Wf0(hh:HRel w0 F G ν objs nx w){e:Ty}(he:e.data=true):
  ∀(l:List (Nat×AVal)) (ps:List (Nat×Value)) (xs ys:List e.den) (vs:Array Value),EncL (Enc G e) xs vs.toList->ps.length=l.length->
   (∀(j:Nat) (p:Nat×AVal) (q:Nat×Value),l[j]?=some p->ps[j]?=some q->p.1=q.1/\AValRel G ν nx p.2 q.2)->WlL e objs l xs=some ys->
   ∃vs',Instr.fill (λi=>some (i*e.size,e.size)) vs ps=some vs'/\EncL (Enc G e) ys vs'.toList/\ys.length=xs.length
 | [],[],xs,ys,vs,hc,_,_,h=>by simp[WlL]at h;subst h;exact⟨vs,rfl,hc,rfl⟩
 |(i,x)::l,[],_,_,_,_,hl,_,_=>by simp at hl
 | [],_::_,_,_,_,_,hl,_,_=>by simp at hl
 |(i,x)::l,(i',v)::ps,xs,ys,vs,hc,hl,hp,h=>by
  obtain⟨hi,hx⟩:=hp 0 _ _ rfl rfl;simp only at hi hx;subst hi;simp only[WlL]at h;split at h
  .rename_i ds ff;split at h
   .rename_i d hf;split at h
    .rename_i hlt;obtain⟨h1,_⟩:=Wcc hx ff;have henc:=Wi4 hh h1 he hf;have hlen:v.cells.toList.length=e.size:=Enc_len _ _ _ henc;have dB:vs.toList.length=xs.length*e.size:=EncL_len (λx c hc=>Enc_len e x c hc) _ _ hc;have bA:i*e.size+e.size<=xs.length*e.size:=by rw[←Xbq];exact Xaz _ hlt
     have c9:=Wf9 v.cells.toList (i*e.size) 0 vs (by simp at hlen dB⊢;omega);simp only[Xat]at c9;have it:=Why (λx c hc=>Enc_len e x c hc) xs vs.toList i d v.cells.toList hc hlt henc;obtain⟨vs',h4,h5,h6⟩:=Wf0 hh he l ps (xs.set i d) ys _ (by rw[c9,hlen];exact it) (by simpa using hl) (λj p q hj hq=>hp (j+1) p q (by simpa using hj) (by simpa using hq)) h;refine⟨vs',?_,h5,by rw[h6];simp⟩;simp only[Instr.fill];rw[if_neg (by simp at hlen dB⊢;omega)];rw[←h4];congr 1;rw[←Xez];simp
    .simp at h
   .simp at h
  .simp at h
theorem Wgo(hT:WW P T)(hr:Rel w0 F nt G0 G ν st a w){o:Oper}(hd:∀d,o.dst=some d->nt.Ok d){t:TypeId}{n:Nat}{parts:Array (Nat×Operand)}(ho:o.op= .buildSlice t n parts)
  {ty:Ty} {et:TypeId} {te:TE} {ps:List (Nat×AVal)} {xs:List te.ty.den} (hl:Wc T t=some ⟨ty,false,.slice et⟩) (hle:Wc T et=some te)
  (h1:ps.length=parts.toList.length) (h2:∀(j:Nat) (p:Nat×AVal) (q:Nat×Operand),ps[j]?=some p->parts.toList[j]?=some q->p.1=q.1/\AValRel G ν st.nx p.2 (a.eval q.2))
  (hf:WlL te.ty st.objs ps (Xag n te.ty.dflt)=some xs) (hsz:n*te.ty.size<=16777216) (aK:te.ty.data=true) (hp:te.plain=true):
  Done P w0 F nt G0 o a w (st.new o.dst (.arr te.ty xs) (.s (.one (.own st.nx)))):=by
 have hu:=(hT _ _ hl).und.2.1;obtain⟨z,hz,cL⟩:=Wdg (w:=w) (hT _ _ hle);rw[WaW hp]at cL;have eF:z.cells.size=te.ty.size:=by rw[←Xap,cL,WaM]
 have cj:=Weg z.cells n;rw[eF,cL]at cj;obtain⟨vs',h3,h4,h5⟩:=Wf0 hr.h aK ps (parts.toList.map λp=>(p.1,a.eval p.2)) _ xs ((Xcb (n*te.ty.size)).map λi=>z.cells[i%te.ty.size]!) (by rw[cj];exact WeF aK n) (by simp[h1]) (λj p q hp hq=>by
   simp only[Xak]at hq;cases du:parts.toList[j]? with
   |none=>simp only[Array.getElem?_toList]at du;simp[du]at hq
   |some q'=>
    rw[du]at hq;simp at hq;subst hq;exact h2 j p q' hp du) hf
 have gM:xs.length=n:=by rw[h5];simp
 have hpos:=WaR te.ty;have hn:n<=16777216:=Xck (Nat.le_mul_of_pos_right n hpos) hsz;have iU:vs'.size=n*te.ty.size:=by
  rw[←Xap,EncL_len (λx c hc=>Enc_len te.ty x c hc) _ _ h4,gM]
 obtain⟨⟨ν',h6⟩,_⟩:=WjY (t:=et) (vs:=vs') hr hd (e:=te.ty) aK (xs:=xs) (cap:=n) (cs:=vs'.toList) (by omega) (by unfold maxLen;omega) iU h4 (Xfk _) w rfl rfl rfl rfl;rw[gM]at h6;refine⟨_,_,_,G,ν',?_,.inl rfl,h6⟩;have d9:(parts.map λx=>match x with|(i,x)=>(i,a.eval x)).toList=parts.toList.map λp=>(p.1,a.eval p.2):=by simp
 simp only[execOp,ho,Instr.buildSlice,Sem.run_bind,Wa hu,Result.andThen_ok,(hT _ _ hle).sizeOf,WH hp,if_neg (show¬n*te.ty.size>2^24 by omega),Sem.run_pure];by_cases h0:n*te.ty.size=0
 .have rY:n=0:=by rcases Nat.mul_eq_zero.1 h0 with h|h<;>omega
  have e1:((Xcb (n*te.ty.size)).map λi=>z.cells[i%te.ty.size]!)= #[]:=by rw[h0];simp
  rw[e1]at h3;have e2:∀zz:Array Value,((Xcb (n*te.ty.size)).map λi=>zz[i%zz.size]!)= #[]:=λzz=>by rw[h0];simp
  simp only[if_pos h0,Sem.run_pure,Result.andThen_ok,e2,d9,h3,WbF];rfl
 .simp only[if_neg h0,Sem.run_bind,hz,Result.andThen_ok,Sem.run_pure,eF,d9,h3,WbF]
theorem WgD(hT:WW P T)(hr:Rel w0 F nt G0 G ν st a w){o:Oper}(hd:∀d,o.dst=some d->nt.Ok d){t:TypeId}{n c:Operand}(ho:o.op= .makeSlice t n c)
  {ty:Ty} {et:TypeId} {te:TE} {n' c':Int} {k k':IntKind} (hl:Wc T t=some ⟨ty,false,.slice et⟩) (hle:Wc T et=some te) (hn:a.eval n= .int k n') (hc:a.eval c= .int k' c')
  (h0:0<=n') (h1:n'<=c') (h2:WB c'.toNat=true) (aK:te.ty.data=true) (hp:te.plain=true):
  Done P w0 F nt G0 o a w (st.new o.dst (.arr te.ty (Xag n'.toNat te.ty.dflt)) (.s (.one (.own st.nx)))):=by
 have hu:=(hT _ _ hl).und.2.1;obtain⟨i,z,hi,hs,hz,cL,kG⟩:=(hT _ _ hle).info;rw[WaW hp]at cL;rw[WH hp]at hs;have eF:z.cells.size=te.ty.size:=by rw[←Xap,cL,WaM]
 have az:c'.toNat<=1073741824:=by simpa [WB]using h2
 have cj:=Weg z.cells c'.toNat;rw[eF,cL]at cj;have kH:rep (WaS te.ty) n'.toNat<+:rep (WaS te.ty) c'.toNat:=by
  have:∀(l:List Value) (p q:Nat),rep l p<+:rep l (p+q):=λl p q=>by
   induction p with
   |zero=>exact Xgv
   |succ p ih=>rw[Nat.succ_add];simp only[rep];exact(Xey _).2 ih
  have h:=this (WaS te.ty) n'.toNat (c'.toNat-n'.toNat)
  rwa [show n'.toNat+(c'.toNat-n'.toNat)=c'.toNat by omega]at h
 have hb:(i.bytes:Int)*c'<=281474976710656:=by
  have h3:(i.bytes:Int)*c'<=4096*c':=Xep (by omega) (by omega);omega
 have hm:madeCells z.cells (c'.toNat*i.size)=(Xcb (c'.toNat*te.ty.size)).map λi=>z.cells[i%te.ty.size]!:=by
  rw[hs,←eF];rfl
 obtain⟨⟨ν',h6⟩,_⟩:=WjY (t:=et) (vs:=(Xcb (c'.toNat*te.ty.size)).map λi=>z.cells[i%te.ty.size]!) hr hd (e:=te.ty) aK (xs:=Xag n'.toNat te.ty.dflt) (cap:=c'.toNat) (cs:=rep (WaS te.ty) n'.toNat) (by simp;omega) (by unfold maxLen;omega)
  (by simp) (WeF aK _) (by rw[cj];exact kH) w rfl rfl rfl rfl
 rw[Xfs]at h6;refine⟨_,_,_,G,ν',?_,.inl rfl,h6⟩;simp only[execOp,ho,hn,hc,Sem.run_bind,run_make (P:=P) w t et i z hu hi hz k k' n' c' h0 h1 hb (by omega),Result.andThen_ok,hm,Sem.run_pure]
theorem Wgb(hT:WW P T)(hr:Rel w0 F nt G0 G ν st a w){o:Oper}(hd:∀d,o.dst=some d->nt.Ok d){t:TypeId}{n c:Operand}(ho:o.op= .makeSlice t n c)
  {ty:Ty} {et:TypeId} {te:TE} {e:Ty} {n' c':Int} {k k':IntKind} (hl:Wc T t=some ⟨ty,false,.slice et⟩) (hle:Wc T et=some te) (hn:a.eval n= .int k n') (hc:a.eval c= .int k' c')
  (h0:0<=n') (h1:n'<=c') (h2:WB c'.toNat=true) (he:e.ro=te.ty) (hp:te.plain=true):
  Done P w0 F nt G0 o a w (st.new o.dst (.arr e (Xag n'.toNat e.dflt)) (.s (.one (.own st.nx)))):=by
 have hu:=(hT _ _ hl).und.2.1;obtain⟨i,z,hi,hs,hz,cL,kG⟩:=(hT _ _ hle).info;rw[WaW hp]at cL;rw[WH hp]at hs;have gi:te.ty.size=e.size:=by rw[←he,WaV]
 have eF:z.cells.size=te.ty.size:=by rw[←Xap,cL,WaM]
 have az:c'.toNat<=1073741824:=by simpa [WB]using h2
 have cj:=Weg z.cells c'.toNat;rw[eF,cL]at cj;have kH:rep (WaS te.ty) n'.toNat<+:rep (WaS te.ty) c'.toNat:=by
  have:∀(l:List Value) (p q:Nat),rep l p<+:rep l (p+q):=λl p q=>by
   induction p with
   |zero=>exact Xgv
   |succ p ih=>rw[Nat.succ_add];simp only[rep];exact(Xey _).2 ih
  have h:=this (WaS te.ty) n'.toNat (c'.toNat-n'.toNat)
  rwa [show n'.toNat+(c'.toNat-n'.toNat)=c'.toNat by omega]at h
 have hb:(i.bytes:Int)*c'<=281474976710656:=by
  have h3:(i.bytes:Int)*c'<=4096*c':=Xep (by omega) (by omega);omega
 have hm:madeCells z.cells (c'.toNat*i.size)=(Xcb (c'.toNat*te.ty.size)).map λi=>z.cells[i%te.ty.size]!:=by
  rw[hs,←eF];rfl
 obtain⟨⟨ν',h6⟩,_⟩:=Wfs (t:=et) (vs:=(Xcb (c'.toNat*te.ty.size)).map λi=>z.cells[i%te.ty.size]!) hr hd [] (e:=e) (xs:=Xag n'.toNat e.dflt) (cap:=c'.toNat) (cs:=rep (WaS te.ty) n'.toNat) (by simp;omega) (by unfold maxLen;omega)
  (by simp[gi]) (λφ _=>by
   obtain⟨ps,g1,g2⟩:=Wpu (G:=G) (w:=w) e n'.toNat;rw[he]at g1;exact⟨ps,g1,Wim ps g2,λp hp b o hh=>by rw[g2 p hp]at hh;exact hh.elim⟩) (by rw[cj];exact kH) w rfl rfl rfl rfl
 rw[Xfs]at h6;refine⟨_,_,_,G,ν',?_,.inl rfl,h6⟩;simp only[execOp,ho,hn,hc,Sem.run_bind,run_make (P:=P) w t et i z hu hi hz k k' n' c' h0 h1 hb (by omega),Result.andThen_ok,hm,Sem.run_pure]
theorem Wit(hT:WW P T)(hr:Rel w0 F nt G0 G ν st a w){o:Oper}(hd:∀d,o.dst=some d->nt.Ok d){t:TypeId}{parts:Array (Nat×Operand)}{x:Operand}(ho:o.op= .buildSlice t 1 parts)(dg:parts.toList= [(0,x)])
  {ty:Ty} {et:TypeId} {te:TE} {e:Ty} {xv:AVal} {ds:List Cell} {d:e.den} {m:List Nat} (hl:Wc T t=some ⟨ty,false,.slice et⟩) (hle:Wc T et=some te) (hx:AValRel G ν st.nx xv (a.eval x)) (ff:WeK xv=some ds)
  (hf:WZ e ds st.objs=some (d,m,[])) (hm:m.Nodup) (he:e.ro=te.ty) (hp:te.plain=true) (hsz:te.ty.size<=16777216):
  Done P w0 F nt G0 o a w (({env:=st.env,objs:=(st.nx,.arr e [d])::kill st.objs m,nx:=st.nx+1}:St).put o.dst (.s (.one (.own st.nx)))):=by
 have hu:=(hT _ _ hl).und.2.1;obtain⟨z,hz,cL⟩:=Wdg (w:=w) (hT _ _ hle);rw[WaW hp]at cL;have gi:te.ty.size=e.size:=by rw[←he,WaV]
 have eF:z.cells.size=te.ty.size:=by rw[←Xap,cL,WaM]
 have cj:=Weg z.cells 1;rw[eF,cL]at cj;simp only[rep,Xcz,Nat.one_mul]at cj;obtain⟨h1,h2⟩:=Wcc hx ff;have c9:∀φ,HR w0 F G ν φ st.objs st.nx w->∃ps,EncP (TyRel G w e) [d] (a.eval x).cells.toList ps/\Sep (ps.map Pc.fp)/\∀p∈ps,CS.le p.fp (FromL φ st.objs m):=λφ hφ=>by
  obtain⟨ns,g1,g2,g3,_⟩:=WT (G':=G) hφ (λ_ _ _ hh=>hh) e ds _ d m [] h1 (λi hi=>by simp at hi) hm hf;exact⟨ns,Wlw.2 g1,g2,g3⟩
 have hlen:(a.eval x).cells.size=e.size:=by
  obtain⟨φ,hφ⟩:=hr.h;obtain⟨ps,g1,_⟩:=c9 φ hφ;have:=Wk _ _ _ _ (Wlw.1 g1);simpa using this
 have ug:((Xcb te.ty.size).map λi=>z.cells[i%te.ty.size]!).size=te.ty.size:=by simp
 have it:=Wf9 (a.eval x).cells.toList 0 0 ((Xcb te.ty.size).map λi=>z.cells[i%te.ty.size]!) (by simp;omega);have pE:((Xcb te.ty.size).map λi=>z.cells[i%te.ty.size]!).toList.length=e.size:=by simp[gi]
 have dB:((a.eval x).cells.toList.zipIdx.foldl (λcs (c,j)=>cs.setIfInBounds (0+j) c) ((Xcb te.ty.size).map λi=>z.cells[i%te.ty.size]!)).toList=(a.eval x).cells.toList:=by
  rw[it];simp only[Nat.zero_add,List.take_zero,List.nil_append];rw[List.drop_eq_nil_of_le (by rw[pE];simp;omega),Xcz]
 generalize hV:(a.eval x).cells.toList.zipIdx.foldl (λcs (c,j)=>cs.setIfInBounds (0+j) c) ((Xcb te.ty.size).map λi=>z.cells[i%te.ty.size]!)=V at dB;have hVs:V.size=1*e.size:=by rw[←Xap,dB];simp[hlen]
 obtain⟨⟨ν',h6⟩,_⟩:=Wfs (t:=et) (vs:=V) hr hd m (e:=e) (xs:=[d]) (cap:=1) (cs:=(a.eval x).cells.toList) (by simp) (by unfold maxLen;omega) hVs c9 (by rw[dB];exact Xfk _) w rfl rfl rfl rfl;refine⟨_,_,_,G,ν',?_,.inl rfl,h6⟩;have mP:Instr.fill (λi=>some (i*te.ty.size,te.ty.size)) ((Xcb te.ty.size).map λi=>z.cells[i%te.ty.size]!) [(0,a.eval x)]=some V:=by
  simp only[Instr.fill,Xeq];rw[if_neg (by simp;omega),←hV];congr 1;rw[←Xez];simp
 have d9:(parts.map λx=>match x with|(i,x)=>(i,a.eval x)).toList= [(0,a.eval x)]:=by simp[dg]
 have hpos:=WaR te.ty;simp only[execOp,ho,Instr.buildSlice,Sem.run_bind,Wa hu,Result.andThen_ok,(hT _ _ hle).sizeOf,WH hp,Nat.one_mul,if_neg (show¬te.ty.size>2^24 by omega),if_neg (show¬te.ty.size=0 by omega),Sem.run_pure,hz,eF,d9,mP,WbF];rfl
theorem Wc6{t:TypeId}{te:TE}(bh:TEok P T t te){b off:Nat}{v:Value}{cur:Array Value}{TT:TypeId}(hg:w.heap[b]?=some (.cells cur TT (0,0)))(hsz:te.size=v.cells.size)(bA:off+v.cells.size<=cur.size)(h1:∀u∈v.cells.toList,u.oneCell'=true):
  (storeVar t ⟨b,off,none⟩ v).run P w= .ok () (w.setRow b (cur.toList.take off++v.cells.toList++cur.toList.drop (off+v.cells.size)).toArray):=by
 have h:=run_storeCells_at P b off TT v.cells.toList 0 cur w hg (by simpa using bA) h1;simp only[Xat,Xap]at h;simp[storeVar,bh.sizeOf,hsz,h]
theorem WbK{b k:Nat}{vs:Array Value}{T:TypeId}{news:List Value}(h:w.heap[b]?=some (Obj.cells vs T (0,0)))(bA:k+news.length<=vs.size):
  WLe (rng b k news.length) w (w.setRow b (vs.toList.take k++news++vs.toList.drop (k+news.length)).toArray)/\Mem (w.setRow b (vs.toList.take k++news++vs.toList.drop (k+news.length)).toArray) b k news:=by
 have hk:(vs.toList.take k).length=k:=by simp;omega
 constructor
 .refine WLe.setRow h (by simp;omega) (λo hn=>?_);have pF:¬(k<=o/\o<k+news.length):=λ⟨h1,h2⟩=>hn ⟨rfl,h1,h2⟩;simp only[Xel,Xbo];rw[Xaq,hk];split
  .rename_i hlt;rw[Xbb,if_pos hlt];simp
  .rw[Xaq];split
   .omega
   .rw[Xbc,show k+news.length+(o-k-news.length)=o by omega];simp
 .intro j v hj;rw[cell_of_row _ b _ _ T (0,0) (setRow_heap w b vs _ T (0,0) h)];have hlt:j<news.length:=(Xr.1 hj).1;simp only[Xel,Xbo];rw[Xas (by omega),hk,Xav (by omega),show k+j-k=j by omega];exact hj
theorem Wdo{b o k:Nat}{vs us:List Value}(hm:Mem w b o vs)(hw:WLe (rng b (o+k) us.length) w w')(hu:Mem w' b (o+k) us)(hk:k+us.length<=vs.length):Mem w' b o (vs.take k++us++vs.drop (k+us.length)):=λj v hj=>by
 have eP:∀v',vs[j]?=some v'->¬(k<=j/\j<k+us.length)->w'.cell? ⟨b,o+j,none⟩=some v':=λv' hv hn=>by
  have h1:=hm j v' hv;rw[hw.cell b (o+j) (block_lt_of_cell h1) (λ⟨_,h2,h3⟩=>hn ⟨by omega,by omega⟩)];exact h1
 have dp:(vs.take k).length=k:=by simp;omega
 rw[Xbo,Xaq,dp]at hj;split at hj
 .rename_i hlt;rw[Xbb,if_pos hlt]at hj;exact eP v hj (by omega)
 .rw[Xaq]at hj;split at hj
  .have:=hu (j-k) v hj;rw[show o+j=o+k+(j-k) by omega];exact this
  .rw[Xbc,show k+us.length+(j-k-us.length)=j by omega]at hj;exact eP v hj (by omega)
theorem HR.turn{φ:Nat->CS}(h:HR w0 F G ν φ objs nx w){id:Nat}{ob bN:Ob}{m:List Nat}(ho:Wc objs id=some ob)(hd:ob≠ .dead){S:CS}(hw:WLe S w w')(hs:CS.le S (φ id))
  (cC:Wbx G ν nx w' id (λb o=>φ id b o\/FromL φ objs m b o) bN):HRel w0 F G ν ((id,bN)::kill objs m) nx w':=by
 have hl:Live objs id:=⟨ob,ho,hd⟩;exact⟨_,h.put (ν':=ν) (λ_ _=>rfl) (Xl _) (h.lt id hl) (hw.mono λb o hh=>⟨id,.inl rfl,hl,hs b o hh⟩) (λb o hh=>by
  rcases hh with hh|⟨i,hi,h1,h2⟩
  .exact .inl ⟨id,.inl rfl,hl,hh⟩
  .exact .inl ⟨i,.inr hi,h1,h2⟩) (λ_=>cC)⟩
theorem WlO(hT:WW P T)(hr:Rel w0 F nt G0 G ν st a w){o:Oper}{t:TypeId}{x y:Operand}(ho:o.op= .store t x y)(gN:o.dst=none){p v:AVal}(hx:AValRel G ν st.nx p (a.eval x))(hy:AValRel G ν st.nx v (a.eval y))
  (h:WbN T st t p v=some af):Done P w0 F nt G0 o a w af:=by
 unfold WbN at h;split at h
 .rename_i te id off ds hl ff;obtain⟨fH,jj⟩:=Wcc hy ff;split at h
  .rename_i cs ax;split at h
   .rename_i aY;simp only[Xi,decide_eq_true_eq]at aY;obtain⟨⟨hs,dI⟩,bA⟩:=aY;injection h with h;subst h;obtain⟨⟨_,b,hb,jk⟩,_⟩:=hx;obtain⟨φ,hφ⟩:=hr.h;obtain⟨b',vs,hb',⟨row,TT,eb,hrow⟩,hmem,aX,dC⟩:=hφ.ob _ _ ax;rw[hb]at hb';injection hb' with hb';subst hb';have hlen:(a.eval y).cells.size=ds.length:=by have:=fH.1;simpa using this
    have hrun:=Wc6 (w:=w) (hT _ _ hl) (b:=b) (off:=(ν id).off+off) (v:=a.eval y) eb (by rw[WH dI,hlen];exact hs) (by omega) jj;obtain⟨hw,hm⟩:=WbK (k:=(ν id).off+off) (news:=(a.eval y).cells.toList) eb (by simp;omega);simp only[Xap]at hw hm;generalize w.setRow b (row.toList.take ((ν id).off+off)++(a.eval y).cells.toList++row.toList.drop ((ν id).off+off+(a.eval y).cells.size)).toArray=W at hrun hw hm;have cC:HRel w0 F G ν ((id,.box (WcH cs off ds))::st.objs) st.nx W:=by
     refine hφ.turn (m:=[]) ax (by simp) hw (λb' o ⟨e,h1,h2⟩=>dC b' o ⟨e,by omega,by omega⟩) ?_;refine⟨b,_,hb,by rw[Wdr bA];exact hw.rows.row _ _ ⟨row,TT,eb,hrow⟩,Wdo hmem (us:=(a.eval y).cells.toList) (by rw[Xap];exact hw) hm (by rw[aX.1];simp;omega),Wdm aX fH,λb o hh=>.inl (dC b o (by rw[Wdr bA]at hh;exact hh))⟩
    refine⟨.skip,undef,W,G,ν,?_,.inr ⟨rfl,rfl⟩,?_⟩
    .simp only[execOp,ho,jk,Instr.storeAt,Instr.sureAddr,Sem.run_bind,Sem.run_pure,Result.andThen_ok,hrun]
    .rw[gN];exact hr.on (λ_ _ _ hh=>hh) (λ_ _=>rfl) (Xl _) cC hr.gx
   .simp at h
  .simp at h
 .rename_i te id i off ds hl ff;obtain⟨fH,jj⟩:=Wcc hy ff;split at h
  .rename_i e xs ax;split at h
   .rename_i aY;simp only[Xi,decide_eq_true_eq]at aY;obtain⟨⟨⟨hs,dI⟩,bA⟩,aK⟩:=aY;split at h
    .rename_i d hf;injection h with h;subst h;obtain⟨⟨_,pG,b,hb,jk⟩,_⟩:=hx;obtain⟨φ,hφ⟩:=hr.h;have hown:OwnL w (TyRel G w e) e.size (ν id) xs (φ id):=hφ.ob _ _ ax;obtain⟨gM,h4,h5,iu,cs,h7,h8,h9⟩:=Wca aK hown hb;obtain⟨row,TT,eb,hrow⟩:=iu;have bw:=hown.2.1;have hlt:i<xs.length:=by omega
     have hlen:(a.eval y).cells.toList.length=ds.length:=fH.1;have co:(a.eval y).cells.size=ds.length:=by simpa using hlen
     have hcl:cs.length=xs.length*e.size:=EncL_len (λx c hc=>Enc_len e x c hc) _ _ h7;have uh:i*e.size+e.size<=xs.length*e.size:=by rw[←Xbq];exact Xaz _ hlt
     have ui:xs.length*e.size<=(ν id).cap*e.size:=Xaz _ h4;have oM:=Wjq (λx c hc=>Enc_len e x c hc) xs cs i e.dflt h7 hlt;have pH:=Wdm (off:=off) (W7 (G:=G) (ν:=ν) (nx:=st.nx) e _ _ oM) fH;have henc:=Wi4 hr.h pH aK hf;have it:=Why (λx c hc=>Enc_len e x c hc) xs cs i d _ h7 hlt henc;have hrun:=Wc6 (w:=w) (hT _ _ hl) (b:=b) (off:=(ν id).off+(i*e.size+off)) (v:=a.eval y) eb (by rw[WH dI];omega) (by omega) jj;obtain⟨hw,hm⟩:=WbK (k:=(ν id).off+(i*e.size+off)) (news:=(a.eval y).cells.toList) eb (by omega);simp only[Xap]at hw hm;generalize w.setRow b (row.toList.take ((ν id).off+(i*e.size+off))++(a.eval y).cells.toList++row.toList.drop ((ν id).off+(i*e.size+off)+(a.eval y).cells.size)).toArray=W at hrun hw hm;have kI:cs.take (i*e.size+off)++(a.eval y).cells.toList++cs.drop (i*e.size+off+(a.eval y).cells.toList.length)=
       cs.take (i*e.size)++(((cs.drop (i*e.size)).take e.size).take off++(a.eval y).cells.toList++((cs.drop (i*e.size)).take e.size).drop (off+(a.eval y).cells.toList.length))++cs.drop (i*e.size+e.size):=by
      rw[hlen];have e1:cs.take (i*e.size+off)=cs.take (i*e.size)++((cs.drop (i*e.size)).take e.size).take off:=by
       rw[List.take_take,Xbw (by omega),←List.take_add]
      have e2:cs.drop (i*e.size+off+ds.length)=((cs.drop (i*e.size)).take e.size).drop (off+ds.length)++cs.drop (i*e.size+e.size):=by
       rw[List.drop_take,Xds];have:cs.drop (i*e.size+e.size)=(cs.drop (i*e.size+(off+ds.length))).drop (e.size-(off+ds.length)):=by rw[Xds];congr 1;omega
       rw[this,Xcm];congr 1;omega
      rw[e1,e2];simp
     have cC:HRel w0 F G ν ((id,.arr e (xs.set i d))::st.objs) st.nx W:=by
      refine hφ.turn (m:=[]) ax (by simp) hw (λb' o ⟨e',h1,h2⟩=>h9 b' o ⟨e',by omega,by omega⟩) ?_;refine Wi3 aK hb (by simpa using gM) bw (by simpa using h4) h5 (hw.rows.row _ _ ⟨row,TT,eb,hrow⟩) it ?_ (λb o hh=>.inl (h9 b o hh));rw[←kI];exact Wdo h8 (us:=(a.eval y).cells.toList) (by rw[Xap];exact hw) hm (by omega)
     refine⟨.skip,undef,W,G,ν,?_,.inr ⟨rfl,rfl⟩,?_⟩
     .simp only[execOp,ho,jk,bw,Instr.storeAt,Instr.sureAddr,Sem.run_bind,Sem.run_pure,Result.andThen_ok,hrun]
     .rw[gN];exact hr.on (λ_ _ _ hh=>hh) (λ_ _=>rfl) (Xl _) cC hr.gx
    .simp at h
   .split at h
    .rename_i aY;simp only[Xi,decide_eq_true_eq]at aY;obtain⟨⟨⟨hs,dI⟩,pI⟩,uj⟩:=aY;subst pI;split at h
     .rename_i d m hf;split at h
      .rename_i aH;injection h with h;subst h;have aH:(id::m).Nodup:=(WbO _).1 aH;obtain⟨oN,uk⟩:=Xae.1 aH;obtain⟨⟨_,pG,b,hb,jk⟩,_⟩:=hx;obtain⟨φ,hφ⟩:=hr.h;have hown:OwnL w (TyRel G w e) e.size (ν id) xs (φ id):=hφ.ob _ _ ax;have aC:Live st.objs id:=⟨_,ax,by simp⟩;obtain⟨gM,bw,h3⟩:=hown;simp only[hb]at h3;obtain⟨h4,h5,iu,cs,ps,h7,h8,h9,bq⟩:=h3;obtain⟨row,TT,eb,hrow⟩:=iu;have hlt:i<xs.length:=by omega
       have hlen:(a.eval y).cells.toList.length=ds.length:=fH.1;have co:(a.eval y).cells.size=ds.length:=by simpa using hlen
       have uh:i*e.size+e.size<=xs.length*e.size:=by rw[←Xbq];exact Xaz _ hlt
       have ui:xs.length*e.size<=(ν id).cap*e.size:=Xaz _ h4;obtain⟨c1,c,c2,p1,pc,p2,g1,g2,g3,g4,g5⟩:=Wky h7 e.dflt hlt;have l1:=Wak (λx c q hx=>Wk e x c q hx) _ _ _ g3;rw[Xau,Xbw (by omega)]at l1;have lc:=Wk _ _ _ _ g4;obtain⟨ns,t1,t2,t3,t4,_⟩:=WT (G':=G) hφ (λ_ _ _ hh=>hh) e ds _ d m [] fH (λi hi=>by simp at hi) uk hf;have hrun:=Wc6 (w:=w) (hT _ _ hl) (b:=b) (off:=(ν id).off+(i*e.size+0)) (v:=a.eval y) eb (by rw[WH dI];omega) (by omega) jj;obtain⟨hw,hm⟩:=WbK (k:=(ν id).off+(i*e.size+0)) (news:=(a.eval y).cells.toList) eb (by omega);simp only[Xap]at hw hm;generalize w.setRow b (row.toList.take ((ν id).off+(i*e.size+0))++(a.eval y).cells.toList++row.toList.drop ((ν id).off+(i*e.size+0)+(a.eval y).cells.size)).toArray=W at hrun hw hm;have fI:CS.le (rng b ((ν id).off+(i*e.size+0)) (a.eval y).cells.size) (rng b (ν id).off ((ν id).cap*e.size)):=λb' o ⟨e',k1,k2⟩=>⟨e',by omega,by omega⟩;have eG:=bq _ (Xh ..);have hbl:∀p∈p1++(pc++p2),∀b o,p.fp b o->b<w.heap.size:=λp hp b o hh=>hφ.bl id b o aC (bq p.fp (Xe _ (Xal (by rw[g2];exact hp))) b o hh);obtain⟨q1,q2⟩:=Xy.1 h9;have gj:∀p∈p1++(pc++p2),Same p.fp w W:=λp hp=>hw.same ((q1 p.fp (Xal (by rw[g2];exact hp))).mono fI (λ_ _ hh=>hh)) (hbl p hp);have iv:∀p∈ns,Same p.fp w W:=λp hp=>hw.same (λb o k1 k2=>by
        obtain⟨j,hj,k3,k4⟩:=t3 p hp b o k2;have:=hφ.inj id j b o aC k3 (eG b o (fI b o k1)) k4;subst this;exact oN hj) (λb o hh=>by
        obtain⟨j,hj,k3,k4⟩:=t3 p hp b o hh;exact hφ.bl j b o k3 k4)
       have hEnc:EncP (TyRel G W e) (xs.set i d) (c1++((a.eval y).cells.toList++c2)) (p1++(ns++p2)):=by
        refine Wk4 hlt ?_ (W5 (λ_ _ _ hh=>hh) e _ _ _ iv t1) ?_
        .exact Wa7 (Q:=λq=>Same q.fp w W) (λx c q hq hx=>W5 (λ_ _ _ hh=>hh) e x c q hq hx) _ _ _ (λq hq=>gj q (Xj _ hq)) g3
        .exact Wa7 (Q:=λq=>Same q.fp w W) (λx c q hq hx=>W5 (λ_ _ _ hh=>hh) e x c q hq hx) _ _ _ (λq hq=>gj q (Xg _ (Xg _ hq))) g5
       have hMem:Mem W b (ν id).off (c1++((a.eval y).cells.toList++c2)):=by
        have:=Wdo h8 (k:=i*e.size+0) (us:=(a.eval y).cells.toList) (by rw[Xap];exact hw) hm (by rw[g1];simp;omega);rw[g1,Xat,List.take_append_of_le_length (by omega),List.take_of_length_le (by omega)]at this;have mQ:(c1++(c++c2)).drop (i*e.size+(a.eval y).cells.toList.length)=c2:=by
         rw[←Xbo,show i*e.size+(a.eval y).cells.toList.length=(c1++c).length by rw[Xs];omega,List.drop_left]
        rw[mQ,Xbo]at this;exact this
       have cC:HRel w0 F G ν ((id,.arr e (xs.set i d))::kill st.objs m) st.nx W:=by
        refine hφ.turn ax (by simp) hw (λb' o hh=>eG b' o (fI b' o hh)) ?_;refine⟨by simpa using gM,bw,?_⟩;simp only[hb];rw[g2,Xn,Xn]at q2 q1;have qA:=Xaa.1 q2;have qB:=Xaa.1 qA.2.1;have pJ:∀p∈ns,∀s,CS.le s (φ id)->CS.disj p.fp s:=λp hp s hs b o k1 k2=>by
         obtain⟨j,hj,k3,k4⟩:=t3 p hp b o k1;have:=hφ.inj id j b o aC k3 (hs b o k2) k4;subst this;exact oN hj
        have dg:∀p∈p1++(pc++p2),CS.le p.fp (φ id):=λp hp=>bq p.fp (Xe _ (Xal (by rw[g2];exact hp)));refine⟨by simpa using h4,h5,hw.rows.row _ _ ⟨row,TT,eb,hrow⟩,_,p1++(ns++p2),hEnc,hMem,Xy.2 ⟨λs hs=>?_,?_⟩,λs hs=>?_⟩
        .simp only[Xn,Xk]at hs;rcases hs with hs|hs|hs
         .exact q1 s (Xj _ hs)
         .obtain⟨p,hp,rfl⟩:=Xu.1 hs;exact(pJ p hp _ eG).symm
         .exact q1 s (Xg _ (Xg _ hs))
        .rw[Xn,Xn];refine Wiu (Xaa.2 ⟨qA.1,qB.2.1,λs hs t ht=>qA.2.2 s hs t (Xg _ ht)⟩) t2 (λs hs t ht=>?_);obtain⟨p,hp,rfl⟩:=Xu.1 hs;rcases Xk.1 ht with ht|ht
         .obtain⟨q,hq,rfl⟩:=Xu.1 ht;exact pJ p hp _ (dg q (Xj _ hq))
         .obtain⟨q,hq,rfl⟩:=Xu.1 ht;exact pJ p hp _ (dg q (Xg _ (Xg _ hq)))
        .intro b o hh;rcases Xm.1 hs with rfl|hs
         .exact .inl (eG b o hh)
         .simp only[Xn,Xk]at hs;rcases hs with hs|hs|hs
          .obtain⟨q,hq,rfl⟩:=Xu.1 hs;exact .inl (dg q (Xj _ hq) b o hh)
          .obtain⟨q,hq,rfl⟩:=Xu.1 hs;exact .inr (t3 q hq b o hh)
          .obtain⟨q,hq,rfl⟩:=Xu.1 hs;exact .inl (dg q (Xg _ (Xg _ hq)) b o hh)
       refine⟨.skip,undef,W,G,ν,?_,.inr ⟨rfl,rfl⟩,?_⟩
       .simp only[execOp,ho,jk,bw,Instr.storeAt,Instr.sureAddr,Sem.run_bind,Sem.run_pure,Result.andThen_ok,hrun]
       .rw[gN];exact hr.on (λ_ _ _ hh=>hh) (λ_ _=>rfl) (Xl _) cC hr.gx
      .simp at h
     .simp at h
    .simp at h
  .simp at h
 .simp at h
end
end Go.Sx
namespace Go.Sx
set_option linter.unusedVariables false
set_option linter.unusedSimpArgs false
theorem Wqg{G:GH}(t:Ty)(d:t.den)(cs:List Value)(h:Enc G t d cs):∀u∈cs,u.oneCell'=true:=λu hu=>by
 obtain⟨j,hj⟩:=Xdv hu;have hc:=W7 (ν:=λ_=>⟨none,0,0,0,0⟩) (nx:=0) t d cs h;have hlt:j<(split t d).length:=by rw[←hc.1];exact(Xr.1 hj).1
 exact(hc.2 j _ u (Xq hlt) hj).2
theorem WkW{G:GH}{t:Ty}:∀(l:List t.den) (cs:List Value),EncL (Enc G t) l cs->∀u∈cs,u.oneCell'=true
 | [],cs,h,u,hu=>by simp[EncL]at h;subst h;simp at hu
 |x::l,cs,⟨c1,c2,he,h1,h2⟩,u,hu=>by
  subst he;rcases Xk.1 hu with hu|hu
  .exact Wqg t x c1 h1 u hu
  .exact WkW l c2 h2 u hu
theorem WnQ{G:GH}{w:World}(t:Ty)(d:t.den)(cs:List Value)(ps:List Pc)(h:TyRel G w t d cs ps):∀u∈cs,u.oneCell'=true:=λu hu=>by
 obtain⟨j,hj⟩:=Xdv hu;have hc:=Wfo (ν:=λ_=>⟨none,0,0,0,0⟩) (nx:=0) t d cs ps h;have hlt:j<(split t d).length:=by rw[←hc.1];exact(Xr.1 hj).1
 exact(hc.2 j _ u (Xq hlt) hj).2
theorem Wjo{G:GH}{w:World}{t:Ty}:∀(l:List t.den) (cs:List Value) (ps:List Pc),EncP (TyRel G w t) l cs ps->∀u∈cs,u.oneCell'=true
 | [],cs,ps,h,u,hu=>by rw[h.1]at hu;simp at hu
 |x::l,cs,ps,⟨c1,c2,p1,p2,he,hp,h1,h2⟩,u,hu=>by
  subst he;rcases Xk.1 hu with hu|hu
  .exact WnQ t x c1 p1 h1 u hu
  .exact Wjo l c2 p2 h2 u hu
section
variable{w0:World}{F:CS}{nt:Slots}{G0 G:GH}{ν:Nat->Nu}{φ:Nat->CS}{objs:WS}{nx:Nat}{st af:St}{a:Act}{w w':World}{P:Program}{T:Tab}
structure Src(w0:World)(F:CS)(G:GH)(ν:Nat->Nu)(st:St)(w:World)(e:Ty)(l:List e.den)(m:List Nat)(v:Value)(news:List Value):Prop where
 enc:∀φ,HR w0 F G ν φ st.objs st.nx w->∃ps,EncP (TyRel G w e) l news ps/\Sep (ps.map Pc.fp)/\∀p∈ps,CS.le p.fp (FromL φ st.objs m)
 rd:(v= .slice none 0 0/\l= [])\/∃(p:Addr) (c:Nat),v= .slice (some p) l.length c/\∀(j:Nat) (u:Value),news[j]?=some u->w.cell? (p.add j)=some u
theorem WbD{e:Ty}(he:e.data=true){l:List e.den}{m:List Nat}{v:Value}{news:List Value}(h:EncL (Enc G e) l news)
  (rd:(v= .slice none 0 0/\l= [])\/∃(p:Addr) (c:Nat),v= .slice (some p) l.length c/\∀(j:Nat) (u:Value),news[j]?=some u->w.cell? (p.add j)=some u):Src w0 F G ν st w e l m v news:=
 ⟨λφ _=>⟨[],(EncP_data he l news []).2 ⟨h,rfl⟩,List.Pairwise.nil,by simp⟩,rd⟩
theorem Wgh(hr:Rel w0 F nt G0 G ν st a w){e:Ty}(he:e.data=true){x:AVal}{u:Value}{l:List e.den}(m:List Nat)(hx:AValRel G ν st.nx x u)(h:Wp6 st e x=some l):∃news,Src w0 F G ν st w e l m u news:=by
 unfold Wp6 at h;split at h
 .rename_i e' d';obtain⟨fg,hd⟩:=W1 h;subst fg;simp only at hd;subst hd;obtain⟨⟨v,hv,hs⟩,_⟩:=hx;simp at hv;subst hv;rcases hs with⟨rfl,hn⟩|⟨b,off,cap,cs,rfl,h1,h2,h3,h4⟩|⟨a',cap,rfl,hn⟩
  rotate_left 2
  .exact⟨[],WbD he (by rw[hn];rfl) (.inr ⟨a',cap,by rw[hn];rfl,λj u hj=>by simp at hj⟩)⟩
  .exact⟨[],WbD he (by rw[hn];rfl) (.inl ⟨rfl,hn⟩)⟩
  .exact⟨cs,WbD he h3 (.inr ⟨⟨b,off,none⟩,cap,rfl,λj u hj=>by rw[Wao];exact hr.h.g (h4 j u hj)⟩)⟩
 .injection h with h;subst h;obtain⟨hv,_⟩:=hx;simp only[CellRel]at hv;subst hv;exact⟨[],WbD he rfl (.inl ⟨rfl,rfl⟩)⟩
 .rename_i id;split at h
  .rename_i e' xs ho;obtain⟨fg,hd⟩:=W1 h;subst fg;simp only at hd;subst hd;obtain⟨⟨_,hv⟩,_⟩:=hx;subst hv;obtain⟨S,ax⟩:=hr.h.obj ho;unfold Nu.hdr;cases hb:(ν id).blk with
   |none=>have:=Wbp ax hb;exact⟨[],WbD he (by rw[this];rfl) (.inl ⟨rfl,this⟩)⟩
   |some b=>
    obtain⟨h1,h2,h3,h4,cs,h5,h6,h7⟩:=Wca he ax hb;exact⟨cs,WbD he h5 (.inr ⟨⟨b,(ν id).off,none⟩,(ν id).cap,by rw[h1],λj u hj=>by rw[Wao];exact h6 j u hj⟩)⟩
  .simp at h
 .rename_i id lo hi;split at h
  .rename_i e' xs ho;obtain⟨ys,hc,h⟩:=Xw.1 h;subst h;obtain⟨fg,hd⟩:=W1 hc;subst fg;simp only at hd;subst hd;obtain⟨⟨_,g1,g2,g3,hv⟩,_⟩:=hx;subst hv;obtain⟨S,ax⟩:=hr.h.obj ho;have bw:=ax.2.1;have rZ:=ax.1;unfold Nu.vhdr;cases hb:(ν id).blk with
   |none=>
    have:=Wbp ax hb;subst this;exact⟨[],WbD he (by simp;rfl) (.inl ⟨rfl,by simp⟩)⟩
   |some b=>
    obtain⟨h1,h2,h3,h4,cs,h5,h6,h7⟩:=Wca he ax hb;have hl:((xs.take hi).drop lo).length=hi-lo:=by simp;omega
    by_cases pK:(ν id).cap=lo
    .have h0:(xs.take hi).drop lo= []:=Xx (by omega);exact⟨[],WbD he (by rw[h0];rfl) (.inr ⟨_,_,by rw[hl],λj u hj=>by simp at hj⟩)⟩
    .refine⟨(cs.take (hi*e'.size)).drop (lo*e'.size),WbD he (WcU (λx c hc=>Enc_len e' x c hc) _ _ lo (Wc5 (λx c hc=>Enc_len e' x c hc) _ _ hi h5)) (.inr ⟨_,_,by rw[hl,if_neg pK],λj u hj=>?_⟩)⟩;rw[Xbc,Xbb]at hj;rw[Wao,bw,Xan];split at hj
     .exact h6 _ u hj
     .simp at hj
  .simp at h
 .simp at h
theorem Wm5(hr:Rel w0 F nt G0 G ν st a w){dst:Option Tmp}(hd:∀d,dst=some d->nt.Ok d)(e:Ty)(m:List Nat):
  ∃ν',Rel w0 F nt G0 G ν' (({env:=st.env,objs:=(st.nx,.arr e [])::kill st.objs m,nx:=st.nx+1}:St).put dst (.s (.one (.own st.nx)))) (a.put dst (.slice none 0 0)) w:=by
 refine⟨upd ν st.nx ⟨none,0,0,0,e.size⟩,hr.fresh hd m (.arr e []) _ (λ_ _ _=>False) _ _ (λφ _=>WLe.refl _ w) (λφ _ b o hh=>hh.elim) (λφ _=>?_) ⟨⟨Xbl _,by rw[WaJ];rfl⟩,rfl⟩⟩;show OwnL _ _ _ (upd ν st.nx ⟨none,0,0,0,e.size⟩ st.nx) _ _;rw[WaJ];exact⟨rfl,rfl,rfl⟩
theorem WfM(t ty e TT:TypeId)(i:TypeInfo)(ht:P.underlying t=some (.slice e))(hi:P.info? e=some i)
  (g off sLen sCap:Nat) (cur:Array Value) (hg:w.heap[g]?=some (.cells cur TT (0,0)))
  (p:Addr) (m c:Nat) (news:List Value) (hl:news.length=m*i.size) (mR:∀j u,news[j]?=some u->w.cell? (p.add j)=some u) (h1:∀u∈news,u.oneCell'=true)
  (az:sLen+m<=sCap) (bA:off+sLen*i.size+news.length<=cur.size):
  (Builtin.append_ #[t,t] ty #[.slice (some ⟨g,off,none⟩) sLen sCap,.slice (some p) m c]).run P w=
   .ok (.slice (some ⟨g,off,none⟩) (sLen+m) sCap) (w.setRow g (cur.toList.take (off+sLen*i.size)++news++cur.toList.drop (off+sLen*i.size+news.length)).toArray):=by
 have hf:=run_firstCells_some (P:=P) w i.size m p m c news hl mR;have ch:=run_storeCells_at P g (off+sLen*i.size) TT news 0 cur w hg (by simpa using bA) h1;simp only[Xat]at ch;simp[Builtin.append_,Wa ht,sizeOf,typeInfo,hi,Builtin.lenOf,az,hf,Wao,ch]
theorem WcW(t ty e:TypeId)(i:TypeInfo)(ht:P.underlying t=some (.slice e))(hi:P.info? e=some i)(base:Option Addr)(n cap:Nat)(h:n<=cap):
  (Builtin.append_ #[t,t] ty #[.slice base n cap,.slice none 0 0]).run P w= .ok (.slice base n cap) w:=by
 cases base<;>simp[Builtin.append_,Wa ht,sizeOf,typeInfo,hi,Builtin.lenOf,h,Builtin.firstCells,storeCells]
theorem Wga(t ty e:TypeId)(i:TypeInfo)(ht:P.underlying t=some (.slice e))(hi:P.info? e=some i)(p:Addr)(c:Nat):
  (Builtin.append_ #[t,t] ty #[.slice none 0 0,.slice (some p) 0 c]).run P w= .ok (.slice none 0 0) w:=by
 simp[Builtin.append_,Wa ht,sizeOf,typeInfo,hi,Builtin.lenOf,Builtin.firstCells,loadCells,loadCellsFrom]
theorem Wbl{o:Oper}{c:Call}(ho:o.op= .call c){s x:Operand}{t:TypeId}(hc:c.callee= .builtin .append)(ha:c.args.toList= [s,x])(cw:c.argTypes.toList= [t,t]){v:Value}
  (hrun:(Builtin.append_ #[t,t] o.type #[a.eval s,a.eval x]).run P w= .ok v w'):(execOp a.eval o).run P w= .ok (.value v) w':=by
 obtain⟨callee,args,argTypes⟩:=c;obtain⟨args⟩:=args;obtain⟨argTypes⟩:=argTypes;simp only at hc ha cw;subst hc ha cw;simp only[execOp,ho,resolve,invoke,builtin,Sem.run_bind,Sem.run_pure,Result.andThen_ok,Xdt,Xaj,Xbh,hrun]
theorem WpD(w:World)(need old:Nat)(e:TypeId)(h:WB need=true):need<=grownCap w need old e/\grownCap w need old e<=maxLen:=
 ⟨grownCap_ge w need old e,grownCap_le_maxLen w need old e (by simp[WB]at h;unfold maxLen;omega)⟩
theorem Whg(hr:Rel w0 F nt G0 G ν st a w){dst:Option Tmp}(hd:∀d,dst=some d->nt.Ok d)(m:List Nat){e:Ty}{xs:List e.den}{cs:List Value}(hl:cs.length=xs.length*e.size)
  (hc:∀φ,HR w0 F G ν φ st.objs st.nx w->∃ps,EncP (TyRel G w e) xs cs ps/\Sep (ps.map Pc.fp)/\∀p∈ps,CS.le p.fp (FromL φ st.objs m)) {cap:Nat} (fE:xs.length<=cap) (mS:cap<=maxLen) (z:Array Value) (hz:z.size=e.size) (t:TypeId):
  ∃ν',Rel w0 F nt G0 G ν' (({env:=st.env,objs:=(st.nx,.arr e xs)::kill st.objs m,nx:=st.nx+1}:St).put dst (.s (.one (.own st.nx)))) (a.put dst (.slice (some ⟨w.heap.size,0,none⟩) xs.length cap)) (w.drew.alloc (.cells (cs.toArray++Builtin.zeroCells z (cap-xs.length)) t)):=by
 refine(Wfs hr hd m (e:=e) (xs:=xs) (cap:=cap) (cs:=cs) (vs:=cs.toArray++Builtin.zeroCells z (cap-xs.length)) (t:=t) fE mS ?_ hc ?_ w.drew rfl rfl rfl rfl).1
 .simp only[Array.size_append,List.size_toArray,size_zeroCells,hz,hl,←Xcp];congr 1;omega
 .simp
structure ElT(P:Program)(t et:TypeId)(e:Ty):Prop where
 u:P.underlying t=some (.slice et)
 i:∃i z,P.info? et=some i/\i.size=e.size/\i.zero=some z/\z.cells.size=e.size/\i.bytes<=4096
theorem elT(hT:WW P T){t et:TypeId}{ty:Ty}{ag:Bool}{te:TE}{e:Ty}(hl:Wc T t=some ⟨ty,ag,.slice et⟩)(hle:Wc T et=some te)(hp:te.plain=true)(he:te.ty.size=e.size):ElT P t et e:=by
 obtain⟨i,z,hi,hsz,hz,cL,kG⟩:=(hT _ _ hle).info;rw[WH hp]at hsz;rw[WaW hp]at cL;exact⟨(hT _ _ hl).und.2.1,i,z,hi,by rw[hsz,he],hz,by rw[←Xap,cL,WaM,he],kG⟩
theorem WaO(hr:Rel w0 F nt G0 G ν st a w){o:Oper}(hd:∀d,o.dst=some d->nt.Ok d){c:Call}{s x:Operand}{t et:TypeId}{e:Ty}(hE:ElT P t et e)
  (ho:o.op= .call c) (hc:c.callee= .builtin .append) (ha:c.args.toList= [s,x]) (cw:c.argTypes.toList= [t,t]) (cq:a.eval s= .slice none 0 0)
  {l:List e.den} {m m':List Nat} {news:List Value} (hx:Src w0 F G ν st w e l m (a.eval x) news) (hm:∀i∈m,i∈m') (az:WB l.length=true):
  Done P w0 F nt G0 o a w (({env:=st.env,objs:=(st.nx,.arr e l)::kill st.objs m',nx:=st.nx+1}:St).put o.dst (.s (.one (.own st.nx)))):=by
 obtain⟨hu,i,z,hi,hsz,hz,eF,kG⟩:=hE;have pL:l.length<=1073741824:=by simpa [WB]using az
 have hpos:=WaR e;rcases hx.rd with⟨bK,bo⟩|⟨pa,cc,bK,ay⟩
 .subst bo;obtain⟨ν',hh⟩:=Wm5 hr hd e m';exact⟨_,_,_,G,ν',Wbl ho hc ha cw (by rw[cq,bK];exact WcW t _ et i hu hi none 0 0 (Xl _)),.inl rfl,hh⟩
 .by_cases h0:l.length=0
  .have bo:l= []:=Xx h0;subst bo;obtain⟨ν',hh⟩:=Wm5 hr hd e m';exact⟨_,_,_,G,ν',Wbl ho hc ha cw (by rw[cq,bK];exact Wga t _ et i hu hi _ _),.inl rfl,hh⟩
  .obtain⟨φ,hφ⟩:=hr.h;obtain⟨ul,e0,_⟩:=hx.enc φ hφ;have gk:news.length=l.length*e.size:=Wak (λx c q hx=>Wk e x c q hx) _ _ _ e0;obtain⟨kF,fG⟩:=WpD w l.length 0 et az;obtain⟨ν',hh⟩:=Whg hr hd m' gk (λφ hφ=>by
    obtain⟨ps,k1,k2,k3⟩:=hx.enc φ hφ;exact⟨ps,k1,k2,λp hp b o hh=>FromL.mono hm b o (k3 p hp b o hh)⟩) kF fG z.cells eF et
   have pM:l.length*i.bytes<=281474976710656:=by
    have:=Nat.mul_le_mul pL kG;omega
   refine⟨_,_,_,G,ν',Wbl ho hc ha cw ?_,.inl rfl,hh⟩;rw[cq,bK];exact run_append_nil (P:=P) w t _ et i z hu hi hz pa l.length cc news (by rw[hsz];exact gk) (λj v hj=>ay j v hj) (by omega) (by omega) pM
theorem Wch{e:Ty}{nu:Nu}{xs:List e.den}{S:CS}{b k:Nat}(h:OwnL w (TyRel G w e) e.size nu xs S)(hb:nu.blk=some b)(hk:k<=xs.length):
  ∃c1 p1,EncP (TyRel G w e) (xs.take k) c1 p1/\c1.length=k*e.size/\Mem w b nu.off c1/\Sep (rng b nu.off (nu.cap*e.size)::p1.map Pc.fp)/\(∀s∈rng b nu.off (nu.cap*e.size)::p1.map Pc.fp,CS.le s S):=by
 obtain⟨h1,h2,h3⟩:=h;simp only[hb]at h3;obtain⟨h4,h5,h6,cs,ps,h7,h8,h9,bq⟩:=h3;obtain⟨c1,c2,p1,p2,g1,g2,g3,g4⟩:=WcX xs cs ps k h7;have hl:=Wak (λx c q hx=>Wk e x c q hx) _ _ _ g3;rw[Xau,Xbw hk]at hl;obtain⟨q1,q2⟩:=Xy.1 h9;rw[g2,Xn]at q1 q2 bq;refine⟨c1,p1,g3,hl,by rw[g1]at h8;exact h8.left,Xy.2 ⟨λs hs=>q1 s (Xj _ hs),(Xaa.1 q2).1⟩,λs hs=>?_⟩;rcases Xm.1 hs with rfl|hs
 .exact bq _ (Xh ..)
 .exact bq s (Xe _ (Xj _ hs))
theorem Wb5(hr:Rel w0 F nt G0 G ν st a w){o:Oper}(hd:∀d,o.dst=some d->nt.Ok d){c:Call}{s x:Operand}{t et:TypeId}{e:Ty}(hE:ElT P t et e)
  (ho:o.op= .call c) (hc:c.callee= .builtin .append) (ha:c.args.toList= [s,x]) (cw:c.argTypes.toList= [t,t])
  {id g k:Nat} {xs:List e.den} (ax:Wc st.objs id=some (.arr e xs)) (aM:(ν id).blk=some g) (hk:k<=xs.length) (cq:a.eval s= .slice (some ⟨g,(ν id).off,none⟩) k (ν id).cap)
  {l:List e.den} {m:List Nat} {news:List Value} (hx:Src w0 F G ν st w e l m (a.eval x) news) (hm:id∉m) (az:WB (k+l.length)=true):
  Done P w0 F nt G0 o a w (({env:=st.env,objs:=(st.nx,.arr e (Xf (xs.take k) l))::kill st.objs (id::m),nx:=st.nx+1}:St).put o.dst (.s (.one (.own st.nx)))):=by
 obtain⟨hu,i,z,hi,hsz,hz,eF,kG⟩:=hE;have pL:k+l.length<=1073741824:=by simpa [WB]using az
 have hpos:=WaR e;have hlen:(Xf (xs.take k) l).length=k+l.length:=by show(xs.take k++l).length=_;rw[Xs,Xau,Xbw hk]
 obtain⟨φ0,hφ0⟩:=hr.h;have gl:OwnL w (TyRel G w e) e.size (ν id) xs (φ0 id):=hφ0.ob _ _ ax;have ka:=gl.2.2;simp only[aM]at ka;obtain⟨hxc,mS,⟨row,TT,eb,hrow⟩,_⟩:=ka;obtain⟨c1,p10,_,mT,mU,_,_⟩:=Wch gl aM hk;obtain⟨ul,e0,_⟩:=hx.enc φ0 hφ0;have gk:news.length=l.length*e.size:=Wak (λx c q hx=>Wk e x c q hx) _ _ _ e0;have aC:Live st.objs id:=⟨_,ax,by simp⟩;have mV:∀{c2:List Value},c2.length=k*e.size->Mem w g (ν id).off c2->c2=c1:=λ{c2} h1 h2=>Xfc λj=>by
  by_cases hj:j<k*e.size
  .have mW:j<c2.length:=by omega
   have mX:j<c1.length:=by omega
   have a1:=h2 j _ (Xq mW);have a2:=mU j _ (Xq mX);rw[a1]at a2;rw[Xq mW,Xq mX];exact a2
  .rw[Xbf (by omega),Xbf (by omega)]
 have inplace:∀(W:World),WLe (rng g ((ν id).off+k*e.size) (l.length*e.size)) w W->Mem W g ((ν id).off+k*e.size) news->k+l.length<=(ν id).cap->
   ∃ν',Rel w0 F nt G0 G ν' (({env:=st.env,objs:=(st.nx,.arr e (Xf (xs.take k) l))::kill st.objs (id::m),nx:=st.nx+1}:St).put o.dst (.s (.one (.own st.nx)))) (a.put o.dst (.slice (some ⟨g,(ν id).off,none⟩) (k+l.length) (ν id).cap)) W:=by
  intro W hW hM bA;have iq:(k+l.length)*e.size<=(ν id).cap*e.size:=Xaz _ bA;rw[Xcp]at iq;have fI:CS.le (rng g ((ν id).off+k*e.size) (l.length*e.size)) (rng g (ν id).off ((ν id).cap*e.size)):=λb o ⟨k0,k1,k2⟩=>⟨k0,by omega,by omega⟩;refine⟨upd ν st.nx ⟨some g,(ν id).off,k+l.length,(ν id).cap,e.size⟩,hr.fresh hd (id::m) (.arr e (Xf (xs.take k) l)) _ (λφ b o=>φ id b o\/FromL φ st.objs m b o) _ _ (λφ hφ=>?_) (λφ hφ b o hh=>?_) (λφ hφ=>?_) ⟨⟨Xbl _,by rw[WaJ];rfl⟩,rfl⟩⟩
  .have hown:OwnL w (TyRel G w e) e.size (ν id) xs (φ id):=hφ.ob _ _ ax;obtain⟨_,_,_,_,_,_,hle⟩:=Wch hown aM hk;exact hW.mono λb o hh=>⟨id,.inr (Xh ..),aC,hle _ (Xh ..) b o (fI b o hh)⟩
  .rcases hh with hh|⟨j,hj,h1,h2⟩
   .exact .inl ⟨id,.inr (Xh ..),aC,hh⟩
   .exact .inl ⟨j,.inr (Xe _ hj),h1,h2⟩
  .have hown:OwnL w (TyRel G w e) e.size (ν id) xs (φ id):=hφ.ob _ _ ax;obtain⟨lZ,p1,g3,g4,g5,g6,g7⟩:=Wch hown aM hk;obtain⟨ps,k1,k2,k3⟩:=hx.enc φ hφ;obtain⟨q1,q2⟩:=Xy.1 g6;have eG:=g7 _ (Xh ..);have jl:∀p∈p1,CS.le p.fp (φ id):=λp hp=>g7 _ (Xe _ (Xal hp));have iw:∀p∈ps,∀S,CS.le S (φ id)->CS.disj S p.fp:=λp hp S hS b o h1 h2=>by
    obtain⟨j,hj,h3,h4⟩:=k3 p hp b o h2;have:=hφ.inj id j b o aC h3 (hS b o h1) h4;subst this;exact hm hj
   have gj:∀p∈p1,Same p.fp w W:=λp hp=>hW.same ((q1 p.fp (Xal hp)).mono fI (λ_ _ hh=>hh)) (λb o hh=>hφ.bl id b o aC (jl p hp b o hh));have iv:∀p∈ps,Same p.fp w W:=λp hp=>hW.same (iw p hp _ (λb o hh=>eG b o (fI b o hh))) (λb o hh=>by
    obtain⟨j,hj,h3,h4⟩:=k3 p hp b o hh;exact hφ.bl j b o h3 h4)
   show OwnL W (TyRel G W e) e.size (upd ν st.nx ⟨some g,(ν id).off,k+l.length,(ν id).cap,e.size⟩ st.nx) _ _;rw[WaJ];refine⟨hlen,rfl,by rw[hlen];exact bA,mS,hW.rows.row _ _ ⟨row,TT,eb,hrow⟩,lZ++news,p1++ps,Wcr _ _ _ _ _ _ ?_ ?_,?_,Xy.2 ⟨λs hs=>?_,?_⟩,λs hs b o hh=>?_⟩
   .exact Wa7 (Q:=λq=>Same q.fp w W) (λx c q hq hx=>W5 (λ_ _ _ hh=>hh) e x c q hq hx) _ _ _ gj g3
   .exact Wa7 (Q:=λq=>Same q.fp w W) (λx c q hq hx=>W5 (λ_ _ _ hh=>hh) e x c q hq hx) _ _ _ iv k1
   .refine Mem.app (n:=k*e.size) (λj v hj=>?_) hM g4;have h1:=g5 j v hj;have hj':j<lZ.length:=(Xr.1 hj).1;rw[hW.cell g ((ν id).off+j) (block_lt_of_cell h1) (λ⟨_,h2,_⟩=>by omega)];exact h1
   .rw[Xn]at hs;rcases Xk.1 hs with hs|hs
    .exact q1 s hs
    .obtain⟨p,hp,rfl⟩:=Xu.1 hs;exact iw p hp _ eG
   .rw[Xn];refine Xaa.2 ⟨q2,k2,λs hs t ht=>?_⟩;obtain⟨p,hp,rfl⟩:=Xu.1 hs;obtain⟨q,hq,rfl⟩:=Xu.1 ht;exact iw q hq _ (jl p hp)
   .rcases Xm.1 hs with rfl|hs
    .exact .inl (eG b o hh)
    .rw[Xn]at hs;rcases Xk.1 hs with hs|hs
     .obtain⟨p,hp,rfl⟩:=Xu.1 hs;exact .inl (jl p hp b o hh)
     .obtain⟨q,hq,rfl⟩:=Xu.1 hs;exact .inr (k3 q hq b o hh)
 rcases hx.rd with⟨bK,bo⟩|⟨pa,cc,bK,ay⟩
 .have hl0:l.length=0:=by rw[bo];rfl
  have rY:news= []:=Xx (by rw[gk,hl0];simp);obtain⟨ν',hh⟩:=inplace w (WLe.refl _ w) (by rw[rY];exactλj v hj=>by simp at hj) (by omega);refine⟨_,_,_,G,ν',Wbl ho hc ha cw ?_,.inl rfl,hh⟩;rw[cq,bK,WcW t _ et i hu hi _ _ _ (by omega),hl0];rfl
 .by_cases bA:k+l.length<=(ν id).cap
  .have pN:(k+l.length)*e.size<=(ν id).cap*e.size:=Xaz _ bA;rw[Xcp]at pN;have hrun:=WfM (P:=P) (w:=w) t o.type et TT i hu hi g (ν id).off k (ν id).cap row eb pa l.length cc news (by rw[hsz];exact gk) (λj v hj=>ay j v hj) (Wjo _ _ _ e0) bA (by rw[hsz,gk];omega);obtain⟨hw,oO⟩:=WbK (k:=(ν id).off+k*i.size) (news:=news) eb (by rw[hsz,gk];omega);generalize w.setRow g (row.toList.take ((ν id).off+k*i.size)++news++row.toList.drop ((ν id).off+k*i.size+news.length)).toArray=W at hrun hw oO;rw[hsz]at hw oO;rw[gk]at hw;obtain⟨ν',hh⟩:=inplace W hw oO bA;exact⟨_,_,_,G,ν',Wbl ho hc ha cw (by rw[cq,bK,hrun]),.inl rfl,hh⟩
  .obtain⟨kF,fG⟩:=WpD w (k+l.length) (ν id).cap et az;have hcl:(c1++news).length=(Xf (xs.take k) l).length*e.size:=by rw[Xs,mT,gk,hlen,Xcp]
   obtain⟨ν',hh⟩:=Whg hr hd (id::m) (xs:=Xf (xs.take k) l) hcl (λφ hφ=>by
    have hown:OwnL w (TyRel G w e) e.size (ν id) xs (φ id):=hφ.ob _ _ ax;obtain⟨lZ,p1,g3,g4,g5,g6,g7⟩:=Wch hown aM hk;obtain⟨ps,k1,k2,k3⟩:=hx.enc φ hφ;have:=mV g4 g5;subst this;obtain⟨q1,q2⟩:=Xy.1 g6;have jl:∀p∈p1,CS.le p.fp (φ id):=λp hp=>g7 _ (Xe _ (Xal hp));refine⟨p1++ps,Wcr _ _ _ _ _ _ g3 k1,?_,λp hp b o hh=>?_⟩
    .rw[Xn];refine Xaa.2 ⟨q2,k2,λs hs t ht=>?_⟩;obtain⟨p,hp,rfl⟩:=Xu.1 hs;obtain⟨q,hq,rfl⟩:=Xu.1 ht;intro b o h1 h2;obtain⟨j,hj,h3,h4⟩:=k3 q hq b o h2;have:=hφ.inj id j b o aC h3 (jl p hp b o h1) h4;subst this;exact hm hj
    .rcases Xk.1 hp with hp|hp
     .exact⟨id,Xh ..,aC,jl p hp b o hh⟩
     .exact FromL.mono (λi hi=>Xe _ hi) b o (k3 p hp b o hh)) (by rw[hlen];exact kF) fG z.cells eF et
   have pM:(k+l.length)*i.bytes<=140737488355328:=by
    have:=Nat.mul_le_mul pL kG;omega
   have hrun:=run_append_grow (P:=P) w t o.type et i z hu hi hz ⟨g,(ν id).off,none⟩ k (ν id).cap c1 (by rw[hsz];exact mT) (λj v hj=>by rw[Wao];exact mU j v hj) pa l.length cc news (by rw[hsz];exact gk) (λj v hj=>ay j v hj) (by omega) (by omega) (growslice_fits (by omega) pM);refine⟨_,_,_,G,ν',Wbl ho hc ha cw ?_,.inl rfl,hh⟩;rw[cq,bK,hrun,hlen];simp
theorem Wh3{id:Nat}{e:Ty}{xs:List e.den}(hh:HRel w0 F G ν objs nx w)(ax:Wc objs id=some (.arr e xs)):
  ((ν id).blk=none/\xs= []/\(ν id).hdr= .slice none 0 0)\/∃g,(ν id).blk=some g/\(ν id).hdr= .slice (some ⟨g,(ν id).off,none⟩) xs.length (ν id).cap:=by
 obtain⟨S,ho⟩:=hh.obj ax;unfold Nu.hdr;cases hb:(ν id).blk with
 |none=>exact .inl ⟨rfl,Wbp ho hb,rfl⟩
 |some g=>exact .inr ⟨g,rfl,by rw[ho.1]⟩
theorem WiR(hT:WW P T)(hr:Rel w0 F nt G0 G ν st a w){o:Oper}(hd:∀d,o.dst=some d->nt.Ok d){c:Call}{s x:Operand}{t et:TypeId}{ty:Ty}{te:TE}{sv xv:AVal}{R:Type}{k:St->Option R}{r:R}
  (hl:Wc T t=some ⟨ty,false,.slice et⟩) (hle:Wc T et=some te) (hp:te.plain=true)
  (ho:o.op= .call c) (hc:c.callee= .builtin .append) (ha:c.args.toList= [s,x]) (cw:c.argTypes.toList= [t,t]) (hs:ev st s=some sv) (hx:ev st x=some xv)
  (h:Wdb st te.ty sv xv (λx objs nx=>k (({env:=st.env,objs:=objs,nx:=nx}:St).put o.dst x))=some r):∃af,k af=some r/\Done P w0 F nt G0 o a w af:=by
 have move:∀(e:Ty) (l:List e.den) (m:List Nat),Wpb st e xv=some (l,m)->∃news,Src w0 F G ν st w e l m (a.eval x) news:=λe l m eQ=>by
  unfold Wpb at eQ;split at eQ
  .simp only[Option.some.injEq,Prod.mk.injEq]at eQ;obtain⟨rfl,rfl⟩:=eQ;obtain⟨hv,_⟩:=Wr hr x _ hx;exact⟨[],λφ _=>⟨[],⟨rfl,rfl⟩,List.Pairwise.nil,by simp⟩,.inl ⟨hv,rfl⟩⟩
  .rename_i id;split at eQ
   .rename_i e' xs ax;obtain⟨ys,aZ,eQ⟩:=Xw.1 eQ;have h2:=Prod.mk.inj eQ;obtain⟨h3,h4⟩:=h2;subst h3 h4;obtain⟨fg,r4⟩:=W1 aZ;subst fg;simp only at r4;subst r4;obtain⟨⟨_,hv⟩,_⟩:=Wr hr x _ hx;have aC:Live st.objs id:=⟨_,ax,by simp⟩;rcases Wh3 hr.h ax with⟨hb,bo,hh⟩|⟨g,hb,hh⟩
    .subst bo;exact⟨[],λφ _=>⟨[],⟨rfl,rfl⟩,List.Pairwise.nil,by simp⟩,.inl ⟨by rw[hv,hh],rfl⟩⟩
    .obtain⟨φ0,hφ0⟩:=hr.h;have gl:OwnL w (TyRel G w e') e'.size (ν id) xs (φ0 id):=hφ0.ob _ _ ax;obtain⟨c1,p1,g1,g2,g3,g4,g5⟩:=Wch gl hb (Xl _);refine⟨c1,λφ hφ=>?_,.inr ⟨⟨g,(ν id).off,none⟩,(ν id).cap,by rw[hv,hh],λj u hj=>by rw[Wao];exact g3 j u hj⟩⟩;have hown:OwnL w (TyRel G w e') e'.size (ν id) xs (φ id):=hφ.ob _ _ ax;obtain⟨lZ,um,k1,k2,k3,k4,k5⟩:=Wch hown hb (Xl _);have:lZ=c1:=Xfc λj=>by
      by_cases hj:j<xs.length*e'.size
      .have mW:j<lZ.length:=by omega
       have mX:j<c1.length:=by omega
       have a1:=k3 j _ (Xq mW);have a2:=g3 j _ (Xq mX);rw[a1]at a2;rw[Xq mW,Xq mX];exact a2
      .rw[Xbf (by omega),Xbf (by omega)]
     subst this;rw[Xct]at k1;exact⟨um,k1,(Xy.1 k4).2,λp hp b o hh=>⟨id,Xab.2 rfl,aC,k5 _ (Xe _ (Xal hp)) b o hh⟩⟩
   .simp at eQ
  .simp at eQ
 unfold Wdb at h;split at h
 .split at h
  .rename_i e hel;split at h
   .rename_i he;split at h
    .rename_i l m eQ;obtain⟨news,cA⟩:=move e l m eQ;cases az:WB l.length with
     |false=>simp[az]at h
     |true=>
      simp[az]at h;obtain⟨cq,_⟩:=Wr hr s _ hs;exact⟨_,h,WaO hr hd (elT hT hl hle hp (by rw[←he,WaV])) ho hc ha cw cq cA (λi hi=>hi) az⟩
    .simp at h
   .simp at h
  .simp at h
 .rename_i id;split at h
  .rename_i e xs ax;split at h
   .rename_i he;split at h
    .rename_i l m eQ;obtain⟨news,cA⟩:=move e l m eQ;split at h
     .rename_i aH;have aH:=(Xae.1 ((WbO _).1 aH)).1;cases az:WB (xs.length+l.length)with
      |false=>simp[az]at h
      |true=>
       simp[az]at h;refine⟨_,h,?_⟩;have hE:ElT P t et e:=elT hT hl hle hp (by rw[←he,WaV]);obtain⟨⟨_,cq⟩,_⟩:=Wr hr s _ hs;rcases Wh3 hr.h ax with⟨hb,bo,hh⟩|⟨g,hb,hh⟩
       .subst bo;exact WaO hr hd hE ho hc ha cw (by rw[cq,hh]) cA (λi hi=>Xe _ hi) (by simpa [WB]using az)
       .have:=Wb5 hr hd hE ho hc ha cw ax hb (Xl _) (by rw[cq,hh]) cA aH az;rw[Xct]at this;exact this
     .simp at h
    .simp at h
   .simp at h
  .simp at h
 .simp at h
theorem Wkn(hT:WW P T)(hr:Rel w0 F nt G0 G ν st a w){o:Oper}(hd:∀d,o.dst=some d->nt.Ok d){c:Call}{s x:Operand}{t t2:TypeId}{sv xv:AVal}{R:Type}{k:St->Option R}{r:R}
  (ho:o.op= .call c) (hc:c.callee= .builtin .append) (ha:c.args.toList= [s,x]) (cw:c.argTypes.toList= [t,t2]) (hs:ev st s=some sv) (hx:ev st x=some xv)
  (h:Wcy T st t t2 sv xv (λx objs nx=>k (({env:=st.env,objs:=objs,nx:=nx}:St).put o.dst x))=some r):∃af,k af=some r/\Done P w0 F nt G0 o a w af:=by
 unfold Wcy at h;split at h
 .rename_i ty et _ hl _;split at h
  .rename_i te hle;split at h
   .rename_i aY;obtain⟨rfl,hp,aK⟩:=aY;have hE:ElT P t et te.ty:=elT hT hl hle hp rfl;cases dQ:WoF st sv xv with
    |false=>
     simp only[dQ,Bool.not_false,cond_true]at h;exact WiR hT hr hd hl hle hp ho hc ha cw hs hx h
    |true=>
    simp only[dQ,Bool.not_true,cond_false]at h;split at h
    .rename_i l co;cases az:WB l.length with
     |false=>simp[az]at h
     |true=>
      simp[az]at h;obtain⟨cq,_⟩:=Wr hr s _ hs;obtain⟨news,cA⟩:=Wgh hr aK [] (Wr hr x _ hx) co;exact⟨_,h,WaO (m':=[]) hr hd hE ho hc ha cw cq cA (λi hi=>hi) az⟩
    .rename_i id l co;split at h
     .rename_i e0 xs ax;split at h
      .rename_i ys aZ;obtain⟨he,hy⟩:=WdL aZ;injection he with he;subst he;simp only at hy;subst hy;cases az:WB (Xa xs+l.length)with
       |false=>simp[az]at h
       |true=>
        simp[az]at h;refine⟨_,h,?_⟩;obtain⟨⟨_,cq⟩,_⟩:=Wr hr s _ hs;obtain⟨news,cA⟩:=Wgh hr aK [] (Wr hr x _ hx) co;rcases Wh3 hr.h ax with⟨hb,bo,hh⟩|⟨g,hb,hh⟩
        .subst bo;exact WaO (m':=[id]) hr hd hE ho hc ha cw (by rw[cq,hh]) cA (λi hi=>by simp at hi) (by simpa [WB]using az)
        .have:=Wb5 hr hd hE ho hc ha cw ax hb (Xl _) (by rw[cq,hh]) cA (by simp) az;rw[Xct]at this;exact this
      .simp at h
     .simp at h
    .rename_i id hi l co;split at h
     .rename_i e0 xs ax;split at h
      .rename_i ys aZ;obtain⟨he,hy⟩:=WdL aZ;injection he with he;subst he;simp only at hy;subst hy;cases az:WB (hi+l.length)with
       |false=>simp[az]at h
       |true=>
        simp[az]at h;refine⟨_,h,?_⟩;obtain⟨⟨_,g1,g2,g3,cq⟩,_⟩:=Wr hr s _ hs;obtain⟨news,cA⟩:=Wgh hr aK [] (Wr hr x _ hx) co;obtain⟨S,hown⟩:=hr.h.obj ax;unfold Nu.vhdr at cq;cases hb:(ν id).blk with
        |none=>
         have bo:=Wbp hown hb;simp only[hb]at cq;have h0:=g3 hb;subst h0;show Done P w0 F nt G0 o a w (({env:=st.env,objs:=(st.nx,.arr te.ty l)::(id,.dead)::st.objs,nx:=st.nx+1}:St).put o.dst (.s (.one (.own st.nx))));exact WaO (m':=[id]) hr hd hE ho hc ha cw cq cA (λi hi=>by simp at hi) (by simpa [WB]using az)
        |some g=>
         simp only[hb,Nat.sub_zero,Xeq,Xat,ite_self]at cq;exact Wb5 hr hd hE ho hc ha cw ax hb (by rw[hown.1];exact g2) cq cA (by simp) az
      .simp at h
     .simp at h
    .simp at h
   .simp at h
  .simp at h
 .simp at h
end
end Go.Sx
namespace Go.Sx
set_option linter.unusedVariables false
set_option linter.unusedSimpArgs false
section
variable{w0:World}{F:CS}{nt:Slots}{G0 G:GH}{ν:Nat->Nu}{φ:Nat->CS}{objs:WS}{nx:Nat}{st af:St}{a:Act}{w w':World}{P:Program}{T:Tab}
theorem Wfx{t et:TypeId}{te:TE}{nu:Nu}{n:Nat}{lo hi:Option Int}{vl vh:Option Value}(hu:P.underlying t=some (.slice et))(bh:TEok P T et te)(hp:te.plain=true)(bw:nu.esz=te.ty.size)
  (hc:n<=nu.cap) (hn:n=nu.len) (aM:nu.blk=none->n=0) (hl:BRel lo vl) (hh:BRel hi vh) (hb:(WbG n lo hi).1=true):
  (Instr.sliceAt t nu.hdr vl vh none).run P w= .ok (nu.vhdr (WbG n lo hi).2.1 (WbG n lo hi).2.2) w/\(WbG n lo hi).2.1<=(WbG n lo hi).2.2/\(WbG n lo hi).2.2<=n:=by
 unfold Nu.hdr Nu.vhdr;cases hk:nu.blk with
 |none=>
  have h0:=aM hk;subst h0;obtain⟨hr,h3,h4⟩:=WbH (P:=P) (w:=w) (isSlice:=true) (cap:=0) hl hh (Xl _) hb;have e1:(WbG 0 lo hi).2.2=0:=by omega
  have e2:(WbG 0 lo hi).2.1=0:=by omega
  rw[e1,e2]at hr⊢;refine⟨?_,Xl _,Xl _⟩;simp[Instr.sliceAt,Instr.slice,Wa hu,hr,bh.sizeOf]
 |some b=>
  obtain⟨hr,h7,h8⟩:=WbH (P:=P) (w:=w) (isSlice:=true) (cap:=nu.cap) hl hh hc hb;refine⟨?_,h7,h8⟩;rw[←hn];generalize (WbG n lo hi).2.1=p at*;generalize (WbG n lo hi).2.2=q at*;have hsz:te.size=nu.esz:=by rw[WH hp,bw]
  simp only[Instr.sliceAt,Instr.slice,Sem.run_bind,Wa hu,Result.andThen_ok,hr,bh.sizeOf,Sem.run_pure,hsz,Xbu,Wao];split<;>rfl
theorem WnH{id:Nat}{e:Ty}{xs:List e.den}{S:CS}(h:Wbx G ν nx w id S (.arr e xs)):((ν id).blk=none->xs.length=0)/\((ν id).blk≠none->xs.length<=(ν id).cap):=by
 refine⟨λhb=>by rw[Wbp h hb];rfl,λhb=>?_⟩;obtain⟨_,_,h3⟩:=h;cases hk:(ν id).blk with
 |none=>exact absurd hk hb
 |some b=>simp only[hk]at h3;exact h3.1
theorem WjG{t et:TypeId}{te:TE}{id:Nat}{e:Ty}{xs:List e.den}{S:CS}(ho:Wbx G ν nx w id S (.arr e xs)){lo hi:Option Int}{vl vh:Option Value}(hu:P.underlying t=some (.slice et))(bh:TEok P T et te)(hp:te.plain=true)(he:te.ty.size=e.size)
  (hl:BRel lo vl) (hh:BRel hi vh) (hb:(WbG xs.length lo hi).1=true):
  (Instr.sliceAt t (ν id).hdr vl vh none).run P w= .ok ((ν id).vhdr (WbG xs.length lo hi).2.1 (WbG xs.length lo hi).2.2) w/\(WbG xs.length lo hi).2.1<=(WbG xs.length lo hi).2.2/\(WbG xs.length lo hi).2.2<=xs.length:=by
 obtain⟨h1,h2⟩:=WnH ho;have hlen:=ho.1;have bw:=ho.2.1;cases hk:(ν id).blk with
 |some b=>exact Wfx hu bh hp (by rw[bw,he]) (h2 (by rw[hk];simp)) hlen (λh=>by rw[hk]at h;cases h) hl hh hb
 |none=>
  have h0:=h1 hk;have bo:xs= []:=Xx h0;have e0:(ν id).hdr=(⟨none,(ν id).off,(ν id).len,0,(ν id).esz⟩:Nu).hdr:=by unfold Nu.hdr;simp only[hk]
  have e1:∀p q,(ν id).vhdr p q=(⟨none,(ν id).off,(ν id).len,0,(ν id).esz⟩:Nu).vhdr p q:=λp q=>by unfold Nu.vhdr;simp only[hk]
  rw[e0,e1];exact Wfx hu bh hp (by show(ν id).esz=_;rw[bw,he]) (by rw[h0];exact Xl _) hlen (λ_=>h0) hl hh hb
theorem WeX{o:Oper}{t:TypeId}{x:Operand}{lo hi:Option Operand}{v:Value}(ho:o.op= .slice t x lo hi none)(h:(Instr.sliceAt t (a.eval x) (lo.map a.eval) (hi.map a.eval) none).run P w= .ok v w):(execOp a.eval o).run P w= .ok (.value v) w:=by
 simp only[execOp,ho,Option.map_none,Sem.run_bind,h,Result.andThen_ok,Sem.run_pure]
theorem WmD(hT:WW P T)(hr:Rel w0 F nt G0 G ν st a w){o:Oper}(hd:∀d,o.dst=some d->nt.Ok d){t et:TypeId}{ty:Ty}{te:TE}{x:Operand}{lo hi:Option Operand}(ho:o.op= .slice t x lo hi none)
  {id:Nat} {l h:Option Int} {R:Type} {k:St->Option R} {r:R} (hx:ev st x=some (.s (.one (.own id)))) (hl:Wc T t=some ⟨ty,false,.slice et⟩) (hle:Wc T et=some te) (hp:te.plain=true) (h1:Wik st lo=some l) (h2:Wik st hi=some h)
  (hk:WdF st te.ty id l h (λx objs nx=>k (({env:=st.env,objs:=objs,nx:=nx}:St).put o.dst x))=some r):∃af,k af=some r/\Done P w0 F nt G0 o a w af:=by
 unfold WdF at hk;split at hk
 .rename_i e xs ax;split at hk
  case isFalse=>simp at hk
  rename_i gi;cases hb:(WbG (Xa xs) l h).1 with
  |false=>simp[hb]at hk
  |true=>
   simp only[hb,cond_true]at hk;refine⟨_,hk,?_⟩;obtain⟨⟨bg,cq⟩,_⟩:=Wr hr x _ hx;obtain⟨S,hown⟩:=hr.h.obj ax;have hbl:=WbX hr lo _ h1;have mY:=WbX hr hi _ h2;obtain⟨g1,g2,g3⟩:=WjG (w:=w) hown (hT _ _ hl).und.2.1 (hT _ _ hle) hp (by rw[gi,WaV]) hbl mY hb;refine⟨_,_,w,G,ν,WeX ho (by rw[cq];exact g1),.inl rfl,hr.put hd ⟨⟨bg,g2,by rw[←hown.1];exact g3,λmZ=>?_,rfl⟩,Wk8 _ _ _⟩⟩;have:=(WnH hown).1 mZ;omega
 .simp at hk
theorem Wpj(n:Nu)(h:Nat):n.part 0 h=⟨n.blk,n.off,h,n.cap,n.esz⟩:=by
 unfold Nu.part;simp
theorem WqJ(n:Nu)(h:Nat):n.vhdr 0 h=(⟨n.blk,n.off,h,n.cap,n.esz⟩:Nu).hdr:=by
 rw[←Wpj,WhQ]
theorem Wl8(hT:WW P T)(hr:Rel w0 F nt G0 G ν st a w){o:Oper}(hd:∀d,o.dst=some d->nt.Ok d){t et:TypeId}{ty:Ty}{x:Operand}{lo hi:Option Operand}(ho:o.op= .slice t x lo hi none)
  {id:Nat} {e:Ty} {xs:List e.den} {te:TE} {h:Int} (hx:ev st x=some (.s (.one (.own id)))) (hl:Wc T t=some ⟨ty,false,.slice et⟩) (hle:Wc T et=some te) (hp:te.plain=true) (he:te.ty=e.ro) (ax:Wc st.objs id=some (.arr e xs)) (aL:Wik st lo=some none) (hh:Wik st hi=some (some h))
  (h0:0<=h) (h1:h<=(xs.length:Int)):Done P w0 F nt G0 o a w (({env:=st.env,objs:=(st.nx,.arr e (xs.take h.toNat))::kill st.objs [id],nx:=st.nx+1}:St).put o.dst (.s (.one (.own st.nx)))):=by
 obtain⟨⟨bg,cq⟩,_⟩:=Wr hr x _ hx;obtain⟨S,hown⟩:=hr.h.obj ax;have hbl:=WbX hr lo _ aL;have mY:=WbX hr hi _ hh;have hb:(WbG xs.length none (some h)).1=true:=by simp[WbG,h0,h1]
 obtain⟨g1,g2,g3⟩:=WjG (w:=w) hown (hT _ _ hl).und.2.1 (hT _ _ hle) hp (by rw[he,WaV]) hbl mY hb;have e1:(WbG xs.length none (some h)).2.1=0:=rfl;have e2:(WbG xs.length none (some h)).2.2=h.toNat:=rfl;rw[e1,e2,WqJ]at g1;refine⟨_,_,w,G,upd ν st.nx ((ν id).part 0 h.toNat),WeX ho (by rw[cq];exact g1),.inl rfl,?_⟩;have aC:Live st.objs id:=⟨_,ax,by simp⟩;refine hr.fresh hd [id] (.arr e (xs.take h.toNat)) _ (λφ=>φ id) _ _ (λφ _=>WLe.refl _ w) (λφ _ b o hh=>.inl ⟨id,.inr (Xab.2 rfl),aC,hh⟩) (λφ hφ=>?_) ⟨⟨Xbl _,by rw[WaJ,Wpj]⟩,Wgj _⟩;show OwnL w (TyRel G w e) e.size (upd ν st.nx ((ν id).part 0 h.toNat) st.nx) (xs.take h.toNat) (φ id);rw[WaJ];have hown':OwnL w (TyRel G w e) e.size (ν id) xs (φ id):=hφ.ob _ _ ax;have:=WkJ (lo:=0) (hi:=h.toNat) hown' (Xbk _) (by rw[←hown'.1];omega);simpa using this
theorem Wgz(hT:WW P T)(hr:Rel w0 F nt G0 G ν st a w){o:Oper}(hd:∀d,o.dst=some d->nt.Ok d){t et:TypeId}{ty:Ty}{x:Operand}{lo hi:Option Operand}(ho:o.op= .slice t x lo hi none)
  {id i p:Nat} {e:Ty} {xs:List e.den} {te:TE} {h:Int} (hx:ev st x=some (.s (.one (.own id)))) (hl:Wc T t=some ⟨ty,false,.slice et⟩) (hle:Wc T et=some te) (hp:te.plain=true) (he:te.ty=e.ro) (ax:Wc st.objs id=some (.hole e xs i p)) (jm:WmX (Wc st.objs p) e.size=true) (aL:Wik st lo=some none) (hh:Wik st hi=some (some h))
  (h0:0<=h) (h1:h<=(xs.length:Int)) (h2:h<=(i:Int)):Done P w0 F nt G0 o a w (({env:=st.env,objs:=(st.nx,.arr e (xs.take h.toNat))::kill st.objs [id,p],nx:=st.nx+1}:St).put o.dst (.s (.one (.own st.nx)))):=by
 obtain⟨⟨bg,cq⟩,_⟩:=Wr hr x _ hx;obtain⟨S,kB,hole⟩:=hr.h.obj ax;have eN:∃cs,Wc st.objs p=some (.box cs)/\cs.length=e.size:=by
  unfold WmX at jm;split at jm
  .rename_i cs eN;exact⟨cs,eN,Xbt jm⟩
  .cases jm
 obtain⟨pcs,eN,dI⟩:=eN;have hbl:=WbX hr lo _ aL;have mY:=WbX hr hi _ hh;have hb:(WbG xs.length none (some h)).1=true:=by simp[WbG,h0,h1]
 obtain⟨k1,k2,k3,b,k4,k5,k6,k7,k8,k9,_⟩:=hole;obtain⟨g1,g2,g3⟩:=Wfx (w:=w) (nu:=ν id) (hT _ _ hl).und.2.1 (hT _ _ hle) hp (by rw[k2,he,WaV]) k7 k1 (λhn=>by rw[hn]at k4;cases k4) hbl mY hb;have e1:(WbG xs.length none (some h)).2.1=0:=rfl;have e2:(WbG xs.length none (some h)).2.2=h.toNat:=rfl;rw[e1,e2,WqJ]at g1;refine⟨_,_,w,G,upd ν st.nx ((ν id).part 0 h.toNat),WeX ho (by rw[cq];exact g1),.inl rfl,?_⟩;have aC:Live st.objs id:=⟨_,ax,by simp⟩;have cM:Live st.objs p:=⟨_,eN,by simp⟩;refine hr.fresh hd [id,p] (.arr e (xs.take h.toNat)) _ (λφ b o=>φ id b o\/φ p b o) _ _ (λφ _=>WLe.refl _ w) (λφ _ b o hh=>?_) (λφ hφ=>?_) ⟨⟨Xbl _,by rw[WaJ,Wpj]⟩,Wgj _⟩
 .rcases hh with hh|hh
  .exact .inl ⟨id,.inr (by simp),aC,hh⟩
  .exact .inl ⟨p,.inr (by simp),cM,hh⟩
 .show OwnL w (TyRel G w e) e.size (upd ν st.nx ((ν id).part 0 h.toNat) st.nx) (xs.take h.toNat) _;rw[WaJ,Wpj];obtain⟨kB,hole⟩:p<st.nx/\Wfm w (TyRel G w e) e.size (ν id) (ν p) xs i (φ id):=hφ.ob _ _ ax;obtain⟨_,_,_,b',oP,k5',_,_,_,_,c1,c2,p1,p2,j1,j2,j3,j4,j5,j6⟩:=hole;rw[k4]at oP;injection oP with oP;subst oP;obtain⟨b2,vs,q1,q2,q3,q4,q5⟩:Wbx G ν st.nx w p (φ p) (.box pcs):=hφ.ob _ _ eN;rw[k5]at q1;injection q1 with q1;subst q1;rw[dI,k6]at q5;obtain⟨d1,d2,r1,r2,t1,t2,t3,t4⟩:=WcX _ _ _ h.toNat j1;rw[List.take_take,Xbw (by omega)]at t3;have gA:=j6 _ (Xh ..);have gC:=j6 _ (Xe _ (Xh ..));obtain⟨s1,s2⟩:=Xy.1 j5;obtain⟨s3,s4⟩:=Xy.1 s2;have bO:∀s∈r1.map Pc.fp,s∈(p1++p2).map Pc.fp:=λs hs=>by rw[t2,Xn,Xn];exact Xj _ (Xj _ hs)
  have gp:∀s∈r1.map Pc.fp,CS.le s (φ id):=λs hs=>j6 s (Xe _ (Xe _ (bO s hs)));have pO:∀b o,φ id b o->φ p b o->False:=λb o x1 x2=>by
   have:=hφ.inj id p b o aC cM x1 x2;subst this;rw[ax]at eN;cases eN
  refine⟨by simp;omega,k2,?_⟩;simp only[k4];refine⟨by simp;omega,k8,k9,d1,r1,t3,by rw[t1]at j3;exact j3.left,Xy.2 ⟨λs hs=>?_,?_⟩,λs hs=>?_⟩
  .exactλb' o mL gg=>(Wd4 (show i<(ν id).cap by omega) (S:=λb o=>¬s b o) (λb o hh gg=>s1 s (Xe _ (bO s hs)) b o hh gg) (λb o hh gg=>pO b o (gp s hs b o gg) (q5 b o hh)) (λb o hh gg=>s3 s (bO s hs) b o hh gg) b' o mL) gg
  .rw[t2,Xn,Xn]at s4;exact(Xaa.1 (Xaa.1 s4).1).1
  .rcases Xm.1 hs with rfl|hs
   .exact Wd4 (show i<(ν id).cap by omega) (λb o hh=>.inl (gA b o hh)) (λb o hh=>.inr (q5 b o hh)) (λb o hh=>.inl (gC b o hh))
   .exactλb o hh=>.inl (gp s hs b o hh)
theorem WlS(hT:WW P T)(hr:Rel w0 F nt G0 G ν st a w){o:Oper}(hd:∀d,o.dst=some d->nt.Ok d){c:Call}{x:Operand}{t et:TypeId}{ty:Ty}{te:TE}{e:Ty}{xs:List e.den}{id lo hi:Nat}
  (ho:o.op= .call c) (hc:c.callee= .builtin .clear) (ha:c.args.toList= [x]) (cw:c.argTypes.toList= [t]) (hx:ev st x=some (.s (.one (.vw id lo hi)))) (hl:Wc T t=some ⟨ty,false,.slice et⟩) (hle:Wc T et=some te)
  (ax:Wc st.objs id=some (.arr e xs)) (he:te.ty=e) (hp:te.plain=true) (aK:e.data=true):
  Done P w0 F nt G0 o a w (({env:=st.env,objs:=(id,.arr e (xs.take lo++Xag (hi-lo) e.dflt++xs.drop hi))::st.objs,nx:=st.nx}:St).put o.dst (.tup [])):=by
 have hu:=(hT _ _ hl).und.2.1;obtain⟨⟨bg,g1,g2,g3,hv⟩,_⟩:=Wr hr x _ hx;obtain⟨φ,hφ⟩:=hr.h;have hown:OwnL w (TyRel G w e) e.size (ν id) xs (φ id):=hφ.ob _ _ ax;have aC:Live st.objs id:=⟨_,ax,by simp⟩;have m0:∀W,(Builtin.clear_ #[t] o.type #[a.eval x]).run P w= .ok (.tuple #[]) W->(execOp a.eval o).run P w= .ok (.value (.tuple #[])) W:=λW hrun=>by
  obtain⟨callee,args,argTypes⟩:=c;obtain⟨args⟩:=args;obtain⟨argTypes⟩:=argTypes;simp only at hc ha cw;subst hc ha cw;simp only[execOp,ho,resolve,invoke,builtin,Sem.run_bind,Sem.run_pure,Result.andThen_ok,Xdt,Xaj,Xbh,hrun]
 have dR:∀W,(Builtin.clear_ #[t] o.type #[a.eval x]).run P w= .ok (.tuple #[]) W->HRel w0 F G ν ((id,.arr e (xs.take lo++Xag (hi-lo) e.dflt++xs.drop hi))::st.objs) st.nx W->
   Done P w0 F nt G0 o a w (({env:=st.env,objs:=(id,.arr e (xs.take lo++Xag (hi-lo) e.dflt++xs.drop hi))::st.objs,nx:=st.nx}:St).put o.dst (.tup [])):=λW hrun hH=>
  ⟨_,_,W,G,ν,m0 W hrun,.inl rfl,(hr.on (λ_ _ _ hh=>hh) (λ_ _=>rfl) (Xl _) hH hr.gx).put hd ⟨[],rfl,rfl,λj x v hj=>by simp at hj⟩⟩
 by_cases h0:hi-lo=0
 .have un:hi=lo:=by omega
  have e1:xs.take lo++Xag (hi-lo) e.dflt++xs.drop hi=xs:=by
   rw[h0,un];simp
  refine dR w ?_ ?_
  .rw[hv];unfold Nu.vhdr;rw[h0];cases(ν id).blk<;>simp[Builtin.clear_,Wa hu]
  .rw[e1];exact⟨_,hφ.put (m:=[]) (ν':=ν) (λ_ _=>rfl) (Xl _) (hφ.lt id aC) (WLe.refl _ w) (λb o hh=>.inl ⟨id,.inl rfl,aC,hh⟩) (λ_=>hown)⟩
 .cases aM:(ν id).blk with
  |none=>have:=g3 aM;omega
  |some b=>
   obtain⟨gM,h4,h5,⟨row,TT,eb,hrow⟩,cs,h7,h8,h9⟩:=Wca aK hown aM;obtain⟨z,hz,cL⟩:=Wdg (w:=w) (hT _ _ hle);rw[WaW hp,he]at cL;have eF:z.cells.size=e.size:=by rw[←Xap,cL,WaM]
   have bw:=hown.2.1;have hcl:cs.length=xs.length*e.size:=EncL_len (λx c hc=>Enc_len e x c hc) _ _ h7;have r5:(Builtin.zeroCells z.cells (hi-lo)).toList=rep (WaS e) (hi-lo):=by rw[←cL];exact Weg z.cells (hi-lo)
   have iV:(rep (WaS e) (hi-lo)).length=(hi-lo)*e.size:=by rw[WhL,WaM]
   have m5:lo*e.size+(hi-lo)*e.size=hi*e.size:=by rw[←Xcp];congr 1;omega
   have oQ:hi*e.size<=xs.length*e.size:=Xaz _ (by omega);have hm3:xs.length*e.size<=(ν id).cap*e.size:=Xaz _ h4;have dh:∀u∈rep (WaS e) (hi-lo),u.oneCell'=true:=WkW (G:=G) _ _ (WeF aK (hi-lo));have ch:=run_storeCells_at P b ((ν id).off+lo*e.size) TT (rep (WaS e) (hi-lo)) 0 row w eb (by rw[iV];omega) dh;simp only[Xat]at ch;obtain⟨hw,hm⟩:=WbK (k:=(ν id).off+lo*e.size) (news:=rep (WaS e) (hi-lo)) eb (by rw[iV];omega);have hrun:(Builtin.clear_ #[t] o.type #[a.eval x]).run P w= .ok (.tuple #[]) (w.setRow b (row.toList.take ((ν id).off+lo*e.size)++rep (WaS e) (hi-lo)++row.toList.drop ((ν id).off+lo*e.size+(rep (WaS e) (hi-lo)).length)).toArray):=by
    rw[hv];unfold Nu.vhdr;simp only[aM,bw];rw[if_neg (by omega)];obtain⟨n,hn⟩:∃n,hi-lo=n+1:=⟨hi-lo-1,by omega⟩;simp only[Builtin.clear_,Sem.run_bind,Wa hu,Result.andThen_ok,Xel,List.getElem?_cons_zero];rw[hn]at ch r5⊢;simp only[Sem.run_bind,hz,Result.andThen_ok,r5,ch,Sem.run_pure]
   generalize w.setRow b (row.toList.take ((ν id).off+lo*e.size)++rep (WaS e) (hi-lo)++row.toList.drop ((ν id).off+lo*e.size+(rep (WaS e) (hi-lo)).length)).toArray=W at hrun hw hm;refine dR W hrun (hφ.turn (m:=[]) ax (by simp) hw (λb' o ⟨k0,k1,k2⟩=>h9 b' o ⟨k0,by omega,by omega⟩) ?_);have kb:(xs.take lo++Xag (hi-lo) e.dflt++xs.drop hi).length=xs.length:=by simp;omega
   have henc:EncL (Enc G e) (xs.take lo++Xag (hi-lo) e.dflt++xs.drop hi) (cs.take (lo*e.size)++rep (WaS e) (hi-lo)++cs.drop (hi*e.size)):=
    Wcu _ _ _ _ (Wcu _ _ _ _ (Wc5 (λx c hc=>Enc_len e x c hc) _ _ lo h7) (WeF aK _)) (WcU (λx c hc=>Enc_len e x c hc) _ _ hi h7)
   refine Wi3 aK aM (by rw[kb];exact gM) bw (by rw[kb];exact h4) h5 (hw.rows.row _ _ ⟨row,TT,eb,hrow⟩) henc ?_ (λb o hh=>.inl (h9 b o hh));have:=Wdo h8 hw hm (by rw[iV];omega);rw[iV,m5]at this;exact this
end
end Go.Sx
namespace Go.Sx
set_option linter.unusedVariables false
set_option linter.unusedSimpArgs false
def Wgr(G:GH)(w:World)(t:Ty)(agg:Bool)(d:t.den)(v:Value)(ns:List Pc):Prop:=
 if agg then∃us:List Value,v= .agg us.toArray/\TyRel G w t d us ns else TyRel G w t d [v] ns
def Wbh(b o:Nat):Nu:=⟨some b,o,0,0,0⟩
def WdH(G:GH)(w:World)(t:Ty)(d:t.den)(b o:Nat)(ns:List Pc):Prop:=∃us,Row w b (o+t.size)/\Mem w b o us/\TyRel G w t d us ns
def fps(ns:List Pc):List CS:=ns.map Pc.fp
def nus(ns:List Pc):List Nu:=ns.map Pc.nu
def WaI(G:GH)(w:World):(ps:List PTy)->Wdz ps->List Value->List Pc->List Nu->Prop
 | [],_,vs,ns,ks=>vs= []/\ns= []/\ks= []
 | .v t agg::ps,d,vs,ns,ks=>∃v vs' n1 n2,vs=v::vs'/\ns=n1++n2/\Wgr G w t agg d.1 v n1/\WaI G w ps d.2 vs' n2 ks
 | .box t::ps,d,vs,ns,ks=>∃b o vs' n1 n2 ks',vs= .pointer (some ⟨b,o,none⟩)::vs'/\ns=⟨Wbh b o,rng b o t.size⟩::(n1++n2)/\ks=Wbh b o::ks'/\WdH G w t d.1 b o n1/\WaI G w ps d.2 vs' n2 ks'
 | .mut e::ps,d,vs,ns,ks=>∃pc vs' n2 ks',vs=pc.nu.hdr::vs'/\ns=pc::n2/\ks=pc.nu::ks'/\OwnL w (TyRel G w e) e.size pc.nu d.1 pc.fp/\WaI G w ps d.2 vs' n2 ks'
 | .clos g n::ps,d,vs,ns,ks=>∃cvs vs':List Value,vs= .func (.func g) #[] cvs.toArray::vs'/\cvs.length=n/\(∀u∈cvs,u.oneCell'=true)/\WaI G w ps d (cvs++vs') ns ks
 | .kv t agg::ps,d,vs,ns,ks=>∃v vs' n1 n2 ks',vs=v::vs'/\ns=n1++n2/\ks=nus n1++ks'/\Wgr G w t agg d.1 v n1/\WaI G w ps d.2 vs' n2 ks'
 | .rp t::ps,d,vs,ns,ks=>∃b o us vs',vs= .pointer (some ⟨b,o,none⟩)::vs'/\Enc G t d.1 us/\WdA G b o us/\WaI G w ps d.2 vs' ns ks
 | .vj _::_,_,_,_,_=>False
 | .boxal t lf::ps,d,vs,ns,ks=>∃b o b' pc vs' n1 n2 ks',vs= .pointer (some ⟨b,o,none⟩):: .pointer (some ⟨b',pc.nu.off+(d.2.1*pc.nu.esz+0),none⟩)::vs'/\ns=⟨Wbh b o,rng b o t.size⟩::(n1++n2)/\ks=Wbh b o::ks'/\
   WdH G w t d.1 b o n1/\n1[lf]?=some pc/\pc.nu.blk=some b'/\d.2.1<pc.nu.len/\WaI G w ps d.2.2 vs' n2 ks'
def WaT(G:GH)(w:World):(ps:List PTy)->Wd3 ps->List Nu->List CS->List Pc->Prop
 | [],_,ks,kf,ns=>ks= []/\kf= []/\ns= []
 | .v _ _::ps,o,ks,kf,ns=>WaT G w ps o ks kf ns
 | .box t::ps,o,ks,kf,ns=>∃b off ks' cx n1 n2,ks=Wbh b off::ks'/\kf=rng b off t.size::cx/\ns=n1++n2/\WdH G w t o.1 b off n1/\WaT G w ps o.2 ks' cx n2
 | .mut e::ps,o,ks,kf,ns=>∃pc:Pc,∃ks' cx,ks=pc.nu::ks'/\kf=pc.fp::cx/\OwnL w (TyRel G w e) e.size pc.nu o.1 pc.fp/\WaT G w ps o.2 ks' cx ns
 | .clos _ _::ps,o,ks,kf,ns=>WaT G w ps o ks kf ns
 | .kv t _::ps,o,ks,kf,ns=>∃n1 ks' cx us,ks=nus n1++ks'/\kf=fps n1++cx/\TyRel G w t o.1 us n1/\WaT G w ps o.2 ks' cx ns
 | .rp _::ps,o,ks,kf,ns=>WaT G w ps o ks kf ns
 | .vj _::_,_,_,_,_=>False
 | .boxal t _::ps,o,ks,kf,ns=>∃b off ks' cx n1 n2,ks=Wbh b off::ks'/\kf=rng b off t.size::cx/\ns=n1++n2/\WdH G w t o.1 b off n1/\WaT G w ps o.2 ks' cx n2
def Wd5(G:GH)(w:World):(rs:List PTy)->WeW rs->List Value->List Pc->Prop
 | [],_,vs,ns=>vs= []/\ns= []
 | .v t agg::rs,d,vs,ns=>∃v vs' n1 n2,vs=v::vs'/\ns=n1++n2/\Wgr G w t agg d.1 v n1/\Wd5 G w rs d.2 vs' n2
 | .box t::rs,d,vs,ns=>∃b o vs' n1 n2,vs= .pointer (some ⟨b,o,none⟩)::vs'/\ns=⟨Wbh b o,rng b o t.size⟩::(n1++n2)/\WdH G w t d.1 b o n1/\Wd5 G w rs d.2 vs' n2
 | .mut _::_,_,_,_=>False
 | .clos _ _::_,_,_,_=>False
 | .kv _ _::_,_,_,_=>False
 | .rp _::_,_,_,_=>False
 | .vj t::rs,d,vs,ns=>∃us u vs' n1 n2,vs= .agg (us++ [u]).toArray::vs'/\u.oneCell'=true/\ns=n1++n2/\TyRel G w t d.1 us n1/\Wd5 G w rs d.2 vs' n2
 | .boxal _ _::_,_,_,_=>False
def Wfy:List Value->Value
 | [v]=>v
 |vs=>.tuple vs.toArray
def Of(ns:List Pc):CS:=λb o=>∃q∈ns,q.fp b o
structure After(sg:Sig)(o:Wd3 sg.ps×WeW sg.rs)(G:GH)(w:World)(ns:List Pc)(ks:List Nu)(rv:List Value)(kf:List CS)(ms cd:List Pc)(G':GH)(w':World):Prop where
 res:Wd5 G' w' sg.rs o.2 rv cd
 outs:WaT G' w' sg.ps o.1 ks kf ms
 sep:Sep (kf++fps (ms++cd))
 own:∀S∈kf++fps (ms++cd),∀b off,S b off->G' b off=none/\(Of ns b off\/w.heap.size<=b)/\b<w'.heap.size
 gx:GExt w.heap.size (Of ns) G G'
 g:∀b o v,G' b o=some v->w'.cell? ⟨b,o,none⟩=some v
 le:WLe (Of ns) w w'
def Good(P:Program)(k:FuncId)(sg:Sig):Prop:=
 ∀(d:Wdz sg.ps) (o:Wd3 sg.ps×WeW sg.rs),sg.run d=some o->∀(G:GH) (w:World) (vs:List Value) (ns:List Pc) (ks:List Nu),WaI G w sg.ps d vs ns ks->Sep (fps ns)->
  (∀q∈ns,∀b off,q.fp b off->G b off=none/\b<w.heap.size)->(∀b o v,G b o=some v->w.cell? ⟨b,o,none⟩=some v)->
  Calls P k vs.toArray w λe w'=>∃rv kf ms cd G',e= .returned (Wfy rv)/\After sg o G w ns ks rv kf ms cd G' w'
def Wef(P:Program)(k:FuncId):Prop:=∃fn,P.funcs[k]?=some fn∧fn.body.isNone=false∧(fn.name== "runtime.NumGoroutine")=false
def Wdv(P:Program)(Γ:Ctx):Prop:=∀k sg,Wc Γ k=some sg->Good P k sg/\Wef P k
section
variable{w0:World}{F:CS}{nt:Slots}{G0 G G':GH}{ν:Nat->Nu}{φ:Nat->CS}{objs:WS}{nx:Nat}{st af:St}{a:Act}{w w':World}{P:Program}{T:Tab}
theorem Wae:∀(t:Ty) (d:t.den) (nx:Nat),(unfold t d nx).2.2=nx+t.owns
 | .prod a b,d,nx=>by simp only[unfold,Wae a,Wae b,Ty.owns,Xan]
 | .own _,_,_=>rfl
 | .int _,_,_| .bool,_,_| .str,_,_| .slice _,_,_=>rfl
theorem Wq{α:Type}{l m:List (Nat×α)}{i:Nat}{x:α}(h:Wc (l++m) i=some x):Wc l i=some x\/Wc m i=some x:=by
 rw[Wa0]at h;cases hl:Wc l i with
 |none=>simp[hl]at h;exact .inr h
 |some y=>simp[hl]at h;subst h;exact .inl rfl
def At(ν:Nat->Nu)(φ:Nat->CS)(nx:Nat)(ns:List Pc):Prop:=∀(j:Nat) (pc:Pc),ns[j]?=some pc->ν (nx+j)=pc.nu/\φ (nx+j)=pc.fp
theorem At.left{n1 n2:List Pc}(h:At ν φ nx (n1++n2)):At ν φ nx n1:=λj pc hj=>h j pc (by rw[Xav (Xr.1 hj).1];exact hj)
theorem At.right{n1 n2:List Pc}{k:Nat}(h:At ν φ nx (n1++n2))(hk:n1.length=k):At ν φ (nx+k) n2:=λj pc hj=>by
 have:=h (k+j) pc (by rw[Xas (by omega),hk,Xay];exact hj);rw[Xan];exact this
def Wl3(G:GH)(ν:Nat->Nu)(φ:Nat->CS)(w:World)(id:Nat)(ob:Ob):Prop:=∃(e:Ty) (xs:List e.den),ob= .arr e xs/\OwnL w (TyRel G w e) e.size (ν id) xs (φ id)
theorem W0:∀(t:Ty) (d:t.den) (nx:Nat) (vs:List Value) (ns:List Pc),TyRel G w t d vs ns->At ν φ nx ns->
  (∀(ah:Nat),nx+t.owns<=ah->CellsRel G ν ah (unfold t d nx).1 vs)/\
  (∀id ob,Wc (unfold t d nx).2.1 id=some ob->nx<=id/\id<nx+t.owns/\Wl3 G ν φ w id ob)
 | .own e,d,nx,vs,ns,⟨pc,h1,h2,h3⟩,hν=>by
  obtain⟨hn,hp⟩:ν nx=pc.nu/\φ nx=pc.fp:=by have:=hν 0 pc (by rw[h1];rfl);simpa using this
  refine⟨λah hx=>?_,λid ob hl=>?_⟩
  .rw[h2];refine CellsRel.one ⟨by simp[Ty.owns]at hx;omega,by rw[hn]⟩ (Wgj _)
  .simp only[unfold]at hl;rw[Wl]at hl;split at hl
   .rename_i e1;subst e1;injection hl with hl;subst hl;exact⟨Xl _,by simp[Ty.owns],e,d,rfl,by rw[hn,hp];exact h3⟩
   .simp[Wc]at hl
 | .prod p q,d,nx,vs,ns,⟨v1,v2,n1,n2,h1,h2,h3,h4⟩,hν=>by
  subst h2;have bJ:=WL p _ _ _ h3;obtain⟨c1,o1⟩:=W0 p d.1 nx v1 n1 h3 hν.left;obtain⟨c2,o2⟩:=W0 q d.2 (nx+p.owns) v2 n2 h4 (hν.right bJ);refine⟨λah hx=>?_,λid ob hl=>?_⟩
  .simp only[Ty.owns]at hx;simp only[unfold,Wae];rw[h1];exact(c1 ah (by omega)).append (c2 ah (by omega))
  .simp only[unfold,Wae]at hl;simp only[Ty.owns];rcases Wq hl with h|h
   .obtain⟨g1,g2,g3⟩:=o1 id ob h;exact⟨g1,by omega,g3⟩
   .obtain⟨g1,g2,g3⟩:=o2 id ob h;exact⟨by omega,by omega,g3⟩
 | .int k,d,nx,vs,ns,h,_=>⟨λah _=>W7 (.int k) d vs h.2,λid ob hl=>by simp[unfold,Wc]at hl⟩
 | .bool,d,nx,vs,ns,h,_=>⟨λah _=>W7 .bool d vs h.2,λid ob hl=>by simp[unfold,Wc]at hl⟩
 | .str,d,nx,vs,ns,h,_=>⟨λah _=>W7 .str d vs h.2,λid ob hl=>by simp[unfold,Wc]at hl⟩
 | .slice e,d,nx,vs,ns,h,_=>⟨λah _=>W7 (.slice e) d vs h.2,λid ob hl=>by simp[unfold,Wc]at hl⟩
theorem Wbg:∀(t:Ty) (d:t.den) (nx:Nat),(unfold t d nx).1.length=t.size
 | .prod a b,d,nx=>by simp only[unfold,Xs,Wbg a,Wbg b,Ty.size]
 | .own _,_,_| .int _,_,_| .bool,_,_| .str,_,_| .slice _,_,_=>rfl
theorem Wh4{t:Ty}{agg:Bool}{d:t.den}{v:Value}{ns:List Pc}{nx ah:Nat}(h:Wgr G w t agg d v ns)(hν:At ν φ nx ns)(hx:nx+t.owns<=ah):
  AvRel G ν ah (Wqv agg (unfold t d nx).1) v:=by
 unfold Wgr at h;unfold Wqv;cases agg with
 |true=>
  simp only[if_true]at h⊢;obtain⟨us,rfl,h⟩:=h;exact⟨us,rfl,(W0 t d nx us ns h hν).1 ah hx⟩
 |false=>
  simp only[Xby,if_false]at h⊢;have hc:=(W0 t d nx [v] ns h hν).1 ah hx;have hl:=hc.1;generalize (unfold t d nx).1=cs at*
  match cs,hl with
  | [c],_=>exact hc.2 0 c v rfl rfl
theorem Wkp{t:Ty}{agg:Bool}{d:t.den}{v:Value}{ns:List Pc}(h:Wgr G w t agg d v ns):∃us,TyRel G w t d us ns:=by
 unfold Wgr at h;split at h
 .obtain⟨us,_,h⟩:=h;exact⟨us,h⟩
 .exact⟨_,h⟩
def WfE(objs:WS):Ty->List Nat->Prop
 | .own e,ids=>∃(id:Nat) (ys:List e.den),ids= [id]/\Wc objs id=some (.arr e ys)
 | .prod a b,ids=>∃i1 i2,ids=i1++i2/\WfE objs a i1/\WfE objs b i2
 | .int _,ids=>ids= []
 | .bool,ids=>ids= []
 | .str,ids=>ids= []
 | .slice _,ids=>ids= []
theorem Wdk{objs:WS}:∀(t:Ty) (ids:List Nat),WfE objs t ids->ids.length=t.owns
 | .own e,ids,⟨id,ys,h,_⟩=>by rw[h];rfl
 | .prod a b,ids,⟨i1,i2,h,h1,h2⟩=>by rw[h,Xs,Wdk a _ h1,Wdk b _ h2];rfl
 | .int _,ids,h=>by have:ids= []:=h;rw[this];rfl
 | .bool,ids,h=>by have:ids= []:=h;rw[this];rfl
 | .str,ids,h=>by have:ids= []:=h;rw[this];rfl
 | .slice _,ids,h=>by have:ids= []:=h;rw[this];rfl
def KeptBox(objs:WS)(ν:Nat->Nu)(bx:List (Nat×CS))(t:Ty)(k:Kp)(nu:Nu):Prop:=
 ∃cs b,Wc objs k.id=some (.box cs)/\k.off+t.size<=cs.length/\(ν k.id).blk=some b/\nu=Wbh b ((ν k.id).off+k.off)/\(k.id,rng b ((ν k.id).off+k.off) t.size)∈bx
def KeptOk(objs:WS)(ν:Nat->Nu)(bx:List (Nat×CS)):List PTy->List Kp->List Nu->Prop
 | [],ids,ks=>ids= []/\ks= []
 | .v _ _::ps,ids,ks=>KeptOk objs ν bx ps ids ks
 | .box t::ps,ids,ks=>∃k aP nu ks',ids=k::aP/\ks=nu::ks'/\KeptBox objs ν bx t k nu/\KeptOk objs ν bx ps aP ks'
 | .mut e::ps,ids,ks=>∃(id:Nat) (aP:List Kp) (ks':List Nu) (ys:List e.den),ids=⟨id,0⟩::aP/\ks=ν id::ks'/\Wc objs id=some (.arr e ys)/\KeptOk objs ν bx ps aP ks'
 | .clos _ _::ps,ids,ks=>KeptOk objs ν bx ps ids ks
 | .kv t _::ps,ids,ks=>∃i1 i2 ks',ids=kp0 i1++i2/\ks=i1.map ν++ks'/\WfE objs t i1/\KeptOk objs ν bx ps i2 ks'
 | .rp _::ps,ids,ks=>KeptOk objs ν bx ps ids ks
 | .vj _::_,_,_=>False
 | .boxal t _::ps,ids,ks=>∃k aP nu ks',ids=k::aP/\ks=nu::ks'/\KeptBox objs ν bx t k nu/\KeptOk objs ν bx ps aP ks'
theorem KeptBox.mono{bx kd:List (Nat×CS)}{t:Ty}{k:Kp}{nu:Nu}(hb:∀p∈bx,p∈kd)(h:KeptBox objs ν bx t k nu):KeptBox objs ν kd t k nu:=by
 obtain⟨cs,b,h1,h2,h3,h4,h5⟩:=h;exact⟨cs,b,h1,h2,h3,h4,hb _ h5⟩
theorem KeptOk.mono{bx kd:List (Nat×CS)}(hb:∀p∈bx,p∈kd):∀(ps:List PTy) (ids:List Kp) (ks:List Nu),KeptOk objs ν bx ps ids ks->KeptOk objs ν kd ps ids ks
 | [],_,_,h=>h
 | .v _ _::ps,ids,ks,h=>KeptOk.mono hb ps ids ks h
 | .box t::ps,ids,ks,⟨k,aP,nu,ks',h1,h2,h3,h4⟩=>⟨k,aP,nu,ks',h1,h2,h3.mono hb,KeptOk.mono hb ps aP ks' h4⟩
 | .mut e::ps,ids,ks,⟨id,aP,ks',ys,h1,h2,h3,h4⟩=>⟨id,aP,ks',ys,h1,h2,h3,KeptOk.mono hb ps aP ks' h4⟩
 | .clos _ _::ps,ids,ks,h=>KeptOk.mono hb ps ids ks h
 | .kv t _::ps,ids,ks,⟨i1,i2,ks',h1,h2,h3,h4⟩=>⟨i1,i2,ks',h1,h2,h3,KeptOk.mono hb ps i2 ks' h4⟩
 | .rp _::ps,ids,ks,h=>KeptOk.mono hb ps ids ks h
 | .vj _::_,_,_,h=>h.elim
 | .boxal t _::ps,ids,ks,⟨k,aP,nu,ks',h1,h2,h3,h4⟩=>⟨k,aP,nu,ks',h1,h2,h3.mono hb,KeptOk.mono hb ps aP ks' h4⟩
def WiU(G:GH)(ν:Nat->Nu)(w:World)(aG:WS)(bx:List (Nat×CS))(ah:Nat)(id:Nat)(S:CS)(ob:Ob):Prop:=
 (∃iW off ds b us,Wc aG id=some (.box iW)/\ob= .box (WcH iW off ds)/\off+ds.length<=iW.length/\(ν id).blk=some b/\Mem w b ((ν id).off+off) us/\CellsRel G ν ah ds us/\
  S=rng b ((ν id).off+off) ds.length/\(id,rng b ((ν id).off+off) ds.length)∈bx)\/
 (∃(e:Ty) (ys xs:List e.den),Wc aG id=some (.arr e ys)/\ob= .arr e xs/\OwnL w (TyRel G w e) e.size (ν id) xs S)
theorem WeH(aG:WS){bx:List (Nat×CS)}{ah:Nat}:∀(t:Ty) (d:t.den) (us:List Value) (ns:List Pc) (ids:List Nat),TyRel G w t d us ns->nus ns=ids.map ν->WfE aG t ids->
  (∀id ob,Wc (Wbu t d ids) id=some ob->∃(j:Nat) (S:CS),ids[j]?=some id/\(fps ns)[j]?=some S/\WiU G ν w aG bx ah id S ob)/\∀id∈ids,∃ob,Wc (Wbu t d ids) id=some ob
 | .own e,d,us,ns,ids,⟨pc,h1,h2,h3⟩,hn,⟨id,ys,h,aL⟩=>by
  subst h h1;simp only[nus,Xaj,Xbh,List.cons.injEq,and_true]at hn;refine⟨λi ob hl=>?_,λi hi=>?_⟩
  .simp only[Wbu,Wl]at hl;split at hl
   .rename_i e3;subst e3;injection hl with hl;subst hl;exact⟨0,pc.fp,rfl,rfl,.inr ⟨e,ys,d,aL,rfl,by rw[←hn];exact h3⟩⟩
   .simp[Wc]at hl
  .rw[Xab.1 hi];exact⟨.arr e d,by simp[Wbu,Wc]⟩
 | .prod a b,d,us,ns,ids,⟨u1,u2,n1,n2,h1,h2,h3,h4⟩,hn,⟨i1,i2,h,r6,jn⟩=>by
  subst h h2;have bJ:=WL a _ _ _ h3;have gh:=Wdk a _ r6;simp only[nus,Xn]at hn;obtain⟨e1,e2⟩:=Xfo hn (by rw[Xz,Xz,bJ,gh]);have t1:(i1++i2).take a.owns=i1:=by rw[←gh];simp
  have t2:(i1++i2).drop a.owns=i2:=by rw[←gh];simp
  obtain⟨a1,a2⟩:=WeH aG (bx:=bx) (ah:=ah) a d.1 _ n1 i1 h3 e1 r6;obtain⟨b1,b2⟩:=WeH aG (bx:=bx) (ah:=ah) b d.2 _ n2 i2 h4 e2 jn;simp only[Wbu,t1,t2];refine⟨λi ob hl=>?_,λi hi=>?_⟩
  .rcases Wq hl with hl|hl
   .obtain⟨j,S,g1,g2,g3⟩:=a1 i ob hl;simp only[fps]at g2;refine⟨j,S,?_,?_,g3⟩
    .rw[Xav (Xr.1 g1).1];exact g1
    .simp only[fps,Xn];rw[Xav (Xr.1 g2).1];exact g2
   .obtain⟨j,S,g1,g2,g3⟩:=b1 i ob hl;simp only[fps]at g2;refine⟨i1.length+j,S,?_,?_,g3⟩
    .rw[Xas (by omega),Xay];exact g1
    .simp only[fps,Xn];rw[Xas (by rw[Xz,bJ,gh];omega),Xz,bJ,gh,Xay];exact g2
  .rcases Xk.1 hi with hi|hi
   .obtain⟨ob,ho⟩:=a2 i hi;exact⟨ob,by rw[Wa0,ho]⟩
   .obtain⟨ob,ho⟩:=b2 i hi;rw[Wa0];cases hq:Wc (Wbu a d.1 i1) i with
    |some bN=>exact⟨bN,rfl⟩
    |none=>exact⟨ob,ho⟩
 | .int _,d,us,ns,ids,hr,_,h=>by have:ids= []:=h;subst this;exact⟨λi ob hl=>by simp[Wbu,Wc]at hl,λi hi=>by simp at hi⟩
 | .bool,d,us,ns,ids,hr,_,h=>by have:ids= []:=h;subst this;exact⟨λi ob hl=>by simp[Wbu,Wc]at hl,λi hi=>by simp at hi⟩
 | .str,d,us,ns,ids,hr,_,h=>by have:ids= []:=h;subst this;exact⟨λi ob hl=>by simp[Wbu,Wc]at hl,λi hi=>by simp at hi⟩
 | .slice _,d,us,ns,ids,hr,_,h=>by have:ids= []:=h;subst this;exact⟨λi ob hl=>by simp[Wbu,Wc]at hl,λi hi=>by simp at hi⟩
theorem WfF:∀(t:Ty) (d:t.den) (ids:List Nat) (id:Nat) (ob:Ob),Wc (Wbu t d ids) id=some ob->id∈ids
 | .own e,d,ids,id,ob,h=>by
  cases ids with
  |nil=>simp[Wbu,Wc]at h
  |cons i l=>
   simp only[Wbu,Wl]at h;split at h
   .rename_i e;subst e;exact Xh ..
   .simp[Wc]at h
 | .prod a b,d,ids,id,ob,h=>by
  simp only[Wbu]at h;rcases Wq h with h|h
  .exact Xcf (WfF a d.1 _ id ob h)
  .exact Xdx (WfF b d.2 _ id ob h)
 | .int _,_,_,_,_,h=>by simp[Wbu,Wc]at h
 | .bool,_,_,_,_,h=>by simp[Wbu,Wc]at h
 | .str,_,_,_,_,h=>by simp[Wbu,Wc]at h
 | .slice _,_,_,_,_,h=>by simp[Wbu,Wc]at h
def kids(l:List Kp):List Nat:=l.map Kp.id
theorem Wfu(l:List Nat):kids (kp0 l)=l:=by simp[kids,kp0,Function.comp_def]
theorem Wah(aG:WS){bx:List (Nat×CS)}:∀(ps:List PTy) (o:Wd3 ps) (ids:List Kp) (ks:List Nu) (kf:List CS) (ms:List Pc) (objs:WS) (nx ah:Nat),WaT G w ps o ks kf ms->KeptOk aG ν bx ps ids ks->At ν φ nx ms->
  (kids ids).Nodup->(∀k∈ids,k.id<nx/\Wc objs k.id=Wc aG k.id)->nx+ms.length<=ah->
  (WU ps o ids objs nx).2=nx+ms.length/\kf.length=ids.length/\
  ∀id ob,Wc (WU ps o ids objs nx).1 id=some ob->(nx<=id/\id<nx+ms.length/\Wl3 G ν φ w id ob)\/(∃(j:Nat) (S:CS),(kids ids)[j]?=some id/\kf[j]?=some S/\WiU G ν w aG bx ah id S ob)\/(Wc objs id=some ob/\id∉kids ids)
 | [],o,ids,ks,kf,ms,objs,nx,ah,⟨_,h1,h2⟩,hk,_,_,_,_=>by subst h1 h2;obtain⟨hk,_⟩:=hk;subst hk;exact⟨rfl,rfl,λid ob hl=>.inr (.inr ⟨hl,by simp[kids]⟩)⟩
 | .v _ _::ps,o,ids,ks,kf,ms,objs,nx,ah,h,hk,hν,hn,hi,hx=>Wah aG ps o ids ks kf ms objs nx ah h hk hν hn hi hx
 | .box t::ps,o,ids,ks,kf,ms,objs,nx,ah,⟨b,off,ks',cx,n1,n2,h1,h2,h3,hb,h5⟩,hk,hν,hn,hi,hx=>putOuts_box aG t ps o.1 o.2 ids ks kf ms objs nx ah (λids ks kf ms objs nx ah=>Wah aG ps o.2 ids ks kf ms objs nx ah) ⟨b,off,ks',cx,n1,n2,h1,h2,h3,hb,h5⟩ hk hν hn hi hx
 | .vj _::_,_,_,_,_,_,_,_,_,h,_,_,_,_,_=>h.elim
 | .boxal t _::ps,o,ids,ks,kf,ms,objs,nx,ah,⟨b,off,ks',cx,n1,n2,h1,h2,h3,hb,h5⟩,hk,hν,hn,hi,hx=>putOuts_box aG t ps o.1 o.2 ids ks kf ms objs nx ah (λids ks kf ms objs nx ah=>Wah aG ps o.2 ids ks kf ms objs nx ah) ⟨b,off,ks',cx,n1,n2,h1,h2,h3,hb,h5⟩ hk hν hn hi hx
 | .mut e::ps,o,ids,ks,kf,ms,objs,nx,ah,⟨pc,ks',cx,h1,h2,h3,h4⟩,hk,hν,hn,hi,hx=>by
  obtain⟨id,aP,r7,ys,rfl,kJ,aL,dp⟩:=hk;rw[h1]at kJ;simp only[List.cons.injEq]at kJ;obtain⟨hνid,rfl⟩:=kJ;subst h2;have aH:=Xae.1 hn;obtain⟨e1,el,e2⟩:=Wah aG ps o.2 aP ks' cx ms ((id,.arr e o.1)::objs) nx ah h4 dp hν aH.2 (λk ke=>by
   obtain⟨g1,g2⟩:=hi k (Xe _ ke);have hne:id≠k.id:=λe=>aH.1 (by show id∈kids aP;rw[e];exact Xal ke);exact⟨g1,by rw[Wl,if_neg hne];exact g2⟩) hx
  simp only[WU];refine⟨e1,by simp[el],λi ob hl=>?_⟩;rcases e2 i ob hl with g|⟨j,S,g1,g2,g3⟩|⟨g,gn⟩
  .exact .inl g
  .exact .inr (.inl ⟨j+1,S,g1,g2,g3⟩)
  .rw[Wl]at g;split at g
   .rename_i e3;subst e3;injection g with g;subst g;exact .inr (.inl ⟨0,pc.fp,rfl,rfl,.inr ⟨e,ys,o.1,aL,rfl,by rw[←hνid];exact h3⟩⟩)
   .rename_i hne;exact .inr (.inr ⟨g,λhm=>by rcases Xm.1 hm with hm|hm;exact hne hm.symm;exact gn hm⟩)
 | .clos _ _::ps,o,ids,ks,kf,ms,objs,nx,ah,h,hk,hν,hn,hi,hx=>Wah aG ps o ids ks kf ms objs nx ah h hk hν hn hi hx
 | .rp _::ps,o,ids,ks,kf,ms,objs,nx,ah,h,hk,hν,hn,hi,hx=>Wah aG ps o ids ks kf ms objs nx ah h hk hν hn hi hx
 | .kv t agg::ps,o,ids,ks,kf,ms,objs,nx,ah,⟨n1,ks',cx,us,h1,h2,h3,h4⟩,⟨i1,i2,r7,bg,m6,ho,dp⟩,hν,hn,hi,hx=>by
  subst bg h2;have bJ:=WL t _ _ _ h3;have gh:=Wdk t _ ho;rw[h1]at m6;obtain⟨q1,q2⟩:=Xfo m6 (by simp[nus,bJ,gh]);subst q2;have oR:(kp0 i1).length=t.owns:=by simp[kp0,gh]
  have t1:((kp0 i1++i2).take t.owns).map Kp.id=i1:=by rw[←oR];simp;exact Wfu i1
  have t2:(kp0 i1++i2).drop t.owns=i2:=by rw[←oR];simp
  obtain⟨r1,r2⟩:=WeH (bx:=bx) (ah:=ah) aG t o.1 us n1 i1 h3 q1 ho;have iy:kids (kp0 i1++i2)=i1++kids i2:=by simp only[kids,Xn];congr 1;exact Wfu i1
  rw[iy]at hn;obtain⟨m1,m2,m3⟩:=Xaf.1 hn;obtain⟨e1,el,e2⟩:=Wah aG ps o.2 i2 ks' cx ms (Wbu t o.1 i1++objs) nx ah h4 dp hν m2 (λk ke=>by
   obtain⟨g1,g2⟩:=hi k (Xg _ ke);refine⟨g1,?_⟩;rw[Wa0];cases hq:Wc (Wbu t o.1 i1) k.id with
   |none=>exact g2
   |some ob=>exact absurd rfl (m3 _ (WfF t o.1 i1 _ ob hq) _ (Xal ke))) hx
  simp only[WU,t1,t2];have dQ:(fps n1).length=i1.length:=by simp[fps,bJ,gh]
  refine⟨e1,by simp[dQ,el,kp0],λi ob hl=>?_⟩;rw[iy];rcases e2 i ob hl with g|⟨j,S,g1,g2,g3⟩|⟨g,gn⟩
  .exact .inl g
  .refine .inr (.inl ⟨i1.length+j,S,?_,?_,g3⟩)
   .rw[Xas (by omega),Xay];exact g1
   .rw[Xas (by omega),dQ,Xay];exact g2
  .rw[Wa0]at g;cases hq:Wc (Wbu t o.1 i1) i with
   |some bN=>
    rw[hq]at g;injection g with g;subst g;obtain⟨j,S,g1,g2,g3⟩:=r1 i _ hq;refine .inr (.inl ⟨j,S,?_,?_,g3⟩)
    .rw[Xav (Xr.1 g1).1];exact g1
    .rw[Xav (Xr.1 g2).1];exact g2
   |none=>
    rw[hq]at g;refine .inr (.inr ⟨g,λoQ=>?_⟩);rcases Xk.1 oQ with h|h
    .obtain⟨bN,gm⟩:=r2 i h;rw[hq]at gm;cases gm
    .exact gn h
where
 putOuts_box (aG:WS) {bx:List (Nat×CS)} (t:Ty) (ps:List PTy) (o1:t.den) (o2:Wd3 ps) (ids:List Kp) (ks:List Nu) (kf:List CS) (ms:List Pc) (objs:WS) (nx ah:Nat)
   (ih:∀(ids:List Kp) (ks:List Nu) (kf:List CS) (ms:List Pc) (objs:WS) (nx ah:Nat),WaT G w ps o2 ks kf ms->KeptOk aG ν bx ps ids ks->At ν φ nx ms->
    (kids ids).Nodup->(∀k∈ids,k.id<nx/\Wc objs k.id=Wc aG k.id)->nx+ms.length<=ah->
    (WU ps o2 ids objs nx).2=nx+ms.length/\kf.length=ids.length/\
    ∀id ob,Wc (WU ps o2 ids objs nx).1 id=some ob->(nx<=id/\id<nx+ms.length/\Wl3 G ν φ w id ob)\/(∃(j:Nat) (S:CS),(kids ids)[j]?=some id/\kf[j]?=some S/\WiU G ν w aG bx ah id S ob)\/(Wc objs id=some ob/\id∉kids ids))
   (h:∃b off ks' cx n1 n2,ks=Wbh b off::ks'/\kf=rng b off t.size::cx/\ms=n1++n2/\WdH G w t o1 b off n1/\WaT G w ps o2 ks' cx n2)
   (hk:∃k aP nu ks',ids=k::aP/\ks=nu::ks'/\KeptBox aG ν bx t k nu/\KeptOk aG ν bx ps aP ks') (hν:At ν φ nx ms)
   (hn:(kids ids).Nodup) (hi:∀k∈ids,k.id<nx/\Wc objs k.id=Wc aG k.id) (hx:nx+ms.length<=ah):
   (WU (.box t::ps) (o1,o2) ids objs nx).2=nx+ms.length/\kf.length=ids.length/\
   ∀id ob,Wc (WU (.box t::ps) (o1,o2) ids objs nx).1 id=some ob->(nx<=id/\id<nx+ms.length/\Wl3 G ν φ w id ob)\/(∃(j:Nat) (S:CS),(kids ids)[j]?=some id/\kf[j]?=some S/\WiU G ν w aG bx ah id S ob)\/(Wc objs id=some ob/\id∉kids ids):=by
  obtain⟨b,off,ks',cx,n1,n2,h1,h2,h3,⟨us,_,hmem,fh⟩,h5⟩:=h;obtain⟨k,aP,nu,r7,rfl,kJ,⟨iW,b0,aL,bA,aM,iX,pP⟩,dp⟩:=hk;rw[h1]at kJ;simp only[List.cons.injEq]at kJ;obtain⟨mZ,rfl⟩:=kJ;rw[iX]at mZ;unfold Wbh at mZ;injection mZ with pQ uq;injection pQ with pQ;subst pQ uq h2 h3;have bJ:=WL t _ _ _ fh;have hlen:(n1++n2).length=t.owns+n2.length:=by rw[Xs,bJ]
  obtain⟨c1,r8⟩:=W0 t o1 nx us n1 fh hν.left;have aH:=Xae.1 hn;obtain⟨pR,iY⟩:=hi k (Xh ..);have cU:=Wbg t o1 nx;have mF:Wfh (Wc objs k.id) k.off (unfold t o1 nx).1= .box (WcH iW k.off (unfold t o1 nx).1):=by rw[iY,aL];rfl
  obtain⟨e1,el,e2⟩:=ih aP ks' cx n2 ((k.id,Wfh (Wc objs k.id) k.off (unfold t o1 nx).1)::((unfold t o1 nx).2.1++objs)) (nx+t.owns) ah h5 dp (hν.right bJ) aH.2 (λk' ke=>by
   obtain⟨g1,g2⟩:=hi k' (Xe _ ke);refine⟨by omega,?_⟩;rw[Wl,if_neg (λe=>aH.1 (by rw[e];exact Xal ke)),Wa0];cases hq:Wc (unfold t o1 nx).2.1 k'.id with
   |none=>exact g2
   |some ob=>have:=(r8 _ ob hq).1;omega) (by omega)
  simp only[WU,Wae];refine⟨by rw[e1,hlen];omega,by simp[el],λi ob hl=>?_⟩;rcases e2 i ob hl with⟨g1,g2,g3⟩|⟨j,S,g1,g2,g3⟩|⟨g,gn⟩
  .exact .inl ⟨by omega,by omega,g3⟩
  .exact .inr (.inl ⟨j+1,S,g1,g2,g3⟩)
  .rw[Wl]at g;split at g
   .rename_i e3;subst e3;injection g with g;rw[mF]at g;subst g;refine .inr (.inl ⟨0,_,rfl,rfl,.inl ⟨iW,k.off,_,_,us,aL,rfl,by rw[cU];exact bA,aM,hmem,c1 ah (by omega),by rw[cU],by rw[cU];exact pP⟩⟩)
   .rename_i hne;rcases Wq g with g|g
    .obtain⟨g1,g2,g3⟩:=r8 i ob g;exact .inl ⟨g1,by omega,g3⟩
    .exact .inr (.inr ⟨g,λhm=>by rcases Xm.1 hm with hm|hm;exact hne hm.symm;exact gn hm⟩)
def Wqq(G:GH)(ν:Nat->Nu)(φ:Nat->CS)(w:World)(ah:Nat)(id:Nat)(ob:Ob):Prop:=
 Wl3 G ν φ w id ob\/∃cs b us,ob= .box cs/\(ν id).blk=some b/\Row w b ((ν id).off+cs.length)/\Mem w b (ν id).off us/\CellsRel G ν ah cs us/\CS.le (rng b (ν id).off cs.length) (φ id)
theorem WcD:∀(rs:List PTy) (d:WeW rs) (vs:List Value) (ns:List Pc) (objs:WS) (nx ah:Nat),Wd5 G w rs d vs ns->At ν φ nx ns->nx+ns.length<=ah->
  (WaN rs d objs nx).2.2=nx+ns.length/\
  (∀id ob,Wc (WaN rs d objs nx).2.1 id=some ob->(nx<=id/\id<nx+ns.length/\Wqq G ν φ w ah id ob)\/Wc objs id=some ob)/\
  Wn9 G ν ah (WaN rs d objs nx).1 vs
 | [],d,vs,ns,objs,nx,ah,⟨h1,h2⟩,_,_=>by subst h1 h2;exact⟨rfl,λid ob hl=>.inr hl,rfl,λj x v hj=>by simp[WaN]at hj⟩
 | .v t agg::rs,d,vs,ns,objs,nx,ah,⟨v,vs',n1,n2,h1,h2,h3,h4⟩,hν,hx=>by
  subst h2;obtain⟨us,hC⟩:=Wkp h3;have bJ:=WL _ _ _ _ hC;have hlen:(n1++n2).length=t.owns+n2.length:=by rw[Xs,bJ]
  obtain⟨_,o1⟩:=W0 t d.1 nx us n1 hC hν.left;obtain⟨e1,e2,e4,e5⟩:=WcD rs d.2 vs' n2 ((unfold t d.1 nx).2.1++objs) (nx+t.owns) ah h4 (hν.right bJ) (by omega);simp only[WaN,Wae];refine⟨by rw[e1,hlen];omega,λi ob hl=>?_,?_⟩
  .rcases e2 i ob hl with⟨g1,g2,g3⟩|g
   .exact .inl ⟨by omega,by omega,g3⟩
   .rcases Wq g with g|g
    .obtain⟨g1,g2,g3⟩:=o1 i ob g;exact .inl ⟨g1,by omega,.inl g3⟩
    .exact .inr g
  .rw[h1];refine⟨by simp[e4],λj x u hj hu=>?_⟩;cases j with
   |zero=>simp at hj hu;subst hj hu;exact Wh4 h3 hν.left (by omega)
   |succ j=>exact e5 j x u (by simpa using hj) (by simpa using hu)
 | .box t::rs,d,vs,ns,objs,nx,ah,⟨b,o,vs',n1,n2,h1,h2,⟨us,hrow,hmem,fh⟩,h5⟩,hν,hx=>by
  subst h2;have bJ:=WL _ _ _ _ fh;have hlen:((⟨Wbh b o,rng b o t.size⟩:Pc)::(n1++n2)).length=1+t.owns+n2.length:=by rw[List.length_cons,Xs,bJ];omega
  obtain⟨hν0,hφ0⟩:ν nx=Wbh b o/\φ nx=rng b o t.size:=by have:=hν 0 _ rfl;simpa using this
  have hν1:At ν φ (nx+1) (n1++n2):=hν.right (n1:=[⟨Wbh b o,rng b o t.size⟩]) rfl;obtain⟨c1,o1⟩:=W0 t d.1 (nx+1) us n1 fh hν1.left;obtain⟨e1,e2,e4,e5⟩:=WcD rs d.2 vs' n2 ((nx,.box (unfold t d.1 (nx+1)).1)::((unfold t d.1 (nx+1)).2.1++objs)) (nx+1+t.owns) ah h5 (hν1.right bJ) (by omega);have cU:=Wbg t d.1 (nx+1);simp only[WaN,Wae];refine⟨by rw[e1,hlen];omega,λid ob hl=>?_,?_⟩
  .rcases e2 id ob hl with⟨g1,g2,g3⟩|g
   .exact .inl ⟨by omega,by omega,g3⟩
   .rw[Wl]at g;split at g
    .rename_i e;subst e;injection g with g;subst g;refine .inl ⟨Xl _,by omega,.inr ⟨_,b,us,rfl,by rw[hν0];rfl,?_,?_,c1 ah (by omega),?_⟩⟩
     .rw[hν0,cU];exact hrow
     .rw[hν0];exact hmem
     .rw[hν0,cU,hφ0];exactλ_ _ hh=>hh
    .rcases Wq g with g|g
     .obtain⟨g1,g2,g3⟩:=o1 id ob g;exact .inl ⟨by omega,by omega,.inl g3⟩
     .exact .inr g
  .rw[h1];refine⟨by simp[e4],λj x u hj hu=>?_⟩;cases j with
   |zero=>
    simp at hj hu;subst hj hu;exact⟨⟨by omega,b,by rw[hν0];rfl,by rw[hν0];rfl⟩,rfl⟩
   |succ j=>exact e5 j x u (by simpa using hj) (by simpa using hu)
 | .mut _::_,_,_,_,_,_,_,h,_,_=>h.elim
 | .clos _ _::_,_,_,_,_,_,_,h,_,_=>h.elim
 | .kv _ _::_,_,_,_,_,_,_,h,_,_=>h.elim
 | .rp _::_,_,_,_,_,_,_,h,_,_=>h.elim
 | .vj t::rs,d,vs,ns,objs,nx,ah,⟨us,u,vs',n1,n2,h1,h0,h2,h3,h4⟩,hν,hx=>by
  subst h2;have bJ:=WL _ _ _ _ h3;have hlen:(n1++n2).length=t.owns+n2.length:=by rw[Xs,bJ]
  obtain⟨c1,o1⟩:=W0 t d.1 nx us n1 h3 hν.left;obtain⟨e1,e2,e4,e5⟩:=WcD rs d.2 vs' n2 ((unfold t d.1 nx).2.1++objs) (nx+t.owns) ah h4 (hν.right bJ) (by omega);simp only[WaN,Wae];refine⟨by rw[e1,hlen];omega,λi ob hl=>?_,?_⟩
  .rcases e2 i ob hl with⟨g1,g2,g3⟩|g
   .exact .inl ⟨by omega,by omega,g3⟩
   .rcases Wq g with g|g
    .obtain⟨g1,g2,g3⟩:=o1 i ob g;exact .inl ⟨g1,by omega,.inl g3⟩
    .exact .inr g
  .rw[h1];refine⟨by simp[e4],λj x v hj hv=>?_⟩;cases j with
   |zero=>simp at hj hv;subst hj hv;exact⟨us++ [u],rfl,(c1 ah (by omega)).append (CellsRel.one trivial h0)⟩
   |succ j=>exact e5 j x v (by simpa using hj) (by simpa using hv)
 | .boxal _ _::_,_,_,_,_,_,_,h,_,_=>h.elim
theorem Wno{xs:List AV}{vs:List Value}(h:Wn9 G ν nx xs vs):AValRel G ν nx (WqO xs) (Wfy vs):=by
 obtain⟨h1,h2⟩:=h
 match xs,vs,h1 with
 | [],[],_=>exact⟨[],rfl,rfl,λj x v hj=>by simp at hj⟩
 | [x],[v],_=>exact h2 0 x v rfl rfl
 |x::y::xs,v::u::vs,h1=>exact⟨v::u::vs,rfl,h1,h2⟩
end
end Go.Sx
namespace Go.Sx
set_option linter.unusedVariables false
set_option linter.unusedSimpArgs false
theorem Waf(i:Nat):∀l:List Nat,Wba i l=true↔i∈l
 | []=>by simp[Wba]
 |j::l=>by
  simp only[Wba,Bool.or_eq_true,Waf i l,Xm];rw[show(Nat.beq i j=true)=(i=j)from by simp]
theorem Wdt:∀l:List Nat,WaQ l=true↔l.Nodup
 | []=>by simp[WaQ]
 |i::l=>by
  have h:=Waf i l;simp only[WaQ,Xi,Xam,Xae,Wdt l];constructor
  .rintro⟨h1,h2⟩;exact⟨λhm=>(by rw[h.2 hm]at h1;exact absurd h1 (by simp)),h2⟩
  .rintro⟨h1,h2⟩;refine⟨?_,h2⟩;cases he:Wba i l with
   |false=>rfl
   |true=>exact absurd (h.1 he) h1
theorem WiD{l m:List Nat}(h:WeT l m=true):∀i∈l,i∉m:=λi hi hm=>by
 unfold WeT at h;have:=Xai.1 h i hi;rw[(Waf i m).2 hm]at this;cases this
section
variable{w0:World}{F:CS}{nt:Slots}{G0 G G':GH}{ν:Nat->Nu}{φ:Nat->CS}{objs:WS}{nx:Nat}{st af:St}{a:Act}{w w':World}{P:Program}{T:Tab}
theorem Wid(h:HR w0 F G ν φ objs nx w){t:Ty}{agg:Bool}{x:AVal}{v:Value}{cs:List Cell}{d:t.den}{m l:List Nat}(hg:GLe G G')(hx:AValRel G ν nx x v)(hl:Lent G' w φ objs l)(hm:m.Nodup)
  (hc:cellsOf agg x=some cs) (hf:WZ t cs objs=some (d,m,l)):∃ns,Wgr G' w t agg d v ns/\Sep (fps ns)/\(∀p∈ns,CS.le p.fp (FromL φ objs m))/\(∀i∈m,Live objs i)/\(∀i∈l,Live objs i):=by
 unfold cellsOf at hc;split at hc
 .split at hc
  .cases hc
  .rename_i c ha;injection hc with hc;subst hc;obtain⟨ns,h1,h2,h3,h4,h5,_⟩:=WT h hg t [c] [v] d m l (CellsRel.one hx.1 hx.2) hl hm hf;refine⟨ns,?_,h2,h3,h4,h5⟩;unfold Wgr;rw[if_neg ha];exact h1
 .split at hc
  .rename_i ds ha;injection hc with hc;subst hc;obtain⟨us,rfl,aX⟩:=hx;obtain⟨ns,h1,h2,h3,h4,h5,_⟩:=WT h hg t ds us d m l aX hl hm hf;refine⟨ns,?_,h2,h3,h4,h5⟩;unfold Wgr;rw[if_pos ha];exact⟨us,rfl,h1⟩
  .cases hc
 .cases hc
def Wqz(objs:WS)(m:List Nat):Prop:=∀i∈m,∃(e:Ty) (xs:List e.den),Wc objs i=some (.arr e xs)
theorem Wfq:∀(t:Ty) (cs:List Cell) (d:t.den) (m l:List Nat),Wqz objs m->WZ t cs objs=some (d,m,l)->m.length<=t.owns
 | .prod a b,cs,d,m,l,ha,h=>by
  simp only[WZ]at h;split at h
  .rename_i x m1 l1 y m2 l2 h1 h2;simp only[Option.some.injEq,Prod.mk.injEq]at h;obtain⟨rfl,rfl,rfl⟩:=h;have:=Wfq a _ _ _ _ (λi hi=>ha i (Xj _ hi)) h1;have:=Wfq b _ _ _ _ (λi hi=>ha i (Xg _ hi)) h2;rw[Xs];show _<=a.owns+b.owns;omega
  .simp at h
 | .own e,cs,d,m,l,ha,h=>by
  simp only[WZ]at h;split at h
  .rename_i id;obtain⟨⟨ys,m'⟩,ho,hf⟩:=Xw.1 h;simp only[Prod.mk.injEq]at hf;obtain⟨rfl,rfl,rfl⟩:=hf;unfold Wom at ho;split at ho
   .obtain⟨zs,_,ho⟩:=Xw.1 ho;obtain⟨_,rfl⟩:=Prod.mk.inj ho;exact Xl 1
   .rename_i e' xs i p aL;split at ho
    .split at ho
     .simp only[Option.some.injEq,Prod.mk.injEq]at ho;obtain⟨_,rfl⟩:=ho;obtain⟨e2,ur,h2⟩:=ha id (Xh ..);rw[aL]at h2;cases h2
     .simp at ho
    .simp at ho
   .simp at ho
  .split at h
   .obtain⟨zs,_,h⟩:=Xw.1 h;have h2:=(Prod.mk.inj (Prod.mk.inj h).2).1;subst h2;exact Xl 1
   .simp at h
  .simp only[Option.some.injEq,Prod.mk.injEq]at h;obtain⟨rfl,rfl,rfl⟩:=h;exact Xbk _
  .simp at h
 | .slice e,cs,d,m,l,_,h=>by
  have hm:m= []:=by
   simp only[WZ]at h;split at h
   .obtain⟨q,_,h⟩:=Xw.1 h;exact((Prod.mk.inj (Prod.mk.inj h).2).1).symm
   .split at h
    .obtain⟨q,_,h⟩:=Xw.1 h;exact((Prod.mk.inj (Prod.mk.inj h).2).1).symm
    .simp at h
   .injection h with h;exact((Prod.mk.inj (Prod.mk.inj h).2).1).symm
   .obtain⟨q,_,h⟩:=Xw.1 h;exact((Prod.mk.inj (Prod.mk.inj h).2).1).symm
   .simp at h
  rw[hm];exact Xbk _
 | .int k,cs,d,m,l,_,h=>by
  simp only[WZ]at h;split at h
  .obtain⟨q,hq,h⟩:=Xw.1 h;simp only[Prod.mk.injEq]at h;obtain⟨rfl,rfl,rfl⟩:=h;exact Xl 0
  .simp at h
 | .bool,cs,d,m,l,_,h=>by
  simp only[WZ]at h;split at h
  .obtain⟨q,hq,h⟩:=Xw.1 h;simp only[Prod.mk.injEq]at h;obtain⟨rfl,rfl,rfl⟩:=h;exact Xl 0
  .simp at h
 | .str,cs,d,m,l,_,h=>by
  simp only[WZ]at h;split at h
  .obtain⟨q,hq,h⟩:=Xw.1 h;simp only[Prod.mk.injEq]at h;obtain⟨rfl,rfl,rfl⟩:=h;exact Xl 0
  .simp at h
theorem Wds(h:HR w0 F G ν φ objs nx w)(hg:GLe G G'){t:Ty}(ht:t.owns=0){cs:List Cell}{vs:List Value}{d:t.den}{m l:List Nat}(hc:CellsRel G ν nx cs vs)(hl:Lent G' w φ objs l)(hf:WZ t cs objs=some (d,m,l))(hm:m= []):TyRel G' w t d vs []:=by
 subst hm;obtain⟨ns,h1,_⟩:=WT h hg t cs vs d [] l hc hl Xcw hf;have:=WL _ _ _ _ h1;rw[ht]at this;rw[Xx this]at h1;exact h1
def pcs(ν:Nat->Nu)(φ:Nat->CS)(m:List Nat):List Pc:=m.map λi=>⟨ν i,φ i⟩
theorem WpP(m:List Nat):nus (pcs ν φ m)=m.map ν:=by simp[nus,pcs,Function.comp_def]
theorem WkA(m:List Nat):fps (pcs ν φ m)=m.map φ:=by simp[fps,pcs,Function.comp_def]
theorem Wdn(h:HR w0 F G ν φ objs nx w)(hg:GLe G G'):∀(t:Ty) (cs:List Cell) (vs:List Value) (d:t.den) (m l:List Nat),CellsRel G ν nx cs vs->Lent G' w φ objs l->(∀c∈cs,Wmw c=true)->Wqz objs m->
  WZ t cs objs=some (d,m,l)->m.length=t.owns->TyRel G' w t d vs (pcs ν φ m)/\WfE objs t m
 | .prod a b,cs,vs,d,m,l,hc,hl,hw,ha,hf,hm=>by
  have hf0:=hf;simp only[WZ]at hf;split at hf
  .rename_i x m1 l1 y m2 l2 h1 h2;simp only[Option.some.injEq,Prod.mk.injEq]at hf;obtain⟨rfl,rfl,rfl⟩:=hf;have r9:Wqz objs m1:=λi hi=>ha i (Xj _ hi);have sa:Wqz objs m2:=λi hi=>ha i (Xg _ hi);have q1:=Wfq a _ _ _ _ r9 h1;have q2:=Wfq b _ _ _ _ sa h2;rw[Xs]at hm;have oS:m1.length+m2.length=a.owns+b.owns:=hm;obtain⟨g1,g2⟩:=Wdn h hg a _ (vs.take a.size) x m1 l1 (hc.take _) (hl.mono (by simp;intro i hi;exact .inl hi)) (λc hc=>hw c (Xcf hc)) r9 h1 (by omega);obtain⟨g3,g4⟩:=Wdn h hg b _ (vs.drop a.size) y m2 l2 (hc.drop _) (hl.mono (by simp;intro i hi;exact .inr hi)) (λc hc=>hw c (Xdx hc)) sa h2 (by omega);exact⟨⟨_,_,pcs ν φ m1,pcs ν φ m2,(Xcm a.size vs).symm,by simp[pcs],g1,g3⟩,m1,m2,rfl,g2,g4⟩
  .simp at hf
 | .own e,cs,vs,d,m,l,hc,hl,hw,ha,hf,hm=>by
  simp only[WZ]at hf;split at hf
  .rename_i id;obtain⟨v,rfl,⟨_,hv⟩,_⟩:=hc.single;subst hv;obtain⟨⟨ys,m'⟩,ho,hf⟩:=Xw.1 hf;simp only[Prod.mk.injEq]at hf;obtain⟨rfl,rfl,rfl⟩:=hf;unfold Wom at ho;split at ho
   .rename_i e' xs aL;obtain⟨zs,aZ,ho⟩:=Xw.1 ho;obtain⟨rfl,rfl⟩:=Prod.mk.inj ho;obtain⟨he,hy⟩:=W1 aZ;subst he;simp only at hy;subst hy;have ax:OwnL w (TyRel G w e') e'.size (ν id) xs (φ id):=h.ob _ _ aL;exact⟨⟨⟨ν id,φ id⟩,rfl,rfl,WbU hg (Same.refl _ w) (λ_ _ hh=>hh) ax⟩,id,xs,rfl,aL⟩
   .rename_i e' xs i p aL;split at ho
    .split at ho
     .simp only[Option.some.injEq,Prod.mk.injEq]at ho;obtain⟨_,rfl⟩:=ho;obtain⟨e2,ur,h2⟩:=ha id (Xh ..);rw[aL]at h2;cases h2
     .simp at ho
    .simp at ho
   .simp at ho
  .have:=hw _ (Xab.2 rfl);cases this
  .simp only[Option.some.injEq,Prod.mk.injEq]at hf;obtain⟨rfl,rfl,rfl⟩:=hf;exact absurd hm (by show¬(0=1);omega)
  .simp at hf
 | .slice e,cs,vs,d,m,l,hc,hl,hw,ha,hf,hm=>by
  have iz:m= []:=Xx hm;have:=Wds h hg (t:=.slice e) rfl hc hl hf iz;subst iz;exact⟨this,rfl⟩
 | .int k,cs,vs,d,m,l,hc,hl,hw,ha,hf,hm=>by
  have iz:m= []:=Xx hm;have:=Wds h hg (t:=.int k) rfl hc hl hf iz;subst iz;exact⟨this,rfl⟩
 | .bool,cs,vs,d,m,l,hc,hl,hw,ha,hf,hm=>by
  have iz:m= []:=Xx hm;have:=Wds h hg (t:=.bool) rfl hc hl hf iz;subst iz;exact⟨this,rfl⟩
 | .str,cs,vs,d,m,l,hc,hl,hw,ha,hf,hm=>by
  have iz:m= []:=Xx hm;have:=Wds h hg (t:=.str) rfl hc hl hf iz;subst iz;exact⟨this,rfl⟩
theorem Wl2{t:Ty}{m:List Nat}{x:AVal}(h:WiS objs t m x=true):m.length=t.owns/\WpF x=true/\Wqz objs m:=by
 unfold WiS at h;simp only[Xi,decide_eq_true_eq,Xai]at h;obtain⟨⟨h1,h2⟩,h3⟩:=h;refine⟨h1,h2,λi hi=>?_⟩;have:=h3 i hi;split at this
 .rename_i e xs hl;exact⟨e,xs,hl⟩
 .cases this
theorem WiG(h:HR w0 F G ν φ objs nx w){t:Ty}{agg:Bool}{x:AVal}{v:Value}{cs:List Cell}{d:t.den}{m l:List Nat}(hg:GLe G G')(hx:AValRel G ν nx x v)(hl:Lent G' w φ objs l)
  (hc:cellsOf agg x=some cs) (hf:WZ t cs objs=some (d,m,l)) (ha:WiS objs t m x=true):Wgr G' w t agg d v (pcs ν φ m)/\WfE objs t m:=by
 obtain⟨hm,hw,eR⟩:=Wl2 ha;unfold cellsOf at hc;split at hc
 .split at hc
  .cases hc
  .rename_i c cT;injection hc with hc;subst hc;obtain⟨h1,h2⟩:=Wdn h hg t [c] [v] d m l (CellsRel.one hx.1 hx.2) hl (λc' eE=>by rw[Xab.1 eE];exact hw) eR hf hm;refine⟨?_,h2⟩;unfold Wgr;rw[if_neg cT];exact h1
 .split at hc
  .rename_i ds cT;injection hc with hc;subst hc;obtain⟨us,rfl,aX⟩:=hx;obtain⟨h1,h2⟩:=Wdn h hg t ds us d m l aX hl (λc' eE=>Xai.1 hw c' eE) eR hf hm;refine⟨?_,h2⟩;unfold Wgr;rw[if_pos cT];exact⟨us,rfl,h1⟩
  .cases hc
 .cases hc
def Tk(φ:Nat->CS)(objs:WS)(bx:List (Nat×CS))(l:List Nat):CS:=λb o=>∃i∈l,Live objs i/\φ i b o/\∀p∈bx,p.1=i->p.2 b o
structure AOk(G':GH)(ν:Nat->Nu)(φ:Nat->CS)(objs:WS)(w:World)(ps:List PTy)(A:Args ps)(vs:List Value)(ns:List Pc)(ks:List Nu)(bx:List (Nat×CS)):Prop where
 args:WaI G' w ps A.d vs ns ks
 kept:KeptOk objs ν bx ps A.kept ks
 sep:Sep (fps ns)
 tk:∀q∈ns,CS.le q.fp (Tk φ objs bx A.all)
 bx:∀p∈bx,p.1∈A.all
 live:∀i∈A.all,Live objs i
 lent:∀i∈A.lent,Live objs i
 mv:∀i∈A.moved,i∈A.all
 mvk:∀i∈A.all,i∈A.moved\/i∈kids A.kept
 sub:(kids A.kept).Sublist A.all
 dis:∀i∈kids A.kept,i∉A.moved
theorem Wgi{bx:List (Nat×CS)}{l:List Nat}:CS.le (Tk φ objs bx l) (FromL φ objs l):=λb o ⟨i,hi,h1,h2,_⟩=>⟨i,hi,h1,h2⟩
theorem Whw{bx kd:List (Nat×CS)}{l l':List Nat}(hl:∀i∈l,i∈l')(hb:∀p∈kd,p∈bx\/p.1∉l):CS.le (Tk φ objs bx l) (Tk φ objs kd l'):=λb o ⟨i,hi,h1,h2,h3⟩=>
 ⟨i,hl i hi,h1,h2,λp hp e=>by
  rcases hb p hp with h|h
  .exact h3 p h e
  .exact absurd (by rw[e];exact hi) h⟩
theorem Wka{bx:List (Nat×CS)}{m l:List Nat}(hm:∀i∈m,i∈l)(hb:∀p∈bx,p.1∉m):CS.le (FromL φ objs m) (Tk φ objs bx l):=λb o ⟨i,hi,h1,h2⟩=>
 ⟨i,hm i hi,h1,h2,λp hp e=>absurd (by rw[e];exact hi) (hb p hp)⟩
theorem Wbn(h:HR w0 F G ν φ objs nx w){n1 n2:List Pc}{m l:List Nat}(h1:Sep (fps n1))(h2:Sep (fps n2))(g1:∀q∈n1,CS.le q.fp (FromL φ objs m))(g2:∀q∈n2,CS.le q.fp (FromL φ objs l))(hd:∀i∈m,i∉l):Sep (fps (n1++n2)):=by
 unfold fps;rw[Xn];refine Wkm h1 h2 (A:=FromL φ objs m) (B:=FromL φ objs l) (λs hs=>?_) (λs hs=>?_) (FromL.disj h hd)
 .obtain⟨p,hp,rfl⟩:=Xu.1 hs;exact g1 p hp
 .obtain⟨p,hp,rfl⟩:=Xu.1 hs;exact g2 p hp
theorem WkK(h:HR w0 F G ν φ objs nx w)(hg:GLe G G'){t:Ty}{ps:List PTy}{id off:Nat}{cs:List Cell}{d:t.den}{m:List Nat}{A:Args ps}{vs:List Value}{ns:List Pc}{ks:List Nu}{bx:List (Nat×CS)}{v:Value}
  (hv:CellRel G ν nx (.ptr id off) v) (aL:Wc objs id=some (.box cs)) (hf:WZ t ((cs.drop off).take t.size) objs=some (d,m,[])) (aH:(id::(m++A.all)).Nodup) (hA:AOk G' ν φ objs w ps A vs ns ks bx):
  ∃b n1,v= .pointer (some ⟨b,(ν id).off+off,none⟩)/\(ν id).blk=some b/\WdH G' w t d b ((ν id).off+off) n1/\Leaf ν t ((cs.drop off).take t.size) n1/\
   KeptBox objs ν ((id,rng b ((ν id).off+off) t.size)::bx) t ⟨id,off⟩ (Wbh b ((ν id).off+off))/\KeptOk objs ν ((id,rng b ((ν id).off+off) t.size)::bx) ps A.kept ks/\
   Sep (fps (⟨Wbh b ((ν id).off+off),rng b ((ν id).off+off) t.size⟩::(n1++ns)))/\
   (∀q∈(⟨Wbh b ((ν id).off+off),rng b ((ν id).off+off) t.size⟩:Pc)::(n1++ns),CS.le q.fp (Tk φ objs ((id,rng b ((ν id).off+off) t.size)::bx) (id::(m++A.all))))/\
   (∀p∈(id,rng b ((ν id).off+off) t.size)::bx,p.1∈id::(m++A.all))/\(∀i∈id::(m++A.all),Live objs i)/\
   (∀i∈m++A.moved,i∈id::(m++A.all))/\(∀i∈id::(m++A.all),i∈m++A.moved\/i∈id::kids A.kept)/\(id::kids A.kept).Sublist (id::(m++A.all))/\(∀i∈id::kids A.kept,i∉m++A.moved):=by
 obtain⟨bg,b,aM,rfl⟩:=hv;obtain⟨n1,n2⟩:=Xae.1 aH;obtain⟨n3,n4,n5⟩:=Xaf.1 n2;have aC:Live objs id:=⟨_,aL,by simp⟩;obtain⟨b',us,hb',hrow,hmem,aX,dC⟩:Wbx G ν nx w id (φ id) (.box cs):=h.ob _ _ aL;rw[aM]at hb';injection hb' with hb';subst hb';obtain⟨q1,t1,t2,t3,t4,_,t5⟩:=WT h hg t _ ((us.drop off).take t.size) d m [] ((aX.drop off).take _) (λi hi=>by simp at hi) n3 hf;have hlen:=Wk _ _ _ _ t1;have bA:off+t.size<=cs.length:=by
  have:=aX.1;rw[Xau,Xcu]at hlen;have:=WaR t;omega
 have eG:CS.le (rng b ((ν id).off+off) t.size) (φ id):=λb' o ⟨k0,k1,k2⟩=>dC b' o ⟨k0,by omega,by omega⟩;refine⟨b,q1,rfl,aM,⟨_,?_,?_,t1⟩,t5,⟨cs,b,aL,bA,aM,rfl,Xh ..⟩,KeptOk.mono (λp hp=>Xe _ hp) _ _ _ hA.kept,?_,?_,?_,?_,?_,?_,?_,?_⟩
 .obtain⟨row,TT,r1,r2⟩:=hrow;exact⟨row,TT,r1,by omega⟩
 .intro j v hj;rw[Xbb]at hj;split at hj
  .rw[Xbc]at hj;rw[Xan];exact hmem _ v hj
  .simp at hj
 .have s1:=Wbn h t2 hA.sep t3 (λq hq b o hh=>Wgi b o (hA.tk q hq b o hh)) (λi hi hj=>n5 i hi i hj rfl);refine Xy.2 ⟨λs hs=>?_,s1⟩;obtain⟨p,hp,rfl⟩:=Xu.1 hs;refine CS.disj.mono (FromL.disj h (m:=[id]) (m':=m++A.all) (λi hi hj=>n1 (by rw[←Xab.1 hi];exact hj))) (λb o hh=>⟨id,by simp,aC,eG b o hh⟩) (λb o hh=>?_);rcases Xk.1 hp with hp|hp
  .exact FromL.mono (λi hi=>Xj _ hi) b o (t3 p hp b o hh)
  .exact FromL.mono (λi hi=>Xg _ hi) b o (Wgi b o (hA.tk p hp b o hh))
 .intro q hq;rcases Xm.1 hq with rfl|hq
  .exactλb o hh=>⟨id,Xh ..,aC,eG b o hh,λp hp e=>by
    rcases Xm.1 hp with rfl|hp
    .exact hh
    .exact absurd (Xg _ (by rw[←e];exact hA.bx p hp)) n1⟩
  .rcases Xk.1 hq with hq|hq
   .refineλb o hh=>Wka (m:=m) (λi hi=>Xe _ (Xj _ hi)) (λp hp hm=>?_) b o (t3 q hq b o hh)
    rcases Xm.1 hp with rfl|hp
    .exact n1 (Xj _ hm)
    .exact n5 _ hm _ (hA.bx p hp) rfl
   .refineλb o hh=>Whw (λi hi=>Xe _ (Xg _ hi)) (λp hp=>?_) b o (hA.tk q hq b o hh)
    rcases Xm.1 hp with rfl|hp
    .exact .inr (λhm=>n1 (Xg _ hm))
    .exact .inl hp
 .intro p hp;rcases Xm.1 hp with rfl|hp
  .exact Xh ..
  .exact Xe _ (Xg _ (hA.bx p hp))
 .intro i hi;rcases Xm.1 hi with rfl|hi
  .exact aC
  .rcases Xk.1 hi with hi|hi
   .exact t4 i hi
   .exact hA.live i hi
 .intro i hi;rcases Xk.1 hi with hi|hi
  .exact Xe _ (Xj _ hi)
  .exact Xe _ (Xg _ (hA.mv i hi))
 .intro i hi;rcases Xm.1 hi with rfl|hi
  .exact .inr (Xh ..)
  .rcases Xk.1 hi with hi|hi
   .exact .inl (Xj _ hi)
   .rcases hA.mvk i hi with hi|hi
    .exact .inl (Xg _ hi)
    .exact .inr (Xe _ hi)
 .exact List.Sublist.cons_cons _ (List.Sublist.trans hA.sub (Xfg _ _))
 .intro i hi hm;rcases Xm.1 hi with rfl|hi
  .rcases Xk.1 hm with hm|hm
   .exact n1 (Xj _ hm)
   .exact n1 (Xg _ (hA.mv _ hm))
  .rcases Xk.1 hm with hm|hm
   .exact n5 _ hm _ (hA.sub.subset hi) rfl
   .exact hA.dis i hi hm
theorem WlG(h:HR w0 F G ν φ objs nx w){c:Cell}{y:AVal}{i:Nat}{u:Value}(hy:AValRel G ν nx y u)(he:Wn2 objs c y=some i):
  ∃r b,c= .own r/\(ν r).blk=some b/\i<(ν r).len/\u= .pointer (some ⟨b,(ν r).off+(i*(ν r).esz+0),none⟩):=by
 unfold Wn2 at he;split at he
 .rename_i r p off;split at he
  .rename_i e xs j p' aL;split at he
   .rename_i hp;injection he with he;subst he;have hp:=Xbt hp;subst hp;obtain⟨kB,k1,k2,k3,b,k4,k5,k6,_⟩:p<nx/\Wfm w (TyRel G w e) e.size (ν r) (ν p) xs j (φ r):=h.ob _ _ aL;obtain⟨⟨_,b',hb',rfl⟩,_⟩:=hy;rw[k5]at hb';injection hb' with hb';subst hb';exact⟨r,b,rfl,k4,by omega,by rw[k6,k2,Xat,Xat]⟩
   .simp at he
  .simp at he
 .rename_i r r' j off;split at he
  .rename_i e xs aL;split at he
   .rename_i hp;injection he with he;subst he;have hp:=Xbt hp;subst hp;obtain⟨⟨_,hlt,b,hb,rfl⟩,_⟩:=hy;exact⟨r,b,rfl,hb,hlt,rfl⟩
   .simp at he
  .simp at he
 .simp at he
theorem W8(h:HR w0 F G ν φ objs nx w)(hg:GLe G G'):∀(ps:List PTy) (xs:List AVal) (vs:List Value) (A:Args ps),vs.length=xs.length->
  (∀(j:Nat) (x:AVal) (v:Value),xs[j]?=some x->vs[j]?=some v->AValRel G ν nx x v)->Lent G' w φ objs A.lent->A.all.Nodup->WP ps xs objs=some A->
  ∃ns ks bx,AOk G' ν φ objs w ps A vs ns ks bx
 | [],xs,vs,A,hlen,hx,hl,aH,hf=>by
  simp only[WP]at hf;split at hf
  .injection hf with hf;subst hf;have dB:vs= []:=Xx (by simpa using hlen);exact⟨[],[],[],⟨dB,rfl,rfl⟩,⟨rfl,rfl⟩,List.Pairwise.nil,by simp,by simp,by simp,by simp,by simp,by simp,List.Sublist.refl _,by simp[kids]⟩
  .cases hf
 | .v t agg::ps,xs,vs,A,hlen,hx,hl,aH,hf=>by
  simp only[WP]at hf;split at hf
  .rename_i x xs;split at hf
   .rename_i d m r A' h1 h2;injection hf with hf;subst hf
    match vs,hlen with
    |v::vs,hlen=>
     cases hc:cellsOf agg x with
     |none=>simp[hc]at h1
     |some cs=>
      simp[hc]at h1;obtain⟨n1,n2,n3⟩:=Xaf.1 aH;obtain⟨q1,g1,g2,g3,g4,g5⟩:=Wid h hg (hx 0 x v rfl rfl) (hl.mono (λi hi=>Xj _ hi)) n1 hc h1;obtain⟨ns,ks,bx,hA⟩:=W8 h hg ps xs vs A' (by simpa using hlen) (λj y u hj hu=>hx (j+1) y u (by simpa using hj) (by simpa using hu)) (hl.mono (λi hi=>Xg _ hi)) n2 h2;refine⟨q1++ns,ks,bx,⟨v,vs,q1,ns,rfl,rfl,g1,hA.args⟩,hA.kept,Wbn h g2 hA.sep g3 (λq hq b o hh=>Wgi b o (hA.tk q hq b o hh)) (λi hi hj=>n3 i hi i hj rfl),λq hq=>?_,λp hp=>Xg _ (hA.bx p hp),λi hi=>?_,λi hi=>?_,λi hi=>?_,λi hi=>?_,List.Sublist.trans hA.sub (Xfg _ _),λi hi hm=>?_⟩
      .rcases Xk.1 hq with hq|hq
       .exactλb o hh=>Wka (λi hi=>Xj _ hi) (λp hp hm=>n3 _ hm _ (hA.bx p hp) rfl) b o (g3 q hq b o hh)
       .exactλb o hh=>Whw (λi hi=>Xg _ hi) (λp hp=>.inl hp) b o (hA.tk q hq b o hh)
      .rcases Xk.1 hi with hi|hi
       .exact g4 i hi
       .exact hA.live i hi
      .rcases Xk.1 hi with hi|hi
       .exact g5 i hi
       .exact hA.lent i hi
      .rcases Xk.1 hi with hi|hi
       .exact Xj _ hi
       .exact Xg _ (hA.mv i hi)
      .rcases Xk.1 hi with hi|hi
       .exact .inl (Xj _ hi)
       .rcases hA.mvk i hi with hi|hi
        .exact .inl (Xg _ hi)
        .exact .inr hi
      .rcases Xk.1 hm with hm|hm
       .exact n3 _ hm _ (hA.sub.subset hi) rfl
       .exact hA.dis i hi hm
   .cases hf
  .cases hf
 | .box t::ps,xs,vs,A,hlen,hx,hl,aH,hf=>by
  simp only[WP]at hf;split at hf
  .rename_i id off xs;split at hf
   .rename_i cs aL;split at hf
    .rename_i d m A' h1 h2;injection hf with hf;subst hf
     match vs,hlen with
     |v::vs,hlen=>
      obtain⟨n1,n2⟩:=Xae.1 aH;obtain⟨ns,ks,bx,hA⟩:=W8 h hg ps xs vs A' (by simpa using hlen) (λj y u hj hu=>hx (j+1) y u (by simpa using hj) (by simpa using hu)) hl (Xaf.1 n2).2.1 h2;obtain⟨b,q1,rfl,aM,k1,_,k2,k3,k4,k5,k6,k7,k8,k9,k10,ec⟩:=WkK h hg (hx 0 _ v rfl rfl).1 aL h1 aH hA;exact⟨_,_,_,⟨b,_,vs,q1,ns,ks,rfl,rfl,rfl,k1,hA.args⟩,⟨_,_,_,_,rfl,rfl,k2,k3⟩,k4,k5,k6,k7,hA.lent,k8,k9,k10,ec⟩
    .cases hf
   .cases hf
  .cases hf
 | .vj _::_,_,_,_,_,_,_,_,hf=>by simp only[WP]at hf;cases hf
 | .boxal t lf::ps,xs,vs,A,hlen,hx,hl,aH,hf=>by
  simp only[WP]at hf;split at hf
  .rename_i id off y xs;split at hf
   .rename_i cs aL;split at hf
    .rename_i d m A' i h1 h2 h3;injection hf with hf;subst hf
     match vs,hlen with
     |v::u::vs,hlen=>
      obtain⟨n1,n2⟩:=Xae.1 aH;obtain⟨ns,ks,bx,hA⟩:=W8 h hg ps xs vs A' (by simpa using hlen) (λj y u hj hu=>hx (j+2) y u (by simpa using hj) (by simpa using hu)) hl (Xaf.1 n2).2.1 h2;obtain⟨b,q1,rfl,aM,k1,kl,k2,k3,k4,k5,k6,k7,k8,k9,k10,ec⟩:=WkK h hg (hx 0 _ v rfl rfl).1 aL h1 aH hA;obtain⟨c,hc,h3⟩:=Xbp.1 h3;obtain⟨k,hk,hc⟩:=Xbp.1 hc;obtain⟨r,b',rfl,e1,e2,rfl⟩:=WlG h (hx 1 y u rfl rfl) h3;obtain⟨pc,e3,e4⟩:=kl lf k r hk hc;exact⟨_,_,_,⟨b,_,b',pc,vs,q1,ns,ks,by rw[e4],rfl,rfl,k1,e3,by rw[e4];exact e1,by rw[e4];exact e2,hA.args⟩,⟨_,_,_,_,rfl,rfl,k2,k3⟩,k4,k5,k6,k7,hA.lent,k8,k9,k10,ec⟩
    .cases hf
   .cases hf
  .cases hf
 | .mut e::ps,xs,vs,A,hlen,hx,hl,aH,hf=>by
  simp only[WP]at hf;split at hf
  .rename_i id xs;split at hf
   .rename_i e' ys aL;split at hf
    .rename_i d A' h1 h2;injection hf with hf;subst hf;obtain⟨he,hd⟩:=W1 h1;subst he;simp only at hd;subst hd
     match vs,hlen with
     |v::vs,hlen=>
      obtain⟨⟨_,hv⟩,_⟩:=hx 0 _ v rfl rfl;subst hv;obtain⟨n1,n2⟩:=Xae.1 aH;have aC:Live objs id:=⟨_,aL,by simp⟩;have hown:OwnL w (TyRel G w e') e'.size (ν id) ys (φ id):=h.ob _ _ aL;obtain⟨ns,ks,bx,hA⟩:=W8 h hg ps xs vs A' (by simpa using hlen) (λj y u hj hu=>hx (j+1) y u (by simpa using hj) (by simpa using hu)) hl n2 h2;refine⟨⟨ν id,φ id⟩::ns,ν id::ks,bx,⟨⟨ν id,φ id⟩,vs,ns,ks,rfl,rfl,rfl,WbU hg (Same.refl _ w) (λ_ _ hh=>hh) hown,hA.args⟩,⟨id,_,ks,ys,rfl,rfl,aL,hA.kept⟩,?_,λq hq=>?_,λp hp=>Xe _ (hA.bx p hp),λi hi=>?_,hA.lent,λi hi=>Xe _ (hA.mv i hi),λi hi=>?_,List.Sublist.cons_cons _ hA.sub,λi hi hm=>?_⟩
      .refine Wbn h (n1:=[⟨ν id,φ id⟩]) (m:=[id]) (List.pairwise_singleton _ _) hA.sep (λq hq=>?_) (λq hq b o hh=>Wgi b o (hA.tk q hq b o hh)) (λi hi hj=>n1 (by rw[←Xab.1 hi];exact hj));rw[Xab.1 hq];exact FromL.one (by simp) aC
      .rcases Xm.1 hq with rfl|hq
       .exactλb o hh=>⟨id,Xh ..,aC,hh,λp hp e=>absurd (by rw[←e];exact hA.bx p hp) n1⟩
       .exactλb o hh=>Whw (λi hi=>Xe _ hi) (λp hp=>.inl hp) b o (hA.tk q hq b o hh)
      .rcases Xm.1 hi with rfl|hi
       .exact aC
       .exact hA.live i hi
      .rcases Xm.1 hi with rfl|hi
       .exact .inr (Xh ..)
       .rcases hA.mvk i hi with hi|hi
        .exact .inl hi
        .exact .inr (Xe _ hi)
      .rcases Xm.1 hi with rfl|hi
       .exact n1 (hA.mv _ hm)
       .exact hA.dis i hi hm
    .cases hf
   .cases hf
  .cases hf
 | .clos g n::ps,xs,vs,A,hlen,hx,hl,aH,hf=>by
  simp only[WP]at hf;split at hf
  .rename_i g' caps xs;split at hf
   .rename_i hc;obtain⟨rfl,hcl⟩:=hc;cases hA:WP ps (Wg9 caps++xs) objs with
    |none=>simp[hA]at hf
    |some A'=>
     simp only[hA,Xbu,Option.some.injEq]at hf;subst hf
     match vs,hlen with
     |v::vs,hlen=>
      obtain⟨⟨cvs,hv,hcv,m7⟩,_⟩:=hx 0 _ v rfl rfl;subst hv;obtain⟨ns,ks,bx,hAk⟩:=W8 h hg ps (Wg9 caps++xs) (cvs++vs) A' (by simp[Wg9,hcv];simpa using hlen) (λj y u hj hu=>by
       rw[Xaq]at hj hu;simp only[Wg9,Xz]at hj;rw[hcv]at hu;split at hj
       .rename_i hlt;rw[if_pos hlt]at hu;rw[Xak]at hj;obtain⟨id,bg,rfl⟩:=Xw.1 hj;obtain⟨h1,h3,h2⟩:=m7 _ id u bg hu;exact⟨⟨h1,h2⟩,h3⟩
       .rename_i hlt;rw[if_neg hlt]at hu;exact hx (j-caps.length+1) y u (by simpa using hj) (by simpa using hu)) hl aH hA
      refine⟨ns,ks,bx,⟨cvs,vs,rfl,by rw[hcv];exact hcl,λu hu=>?_,hAk.args⟩,hAk.kept,hAk.sep,hAk.tk,hAk.bx,hAk.live,hAk.lent,hAk.mv,hAk.mvk,hAk.sub,hAk.dis⟩;obtain⟨j,hj⟩:=Xdv hu;have hlt:j<caps.length:=by rw[←hcv];exact(Xr.1 hj).1
      exact(m7 j _ u (Xq hlt) hj).2.1
   .cases hf
  .cases hf
 | .kv t agg::ps,xs,vs,A,hlen,hx,hl,aH,hf=>by
  simp only[WP]at hf;split at hf
  .rename_i x xs;split at hf
   .rename_i d m r A' h1 h2;split at hf
    .rename_i eR;injection hf with hf;subst hf
     match vs,hlen with
     |v::vs,hlen=>
      cases hc:cellsOf agg x with
      |none=>simp[hc]at h1
      |some cs=>
       simp[hc]at h1;obtain⟨n1,n2,n3⟩:=Xaf.1 aH;have bJ:Lent G' w φ objs r:=hl.mono (λi hi=>Xj _ hi);obtain⟨_,_,_,_,g4,g5⟩:=Wid h hg (hx 0 x v rfl rfl) bJ n1 hc h1;obtain⟨k1,k2⟩:=WiG h hg (hx 0 x v rfl rfl) bJ hc h1 eR;obtain⟨ns,ks,bx,hA⟩:=W8 h hg ps xs vs A' (by simpa using hlen) (λj y u hj hu=>hx (j+1) y u (by simpa using hj) (by simpa using hu)) (hl.mono (λi hi=>Xg _ hi)) n2 h2;have iy:kids (kp0 m++A'.kept)=m++kids A'.kept:=by simp only[kids,Xn];congr 1;exact Wfu m
       have gp:∀q∈pcs ν φ m,CS.le q.fp (FromL φ objs m):=λq hq=>by
        obtain⟨i,hi,rfl⟩:=Xu.1 hq;exact FromL.one hi (g4 i hi)
       have gs:Sep (fps (pcs ν φ m)):=by
        rw[WkA];refine List.pairwise_map.2 (n1.imp_of_mem λ{i j} hi hj hne=>?_)
        exactλb o h1 h2=>hne (h.inj i j b o (g4 i hi) (g4 j hj) h1 h2)
       refine⟨pcs ν φ m++ns,m.map ν++ks,bx,⟨v,vs,pcs ν φ m,ns,ks,rfl,rfl,by rw[WpP],k1,hA.args⟩,⟨m,A'.kept,ks,rfl,rfl,k2,hA.kept⟩,Wbn h gs hA.sep gp (λq hq b o hh=>Wgi b o (hA.tk q hq b o hh)) (λi hi hj=>n3 i hi i hj rfl),λq hq=>?_,λp hp=>Xg _ (hA.bx p hp),λi hi=>?_,λi hi=>?_,λi hi=>Xg _ (hA.mv i hi),λi hi=>?_,by rw[iy];exact List.Sublist.append (List.Sublist.refl _) hA.sub,λi hi hm=>?_⟩
       .rcases Xk.1 hq with hq|hq
        .exactλb o hh=>Wka (λi hi=>Xj _ hi) (λp hp hm=>n3 _ hm _ (hA.bx p hp) rfl) b o (gp q hq b o hh)
        .exactλb o hh=>Whw (λi hi=>Xg _ hi) (λp hp=>.inl hp) b o (hA.tk q hq b o hh)
       .rcases Xk.1 hi with hi|hi
        .exact g4 i hi
        .exact hA.live i hi
       .rcases Xk.1 hi with hi|hi
        .exact g5 i hi
        .exact hA.lent i hi
       .rw[iy];rcases Xk.1 hi with hi|hi
        .exact .inr (Xj _ hi)
        .rcases hA.mvk i hi with hi|hi
         .exact .inl hi
         .exact .inr (Xg _ hi)
       .rw[iy]at hi;rcases Xk.1 hi with hi|hi
        .exact n3 _ hi _ (hA.mv i hm) rfl
        .exact hA.dis i hi hm
    .cases hf
   .cases hf
  .cases hf
 | .rp t::ps,xs,vs,A,hlen,hx,hl,aH,hf=>by
  simp only[WP]at hf;split at hf
  .rename_i id off xs;split at hf
   .rename_i cs aL;split at hf
    .rename_i d r A' h1 h2;split at hf
     case isFalse=>cases hf
     rename_i pS;injection hf with hf;subst hf
     match vs,hlen with
     |v::vs,hlen=>
      obtain⟨ns,ks,bx,hA⟩:=W8 h hg ps xs vs A' (by simpa using hlen) (λj y u hj hu=>hx (j+1) y u (by simpa using hj) (by simpa using hu)) (hl.mono (λi hi=>Xe _ (Xg _ hi))) aH h2;obtain⟨⟨bg,b,aM,rfl⟩,_⟩:=hx 0 _ v rfl rfl;have aC:Live objs id:=⟨_,aL,by simp⟩;obtain⟨b',us,hb',hrow,hmem,aX,dC⟩:Wbx G ν nx w id (φ id) (.box cs):=h.ob _ _ aL;rw[aM]at hb';injection hb' with hb';subst hb';obtain⟨q1,t1,t2,t3,t4,t5,_⟩:=WT h hg t _ ((us.drop off).take t.size) d [] r ((aX.drop off).take _) (hl.mono (λi hi=>Xe _ (Xj _ hi))) Xcw h1;have pT:∀p∈q1,Froz G' w p.fp:=λp hp b o v hh=>by
       obtain⟨i,hi,_⟩:=t3 p hp b o hh;simp at hi
      have henc:Enc G' t.ro (WpB t d) ((us.drop off).take t.size):=Wcl (λ_ _ _ hh=>hh) t d _ q1 pT t1;have gq:=Wk _ _ _ _ t1;have bA:off+t.size<=cs.length:=by
       have:=aX.1;rw[Xau,Xcu]at gq;have:=WaR t;omega
      have ch:WdA G' b ((ν id).off+off) ((us.drop off).take t.size):=λj v hj=>by
       have oT:j<t.size:=by have:=(Xr.1 hj).1;omega
       rw[Xbb,if_pos oT,Xbc]at hj;have h3:=hmem _ v hj;rw[←Xan]at h3;exact hl id (Xh ..) aC b _ v (dC b _ ⟨rfl,by omega,by omega⟩) h3
      exact⟨ns,ks,bx,⟨b,(ν id).off+off,(us.drop off).take t.size,vs,rfl,((Waq t d _ q1 pS).1 t1).1,ch,hA.args⟩,hA.kept,hA.sep,hA.tk,hA.bx,hA.live,λi hi=>by
       rcases Xm.1 hi with rfl|hi
       .exact aC
       .rcases Xk.1 hi with hi|hi
        .exact t5 i hi
        .exact hA.lent i hi,hA.mv,hA.mvk,hA.sub,hA.dis⟩
    .cases hf
   .cases hf
  .rename_i t' d' off xs;split at hf
   .rename_i d A' h1 h2;split at hf
    case isFalse=>cases hf
    rename_i pS;injection hf with hf;subst hf
    match vs,hlen with
    |v::vs,hlen=>
     obtain⟨ns,ks,bx,hA⟩:=W8 h hg ps xs vs A' (by simpa using hlen) (λj y u hj hu=>hx (j+1) y u (by simpa using hj) (by simpa using hu)) hl aH h2;obtain⟨⟨b,o,cs,rfl,e1,e2⟩,_⟩:=hx 0 _ v rfl rfl;have aX:=W7 (ν:=ν) (nx:=nx) t' d' cs e1;obtain⟨q1,t1,t2,t3,t4,t5,_⟩:=WT h hg t _ ((cs.drop off).take t.size) d [] [] ((aX.drop off).take _) (λi hi=>by simp at hi) Xcw h1;exact⟨ns,ks,bx,⟨b,o+off,(cs.drop off).take t.size,vs,rfl,((Waq t d _ q1 pS).1 t1).1,λj v hj=>by
      rw[Xbb]at hj;split at hj
      .rw[Xbc]at hj;rw[Xan];exact hg _ _ _ (e2 _ v hj)
      .simp at hj,hA.args⟩,hA.kept,hA.sep,hA.tk,hA.bx,hA.live,hA.lent,hA.mv,hA.mvk,hA.sub,hA.dis⟩
   .cases hf
  .cases hf
end
end Go.Sx
namespace Go.Sx
set_option linter.unusedVariables false
set_option linter.unusedSimpArgs false
theorem WaC{G G':GH}{w:World}:∀(t:Ty) (d:t.den) (vs:List Value) (ns:List Pc),t.noRo=true->TyRel G w t d vs ns->TyRel G' w t d vs ns
 | .own e,_,_,_,hn,⟨pc,h1,h2,h3⟩=>⟨pc,h1,h2,Wft (λx c q hx=>Wk e x c q hx) (Same.refl _ w) (λ_ _ hh=>hh) (λx c q _ hx=>WaC e x c q hn hx) h3⟩
 | .prod a b,_,_,_,hn,⟨v1,v2,n1,n2,h1,h2,h3,h4⟩=>by
  simp only[Ty.noRo,Xi]at hn;exact⟨v1,v2,n1,n2,h1,h2,WaC a _ _ _ hn.1 h3,WaC b _ _ _ hn.2 h4⟩
 | .int _,_,_,_,_,h=>h
 | .bool,_,_,_,_,h=>h
 | .str,_,_,_,_,h=>h
 | .slice _,_,_,_,hn,_=>by simp[Ty.noRo]at hn
theorem WnL{G G':GH}{w:World}{e:Ty}{nu:Nu}{xs:List e.den}{S:CS}(hn:e.noRo=true)(h:OwnL w (TyRel G w e) e.size nu xs S):OwnL w (TyRel G' w e) e.size nu xs S:=
 Wft (λx c q hx=>Wk e x c q hx) (Same.refl _ w) (λ_ _ hh=>hh) (λx c q _ hx=>WaC e x c q hn hx) h
theorem WdT{G G':GH}{w:World}{t:Ty}{d:t.den}{b o:Nat}{ns:List Pc}(hn:t.noRo=true)(h:WdH G w t d b o ns):WdH G' w t d b o ns:=by
 obtain⟨us,h1,h2,h3⟩:=h;exact⟨us,h1,h2,WaC _ _ _ _ hn h3⟩
theorem Wnr{G G':GH}{w:World}{t:Ty}{agg:Bool}{d:t.den}{v:Value}{ns:List Pc}(hn:t.noRo=true)(h:Wgr G w t agg d v ns):Wgr G' w t agg d v ns:=by
 unfold Wgr at h⊢;split
 .rename_i ha;rw[if_pos ha]at h;obtain⟨us,h1,h2⟩:=h;exact⟨us,h1,WaC _ _ _ _ hn h2⟩
 .rename_i ha;rw[if_neg ha]at h;exact WaC _ _ _ _ hn h
theorem Wcx{G G':GH}{w:World}:∀(rs:List PTy) (d:WeW rs) (vs:List Value) (ns:List Pc),rs.all PTy.freshR=true->Wd5 G w rs d vs ns->Wd5 G' w rs d vs ns
 | [],_,_,_,_,h=>h
 | .v t agg::rs,d,vs,ns,hn,⟨v,vs',n1,n2,h1,h2,h3,h4⟩=>by
  simp only[Xcc,Xi]at hn;exact⟨v,vs',n1,n2,h1,h2,Wnr hn.1 h3,Wcx rs _ _ _ hn.2 h4⟩
 | .box t::rs,d,vs,ns,hn,⟨b,o,vs',n1,n2,h1,h2,h3,h5⟩=>by
  simp only[Xcc,Xi]at hn;exact⟨b,o,vs',n1,n2,h1,h2,WdT hn.1 h3,Wcx rs _ _ _ hn.2 h5⟩
 | .mut _::_,_,_,_,_,h=>h.elim
 | .clos _ _::_,_,_,_,_,h=>h.elim
 | .kv _ _::_,_,_,_,_,h=>h.elim
 | .rp _::_,_,_,_,_,h=>h.elim
 | .vj t::rs,d,vs,ns,hn,⟨us,u,vs',n1,n2,h1,h0,h2,h3,h4⟩=>by
  simp only[Xcc,Xi]at hn;exact⟨us,u,vs',n1,n2,h1,h0,h2,WaC _ _ _ _ hn.1 h3,Wcx rs _ _ _ hn.2 h4⟩
 | .boxal _ _::_,_,_,_,_,h=>h.elim
theorem Waj{G G':GH}{w:World}:∀(ps:List PTy) (o:Wd3 ps) (ks:List Nu) (kf:List CS) (ns:List Pc),ps.all PTy.fresh=true->WaT G w ps o ks kf ns->WaT G' w ps o ks kf ns
 | [],_,_,_,_,_,h=>h
 | .v _ _::ps,o,ks,kf,ns,hn,h=>by
  simp only[Xcc,Xi]at hn;exact Waj ps o ks kf ns hn.2 h
 | .box t::ps,o,ks,kf,ns,hn,⟨b,off,ks',cx,n1,n2,h1,h2,h3,h4,h5⟩=>by
  simp only[Xcc,Xi]at hn;exact⟨b,off,ks',cx,n1,n2,h1,h2,h3,WdT hn.1 h4,Waj ps _ _ _ _ hn.2 h5⟩
 | .mut e::ps,o,ks,kf,ns,hn,⟨pc,ks',cx,h1,h2,h3,h4⟩=>by
  simp only[Xcc,Xi]at hn;exact⟨pc,ks',cx,h1,h2,WnL hn.1 h3,Waj ps _ _ _ _ hn.2 h4⟩
 | .clos _ _::ps,o,ks,kf,ns,hn,h=>by
  simp only[Xcc,Xi]at hn;exact Waj ps o ks kf ns hn.2 h
 | .kv t _::ps,o,ks,kf,ns,hn,⟨n1,ks',cx,us,h1,h2,h3,h4⟩=>by
  simp only[Xcc,Xi]at hn;exact⟨n1,ks',cx,us,h1,h2,WaC _ _ _ _ hn.1 h3,Waj ps _ _ _ _ hn.2 h4⟩
 | .rp _::ps,o,ks,kf,ns,hn,h=>by
  simp only[Xcc,Xi]at hn;exact Waj ps o ks kf ns hn.2 h
 | .vj _::_,_,_,_,_,_,h=>h.elim
 | .boxal t _::ps,o,ks,kf,ns,hn,⟨b,off,ks',cx,n1,n2,h1,h2,h3,h4,h5⟩=>by
  simp only[Xcc,Xi]at hn;exact⟨b,off,ks',cx,n1,n2,h1,h2,h3,WdT hn.1 h4,Waj ps _ _ _ _ hn.2 h5⟩
theorem Wde{objs:WS}:∀(l:List Nat) (id:Nat),id∉l->Wc (kill objs l) id=Wc objs id
 | [],id,_=>rfl
 |i::l,id,h=>by
  simp only[kill];rw[Wl,if_neg (λe=>h (by rw[e];exact Xh ..))];exact Wde l id λhm=>h (Xe _ hm)
theorem Whu:∀{l:List CS},Sep l->∀{i j:Nat} {A B:CS} {b o:Nat},l[i]?=some A->l[j]?=some B->A b o->B b o->i=j
 | [],_,i,j,A,B,b,o,hi,_,_,_=>by simp at hi
 |C::l,hs,i,j,A,B,b,o,hi,hj,ha,hb=>by
  obtain⟨h1,h2⟩:=Xy.1 hs;cases i with
  |zero=>
   simp at hi;subst hi;cases j with
   |zero=>rfl
   |succ j=>
    simp at hj;exact(h1 B (Xar hj) b o ha hb).elim
  |succ i=>
   simp at hi;cases j with
   |zero=>
    simp at hj;subst hj;exact(h1 A (Xar hi) b o hb ha).elim
   |succ j=>
    simp at hj;rw[Whu h2 hi hj ha hb]
section
variable{w0:World}{F:CS}{nt:Slots}{G0 G G':GH}{ν:Nat->Nu}{φ:Nat->CS}{objs:WS}{nx:Nat}{st af:St}{a:Act}{w w':World}{P:Program}{T:Tab}
theorem Wl7{f g:Nat->Nu}:∀{l:List Nat},(∀i∈l,g i=f i)->l.map f=l.map g:=λ{l} h=>List.map_congr_left λi hi=>(h i hi).symm
theorem Wbr{ν':Nat->Nu}{bx:List (Nat×CS)}:∀(ps:List PTy) (ids:List Kp) (ks:List Nu),(∀i∈kids ids,ν' i=ν i)->KeptOk objs ν bx ps ids ks->KeptOk objs ν' bx ps ids ks
 | [],_,_,_,h=>h
 | .v _ _::ps,ids,ks,hn,h=>Wbr ps ids ks hn h
 | .box t::ps,ids,ks,hn,⟨k,aP,nu,ks',h1,h2,⟨cs,b,g1,g2,g3,g4,g5⟩,h4⟩=>by
  subst h1;have e:=hn k.id (Xh ..);exact⟨k,aP,nu,ks',rfl,h2,⟨cs,b,g1,g2,by rw[e];exact g3,by rw[e];exact g4,by rw[e];exact g5⟩,Wbr ps aP ks' (λi hi=>hn i (Xe _ hi)) h4⟩
 | .mut e::ps,ids,ks,hn,⟨id,aP,ks',ys,h1,h2,h3,h4⟩=>by
  subst h1;exact⟨id,aP,ks',ys,rfl,by rw[hn id (Xh ..)];exact h2,h3,Wbr ps aP ks' (λi hi=>hn i (Xe _ hi)) h4⟩
 | .clos _ _::ps,ids,ks,hn,h=>Wbr ps ids ks hn h
 | .kv t _::ps,ids,ks,hn,⟨i1,i2,ks',h1,h2,h3,h4⟩=>by
  subst h1;have iy:kids (kp0 i1++i2)=i1++kids i2:=by simp only[kids,Xn];congr 1;exact Wfu i1
  rw[iy]at hn;exact⟨i1,i2,ks',rfl,by rw[h2,Wl7 (λi hi=>hn i (Xj _ hi))],h3,Wbr ps i2 ks' (λi hi=>hn i (Xg _ hi)) h4⟩
 | .rp _::ps,ids,ks,hn,h=>Wbr ps ids ks hn h
 | .vj _::_,_,_,_,h=>h.elim
 | .boxal t _::ps,ids,ks,hn,⟨k,aP,nu,ks',h1,h2,⟨cs,b,g1,g2,g3,g4,g5⟩,h4⟩=>by
  subst h1;have e:=hn k.id (Xh ..);exact⟨k,aP,nu,ks',rfl,h2,⟨cs,b,g1,g2,by rw[e];exact g3,by rw[e];exact g4,by rw[e];exact g5⟩,Wbr ps aP ks' (λi hi=>hn i (Xe _ hi)) h4⟩
theorem WnN(hr:Rel w0 F nt G0 G ν st a w):∀(l:List Operand) (xs:List AVal),evs st l=some xs->xs.length=l.length/\
  ∀(j:Nat) (x:AVal) (v:Value),xs[j]?=some x->(l.map a.eval)[j]?=some v->AValRel G ν st.nx x v
 | [],xs,h=>by simp[evs]at h;subst h;exact⟨rfl,λj x v hj=>by simp at hj⟩
 |o::l,xs,h=>by
  simp only[evs]at h;split at h
  .rename_i y ys h1 h2;injection h with h;subst h;obtain⟨h3,h4⟩:=WnN hr l ys h2;refine⟨by simp[h3],λj x v hj hv=>?_⟩;cases j with
   |zero=>simp at hj hv;subst hj hv;exact Wr hr o _ h1
   |succ j=>exact h4 j x v (by simpa using hj) (by simpa using hv)
  .simp at h
theorem WoH{o:Oper}{c:Call}{f:Operand}{g:FuncId}{caps:List Value}(ho:o.op= .call c)(hc:c.callee= .value f)(hf:a.eval f= .func (.func g) #[] caps.toArray)(m8:Wef P g):
  (execOp a.eval o).run P w= .ok (.enter g (c.args.toList.map a.eval++caps).toArray) w:=by
 obtain⟨fn,h1,h2,h3⟩:=m8;obtain⟨callee,args,argTypes⟩:=c;simp only at hc;subst hc;have e:(#[]++args.map a.eval++caps.toArray)=(args.toList.map a.eval++caps).toArray:=by
  apply Array.ext';simp
 simp only[execOp,ho,resolve,Deferred.ofValue,hf,Sem.run_bind,Sem.run_pure,Result.andThen_ok,invoke,callFunc,run_program,h1,h2,h3,Xby,if_false,e]
theorem Wov{b o k:Nat}{vs us:List Value}(hm:Mem w b o vs)(hu:Mem w' b (o+k) us)(hk:k+us.length<=vs.length)(gr:∀j,j<vs.length->¬(k<=j/\j<k+us.length)->w'.cell? ⟨b,o+j,none⟩=w.cell? ⟨b,o+j,none⟩):
  Mem w' b o (vs.take k++us++vs.drop (k+us.length)):=λj v hj=>by
 have eP:∀v',vs[j]?=some v'->¬(k<=j/\j<k+us.length)->w'.cell? ⟨b,o+j,none⟩=some v':=λv' hv hn=>by
  rw[gr j (Xr.1 hv).1 hn];exact hm j v' hv
 have dp:(vs.take k).length=k:=by simp;omega
 rw[Xbo,Xaq,dp]at hj;split at hj
 .rename_i hlt;rw[Xbb,if_pos hlt]at hj;exact eP v hj (by omega)
 .rw[Xaq]at hj;split at hj
  .have:=hu (j-k) v hj;rw[show o+j=o+k+(j-k) by omega];exact this
  .rw[Xbc,show k+us.length+(j-k-us.length)=j by omega]at hj;exact eP v hj (by omega)
theorem Whp{Γ:Ctx}(hΓ:Wdv P Γ)(hr:Rel w0 F nt G0 G ν st a w){o:Oper}(hd:∀d,o.dst=some d->nt.Ok d){c:Call}{f:Operand}{g:FuncId}{cvs:List Value}{xs:List AVal}{sg:Sig}{R:Type}{k:St->Option R}{r:R}
  (ho:o.op= .call c) (hc:c.callee= .value f) (m9:a.eval f= .func (.func g) #[] cvs.toArray) (kK:Wc Γ g=some sg) (hlen:xs.length=(c.args.toList.map a.eval++cvs).length)
  (hargs:∀(j:Nat) (x:AVal) (v:Value),xs[j]?=some x->(c.args.toList.map a.eval++cvs)[j]?=some v->AValRel G ν st.nx x v)
  (h:WdG sg st xs (λx objs nx=>k (({env:=st.env,objs:=objs,nx:=nx}:St).put o.dst x))=some r) {K:Act->World->Prop} {Q:Exit->Act->World->Prop}
  (hK:∀af a' w' G' ν',Rel w0 F nt G0 G' ν' af a' w'->k af=some r->K a' w'):o.wp P a w K Q:=by
 obtain⟨iA,gO⟩:=hΓ g sg kK;unfold WdG at h;split at h
 .rename_i A hA;split at h
  .rename_i aY;simp only[Xi]at aY;obtain⟨⟨aH,jo⟩,iZ⟩:=aY;have aH:=(Wdt _).1 aH;have jo:=WiD jo;obtain⟨out,hrun,hk⟩:=sg.law' A.d _ r h;dsimp only at hk;obtain⟨φ,hφ⟩:=hr.h;have eO:=hφ.addG_le A.lent;have hG1w:=hφ.addG_w A.lent;obtain⟨ns,ks,bx,hO⟩:=W8 hφ eO sg.ps _ (c.args.toList.map a.eval++cvs) A hlen.symm hargs (λid bg hl=>(WfN _).mono (FromL.one bg hl)) aH hA;have hTk:∀b o,Of ns b o->Tk φ st.objs bx A.all b o:=λb o ⟨q,hq,hh⟩=>hO.tk q hq b o hh;have hfree:∀q∈ns,∀b off,q.fp b off->Wmn G w (FromL φ st.objs A.lent) b off=none/\b<w.heap.size:=λq hq b off hh=>by
    obtain⟨i,hi,h1,h2,_⟩:=hO.tk q hq b off hh;refine⟨?_,hφ.bl i b off h1 h2⟩;rw[Wb0 (λ⟨j,hj,h3,h4⟩=>by
     have:=hφ.inj i j b off h1 h3 h2 h4;subst this;exact jo _ hj hi)]
    exact hφ.gf i b off h1 h2
   have kL:=iA A.d out hrun _ w _ ns _ hO.args hO.sep hfree hG1w;unfold Oper.wp;rw[WoH ho hc m9 gO,Oper.upon_enter];refine kL.mono λe w' na=>?_;obtain⟨rv,kf,ms,cd,G2,rfl,hA2⟩:=na;simp only;have hG3:∃G3:GH,GLe G G3/\(∀b off v,G3 b off=some v->w'.cell? ⟨b,off,none⟩=some v)/\Wd5 G3 w' sg.rs out.2 rv cd/\WaT G3 w' sg.ps out.1 ks kf ms/\
     GExt w0.heap.size F G0 G3/\(∀S∈kf++fps (ms++cd),∀b off,S b off->G3 b off=none)/\(∀id b off,Live st.objs id->φ id b off->¬Tk φ st.objs bx A.all b off->G3 b off=none):=by
    by_cases hle:A.lent= []
    .have hGG:Wmn G w (FromL φ st.objs A.lent)=G:=by
      rw[hle];funext b off;exact Wb0 (λ⟨i,hi,_⟩=>by simp at hi)
     rw[hGG]at hA2;refine⟨G2,hA2.gx.le,hA2.g,hA2.res,hA2.outs,⟨λb o v hv=>hA2.gx.le b o v (hr.gx.le b o v hv),λb o v hv=>?_⟩,λS hS b off hh=>(hA2.own S hS b off hh).1,λid b off hl hp hn=>?_⟩
     .rcases hA2.gx.new b o v hv with h1|h1|h1
      .exact hr.gx.new b o v h1
      .exact .inr (.inl (Xck hφ.le.size h1))
      .obtain⟨i,hi,h2,h3,_⟩:=hTk b o h1;exact .inr (hφ.own i b o h2 h3)
     .cases hv:G2 b off with
      |none=>rfl
      |some v=>
       rcases hA2.gx.new b off v hv with h1|h1|h1
       .rw[hφ.gf id b off hl hp]at h1;cases h1
       .have:=hφ.bl id b off hl hp;omega
       .exact absurd (hTk b off h1) hn
    .have ee:sg.fresh=true:=by
      rcases Bool.or_eq_true_iff.1 iZ with h1|h1
      .exact h1
      .exact absurd (by simpa using h1) hle
     unfold Sig.fresh at ee;simp only[Xi]at ee;refine⟨G,λ_ _ _ hh=>hh,λb o v hv=>hA2.g b o v (hA2.gx.le b o v (eO b o v hv)),Wcx _ _ _ _ ee.1 hA2.res,Waj _ _ _ _ _ ee.2 hA2.outs,hr.gx,λS hS b off hh=>?_,λid b off hl hp _=>hφ.gf id b off hl hp⟩;cases hv:G b off with
     |none=>rfl
     |some v=>
      have:=hA2.gx.le b off v (eO b off v hv);rw[(hA2.own S hS b off hh).1]at this;cases this
   obtain⟨G3,pU,pV,fJ,nb,pW,pX,pY⟩:=hG3;obtain⟨ν2,hν2⟩:∃ν2:Nat->Nu,ν2= λi=>if i<st.nx then ν i else((nus (ms++cd))[i-st.nx]?).getD ⟨none,0,0,0,0⟩:=⟨_,rfl⟩;obtain⟨φ2,hφ2⟩:∃φ2:Nat->CS,φ2= λi=>if i<st.nx then(λb o=>(∃(j:Nat) (S:CS),(kids A.kept)[j]?=some i/\kf[j]?=some S/\S b o)\/(φ i b o/\¬Tk φ st.objs bx A.all b o))else((fps (ms++cd))[i-st.nx]?).getD (λ_ _=>False):=⟨_,rfl⟩;have hνold:Wn8 st.nx ν ν2:=λi hi=>by rw[hν2];simp[hi]
   have hAt:At ν2 φ2 st.nx (ms++cd):=λj pc hj=>by
    have e1:(nus (ms++cd))[j]?=some pc.nu:=by unfold nus;rw[Xak,hj];rfl
    have e2:(fps (ms++cd))[j]?=some pc.fp:=by unfold fps;rw[Xak,hj];rfl
    rw[hν2,hφ2];simp only;rw[if_neg (by omega),if_neg (by omega),Xay,e1,e2];exact⟨rfl,rfl⟩
   have jp:∀i∈kids A.kept,i<st.nx:=λi hi=>hφ.lt i (hO.live i (hO.sub.subset hi));have jq:(kids A.kept).Nodup:=aH.sublist hO.sub;obtain⟨kM,ut,cV⟩:=Wah (ν:=ν2) (φ:=φ2) (bx:=bx) st.objs sg.ps out.1 A.kept ks kf ms (kill st.objs A.moved) st.nx (st.nx+ms.length+cd.length) nb (Wbr _ _ _ (λi hi=>hνold i (jp i hi)) hO.kept) hAt.left jq (λq hq=>by
    have du:q.id∈kids A.kept:=Xal hq;exact⟨jp _ du,Wde _ _ (hO.dis _ du)⟩) (by omega)
   generalize hp:WU sg.ps out.1 A.kept (kill st.objs A.moved) st.nx=p at*;obtain⟨pT,uu,uv⟩:=WcD (ν:=ν2) (φ:=φ2) sg.rs out.2 rv cd p.1 (st.nx+ms.length) (st.nx+ms.length+cd.length) fJ (hAt.right rfl) (by omega);rw[kM]at hk;generalize hq:WaN sg.rs out.2 p.1 (st.nx+ms.length)=q at*;have fK:∀id ob,Wc q.2.1 id=some ob->ob≠ .dead->
     (st.nx<=id/\id<st.nx+ms.length+cd.length/\Wqq G3 ν2 φ2 w' (st.nx+ms.length+cd.length) id ob)\/
     (∃(j:Nat) (S:CS),(kids A.kept)[j]?=some id/\kf[j]?=some S/\WiU G3 ν2 w' st.objs bx (st.nx+ms.length+cd.length) id S ob)\/(Wc st.objs id=some ob/\id∉A.all):=λid ob hl ck=>by
    rcases uu id ob hl with⟨h1,h2,h3⟩|h1
    .exact .inl ⟨by omega,h2,h3⟩
    .rcases cV id ob h1 with⟨h2,h3,h4⟩|h2|⟨h2,h3⟩
     .exact .inl ⟨h2,by omega,.inl h4⟩
     .exact .inr (.inl h2)
     .obtain⟨h4,h5⟩:=Wc1 A.moved id ob h2 ck;exact .inr (.inr ⟨h4,λhm=>by rcases hO.mvk id hm with h6|h6;exact h5 h6;exact h3 h6⟩)
   have ay:∀id b off,Live q.2.1 id->φ2 id b off->
     (∃(pos:Nat) (S:CS),(kf++fps (ms++cd))[pos]?=some S/\S b off/\id=(if pos<kf.length then((kids A.kept)[pos]?).getD 0 else st.nx+(pos-kf.length)))\/
     (Live st.objs id/\φ id b off/\¬Tk φ st.objs bx A.all b off/\id<st.nx):=λid b off ⟨ob,hl,ck⟩ hp=>by
    have kN:id<st.nx->Live st.objs id:=λhlt=>by
     rcases fK id ob hl ck with⟨h1,_⟩|⟨j,S,h1,_⟩|⟨h1,_⟩
     .omega
     .exact hO.live id (hO.sub.subset (Xar h1))
     .exact⟨ob,h1,ck⟩
    rw[hφ2]at hp
    try simp only at hp
    by_cases hlt:id<st.nx
    .rw[if_pos hlt]at hp;rcases hp with⟨j,S,h1,h2,h3⟩|⟨h1,h2⟩
     .left;have hj:j<kf.length:=(Xr.1 h2).1;refine⟨j,S,by rw[Xav hj];exact h2,h3,?_⟩;rw[if_pos hj,h1];rfl
     .exact .inr ⟨kN hlt,h1,h2,hlt⟩
    .rw[if_neg hlt]at hp;left;cases hS:(fps (ms++cd))[id-st.nx]? with
     |none=>rw[hS]at hp;exact hp.elim
     |some S=>
      rw[hS]at hp;refine⟨kf.length+(id-st.nx),S,by rw[Xas (by omega),Xay];exact hS,hp,?_⟩;rw[if_neg (by omega)];omega
   have hown:=hA2.own;have gt:∀{pos:Nat} {S:CS},(kf++fps (ms++cd))[pos]?=some S->S∈kf++fps (ms++cd):=λh=>Xar h;have hH:HR w0 F G3 ν2 φ2 q.2.1 (st.nx+ms.length+cd.length) w':={
    g:=pV
    ob:=λid ob hl=>by
     by_cases ck:ob= .dead
     .subst ck;trivial
     .rcases fK id ob hl ck with⟨h1,h2,⟨e,xs,rfl,h3⟩|⟨cs,b,us,rfl,h3,h4,h5,h6,h7⟩⟩|⟨j,S,h1,h2,h3⟩|⟨h1,h2⟩
      .exact h3
      .exact⟨b,us,h3,h4,h5,h6,h7⟩
      .have bg:id∈kids A.kept:=Xar h1;have hlt:=jp id bg;have aC:Live st.objs id:=hO.live id (hO.sub.subset bg);have hSφ:CS.le S (φ2 id):=λb o hh=>by
        rw[hφ2];(try simp only);rw[if_pos hlt];exact .inl ⟨j,S,h1,h2,hh⟩
       rcases h3 with⟨iW,off,ds,b,us,g1,rfl,g2,g3,g4,g5,rfl,g6⟩|⟨e,ys,xs,g1,rfl,g2⟩
       .rw[hνold id hlt]at g3 g4 g6 hSφ;obtain⟨b',vs,e1,e2,e3,e4,e5⟩:Wbx G ν st.nx w id (φ id) (.box iW):=hφ.ob _ _ g1;rw[g3]at e1;injection e1 with e1;subst e1;have cU:us.length=ds.length:=g5.1;have iU:vs.length=iW.length:=e4.1;have eS:∀o,(ν id).off<=o->o<(ν id).off+iW.length->¬((ν id).off+off<=o/\o<(ν id).off+off+ds.length)->φ id b o/\¬Tk φ st.objs bx A.all b o:=λo k1 k2 k3=>by
         have hφo:=e5 b o ⟨rfl,k1,k2⟩;refine⟨hφo,λ⟨i,hi,k4,k5,k6⟩=>?_⟩;have:=hφ.inj i id b o k4 aC k5 hφo;subst this;obtain⟨_,k7,k8⟩:=k6 _ g6 rfl;exact k3 ⟨k7,k8⟩
        refine⟨b,_,by rw[hνold id hlt];exact g3,by rw[hνold id hlt,Wdr g2];exact hA2.le.rows.row _ _ e2,?_,Wdm (e4.mono pU hνold (by omega)) g5,?_⟩
        .rw[hνold id hlt];refine Wov e3 g4 (by omega) (λj hj hn=>?_);obtain⟨k1,k2⟩:=eS ((ν id).off+j) (by omega) (by omega) (λ⟨k3,k4⟩=>hn ⟨by omega,by omega⟩);exact hA2.le.cell b _ (hφ.bl id b _ aC k1) (λnc=>k2 (hTk b _ nc))
        .rw[hνold id hlt,Wdr g2];intro b' o ⟨k0,k1,k2⟩;subst k0;by_cases gP:(ν id).off+off<=o/\o<(ν id).off+off+ds.length
         .exact hSφ b' o ⟨rfl,gP.1,gP.2⟩
         .rw[hφ2];(try simp only);rw[if_pos hlt];exact .inr (eS o k1 k2 gP)
       .exact WbU (λ_ _ _ hh=>hh) (Same.refl _ w') hSφ g2
      .have ji:Live st.objs id:=⟨ob,h1,ck⟩;have hlt:=hφ.lt id ji;have sb:∀b o,φ id b o->¬Tk φ st.objs bx A.all b o:=λb o hp ⟨i,hi,k1,k2,_⟩=>by
        have:=hφ.inj i id b o k1 ji k2 hp;subst this;exact h2 hi
       refine Wcg pU (hA2.le.same (λb o nc hp=>sb b o hp (hTk b o nc)) (λb o hp=>hφ.bl id b o ji hp)) (λb o hp=>?_) hνold (by omega) hlt ob (hφ.ob id ob h1);rw[hφ2];(try simp only);rw[if_pos hlt];exact .inr ⟨hp,sb b o hp⟩
    gf:=λid b off hl hp=>by
     rcases ay id b off hl hp with⟨pos,S,h1,h2,_⟩|⟨h1,h2,h3,_⟩
     .exact pX S (gt h1) b off h2
     .exact pY id b off h1 h2 h3
    inj:=λid bn b off hl co hp cK=>by
     have key:∀bn,Live st.objs bn->φ bn b off->¬Tk φ st.objs bx A.all b off->∀(pos:Nat) (S:CS),(kf++fps (ms++cd))[pos]?=some S->S b off->False:=λbn g1 g2 g3 pos S g4 g5=>by
      rcases(hown S (gt g4) b off g5).2.1 with g6|g6
      .exact g3 (hTk b off g6)
      .have:=hφ.bl bn b off g1 g2;omega
     rcases ay id b off hl hp with⟨pos,S,h1,h2,he⟩|⟨h1,h2,h3,h4⟩<;>rcases ay bn b off co cK with⟨pZ,S',dP,gL,fg⟩|⟨dP,gL,oL,h4'⟩
     .have:=Whu hA2.sep h1 dP h2 gL;subst this;rw[he,fg]
     .exact(key bn dP gL oL pos S h1 h2).elim
     .exact(key id h1 h2 h3 pZ S' dP gL).elim
     .exact hφ.inj id bn b off h1 dP h2 gL
    own:=λid b off hl hp=>by
     rcases ay id b off hl hp with⟨pos,S,h1,h2,_⟩|⟨h1,h2,h3,_⟩
     .rcases(hown S (gt h1) b off h2).2.1 with h5|h5
      .obtain⟨i,hi,h6,h7,_⟩:=hTk b off h5;exact hφ.own i b off h6 h7
      .exact .inl (Xck hφ.le.size h5)
     .exact hφ.own id b off h1 h2
    lt:=λid ⟨ob,hl,ck⟩=>by
     rcases fK id ob hl ck with⟨_,h2,_⟩|⟨j,S,h1,_⟩|⟨h1,h2⟩
     .exact h2
     .have:=jp id (Xar h1);omega
     .have:=hφ.lt id ⟨ob,h1,ck⟩;omega
    bl:=λid b off hl hp=>by
     rcases ay id b off hl hp with⟨pos,S,h1,h2,_⟩|⟨h1,h2,h3,_⟩
     .exact(hown S (gt h1) b off h2).2.2
     .exact Nat.lt_of_lt_of_le (hφ.bl id b off h1 h2) hA2.le.size
    le:=hφ.le.trans hA2.le (λb off nc=>by
     obtain⟨i,hi,h6,h7,_⟩:=hTk b off nc;exact hφ.own i b off h6 h7)}
   have hR:=hr.on pU hνold (by omega) ⟨φ2,hH⟩ pW;have hR2:=hR.put (dst:=o.dst) hd (Wno uv);rw[pT]at hk;exact hK _ _ _ _ _ hR2 hk
  .cases h
 .cases h
theorem Wp5{Γ:Ctx}(hΓ:Wdv P Γ)(hr:Rel w0 F nt G0 G ν st a w){o:Oper}(hd:∀d,o.dst=some d->nt.Ok d){c:Call}{f:Operand}{g:FuncId}{caps:List Nat}{xs:List AVal}{sg:Sig}{R:Type}{k:St->Option R}{r:R}
  (ho:o.op= .call c) (hc:c.callee= .value f) (hf:ev st f=some (.s (.one (.clos g caps)))) (kO:evs st c.args.toList=some xs) (kK:Wc Γ g=some sg)
  (h:Wjg sg st (xs++Wg9 caps) (λx objs nx=>k (({env:=st.env,objs:=objs,nx:=nx}:St).put o.dst x))=some r) {K:Act->World->Prop} {Q:Exit->Act->World->Prop}
  (hK:∀af a' w' G' ν',Rel w0 F nt G0 G' ν' af a' w'->k af=some r->K a' w'):o.wp P a w K Q:=by
 obtain⟨⟨cvs,m9,hcl,hcv⟩,_⟩:=Wr hr f _ hf;obtain⟨gM,uw⟩:=WnN hr _ _ kO;have hlen:(xs++Wg9 caps).length=(c.args.toList.map a.eval++cvs).length:=by simp[gM,Wg9,hcl]
 have hargs:∀(j:Nat) (x:AVal) (v:Value),(xs++Wg9 caps)[j]?=some x->(c.args.toList.map a.eval++cvs)[j]?=some v->AValRel G ν st.nx x v:=λj x v hj hv=>by
  rw[Xaq]at hj hv;rw[Xz,←gM]at hv;split at hj
  .rename_i hlt;rw[if_pos hlt]at hv;exact uw j x v hj hv
  .rename_i hlt;rw[if_neg hlt]at hv;simp only[Wg9,Xak]at hj;cases hcj:caps[j-xs.length]? with
   |none=>simp[hcj]at hj
   |some id=>
    simp[hcj]at hj;subst hj;obtain⟨h1,h3,h2⟩:=hcv _ id v hcj hv;exact⟨⟨h1,h2⟩,h3⟩
 unfold Wjg at h;cases iZ:sg.fresh with
 |true=>
  rw[iZ]at h;exact Whp hΓ hr hd ho hc m9 kK hlen hargs h hK
 |false=>
  rw[iZ]at h;simp only[cond_false]at h;split at h
  .rename_i A hA;split at h
   .exact Whp hΓ hr hd ho hc m9 kK hlen hargs h hK
   .obtain⟨G1,hz⟩:=hr.frz A.lent;refine Whp hΓ hz.rel hd ho hc m9 kK (by simpa using hlen) (λj x v hj hv=>?_) h hK;rw[Xak]at hj;obtain⟨y,hy,rfl⟩:=Xw.1 hj;exact hz.val y v (hargs j y v hy hv)
  .cases h
end
end Go.Sx
namespace Go.Sx
set_option linter.unusedVariables false
set_option linter.unusedSimpArgs false
section
variable{w0:World}{F:CS}{nt:Slots}{G0 G G':GH}{ν:Nat->Nu}{objs:WS}{nx:Nat}{st af:St}{a:Act}{w w':World}{P:Program}{T:Tab}{Γ:Ctx}
theorem Done.wp{o:Oper}{af:St}(h:Done P w0 F nt G0 o a w af){K:Act->World->Prop}{Q:Exit->Act->World->Prop}
  (hK:∀a' w' G' ν',Rel w0 F nt G0 G' ν' af a' w'->K a' w'):o.wp P a w K Q:=by
 obtain⟨n,v,w',G',ν',h1,h2,h3⟩:=h;unfold Oper.wp;rw[h1];rcases h2 with rfl|⟨rfl,rfl⟩
 .exact hK _ _ _ _ h3
 .exact hK _ _ _ _ h3
theorem Wjm{t:TypeId}{x v:AVal}{af:St}(h:WbN T st t x v=some af):({env:=st.env,objs:=af.objs,nx:=af.nx}:St)=af:=by
 unfold WbN at h;split at h
 .split at h
  .split at h
   .injection h with h;subst h;rfl
   .cases h
  .cases h
 .split at h
  .split at h
   .split at h
    .injection h with h;subst h;rfl
    .cases h
   .split at h
    .split at h
     .split at h
      .injection h with h;subst h;rfl
      .cases h
     .cases h
    .cases h
  .cases h
 .cases h
theorem Wac{R:Type}{c:Bool}{x:Option R}{r:R}(h:(bif c then x else none)=some r):c=true/\x=some r:=by
 cases c
 .cases h
 .exact⟨rfl,h⟩
theorem Wa6{R:Type}{c:Prop}[Decidable c]{x:Option R}{r:R}(h:(if c then x else none)=some r):c/\x=some r:=by
 split at h
 .exact⟨by assumption,h⟩
 .cases h
theorem WjF{e:Ty}{ps:List (Nat×AVal)}{R:Type}{k:KV R}{r:R}(h:Wb6 st e ps k=some r):
  ∃x ds d m,ps= [(0,x)]/\WeK (Wfb st.objs (We1 e x) x)=some ds/\WZ e ds (WcC st.objs (We1 e x))=some (d,m,[])/\WaQ m=true/\
   k (.s (.one (.own st.nx))) ((st.nx,.arr e [d])::kill (WcC st.objs (We1 e x)) m) (st.nx+1)=some r:=by
 match ps with
 | [p]=>
  simp only[Wb6]at h;obtain⟨hp,h⟩:=Wa6 h;split at h
  .rename_i ds ff;split at h
   .rename_i d m hf;obtain⟨aH,h⟩:=Wa6 h;exact⟨p.2,ds,d,m,by rw[←hp],ff,hf,aH,h⟩
   .cases h
  .cases h
 | []=>cases h
 |_::_::_=>cases h
theorem Wkx(hT:WW P T)(hr:Rel w0 F nt G0 G ν st a w){o:Oper}(hd:∀d,o.dst=some d->nt.Ok d){R:Type}{k:St->Option R}{r:R}
  (h:(match WV T st o.op with|some (c,v)=>bif c then k (({env:=st.env,objs:=st.objs,nx:=st.nx}:St).put o.dst v)else none|none=>none)=some r)
  {K:Act->World->Prop} {Q:Exit->Act->World->Prop} (hK:∀af a' w' G' ν',Rel w0 F nt G0 G' ν' af a' w'->k af=some r->K a' w'):o.wp P a w K Q:=by
 split at h
 .rename_i c v hp;obtain⟨rfl,h⟩:=Wac h;exact(Wns hT hr hd hp).wp λa' w' G' ν' aS=>hK _ _ _ _ _ aS h
 .cases h
theorem Wn4(hT:WW P T)(hΓ:Wdv P Γ)(hr:Rel w0 F nt G0 G ν st a w){o:Oper}(hd:∀d,o.dst=some d->nt.Ok d){A:List (Nat×An)}{R:Type}{k:St->Option R}{r:R}(h:rx1 T Γ A o st k=some r)
  {K:Act->World->Prop} {Q:Exit->Act->World->Prop} (hK:∀af a' w' G' ν',Rel w0 F nt G0 G' ν' af a' w'->k af=some r->K a' w'):o.wp P a w K Q:=by
 unfold rx1 rxe at h;split at h
 .rename_i t ho;split at h
  .rename_i e n et hl;obtain⟨hc,h⟩:=Wa6 h;simp only[Xi]at hc;exact(Wht hT hr hd ho hl hc.1 hc.2).wp λa' w' G' ν' aS=>hK _ _ _ _ _ aS h
  .rename_i te _ hl;obtain⟨hc,h⟩:=Wa6 h;exact(Wmd hT hr hd ho hl hc).wp λa' w' G' ν' aS=>hK _ _ _ _ _ aS h
  .cases h
 .rename_i t x ho;split at h
  .rename_i te cs hl hb;cases hv:ev st x with
   |none=>simp[hv]at hb
   |some v=>
    simp only[hv,Xd]at hb;exact(Wo0 hr hd ho hv hb).wp λa' w' G' ν' aS=>hK _ _ _ _ _ aS h
  .cases h
 .rename_i t parts ho;split at h
  .rename_i ty fs ps hl dg;obtain⟨hc,h⟩:=Wa6 h;split at h
   .rename_i cs hf;refine(Wmc hT hr hd ho hl dg hf ?_).wp λa' w' G' ν' aS=>hK _ _ _ _ _ aS h;intro f hf;have:=Xai.1 hc f hf;split at this
    .rename_i te bh;exact⟨te,bh,this⟩
    .cases this
   .cases h
  .cases h
 .rename_i t n parts ho;split at h
  .rename_i ty et ps hl dg;split at h
   .rename_i te hle;split at h
    .rename_i e _;obtain⟨hc,h1⟩:=Wa6 h;clear h;simp only[Xi,decide_eq_true_eq]at hc;obtain⟨⟨⟨hn,he⟩,hp⟩,hsz⟩:=hc;obtain⟨x,ds,d,m,rfl,ff,hf,aH,h⟩:=WjF h1;clear h1;subst hn;have aH:=(WbO _).1 aH;obtain⟨G1,hz⟩:=hr.frz (We1 e x);obtain⟨p1,p2⟩:=Wev hr _ _ dg;have dI:∃y,parts.toList= [(0,y)]/\AValRel G ν st.nx x (a.eval y):=by
      match fF:parts.toList,p1 with
      | [q],_=>
       rw[fF]at p2;obtain⟨q1,q2⟩:=p2 0 _ q rfl rfl;refine⟨q.2,?_,q2⟩;have:q=(0,q.2):=Prod.ext q1.symm rfl;rw[←this]
     obtain⟨y,ux,uy⟩:=dI;exact(Wit hT hz.rel hd ho ux hl hle (hz.val _ _ uy) ff hf aH he hp hsz).wp λa' w' G' ν' aS=>hK _ _ _ _ _ aS h
    split at h
    .rename_i xs hf;obtain⟨hc,h⟩:=Wa6 h;simp only[Xi,decide_eq_true_eq]at hc;obtain⟨G1,hz⟩:=hr.frz (WhA ps);obtain⟨p1,p2⟩:=Wev hr _ _ dg;exact(Wgo hT hz.rel hd ho hl hle (by simpa [Wh2]using p1) (λj p q hp hq=>by
      simp only[Wh2,Xak]at hp;obtain⟨y,hy,rfl⟩:=Xw.1 hp;exact⟨(p2 j y q hy hq).1,hz.val _ _ (p2 j y q hy hq).2⟩) hf hc.1.1 hc.1.2 hc.2).wp λa' w' G' ν' aS=>hK _ _ _ _ _ aS h
    .cases h
   .cases h
  .cases h
 .rename_i t n c ho;split at h
  .rename_i ty et n' c' hl hn hc;split at h
   .rename_i te hle;obtain⟨k1,pR⟩:∃k,a.eval n= .int k n':=by
     cases hv:ev st n with
     |none=>simp[hv]at hn
     |some v=>simp only[hv,Xd]at hn;exact WdR _ _ _ (Wr hr n _ hv) hn
    obtain⟨k2,iY⟩:∃k,a.eval c= .int k c':=by
     cases hv:ev st c with
     |none=>simp[hv]at hc
     |some v=>simp only[hv,Xd]at hc;exact WdR _ _ _ (Wr hr c _ hv) hc
    split at h
    .obtain⟨jr,h⟩:=Wa6 h;obtain⟨hb,h⟩:=Wac h;simp only[Xi,decide_eq_true_eq]at hb jr;exact(Wgb hT hr hd ho hl hle pR iY hb.1.1 hb.1.2 hb.2 jr.1 jr.2).wp λa' w' G' ν' aS=>hK _ _ _ _ _ aS h
    .obtain⟨jr,h⟩:=Wa6 h;obtain⟨hb,h⟩:=Wac h;simp only[Xi,decide_eq_true_eq]at hb jr;exact(WgD hT hr hd ho hl hle pR iY hb.1.1 hb.1.2 hb.2 jr.1 jr.2).wp λa' w' G' ν' aS=>hK _ _ _ _ _ aS h
   .cases h
  .cases h
 .rename_i t x y ho;split at h
  .rename_i p v hp hv;split at h
   .rename_i af hs;split at h
    .rename_i gN;have h:k (({env:=st.env,objs:=af.objs,nx:=af.nx}:St).put o.dst (.tup []))=some r:=h;obtain⟨G1,hz⟩:=hr.frz (WdM st.objs p v);have gr:=Wjm hs;simp only at gr;rw[gr,gN]at h;exact(WlO hT hz.rel ho gN (AValRel.mono hz.le (λ_ _=>rfl) (Xl _) _ _ (Wr hr x _ hp)) (hz.val _ _ (Wr hr y _ hv)) hs).wp λa' w' G' ν' aS=>hK _ _ _ _ _ aS h
    .cases h
   .cases h
  .cases h
 .rename_i t x lo hi ho;split at h
  .rename_i id hx;split at h
   .rename_i ty et l hh hl aL l0;split at h
    .rename_i te hle;split at h
     .obtain⟨hp,h⟩:=Wa6 h;obtain⟨af,hk,dR⟩:=WmD hT hr hd ho hx hl hle hp aL l0 h;exact dR.wp λa' w' G' ν' aS=>hK _ _ _ _ _ aS hk
     .split at h
      .rename_i h' e xs _ ax;obtain⟨⟨he,hp⟩,h⟩:=Wa6 h;obtain⟨hb,h⟩:=Wac h;simp only[Xi,decide_eq_true_eq]at hb;exact(Wl8 hT hr hd ho hx hl hle hp he ax aL l0 hb.1 hb.2).wp λa' w' G' ν' aS=>hK _ _ _ _ _ aS h
      .rename_i h' e xs i p _ ax;obtain⟨⟨he,hp,pP⟩,h⟩:=Wa6 h;obtain⟨hb,h⟩:=Wac h;simp only[Xi,decide_eq_true_eq]at hb;exact(Wgz hT hr hd ho hx hl hle hp he ax pP aL l0 hb.1.1 hb.1.2 hb.2).wp λa' w' G' ν' aS=>hK _ _ _ _ _ aS h
      .cases h
    .cases h
   .cases h
  .rename_i hx;exact Wkx hT hr hd (by rw[ho];rw[ho]at h;exact h) hK
 .rename_i c ho;split at h
  .rename_i s x t t2 hc ha cw;split at h
   .rename_i sv xv hs hx;obtain⟨af,hk,dR⟩:=Wkn hT hr hd ho hc ha cw hs hx h;exact dR.wp λa' w' G' ν' aS=>hK _ _ _ _ _ aS hk
   .cases h
  .rename_i x t hc ha cw;split at h
   .rename_i id lo hi hx;split at h
    .rename_i ty et e xs hl ax;split at h
     .rename_i te hle;obtain⟨⟨he,hp,aK⟩,h⟩:=Wa6 h;exact(WlS hT hr hd ho hc ha cw hx hl hle ax he hp aK).wp λa' w' G' ν' aS=>hK _ _ _ _ _ aS h
     .cases h
    .cases h
   .cases h
  .exact Wkx hT hr hd h hK
  .rename_i f args _ hc;split at h
   .rename_i g caps xs hf kO;split at h
    .rename_i sg kK;exact Wp5 hΓ hr hd ho hc hf kO kK h hK
    .cases h
   .cases h
  .cases h
 .exact Wkx hT hr hd h hK
end
end Go.Sx
namespace Go.Sx
set_option linter.unusedVariables false
set_option linter.unusedSimpArgs false
section
variable{w0:World}{F:CS}{nt:Slots}{G0 G G':GH}{ν ν':Nat->Nu}{φ φ':Nat->CS}{objs objs':WS}{nx ah:Nat}{st af:St}{a:Act}{w w':World}{P:Program}{T:Tab}{Γ:Ctx}
theorem Rel.rebind(h:Rel w0 F nt G0 G ν st a w){i:Nat}{x:AVal}{v:Value}(hv:a.tmps[i]?=some v)(hx:AValRel G ν st.nx x v):Rel w0 F nt G0 G ν (st.put (some i) x) a w:=
 ⟨h.defers,h.ntm,h.par,λj y hy=>by
  simp only[St.put]at hy;rw[Wl]at hy;split at hy
  .rename_i e;subst e;injection hy with hy;subst hy;exact⟨v,hv,hx⟩
  .exact h.env j y hy,h.h,h.gx⟩
theorem CellsRel.set{cs:List Cell}{vs:List Value}(h:CellsRel G ν nx cs vs){off:Nat}{c:Cell}(hc:∀v,vs[off]?=some v->CellRel G ν nx c v):CellsRel G ν nx (cs.set off c) vs:=by
 refine⟨by simp[h.1],λj d v hd hv=>?_⟩;rw[List.getElem?_set]at hd;split at hd
 .rename_i e;subst e;split at hd
  .rename_i hlt;injection hd with hd;subst hd;exact⟨hc v hv,(h.2 off cs[off] v (Xq hlt) hv).2⟩
  .cases hd
 .exact h.2 j d v hd hv
theorem HRel.mk_box(h:HRel w0 F G ν objs nx w){id:Nat}{cs cs':List Cell}(ho:Wc objs id=some (.box cs))(hl:cs'.length=cs.length)
  (hc:∀vs,CellsRel G ν nx cs vs->CellsRel G ν nx cs' vs):HRel w0 F G ν ((id,.box cs')::objs) nx w:=by
 obtain⟨φ,h⟩:=h;have aC:Live objs id:=⟨_,ho,by simp⟩;obtain⟨b,vs,h1,h2,h3,h4,h5⟩:Wbx G ν nx w id (φ id) (.box cs):=h.ob _ _ ho;exact⟨_,h.put (ν':=ν) (m:=[]) (λ_ _=>rfl) (Xl _) (h.lt id aC) (WLe.refl _ w) (λb o hh=>.inl ⟨id,.inl rfl,aC,hh⟩) (λ_=>⟨b,vs,h1,by rw[hl];exact h2,h3,hc _ h4,by rw[hl];exact h5⟩)⟩
theorem HRel.empt(h:HRel w0 F G ν objs nx w){id:Nat}{e e':Ty}(ho:Wc objs id=some (.arr e' []))(hs:e.size=e'.size):HRel w0 F G ν ((id,.arr e [])::objs) nx w:=by
 obtain⟨φ,h⟩:=h;have aC:Live objs id:=⟨_,ho,by simp⟩;have ax:Wbx G ν nx w id (φ id) (.arr e' []):=h.ob _ _ ho;have ax:OwnL w (TyRel G w e') e'.size (ν id) [] (φ id):=ax;refine⟨_,h.put (ν':=ν) (m:=[]) (λ_ _=>rfl) (Xl _) (h.lt id aC) (WLe.refl _ w) (λb o hh=>.inl ⟨id,.inl rfl,aC,hh⟩) (λ_=>?_)⟩;show OwnL w (TyRel G w e) e.size (ν id) [] (φ id);rw[hs];unfold OwnL at*;refine⟨ax.1,ax.2.1,?_⟩;have h3:=ax.2.2;cases hb:(ν id).blk with
 |none=>rfl
 |some b=>
  rw[hb]at h3;obtain⟨a1,a2,a3,cs,ps,a4,a5,a6,a7⟩:=h3;exact⟨a1,a2,a3,cs,ps,by simpa [EncP]using a4,a5,a6,a7⟩
theorem HRel.adopt(h:HRel w0 F G ν objs nx w)(e:Ty):HRel w0 F G (upd ν nx ⟨none,0,0,0,e.size⟩) ((nx,.arr e [])::objs) (nx+1) w:=by
 obtain⟨φ,h⟩:=h;refine⟨_,h.put (m:=[]) (S:=λ_ _=>False) (WdC ν nx _) (Xdj _) (Xbl _) (WLe.refl _ w) (λb o hh=>hh.elim) (λ_=>?_)⟩;show OwnL _ _ _ (upd ν nx ⟨none,0,0,0,e.size⟩ nx) _ _;rw[WaJ];exact⟨rfl,rfl,rfl⟩
theorem WgR(e:Ty):CellRel G (upd ν nx ⟨none,0,0,0,e.size⟩) (nx+1) (.own nx) (.slice none 0 0):=
 ⟨Xbl _,by rw[WaJ];rfl⟩
theorem HRel.solo(h:HRel w0 F G ν objs nx w){id lo hi:Nat}{e:Ty}{xs:List e.den}(ho:Wc objs id=some (.arr e xs))(h1:lo<=hi)(h2:hi<=(ν id).len):
  HRel w0 F G (upd ν nx ((ν id).part lo hi)) ((nx,.arr e ((xs.take hi).drop lo))::(id,.dead)::objs) (nx+1) w:=by
 obtain⟨φ,h⟩:=h;have aC:Live objs id:=⟨_,ho,by simp⟩;have hown:OwnL w (TyRel G w e) e.size (ν id) xs (φ id):=h.ob _ _ ho;refine⟨_,h.put (m:=[id]) (S:=φ id) (WdC ν nx _) (Xdj _) (Xbl _) (WLe.refl _ w) (λb o hh=>.inl ⟨id,.inr (by simp),aC,hh⟩) (λ_=>?_)⟩;show OwnL _ _ _ (upd ν nx ((ν id).part lo hi) nx) _ _;rw[WaJ];exact WjC hown h1 h2
theorem Wji{id lo hi:Nat}:CellRel G (upd ν nx ((ν id).part lo hi)) (nx+1) (.own nx) ((ν id).vhdr lo hi):=
 ⟨Xbl _,by rw[WaJ,WhQ]⟩
theorem Wkd(h:Rel w0 F nt G0 G ν st a w){p:Nat}(hg:Wkb st p=some af):Rel w0 F nt G0 G ν af a w:=by
 unfold Wkb at hg;split at hg
 .rename_i r _;split at hg
  .rename_i e xs i p' cs aL eN;split at hg
   .rename_i d m hf;split at hg
    .rename_i aY;injection hg with hg;subst hg;simp only[Xi]at aY;obtain⟨hp,aH⟩:=aY;have hp:=Xbt hp;subst hp;have aH:=(WbO _).1 aH;obtain⟨n1,n2⟩:=Xae.1 aH;obtain⟨n3,n4⟩:=Xae.1 n2;obtain⟨φ,hφ⟩:=h.h;have aC:Live st.objs r:=⟨_,aL,by simp⟩;have cM:Live st.objs p:=⟨_,eN,by simp⟩;obtain⟨kB,hole⟩:p<st.nx/\Wfm w (TyRel G w e) e.size (ν r) (ν p) xs i (φ r):=hφ.ob _ _ aL;obtain⟨b,us,hb,hrow,hmem,aX,dC⟩:Wbx G ν st.nx w p (φ p) (.box cs):=hφ.ob _ _ eN;obtain⟨ns,t1,t2,t3,t4,_⟩:=WT (G':=G) hφ (λ_ _ _ hh=>hh) e cs us d m [] aX (λi hi=>by simp at hi) n4 hf;have cU:=Wk _ _ _ _ t1;rw[←aX.1,cU]at dC;have hne:r≠p:=λe=>n1 (by rw[e];exact Xh ..);refine h.on (λ_ _ _ hh=>hh) (λ_ _=>rfl) (Xl _) ⟨_,hφ.put (ν':=ν) (S:=λb o=>φ r b o\/FromL φ st.objs (p::m) b o) (λ_ _=>rfl) (Xl _) (hφ.lt r aC) (WLe.refl _ w) (λb o hh=>?_) (λ_=>?_)⟩ h.gx
     .rcases hh with hh|⟨j,hj,h1,h2⟩
      .exact .inl ⟨r,.inl rfl,aC,hh⟩
      .exact .inl ⟨j,.inr hj,h1,h2⟩
     .refine Wlj hole t1 hb hmem dC t2 t3 ?_ ?_ ?_ (λb o hh=>.inl hh) (λb o hh=>.inr ⟨p,Xh ..,cM,hh⟩) (λb o hh=>.inr (FromL.mono (λi hi=>Xe _ hi) b o hh))
      .exactλb o h1 h2=>hne (hφ.inj r p b o aC cM h1 h2)
      .exactλb o h1 ⟨j,hj,h2,h3⟩=>by
        have:=hφ.inj r j b o aC h2 h1 h3;subst this;exact n1 (Xe _ hj)
      .exactλb o h1 ⟨j,hj,h2,h3⟩=>by
        have:=hφ.inj p j b o cM h2 h1 h3;subst this;exact n3 hj
    .cases hg
   .cases hg
  .cases hg
 .cases hg
theorem WgK(h:Rel w0 F nt G0 G ν st a w){r i:Nat}{e:Ty}{xs:List e.den}(aL:Wc st.objs r=some (.arr e xs))(hi:i<xs.length)(hg:WiK st r i=some af):
  ∃ν' b,Rel w0 F nt G0 G ν' af a w/\st.nx<af.nx/\(ν r).blk=some b/\(ν' st.nx)=Wbh b ((ν r).off+i*(ν r).esz)/\af.env=st.env:=by
 unfold WiK at hg;rw[aL]at hg;simp only[Option.some.injEq]at hg;subst hg;obtain⟨φ,hφ⟩:=h.h;have aC:Live st.objs r:=⟨_,aL,by simp⟩;have hown:OwnL w (TyRel G w e) e.size (ν r) xs (φ r):=hφ.ob _ _ aL;obtain⟨g1,g2,g3⟩:=hown;have p0:=hφ.lt r aC;cases hb:(ν r).blk with
 |none=>simp only[hb]at g3;rw[g3]at hi;simp at hi
 |some b=>
  simp only[hb]at g3;obtain⟨g4,g5,g6,cs,ps,g7,g8,g9,mN⟩:=g3;obtain⟨c1,c,c2,p1,pc,p2,k1,k2,k3,k4,k5⟩:=Wky g7 e.dflt hi;have l1:=Wak (λx c q hx=>Wk e x c q hx) _ _ _ k3;rw[Xau,Xbw (by omega)]at l1;have lc:=Wk _ _ _ _ k4;have lo:=WL _ _ _ _ k4;have e1:(i+1)*e.size=i*e.size+e.size:=Xbq i e.size;have e2:((ν r).cap-(i+1))*e.size+(i+1)*e.size=(ν r).cap*e.size:=by rw[←Xcp];congr 1;omega
  have nd:=Wae e (xs.getD i e.dflt) (st.nx+1);have cU:=Wbg e (xs.getD i e.dflt) (st.nx+1);rw[k1]at g8;have m1:Mem w b (ν r).off c1:=g8.left;have m2:Mem w b ((ν r).off+i*e.size) c:=(g8.right l1).left;have m3:Mem w b ((ν r).off+(i+1)*e.size) c2:=by
   have:=(g8.right l1).right lc;rw[Xan,←e1]at this;exact this
  obtain⟨q1,q2⟩:=Xy.1 g9;have eG:=mN _ (Xh ..);have jl:∀p∈p1++(pc++p2),CS.le p.fp (φ r):=λp hp=>mN _ (Xe _ (Xal (by rw[k2];exact hp)));have ma:∀p∈p1++(pc++p2),CS.disj (rng b (ν r).off ((ν r).cap*e.size)) p.fp:=λp hp=>q1 _ (Xal (by rw[k2];exact hp));rw[k2,Xn,Xn]at q2;obtain⟨s1,s2,s3⟩:=Xaa.1 q2;obtain⟨s4,s5,s6⟩:=Xaa.1 s2;have rA:CS.le (rng b (ν r).off (i*e.size)) (rng b (ν r).off ((ν r).cap*e.size)):=λb o ⟨x0,x1,x2⟩=>⟨x0,by omega,by omega⟩;have rB:CS.le (rng b ((ν r).off+i*e.size) e.size) (rng b (ν r).off ((ν r).cap*e.size)):=λb o ⟨x0,x1,x2⟩=>⟨x0,by omega,by omega⟩;have rC:CS.le (rng b ((ν r).off+(i+1)*e.size) (((ν r).cap-(i+1))*e.size)) (rng b (ν r).off ((ν r).cap*e.size)):=λb o ⟨x0,x1,x2⟩=>⟨x0,by omega,by omega⟩;obtain⟨SR,hSR⟩:∃SR:CS,SR= λb' o=>rng b (ν r).off (i*e.size) b' o\/rng b ((ν r).off+(i+1)*e.size) (((ν r).cap-(i+1))*e.size) b' o\/∃p∈p1++p2,p.fp b' o:=⟨_,rfl⟩;have hSRφ:CS.le SR (φ r):=λb o hh=>by
   rw[hSR]at hh;rcases hh with hh|hh|⟨p,hp,hh⟩
   .exact eG b o (rA b o hh)
   .exact eG b o (rC b o hh)
   .refine jl p ?_ b o hh;rcases Xk.1 hp with hp|hp
    .exact Xj _ hp
    .exact Xg _ (Xg _ hp)
  obtain⟨ν',hν'⟩:∃ν':Nat->Nu,ν'= λj=>if j<st.nx then ν j else if j=st.nx then Wbh b ((ν r).off+i*e.size)else((nus pc)[j-(st.nx+1)]?).getD ⟨none,0,0,0,0⟩:=⟨_,rfl⟩;obtain⟨φ',hφ'⟩:∃φ':Nat->CS,φ'= λj=>if j=r then SR else if j<st.nx then φ j else if j=st.nx then rng b ((ν r).off+i*e.size) e.size else((fps pc)[j-(st.nx+1)]?).getD (λ_ _=>False):=⟨_,rfl⟩;have hνold:Wn8 st.nx ν ν':=λj hj=>by rw[hν'];simp[hj]
  have hνp:ν' st.nx=Wbh b ((ν r).off+i*e.size):=by rw[hν'];simp
  have hφr:φ' r=SR:=by rw[hφ'];simp
  have hφp:φ' st.nx=rng b ((ν r).off+i*e.size) e.size:=by rw[hφ'];simp;omega
  have hφold:∀j,j<st.nx->j≠r->φ' j=φ j:=λj hj hn=>by rw[hφ'];simp[hj,hn]
  have hAt:At ν' φ' (st.nx+1) pc:=λj q hj=>by
   have x1:(nus pc)[j]?=some q.nu:=by unfold nus;rw[Xak,hj];rfl
   have x2:(fps pc)[j]?=some q.fp:=by unfold fps;rw[Xak,hj];rfl
   rw[hν',hφ'];constructor
   .show(if st.nx+1+j<st.nx then _ else if st.nx+1+j=st.nx then _ else _)=_;rw[if_neg (by omega),if_neg (by omega),Xay,x1];rfl
   .show(if st.nx+1+j=r then _ else if st.nx+1+j<st.nx then _ else if st.nx+1+j=st.nx then _ else _)=_;rw[if_neg (by omega),if_neg (by omega),if_neg (by omega),Xay,x2];rfl
  obtain⟨uc,uo⟩:=W0 (ν:=ν') (φ:=φ') e (xs.getD i e.dflt) (st.nx+1) c pc k4 hAt;have fK:∀id ob,Wc ((r,Ob.hole e xs i st.nx)::(st.nx,Ob.box (unfold e (xs.getD i e.dflt) (st.nx+1)).1)::((unfold e (xs.getD i e.dflt) (st.nx+1)).2.1++st.objs)) id=some ob->ob≠ .dead->
    (id=r/\ob= .hole e xs i st.nx)\/(id=st.nx/\ob= .box (unfold e (xs.getD i e.dflt) (st.nx+1)).1)\/(st.nx+1<=id/\id<st.nx+1+e.owns/\Wl3 G ν' φ' w id ob)\/(id≠r/\id<st.nx/\Wc st.objs id=some ob):=λid ob hl hd=>by
   rw[Wl]at hl;split at hl
   .rename_i x;injection hl with hl;exact .inl ⟨x.symm,hl.symm⟩
   .rename_i oN;rw[Wl]at hl;split at hl
    .rename_i x;injection hl with hl;exact .inr (.inl ⟨x.symm,hl.symm⟩)
    .rcases Wq hl with hl|hl
     .obtain⟨x1,x2,x3⟩:=uo id ob hl;exact .inr (.inr (.inl ⟨x1,x2,x3⟩))
     .exact .inr (.inr (.inr ⟨λx=>oN x.symm,hφ.lt id ⟨ob,hl,hd⟩,hl⟩))
  have dS:∀id b' o,Live ((r,Ob.hole e xs i st.nx)::(st.nx,Ob.box (unfold e (xs.getD i e.dflt) (st.nx+1)).1)::((unfold e (xs.getD i e.dflt) (st.nx+1)).2.1++st.objs)) id->φ' id b' o->
    (id=r/\SR b' o)\/(id=st.nx/\rng b ((ν r).off+i*e.size) e.size b' o)\/(∃(j:Nat) (q:Pc),id=st.nx+1+j/\pc[j]?=some q/\q.fp b' o)\/(id≠r/\id<st.nx/\Live st.objs id/\φ id b' o):=λid b' o ⟨ob,hl,hd⟩ hp=>by
   rcases fK id ob hl hd with⟨rfl,_⟩|⟨rfl,_⟩|⟨x1,x2,_⟩|⟨x1,x2,x3⟩
   .rw[hφr]at hp;exact .inl ⟨rfl,hp⟩
   .rw[hφp]at hp;exact .inr (.inl ⟨rfl,hp⟩)
   .right;right;left;have hlt:id-(st.nx+1)<pc.length:=by omega
    refine⟨id-(st.nx+1),pc[id-(st.nx+1)],by omega,Xq hlt,?_⟩;have:=(hAt (id-(st.nx+1)) _ (Xq hlt)).2;rw[show st.nx+1+(id-(st.nx+1))=id by omega]at this;rw[this]at hp;exact hp
   .rw[hφold id x2 x1]at hp;exact .inr (.inr (.inr ⟨x1,x2,⟨ob,x3,hd⟩,hp⟩))
  have hq:∀(j:Nat) (q:Pc),pc[j]?=some q->q∈p1++(pc++p2):=λj q hj=>Xg _ (Xj _ (Xar hj));have di:∀id b' o,(id=r/\SR b' o)\/(id=st.nx/\rng b ((ν r).off+i*e.size) e.size b' o)\/(∃(j:Nat) (q:Pc),id=st.nx+1+j/\pc[j]?=some q/\q.fp b' o)->φ r b' o:=λid b' o hh=>by
   rcases hh with⟨_,hh⟩|⟨_,hh⟩|⟨j,q,_,hj,hh⟩
   .exact hSRφ b' o hh
   .exact eG b' o (rB b' o hh)
   .exact jl q (hq j q hj) b' o hh
  have hH:HR w0 F G ν' φ' ((r,Ob.hole e xs i st.nx)::(st.nx,Ob.box (unfold e (xs.getD i e.dflt) (st.nx+1)).1)::((unfold e (xs.getD i e.dflt) (st.nx+1)).2.1++st.objs)) (st.nx+1+e.owns) w:=by
   refine hφ.step (WLe.refl _ w) (λid ob hl hd=>?_) (λid ⟨ob,hl,hd⟩=>?_) (λid b' o ir hp=>?_) (λid b' o ir hp=>?_) (λid bn b' o hl co hp cK=>?_)
   .rcases fK id ob hl hd with⟨rfl,rfl⟩|⟨rfl,rfl⟩|⟨x1,x2,e',oU,rfl,x3⟩|⟨x1,x2,x3⟩
    .refine⟨by omega,?_⟩;rw[hφr,hνold id p0,hνp];refine⟨g1,g2,hi,b,hb,rfl,rfl,g4,g5,g6,c1,c2,p1,p2,k3,k5,m1,m3,?_,λs hs b' o hh=>?_⟩
     .refine Xy.2 ⟨λs hs=>?_,Xy.2 ⟨λs hs=>?_,?_⟩⟩
      .rcases Xm.1 hs with rfl|hs
       .exact Wpe (by omega)
       .obtain⟨p,hp,rfl⟩:=Xu.1 hs;refine(ma p ?_).mono rA (λ_ _ hh=>hh);rcases Xk.1 hp with hp|hp
        .exact Xj _ hp
        .exact Xg _ (Xg _ hp)
      .obtain⟨p,hp,rfl⟩:=Xu.1 hs;refine(ma p ?_).mono rC (λ_ _ hh=>hh);rcases Xk.1 hp with hp|hp
       .exact Xj _ hp
       .exact Xg _ (Xg _ hp)
      .rw[Xn];exact Xaa.2 ⟨s1,s5,λs hs t ht=>s3 s hs t (Xg _ ht)⟩
     .rw[hSR];rcases Xm.1 hs with rfl|hs
      .exact .inl hh
      .rcases Xm.1 hs with rfl|hs
       .exact .inr (.inl hh)
       .obtain⟨p,hp,rfl⟩:=Xu.1 hs;exact .inr (.inr ⟨p,hp,hh⟩)
    .refine⟨b,c,by rw[hνp];rfl,?_,by rw[hνp];exact m2,uc _ (Xl _),?_⟩
     .rw[hνp,cU];obtain⟨row,TT,y1,y2⟩:=g6;exact⟨row,TT,y1,by show(ν r).off+i*e.size+e.size<=row.size;omega⟩
     .rw[hνp,cU,hφp];exactλ_ _ hh=>hh
    .exact x3
    .rw[hφold id x2 x1];exact Wcg (λ_ _ _ hh=>hh) (Same.refl _ w) (λ_ _ hh=>hh) hνold (by omega) x2 ob (hφ.ob id ob x3)
   .rcases fK id ob hl hd with⟨rfl,_⟩|⟨rfl,_⟩|⟨_,x2,_⟩|⟨_,x2,_⟩<;>omega
   .rcases dS id b' o ir hp with hh|hh|hh|⟨_,_,x3,x4⟩
    .exact .inl ⟨r,aC,di id b' o (.inl hh)⟩
    .exact .inl ⟨r,aC,di id b' o (.inr (.inl hh))⟩
    .exact .inl ⟨r,aC,di id b' o (.inr (.inr hh))⟩
    .exact .inl ⟨id,x3,x4⟩
   .rcases dS id b' o ir hp with hh|hh|hh|⟨_,_,x3,x4⟩
    .exact hφ.bl r b' o aC (di id b' o (.inl hh))
    .exact hφ.bl r b' o aC (di id b' o (.inr (.inl hh)))
    .exact hφ.bl r b' o aC (di id b' o (.inr (.inr hh)))
    .exact hφ.bl id b' o x3 x4
   .have out:∀bn,bn≠r->Live st.objs bn->φ bn b' o->φ r b' o->False:=λbn y1 y2 y3 y4=>y1 (hφ.inj bn r b' o y2 aC y3 y4);have dSP:SR b' o->∀s,(s=rng b ((ν r).off+i*e.size) e.size\/∃q∈pc,s=q.fp)->s b' o->False:=λy1 s y2 y3=>by
     rw[hSR]at y1;rcases y2 with rfl|⟨q,kg,rfl⟩
     .rcases y1 with y1|y1|⟨p,hp,y1⟩
      .obtain⟨z0,z1,z2⟩:=y1;obtain⟨z3,z4,z5⟩:=y3;omega
      .obtain⟨z0,z1,z2⟩:=y1;obtain⟨z3,z4,z5⟩:=y3;omega
      .refine ma p ?_ b' o (rB b' o y3) y1;rcases Xk.1 hp with hp|hp
       .exact Xj _ hp
       .exact Xg _ (Xg _ hp)
     .have nf:q∈p1++(pc++p2):=Xg _ (Xj _ kg);rcases y1 with y1|y1|⟨p,hp,y1⟩
      .exact ma q nf b' o (rA b' o y1) y3
      .exact ma q nf b' o (rC b' o y1) y3
      .rcases Xk.1 hp with hp|hp
       .exact s3 _ (Xal hp) _ (Xj _ (Xal kg)) b' o y1 y3
       .exact s6 _ (Xal kg) _ (Xal hp) b' o y3 y1
    have dPQ:∀(j:Nat) (q:Pc),pc[j]?=some q->rng b ((ν r).off+i*e.size) e.size b' o->q.fp b' o->False:=λj q hj y1 y2=>ma q (hq j q hj) b' o (rB b' o y1) y2;rcases dS id b' o hl hp with hh|hh|hh|⟨x1,x2,x3,x4⟩<;>rcases dS bn b' o co cK with gu|gu|gu|⟨p4,x2',oV,oW⟩
    .rw[hh.1,gu.1]
    .exact(dSP hh.2 _ (.inl rfl) gu.2).elim
    .obtain⟨j,q,_,hj,y⟩:=gu;exact(dSP hh.2 _ (.inr ⟨q,Xar hj,rfl⟩) y).elim
    .exact(out bn p4 oV oW (di id b' o (.inl hh))).elim
    .exact(dSP gu.2 _ (.inl rfl) hh.2).elim
    .rw[hh.1,gu.1]
    .obtain⟨j,q,_,hj,y⟩:=gu;exact(dPQ j q hj hh.2 y).elim
    .exact(out bn p4 oV oW (di id b' o (.inr (.inl hh)))).elim
    .obtain⟨j,q,_,hj,y⟩:=hh;exact(dSP gu.2 _ (.inr ⟨q,Xar hj,rfl⟩) y).elim
    .obtain⟨j,q,_,hj,y⟩:=hh;exact(dPQ j q hj gu.2 y).elim
    .obtain⟨j,q,bg,hj,y⟩:=hh;obtain⟨j',q',p8,hj',y'⟩:=gu;have x1:(fps pc)[j]?=some q.fp:=by unfold fps;rw[Xak,hj];rfl
     have x2:(fps pc)[j']?=some q'.fp:=by unfold fps;rw[Xak,hj'];rfl
     have:=Whu (l:=fps pc) s4 x1 x2 y y';rw[bg,p8,this]
    .exact(out bn p4 oV oW (di id b' o (.inr (.inr hh)))).elim
    .exact(out id x1 x3 x4 (di bn b' o (.inl gu))).elim
    .exact(out id x1 x3 x4 (di bn b' o (.inr (.inl gu)))).elim
    .exact(out id x1 x3 x4 (di bn b' o (.inr (.inr gu)))).elim
    .exact hφ.inj id bn b' o x3 oV x4 oW
  refine⟨ν',b,?_,?_,rfl,by rw[hνp,g2],rfl⟩
  .have:=h.on (λ_ _ _ hh=>hh) hνold (by omega) ⟨φ',hH⟩ h.gx;rw[nd];exact this
  .show st.nx<(unfold e (xs.getD i e.dflt) (st.nx+1)).2.2;rw[nd];omega
end
end Go.Sx
namespace Go.Sx
set_option linter.unusedVariables false
set_option linter.unusedSimpArgs false
theorem Wb3:∀(l:List Nat) (i j:Nat),WnP i l=some j->l[j]?=some i
 | [],i,j,h=>by cases h
 |k::l,i,j,h=>by
  simp only[WnP]at h;split at h
  .rename_i hb;injection h with h;subst h;have:i=k:=by simpa using hb
   rw[this];rfl
  .cases hp:WnP i l with
   |none=>simp[hp]at h
   |some n=>
    simp[hp]at h;subst h;exact Wb3 l i n hp
theorem WgT{m:List Nat}:∀(l r:List Nat),WjA m l=some r->r.length=l.length/\∀(q j:Nat),r[q]?=some j->∃i,l[q]?=some i/\m[j]?=some i
 | [],r,h=>by simp[WjA]at h;subst h;exact⟨rfl,λq j hq=>by simp at hq⟩
 |i::l,r,h=>by
  simp only[WjA]at h;split at h
  .rename_i j r' h1 h2;injection h with h;subst h;obtain⟨h3,h4⟩:=WgT l r' h2;refine⟨by simp[h3],λq j' hq=>?_⟩;cases q with
   |zero=>simp at hq;subst hq;exact⟨i,rfl,Wb3 m i j h1⟩
   |succ q=>exact h4 q j' (by simpa using hq)
  .cases h
theorem Wbi:∀(n:Nat) (todo acc:List Nat) (objs:WS),acc.Nodup->(Whq n todo acc objs).Nodup
 |0,_,_,_,h=>h
 |n+1,[],acc,objs,h=>h
 |n+1,i::l,acc,objs,h=>by
  simp only[Whq];split
  .exact Wbi n l acc objs h
  .rename_i hi;have uz:i∉acc:=λhm=>hi ((Waf i acc).2 hm);have h2:(acc++ [i]).Nodup:=by
    rw[Xaf];refine⟨h,by simp,λx hx y hy=>?_⟩;simp at hy;subst hy
    exactλe=>uz (e▸hx)
   split
   .exact Wbi n _ _ objs h2
   .exact Wbi n _ _ objs h2
   .exact Wbi n _ _ objs h2
   .exact Wbi n _ _ objs h
theorem We7{m:List Nat}{objs:WS}:∀(l:List Nat) (j0:Nat) (j:Nat) (ob:Ob),Wc (Wcw m objs j0 l) j=some ob->∃i bN,j0<=j/\l[j-j0]?=some i/\Wc objs i=some bN/\ob=Woc m bN
 | [],j0,j,ob,h=>by cases h
 |i::l,j0,j,ob,h=>by
  simp only[Wcw]at h;have step:Wc (Wcw m objs (j0+1) l) j=some ob->∃i' bN,j0<=j/\(i::l)[j-j0]?=some i'/\Wc objs i'=some bN/\ob=Woc m bN:=λh=>by
   obtain⟨i',bN,h1,h2,h3,h4⟩:=We7 l (j0+1) j ob h;refine⟨i',bN,by omega,?_,h3,h4⟩;rw[show j-j0=(j-(j0+1))+1 by omega];simpa using h2
  split at h
  .rename_i bN ho;rw[Wl]at h;split at h
   .rename_i e;subst e;injection h with h;exact⟨i,bN,Xl _,by simp,ho,h.symm⟩
   .exact step h
  .exact step h
theorem WfL{env:List (Nat×AVal)}{f:AVal->AVal}:∀(l:List Nat) (i:Nat) (x:AVal),Wc ((WdX env l).map λp=>(p.1,f p.2)) i=some x->∃y,Wc env i=some y/\x=f y
 | [],i,x,h=>by cases h
 |j::l,i,x,h=>by
  simp only[WdX]at h;split at h
  .rename_i y hy;simp only[Xaj]at h;rw[Wl]at h;split at h
   .rename_i e;subst e;injection h with h;exact⟨y,hy,h.symm⟩
   .exact WfL l i x h
  .exact WfL l i x h
section
variable{w0:World}{F:CS}{nt:Slots}{G0 G G':GH}{ν ν':Nat->Nu}{objs objs':WS}{nx ah:Nat}{st af:St}{a:Act}{w w':World}{P:Program}{T:Tab}{Γ:Ctx}
structure Ren(m:List Nat)(ν ν':Nat->Nu)(ah:Nat):Prop where
 nx:∀(i j:Nat),m[j]?=some i->j<ah
 nu:∀(i j:Nat),m[j]?=some i->ν' j=ν i
theorem CellRel.ren{m:List Nat}(hm:Ren m ν ν' ah):∀(c:Cell) (v:Value),CellRel G ν nx c v->CellRel G ν' ah (WbP m c) v
 | .val t d,v,h=>h
 | .nils,v,h=>h
 | .rptr t d off,v,h=>h
 | .junk,v,h=>h
 | .own id,v,h=>by
  simp only[WbP];split
  .rename_i j hj;have hj:=Wb3 _ _ _ hj;exact⟨hm.nx _ _ hj,by rw[hm.nu _ _ hj];exact h.2⟩
  .trivial
 | .vw id lo hi,v,h=>by
  simp only[WbP];split
  .rename_i j hj;have hj:=Wb3 _ _ _ hj;exact⟨hm.nx _ _ hj,by rw[hm.nu _ _ hj];exact h.2⟩
  .trivial
 | .aptr id,v,h=>by
  simp only[WbP];split
  .rename_i j hj;have hj:=Wb3 _ _ _ hj;exact⟨hm.nx _ _ hj,by rw[hm.nu _ _ hj];exact h.2⟩
  .trivial
 | .ptr id off,v,h=>by
  simp only[WbP];split
  .rename_i j hj;have hj:=Wb3 _ _ _ hj;exact⟨hm.nx _ _ hj,by rw[hm.nu _ _ hj];exact h.2⟩
  .trivial
 | .eptr id i off,v,h=>by
  simp only[WbP];split
  .rename_i j hj;have hj:=Wb3 _ _ _ hj;exact⟨hm.nx _ _ hj,by rw[hm.nu _ _ hj];exact h.2⟩
  .trivial
 | .clos f caps,v,h=>by
  simp only[WbP];split
  .rename_i js hj;obtain⟨h1,h2⟩:=WgT _ _ hj;obtain⟨vs,h3,h4,h5⟩:=h;refine⟨vs,h3,h4.trans h1.symm,λq id u hq hu=>?_⟩;obtain⟨i,h6,h7⟩:=h2 q id hq;obtain⟨h8,h9,bq⟩:=h5 q i u h6 hu;exact⟨hm.nx _ _ h7,h9,by rw[hm.nu _ _ h7];exact bq⟩
  .trivial
theorem CellsRel.ren{m:List Nat}(hm:Ren m ν ν' ah){cs:List Cell}{vs:List Value}(h:CellsRel G ν nx cs vs):CellsRel G ν' ah (cs.map (WbP m)) vs:=by
 refine⟨by simp[h.1],λj c v hc hv=>?_⟩;simp only[Xak]at hc;cases hd:cs[j]? with
 |none=>simp[hd]at hc
 |some d=>
  simp[hd]at hc;subst hc;obtain⟨h1,h2⟩:=h.2 j d v hd hv;exact⟨h1.ren hm,h2⟩
theorem AvRel.ren{m:List Nat}(hm:Ren m ν ν' ah):∀(x:AV) (v:Value),AvRel G ν nx x v->AvRel G ν' ah (WpZ m x) v
 | .one c,v,h=>⟨h.1.ren hm,h.2⟩
 | .agg cs,v,⟨vs,h1,h2⟩=>⟨vs,h1,h2.ren hm⟩
theorem AValRel.ren{m:List Nat}(hm:Ren m ν ν' ah):∀(x:AVal) (v:Value),AValRel G ν nx x v->AValRel G ν' ah (Wj8 m x) v
 | .s x,v,h=>AvRel.ren hm x v h
 | .tup xs,v,⟨vs,h1,h2,h3⟩=>⟨vs,h1,by simp[h2],λj x u hx hu=>by
  simp only[Xak]at hx;cases hd:xs[j]? with
  |none=>simp[hd]at hx
  |some d=>
   simp[hd]at hx;subst hx;exact AvRel.ren hm d u (h3 j d u hd hu)⟩
theorem Wnt(slots:List Nat)(h:Rel w0 F nt G0 G ν st a w):∃ν',Rel w0 F nt G0 G ν' (canon slots st) a w:=by
 obtain⟨m,hm⟩:∃m,m=Whq 400 ((WdX st.env slots).flatMap λp=>Wap p.2) [] st.objs:=⟨_,rfl⟩;have aH:m.Nodup:=by rw[hm];exact Wbi _ _ _ _ (by simp)
 have kP:canon slots st={env:=(WdX st.env slots).map λp=>(p.1,Wj8 m p.2),objs:=Wcw m st.objs 0 m,nx:=m.length}:=by rw[hm];rfl
 obtain⟨ν',hν'⟩:∃ν':Nat->Nu,ν'= λj=>ν ((m[j]?).getD 0):=⟨_,rfl⟩;have iX:∀(i j:Nat),m[j]?=some i->ν' j=ν i:=λi j hj=>by rw[hν'];simp[hj]
 have ng:∀(j:Nat) (ob:Ob),Wc (Wcw m st.objs 0 m) j=some ob->∃i bN,m[j]?=some i/\Wc st.objs i=some bN/\ob=Woc m bN:=λj ob ho=>by
  obtain⟨i,bN,_,h2,h3,h4⟩:=We7 _ _ _ _ ho;exact⟨i,bN,by simpa using h2,h3,h4⟩
 have nh:Ren m ν ν' m.length:={
  nx:=λi j hj=>(Xr.1 hj).1
  nu:=iX}
 have da:∀j,Live (Wcw m st.objs 0 m) j->∃i,m[j]?=some i/\Live st.objs i:=λj ⟨ob,ho,hd⟩=>by
  obtain⟨i,bN,h1,h2,h3⟩:=ng j ob ho;refine⟨i,h1,bN,h2,λuA=>hd ?_⟩;rw[h3,uA];rfl
 rw[kP];refine⟨ν',h.defers,h.ntm,h.par,λi x hx=>?_,?_,h.gx⟩
 .obtain⟨y,h1,rfl⟩:=WfL _ _ _ hx;obtain⟨v,h2,h3⟩:=h.env i y h1;exact⟨v,h2,AValRel.ren nh y v h3⟩
 .obtain⟨φ,hφ⟩:=h.h;refine⟨λj=>φ ((m[j]?).getD 0),?_⟩;have kh:∀(i j:Nat),m[j]?=some i->φ ((m[j]?).getD 0)=φ i:=λi j hj=>by simp[hj]
  exact{
   g:=hφ.g
   ob:=λj ob ho=>by
    obtain⟨i,bN,h1,h2,rfl⟩:=ng j ob ho;have:=hφ.ob i bN h2;cases bN with
    |dead=>trivial
    |arr e xs=>
     show OwnL w (TyRel G w e) e.size (ν' j) xs (φ ((m[j]?).getD 0));rw[iX i j h1,kh i j h1];exact this
    |hole e xs k p=>
     simp only[Woc];split
     .rename_i q hq;have hq:=Wb3 _ _ _ hq;obtain⟨g1,g2⟩:=this;show q<m.length/\Wfm w (TyRel G w e) e.size (ν' j) (ν' q) xs k (φ ((m[j]?).getD 0));rw[iX i j h1,kh i j h1,iX p q hq];exact⟨(Xr.1 hq).1,g2⟩
     .trivial
    |box cs=>
     obtain⟨b,vs,h4,h5,h6,h7,h8⟩:=this;refine⟨b,vs,by rw[iX i j h1];exact h4,?_,by rw[iX i j h1];exact h6,h7.ren nh,?_⟩
     .rw[iX i j h1,Xz];exact h5
     .rw[iX i j h1,kh i j h1,Xz];exact h8
   gf:=λj b o hj hp=>by
    obtain⟨i,h1,h2⟩:=da j hj;rw[kh i j h1]at hp;exact hφ.gf i b o h2 hp
   inj:=λj j' b o hj hj' hp cK=>by
    obtain⟨i,h1,h2⟩:=da j hj;obtain⟨i',dP,gL⟩:=da j' hj';rw[kh i j h1]at hp;rw[kh i' j' dP]at cK;have:=hφ.inj i i' b o h2 gL hp cK;subst this;have hlt:=(Xr.1 h1).1;exact(List.getElem?_inj hlt aH).1 (h1.trans dP.symm)
   own:=λj b o hj hp=>by
    obtain⟨i,h1,h2⟩:=da j hj;rw[kh i j h1]at hp;exact hφ.own i b o h2 hp
   lt:=λj hj=>by
    obtain⟨i,h1,h2⟩:=da j hj;exact(Xr.1 h1).1
   bl:=λj b o hj hp=>by
    obtain⟨i,h1,h2⟩:=da j hj;rw[kh i j h1]at hp;exact hφ.bl i b o h2 hp
   le:=hφ.le}
theorem Wg0(h:Rel w0 F nt G0 G ν st a w){r:Nat}{ix:Option Nat}(hg:Wlp st r ix=some (true,af)):∃ν',Rel w0 F nt G0 G ν' af a w:=by
 unfold Wlp at hg;split at hg
 .rename_i c i ja;obtain⟨s,hs,hg⟩:=Xw.1 hg;simp only[Prod.mk.injEq]at hg;obtain⟨rfl,rfl⟩:=hg;have hlt:∃(e:Ty) (xs:List e.den),Wc st.objs r=some (.arr e xs)/\i<xs.length:=by
   unfold Wpx at ja;split at ja
   .split at ja
    .rename_i e xs ho;simp only[Option.some.injEq,Prod.mk.injEq]at ja;obtain⟨h1,rfl⟩:=ja;obtain⟨h2,h3⟩:=Wcq h1;exact⟨e,xs,ho,by omega⟩
    .cases ja
   .split at ja
    .rename_i e xs n ho hn;simp only[Option.some.injEq,Prod.mk.injEq]at ja;obtain⟨h1,rfl⟩:=ja;obtain⟨h2,h3⟩:=Wcq h1;exact⟨e,xs,ho,by omega⟩
    .cases ja
  obtain⟨e,xs,ho,hlt⟩:=hlt;obtain⟨ν',b,h1,_⟩:=WgK h ho hlt hs;exact⟨ν',h1⟩
 .cases hg
theorem WiX{g:Ghost}(h:Rel w0 F nt G0 G ν st a w)(hg:WdQ g st=some (true,af)):∃G' ν',Rel w0 F nt G0 G' ν' af a w:=by
 cases g with
 |canon slots=>
  simp only[WdQ]at hg;injection hg with hg;injection hg with _ hg;subst hg;obtain⟨ν',h'⟩:=Wnt slots h;exact⟨G,ν',h'⟩
 |adopt slot e=>
  simp only[WdQ]at hg;split at hg
  .rename_i hs;injection hg with hg;injection hg with _ hg;subst hg;obtain⟨v,hv,hr⟩:=h.env _ _ hs;have iB:v= .slice none 0 0:=hr.1;subst iB;have h2:=h.on (λ_ _ _ hh=>hh) (WdC ν st.nx _) (Xdj _) (h.h.adopt e) h.gx;exact⟨G,_,h2.rebind hv ⟨WgR e,rfl⟩⟩
  .injection hg with hg;injection hg with _ hg;subst hg;exact⟨G,ν,h⟩
  .cases hg
 |freeze slot=>
  simp only[WdQ]at hg;split at hg
  .rename_i id hs;split at hg
   .rename_i e xs ho;injection hg with hg;injection hg with _ hg;subst hg;obtain⟨G1,h1,h2,h3,h4⟩:=h.h.freezeL h.gx [id];obtain⟨v,hv,hr⟩:=h.env _ _ hs;have iB:v=(ν id).hdr:=hr.1.2;have h5:=h.on h1 (λ_ _=>rfl) (Xl _) h2 h3;exact⟨G1,ν,h5.rebind hv ⟨⟨v,rfl,iB▸h4 id (by simp) e xs ho⟩,hr.2⟩⟩
   .cases hg
  .cases hg
 |adoptC slot off e=>
  simp only[WdQ]at hg;split at hg
  .rename_i id hs;split at hg
   .rename_i cs ho;split at hg
    .rename_i hc;injection hg with hg;injection hg with _ hg;subst hg;have hne:st.nx≠id:=λe=>by
      obtain⟨φ,hφ⟩:=h.h;have:=hφ.lt id ⟨_,ho,by simp⟩;omega
     have h2:=h.h.adopt e;have jn:Wc ((st.nx,Ob.arr e [])::st.objs) id=some (.box cs):=by rw[Wl,if_neg hne];exact ho
     have h3:=h2.mk_box jn (cs':=cs.set off (.own st.nx)) (by simp) (λvs dB=>dB.set λv hv=>by
      have:v= .slice none 0 0:=(dB.2 off _ v hc hv).1;subst this;exact WgR e)
     exact⟨G,_,h.on (λ_ _ _ hh=>hh) (WdC ν st.nx _) (Xdj _) h3 h.gx⟩
    .injection hg with hg;injection hg with _ hg;subst hg;exact⟨G,ν,h⟩
    .cases hg
   .cases hg
  .cases hg
 |freezeC slot off=>
  simp only[WdQ]at hg;split at hg
  .rename_i id hs;split at hg
   .rename_i cs ho;split at hg
    .rename_i j hc;split at hg
     .rename_i e xs kj;injection hg with hg;injection hg with _ hg;subst hg;obtain⟨G1,h1,h2,h3,h4⟩:=h.h.freezeL h.gx [j];have hne:j≠id:=λe=>by subst e;rw[ho]at kj;cases kj
      have jn:Wc ((j,Ob.dead)::st.objs) id=some (.box cs):=by rw[Wl,if_neg hne];exact ho
      have h5:HRel w0 F G1 ν ((id,.box (cs.set off (.val (.slice e.ro) (Wby e xs))))::(j,.dead)::st.objs) st.nx w:=by
       refine HRel.mk_box h2 jn (by simp) (λvs dB=>dB.set λv hv=>?_);have iB:v=(ν j).hdr:=(dB.2 off _ v hc hv).1.2;exact⟨v,rfl,iB▸h4 j (by simp) e xs kj⟩
      exact⟨G1,ν,h.on h1 (λ_ _=>rfl) (Xl _) h5 h3⟩
     .cases hg
    .injection hg with hg;injection hg with _ hg;subst hg;exact⟨G,ν,h⟩
    .injection hg with hg;injection hg with _ hg;subst hg;exact⟨G,ν,h⟩
    .cases hg
   .cases hg
  .cases hg
 |nest d e=>injection hg with hg;injection hg with _ hg;subst hg;exact⟨G,ν,h⟩
 |view d=>injection hg with hg;injection hg with _ hg;subst hg;exact⟨G,ν,h⟩
 |opn d=>injection hg with hg;injection hg with _ hg;subst hg;exact⟨G,ν,h⟩
 |empt slot e=>
  simp only[WdQ]at hg;split at hg
  .split at hg
   .rename_i e' ho;split at hg
    .rename_i hc;injection hg with hg;injection hg with _ hg;subst hg;exact⟨G,ν,h.on (λ_ _ _ hh=>hh) (λ_ _=>rfl) (Xl _) (h.h.empt ho hc.1) h.gx⟩
    .cases hg
   .cases hg
  .cases hg
 |unfE slot=>
  simp only[WdQ]at hg;split at hg
  .rename_i r i hs;obtain⟨s,cg,hg⟩:=Xw.1 hg;injection hg with _ hg;subst hg;obtain⟨v,hv,hr⟩:=h.env _ _ hs;have eR:∃(e:Ty) (xs:List e.den),Wc st.objs r=some (.arr e xs):=by
    unfold WiK at cg;split at cg
    .rename_i e xs ho;exact⟨e,xs,ho⟩
    .cases cg
   obtain⟨e,xs,ho⟩:=eR;obtain⟨⟨_,hlt,b,hb,rfl⟩,_⟩:=hr;obtain⟨S,hown⟩:=h.h.obj ho;obtain⟨ν',b',h1,h2,h3,h4,h5⟩:=WgK h ho (by rw[hown.1];exact hlt) cg;rw[hb]at h3;injection h3 with h3;subst h3;refine⟨G,ν',h1.rebind hv ⟨⟨h2,b,by rw[h4];rfl,?_⟩,rfl⟩⟩;rw[h4];rfl
  .cases hg
 |unfS slot ix=>
  simp only[WdQ]at hg;split at hg
  .obtain⟨ν',h'⟩:=Wg0 h hg;exact⟨G,ν',h'⟩
  .cases hg
 |unfC slot off ix=>
  simp only[WdQ]at hg;split at hg
  .split at hg
   .split at hg
    .obtain⟨ν',h'⟩:=Wg0 h hg;exact⟨G,ν',h'⟩
    .cases hg
   .cases hg
  .cases hg
 |refold slot=>
  simp only[WdQ]at hg;split at hg
  .obtain⟨s,cg,hg⟩:=Xw.1 hg;injection hg with _ hg;subst hg;exact⟨G,ν,Wkd h cg⟩
  .cases hg
 |solo slot=>
  simp only[WdQ]at hg;split at hg
  .rename_i id lo hi hs;split at hg
   .rename_i e xs ho;injection hg with hg;injection hg with _ hg;subst hg;obtain⟨v,hv,hr⟩:=h.env _ _ hs;obtain⟨⟨_,g1,g2,g3,rfl⟩,_⟩:=hr;have h2:=h.on (λ_ _ _ hh=>hh) (WdC ν st.nx _) (Xdj _) (h.h.solo ho g1 g2) h.gx;exact⟨G,_,h2.rebind hv ⟨Wji,Wk8 _ _ _⟩⟩
   .cases hg
  .injection hg with hg;injection hg with _ hg;subst hg;exact⟨G,ν,h⟩
  .cases hg
 |soloC slot off=>
  simp only[WdQ]at hg;split at hg
  .rename_i id o hs;split at hg
   .rename_i cs ho;split at hg
    .rename_i j lo hi hc;split at hg
     .rename_i e xs kj;injection hg with hg;injection hg with _ hg;subst hg;have hne:j≠id:=λe=>by subst e;rw[ho]at kj;cases kj
      have p9:st.nx≠id:=λe=>by
       obtain⟨φ,hφ⟩:=h.h;have:=hφ.lt id ⟨_,ho,by simp⟩;omega
      have ay:lo<=hi/\hi<=(ν j).len:=by
       obtain⟨S,b,vs,k1,k2,k3,k4,k5⟩:=h.h.obj ho;have hlt:o+off<vs.length:=by rw[k4.1];exact(Xr.1 hc).1
       obtain⟨⟨_,g1,g2,_⟩,_⟩:=k4.2 _ _ _ hc (Xq hlt);exact⟨g1,g2⟩
      have h2:=h.h.solo kj ay.1 ay.2;have jn:Wc ((st.nx,Ob.arr e ((xs.take hi).drop lo))::(j,Ob.dead)::st.objs) id=some (.box cs):=by rw[Wl,if_neg p9,Wl,if_neg hne];exact ho
      have py:j<st.nx:=by
       obtain⟨φ,hφ⟩:=h.h;exact hφ.lt j ⟨_,kj,by simp⟩
      have h3:=h2.mk_box jn (cs':=cs.set (o+off) (.own st.nx)) (by simp) (λvs dB=>dB.set λv hv=>by
       obtain⟨_,_,_,_,sc⟩:=(dB.2 _ _ v hc hv).1;rw[WdC ν st.nx _ j py]at sc;rw[sc];exact Wji)
      exact⟨G,_,h.on (λ_ _ _ hh=>hh) (WdC ν st.nx _) (Xdj _) h3 h.gx⟩
     .cases hg
    .injection hg with hg;injection hg with _ hg;subst hg;exact⟨G,ν,h⟩
    .cases hg
   .cases hg
  .cases hg
theorem Wci:∀(l:List Ghost) (st af:St) (G:GH) (ν:Nat->Nu),Rel w0 F nt G0 G ν st a w->WcF l st=some (true,af)->∃G' ν',Rel w0 F nt G0 G' ν' af a w
 | [],st,af,G,ν,h,hg=>by injection hg with hg;injection hg with _ hg;subst hg;exact⟨G,ν,h⟩
 |g::l,st,af,G,ν,h,hg=>by
  simp only[WcF]at hg;split at hg
  .rename_i c s uB;split at hg
   .rename_i c' s' hl;simp only[Option.some.injEq,Prod.mk.injEq,Xi]at hg;obtain⟨⟨rfl,rfl⟩,rfl⟩:=hg;obtain⟨G1,ν1,h1⟩:=WiX h uB;exact Wci l s s' G1 ν1 h1 hl
   .cases hg
  .cases hg
end
end Go.Sx
namespace Go.Sx
set_option linter.unusedVariables false
set_option linter.unusedSimpArgs false
section
variable{T:Tab}{Γ:Ctx}{env uC:List (Nat×AVal)}{objs objs':WS}{nx ah:Nat}
theorem WbA{st ai:St}:∀(l:List (Nat×Operand)),(∀p∈l,ev ai p.2=ev st p.2)->Wbz ai l=Wbz st l
 | [],_=>rfl
 |(i,x)::l,h=>by
  have h1:ev ai x=ev st x:=h (i,x) (Xh ..);simp only[Wbz,h1,WbA l λp hp=>h p (Xe _ hp)]
theorem Wjb{st ai:St}:∀(l:List Operand),(∀x∈l,ev ai x=ev st x)->evs ai l=evs st l
 | [],_=>rfl
 |x::l,h=>by simp only[evs,h x (Xh ..),Wjb l λp hp=>h p (Xe _ hp)]
theorem We8{st ai:St}:∀(l:List Operand),(∀x∈l,ev ai x=ev st x)->Weu ai l=Weu st l
 | [],_=>rfl
 |x::l,h=>by simp only[Weu,h x (Xh ..),We8 l λp hp=>h p (Xe _ hp)]
theorem WgH{st ai:St}(x:Option Operand)(h:∀y∈x.toList,ev ai y=ev st y):Wik ai x=Wik st x:=by
 cases x with
 |none=>rfl
 |some y=>simp only[Wik,h y (by simp)]
def WcJ(st ai:St)(v:AVal):Prop:=∀id∈Wap v,Wc ai.objs id=Wc st.objs id
theorem Wkq{st ai:St}{t:TypeId}{v:AVal}(h:WcJ st ai v):Wfi T ai t v=Wfi T st t v:=by
 unfold Wfi;cases v with
 |tup xs=>rfl
 |s x=>
  cases x with
  |agg cs=>rfl
  |one c=>
   cases c with
   |ptr id off=>have:=h id (by simp[Wap,Wdw,Waw]);simp only[this]
   |eptr id i off=>have:=h id (by simp[Wap,Wdw,Waw]);simp only[this]
   |_=>rfl
theorem WjK{st ai:St}{t:TypeId}{v:AVal}(h:WcJ st ai v):WdY T ai t v=WdY T st t v:=by
 unfold WdY;cases v with
 |tup xs=>rfl
 |s x=>
  cases x with
  |agg cs=>rfl
  |one c=>
   cases c with
   |aptr id=>have:=h id (by simp[Wap,Wdw,Waw]);simp only[this]
   |_=>rfl
theorem WiH{st:St}{t:TypeId}{id:Nat}:Wgq T st t (.s (.one (.own id)))=match Wc T t with
  |some ⟨_,false,.slice _⟩=>obL (Wc st.objs id)
  |_=>none:=by
 unfold Wgq;generalize Wc T t=q;rcases q with _|⟨ty,agg,shape⟩
 .rfl
 .cases ty<;>cases agg<;>cases shape<;>rfl
theorem Wke{st ai:St}{t:TypeId}{v:AVal}(h:∀id,v≠ .s (.one (.own id))):Wgq T ai t v=Wgq T st t v:=by
 unfold Wgq;generalize Wc T t=q;rcases q with _|⟨ty,agg,shape⟩
 .cases v<;>rfl
 .cases v with
  |tup xs=>cases ty<;>cases agg<;>cases shape<;>rfl
  |s x=>
   cases x with
   |agg cs=>cases ty<;>cases agg<;>cases shape<;>rfl
   |one c=>
    cases c with
    |own id=>exact absurd rfl (h id)
    |val t' d=>cases ty<;>cases agg<;>cases shape<;>cases t'<;>rfl
    |_=>cases ty<;>cases agg<;>cases shape<;>rfl
theorem Wpn(v:AVal):(∃id,v= .s (.one (.own id)))\/∀id,v≠ .s (.one (.own id)):=by
 rcases v with x|xs
 .rcases x with c|cs
  .cases c with
   |own id=>exact .inl ⟨id,rfl⟩
   |_=>exact .inr λid h=>by injection h with h;injection h with h;cases h
  .exact .inr λid h=>by injection h with h;cases h
 .exact .inr λid h=>by cases h
theorem Wl9{st ai:St}{t:TypeId}{v:AVal}(h:WcJ st ai v):Wgq T ai t v=Wgq T st t v:=by
 rcases Wpn v with⟨id,rfl⟩|hv
 .rw[WiH,WiH,h id (by simp[Wap,Wdw,Waw])]
 .exact Wke hv
theorem Wfn{st ai:St}{t:TypeId}{v:AVal}{f:Nat}(h:WcJ st ai v):Wbk T ai t v f=Wbk T st t v f:=by
 unfold Wbk;generalize Weo T t f=q;rcases q with _|⟨off,te⟩
 .cases v<;>rfl
 .cases v with
  |tup xs=>rfl
  |s x=>
   cases x with
   |agg cs=>rfl
   |one c=>
    cases c with
    |ptr id o=>
     have:=h id (by simp[Wap,Wdw,Waw]);show(λq:Option Ob=>match q with|some (.box _)=>some (true,AVal.s (.one (.ptr id (o+off))))|_=>none) (Wc ai.objs id)=(λq:Option Ob=>match q with|some (.box _)=>some (true,AVal.s (.one (.ptr id (o+off))))|_=>none) (Wc st.objs id);rw[this]
    |eptr id i o=>
     have:=h id (by simp[Wap,Wdw,Waw]);show(λq:Option Ob=>match q with|some (.arr _ _)=>some (true,AVal.s (.one (.eptr id i (o+off))))|_=>none) (Wc ai.objs id)=(λq:Option Ob=>match q with|some (.arr _ _)=>some (true,AVal.s (.one (.eptr id i (o+off))))|_=>none) (Wc st.objs id);rw[this]
    |_=>rfl
theorem Wfk{st ai:St}{t:TypeId}{v i:AVal}(h:WcJ st ai v):Wbc T ai t v i=Wbc T st t v i:=by
 unfold Wbc;generalize Wc T t=q;generalize asI i=z;rcases q with _|⟨ty,agg,shape⟩
 .rfl
 rcases z with _|n
 .cases shape<;>rfl
 cases shape with
 |slice et=>
  show(match Wc T et with|some te=>_|none=>_)=(match Wc T et with|some te=>_|none=>_);generalize Wc T et=q;rcases q with _|te
  .rfl
  .show(if te.plain=true then _ else _)=(if te.plain=true then _ else _);by_cases hp:te.plain=true
   .rw[if_pos hp,if_pos hp];cases v with
    |tup xs=>rfl
    |s x=>
     cases x with
     |agg cs=>rfl
     |one c=>
      cases c with
      |own id=>
       have:=h id (by simp[Wap,Wdw,Waw]);show obI te n id (Wc ai.objs id)=obI te n id (Wc st.objs id);rw[this]
      |vw id lo hi=>
       have:=h id (by simp[Wap,Wdw,Waw]);show Wqy te n id lo hi (Wc ai.objs id)=Wqy te n id lo hi (Wc st.objs id);rw[this]
      |val t' d=>cases t'<;>rfl
      |_=>rfl
   .rw[if_neg hp,if_neg hp]
 |arr k et=>
  show(match Wc T et with|some te=>_|none=>_)=(match Wc T et with|some te=>_|none=>_);generalize Wc T et=q;rcases q with _|te
  .rfl
  .show(if te.plain=true then _ else _)=(if te.plain=true then _ else _);by_cases hp:te.plain=true
   .rw[if_pos hp,if_pos hp];cases v with
    |tup xs=>rfl
    |s x=>
     cases x with
     |agg cs=>rfl
     |one c=>
      cases c with
      |aptr id=>
       have:=h id (by simp[Wap,Wdw,Waw]);show Wqw te n k id (Wc ai.objs id)=Wqw te n k id (Wc st.objs id);rw[this]
      |_=>rfl
   .rw[if_neg hp,if_neg hp]
 |_=>rfl
theorem Wl5{st ai:St}{v:AVal}(h:WcJ st ai v):WoN ai v=WoN st v:=by
 rcases Wpn v with⟨id,rfl⟩|hv
 .exact h id (by simp[Wap,Wdw,Waw])
 .unfold WoN;split
  .rename_i id;exact absurd rfl (hv id)
  .rfl
theorem WjZ{st ai:St}{s d:TypeId}{v:AVal}(h:WcJ st ai v):Wg4 T ai s d v=Wg4 T st s d v:=by
 unfold Wg4;rw[Wl5 h]
theorem WlI{st ai:St}{v:AVal}(h:WcJ st ai v):Wma ai v=Wma st v:=by
 unfold Wma;cases v with
 |tup xs=>rfl
 |s x=>
  cases x with
  |agg cs=>rfl
  |one c=>
   cases c with
   |ptr id off=>have:=h id (by simp[Wap,Wdw,Waw]);simp only[this]
   |eptr id i off=>have:=h id (by simp[Wap,Wdw,Waw]);simp only[this]
   |aptr id=>have:=h id (by simp[Wap,Wdw,Waw]);simp only[this]
   |_=>rfl
theorem WlP{st ai:St}{op:BinOp}{t:TypeId}{v z:AVal}(h:WcJ st ai v):Wmh T ai op t v z=Wmh T st op t v z:=by
 unfold Wmh;split
 .rename_i id;rw[h id (by simp[Wap,Wdw,Waw])]
 .rfl
theorem Wbj{α β:Type}{x:Option α}{f g:α->Option β}(h:∀v,x=some v->f v=g v):x.bind f=x.bind g:=by
 cases x with
 |none=>rfl
 |some v=>exact h v rfl
theorem We2{st ai:St}(op:Op)(hm:∀t x l h m,op≠ .slice t x l h m)(he:∀x∈WR op,ev ai x=ev st x)(hl:Wqh op=true->∀x∈WR op,∀v,ev st x=some v->WcJ st ai v):WV T ai op=WV T st op:=by
 cases op with
 |move x=>simp only[WV,he x (by simp[WR])]
 |assign x=>simp only[WV,he x (by simp[WR])]
 |pick c a b=>simp only[WV,he c (by simp[WR]),he a (by simp[WR]),he b (by simp[WR])]
 |load t a=>
  simp only[WV,he a (by simp[WR])];exact Wbj λv hv=>by rw[Wkq (hl rfl a (by simp[WR]) v hv),WjK (hl rfl a (by simp[WR]) v hv)]
 |nilCheck x=>
  simp only[WV,he x (by simp[WR])];exact Wbj λv hv=>WlI (hl rfl x (by simp[WR]) v hv)
 |binOp op t x y z=>
  simp only[WV,he x (by simp[WR]),he y (by simp[WR])];split
  .rename_i a b h1 h2;rw[WlP (hl rfl x (by simp[WR]) _ h1)]
  .rfl
 |unOp op t x=>simp only[WV,he x (by simp[WR])]
 |convert s d x=>
  simp only[WV,he x (by simp[WR])];exact Wbj λv hv=>WjZ (hl rfl x (by simp[WR]) v hv)
 |slice t x l h m=>exact absurd rfl (hm t x l h m)
 |fieldAddr s x f=>
  simp only[WV,he x (by simp[WR])];exact Wbj λv hv=>Wfn (hl rfl x (by simp[WR]) v hv)
 |field t x f=>simp only[WV,he x (by simp[WR])]
 |indexAddr t x i=>
  simp only[WV,he x (by simp[WR]),he i (by simp[WR])];split
  .rename_i a b h1 h2;exact Wfk (hl rfl x (by simp[WR]) _ h1)
  .rfl
 |index t x i=>simp only[WV,he x (by simp[WR]),he i (by simp[WR])]
 |extract t ix=>simp only[WV,he t (by simp[WR])]
 |makeFunc f first captured=>
  cases f with
  |func f=>simp only[WV,We8 (st:=st) (ai:=ai) captured.toList λx hx=>he x (by simp[WR];right;simpa using hx)]
  |_=>rfl
 |call c=>
  have hargs:∀x∈c.args.toList,ev ai x=ev st x:=λx hx=>he x (Xg _ hx);have kQ:∀x∈c.args.toList,∀v,ev st x=some v->WcJ st ai v:=λx hx=>hl rfl x (Xg _ hx);simp only[WV];split
  .rename_i x t _ ha _;rw[hargs x (by rw[ha];simp)];exact Wbj λv hv=>Wl9 (kQ x (by rw[ha];simp) v hv)
  .rename_i x y _ _ _ ha _;rw[hargs x (by rw[ha];simp),hargs y (by rw[ha];simp)]
  .rename_i x y _ _ _ ha _;rw[hargs x (by rw[ha];simp),hargs y (by rw[ha];simp)]
  .rfl
 |_=>rfl
end
end Go.Sx
