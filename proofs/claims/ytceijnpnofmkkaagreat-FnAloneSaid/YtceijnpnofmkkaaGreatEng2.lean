/- The abstract machine, part 2: a reflective interpreter of the program's code over data, with its soundness over the model. -/
import Derived.Test.YtceijnpnofmkkaaGreatEng1
open Bool renaming and_eq_true→Xj,not_eq_true'→Xan,not_true→Xv,false_eq_true→Xbk
open List renaming nodup_cons→Xaj,getElem?_append_left→Xcy,getD→Xc,getElem?_append_right→Xcg,ext_getElem?→Xfl,getElem?_eq_none→Xcv,replicate→Xo,prefix_refl→Xfr,nil_prefix→Xhb,prefix_append_right_inj→Xfg,length_replicate→Xes,append_nil→Xdi,getElem?_toArray→Xeu,append_assoc→Xbn,getElem?_append→Xav,getElem?_take→Xbr,getElem?_drop→Xbq,getElem?_eq_some_iff→Xae,take_take→Xgf,drop_drop→Xdy,take_append_drop→Xdj,length_take→Xay,mem_cons_self→Xk,mem_cons_of_mem→Xf,mem_map_of_mem→Xao,pairwise_cons→Xaa,mem_append_left→Xl,mem_append_right→Xh,length_append→Xs,map_append→Xu,pairwise_append→Xai,mem_append→Xm,mem_map→Xx,mem_cons→Xq,getElem?_of_mem→Xed,getElem?_eq_getElem→Xp,eq_nil_of_length_eq_zero→Xt,map_toArray→Xeb,map_cons→Xag,map_nil→Xbd,append→Xe,take_length→Xcu,mem_singleton→Xaf,length→Xb,append_inj→Xgc,length_map→Xad,mem_of_mem_take→Xbf,mem_of_mem_drop→Xdo,nodup_append→Xak,all_eq_true→Xah,nodup_nil→Xde,length_drop→Xee,sublist_append_right→Xfp,getElem?_map→Xaq,all_cons→Xcf,mem_of_getElem?→Xat
open Array renaming range→Xci,foldl_toList→Xfi,length_toList→Xas
open Nat renaming succ_mul→Xcb,mul_le_mul_right→Xbg,add_zero→Xbb,le_trans→Xcr,zero_mul→Xey,le_refl→Xn,min_eq_left→Xby,add_assoc→Xba,lt_succ_self→Xbv,add_mul→Xcz,eq_of_beq_eq_true→Xcl,add_sub_cancel_left→Xce,le_succ→Xdq
open Int renaming mul_le_mul_of_nonneg_right→Xfa
open Option renaming map_eq_some_iff→Xz,map_some→Xcc,bind_eq_some_iff→Xbx,bind_some→Xd,map→Xfo
namespace Go.Sx
set_option linter.unusedVariables false
set_option linter.unusedSimpArgs false
theorem Wdh:∀l:List Nat,WbJ l=true↔l.Nodup
 | []=>by simp[WbJ]
 |i::l=>by
  have h:=Whh i l;simp only[WbJ,Xj,Xan,Xaj,Wdh l]
  grind
theorem Wr1{α:Type}(l:List α)(d:α):∀(n i:Nat),i<n*l.length->(rep l n)[i]?=some (l.getD (i%l.length) d)
 |0,i,h=>by simp at h
 |n+1,i,h=>by
  rw[rep];by_cases hi:i<l.length
  .grind [Xcy,Nat.mod_eq_of_lt,Xc]
  .have fB:l.length<=i:=by omega
   rw[Xcg fB,Wr1 l d n (i-l.length) (by grind)];rw[Nat.mod_eq_sub_mod fB]
theorem Wg2(z:Array Value)(n:Nat):((Xci (n*z.size)).map λi=>z[i%z.size]!).toList=rep z.toList n:=by
 apply Xfl;intro i;by_cases hi:i<n*z.size
 .rw[Wr1 z.toList default n i (by omega)]
  grind
 grind [Xcv,Wlk]
section
variable{w0:World}{F:CS}{nt:Slots}{G0 G:GH}{ν:Nat->Nu}{objs:Wal}{nx:Nat}{st am:St}{a:Act}{w w':World}{P:Program}{T:Tab}
theorem WiI(hh:HRel w0 F G ν objs nx w){e:Ty}(he:e.data=true):
  ∀(l:List (Nat×AVal)) (ps:List (Nat×Value)) (xs ys:List e.den) (vs:Array Value),EncL (Enc G e) xs vs.toList->ps.length=l.length->
   (∀(j:Nat) (p:Nat×AVal) (q:Nat×Value),l[j]?=some p->ps[j]?=some q->p.1=q.1/\AValRel G ν nx p.2 q.2)->Wq2 e objs l xs=some ys->
   ∃vs',Instr.fill (λi=>some (i*e.size,e.size)) vs ps=some vs'/\EncL (Enc G e) ys vs'.toList/\ys.length=xs.length
 | [],[],xs,ys,vs,hc,_,_,h=>by simp[Wq2]at h;subst h;exact⟨vs,rfl,hc,rfl⟩
 |(i,x)::l,[],_,_,_,_,hl,_,_=>by simp at hl
 | [],_::_,_,_,_,_,hl,_,_=>by simp at hl
 |(i,x)::l,(i',v)::ps,xs,ys,vs,hc,hl,hp,h=>by
  obtain⟨hi,hx⟩:=hp 0 _ _ rfl rfl;simp only at hi hx;subst hi;simp only[Wq2]at h;split at h
  .rename_i ds hJ;split at h
   .rename_i d hf;split at h
    .rename_i hlt;obtain⟨h1,_⟩:=WdD hx hJ;have henc:=Wmf hh h1 he hf;have hlen:v.cells.toList.length=e.size:=Enc_len _ _ _ henc;have dK:vs.toList.length=xs.length*e.size:=EncL_len (λx c hc=>Enc_len e x c hc) _ _ hc;have cy:i*e.size+e.size<=xs.length*e.size:=by rw[←Xcb];exact Xbg _ hlt
     have eC:=WiG v.cells.toList (i*e.size) 0 vs (by simp_all);simp only[Xbb]at eC;have eN:=Wle (λx c hc=>Enc_len e x c hc) xs vs.toList i d v.cells.toList hc hlt henc;obtain⟨vs',h4,h5,h6⟩:=WiI hh he l ps (xs.set i d) ys _ (by rw[eC,hlen];exact eN) (by simp_all) (λj p q hj hq=>hp (j+1) p q (by simp_all) (by simp_all)) h;refine⟨vs',?_,h5,by grind⟩;simp only[Instr.fill];rw[Wa (by simp_all)];rw[←h4];congr 1;rw[←Xfi];simp
    grind
   grind
  grind
theorem Wi7(hT:War P T)(hr:Rel w0 F nt G0 G ν st a w){o:Oper}(hd:∀d,o.dst=some d->nt.Ok d){t:TypeId}{n:Nat}{parts:Array (Nat×Operand)}(ho:o.op= .buildSlice t n parts)
  {ty:Ty} {et:TypeId} {te:TE} {ps:List (Nat×AVal)} {xs:List te.ty.den} (hl:look T t=some ⟨ty,false,.slice et⟩) (hle:look T et=some te)
  (h1:ps.length=parts.toList.length) (h2:∀(j:Nat) (p:Nat×AVal) (q:Nat×Operand),ps[j]?=some p->parts.toList[j]?=some q->p.1=q.1/\AValRel G ν st.nx p.2 (a.eval q.2))
  (hf:Wq2 te.ty st.objs ps (Xo n te.ty.dflt)=some xs) (hsz:n*te.ty.size<=16777216) (bo:te.ty.data=true) (hp:te.plain=true):
  Done P w0 F nt G0 o a w (st.new o.dst (.arr te.ty xs) (.s (.one (.own st.nx)))):=by
 have hu:=(hT _ _ hl).und.2.1;obtain⟨z,hz,eh⟩:=Wfm (w:=w) (hT _ _ hle);rw[WbP hp]at eh;have hZ:z.cells.size=te.ty.size:=by rw[←Xas,eh,WbC]
 have eD:=Wg2 z.cells n;rw[hZ,eh]at eD;obtain⟨vs',h3,h4,h5⟩:=WiI hr.h bo ps (parts.toList.map λp=>(p.1,a.eval p.2)) _ xs ((Xci (n*te.ty.size)).map λi=>z.cells[i%te.ty.size]!) (by grind [Wg6]) (by simp[h1]) (λj p q hp hq=>by
   grind) hf
 have jZ:xs.length=n:=by grind
 have hpos:=WbZ te.ty;have hn:n<=16777216:=Xcr (Nat.le_mul_of_pos_right n hpos) hsz;have og:vs'.size=n*te.ty.size:=by
  rw[←Xas,EncL_len (λx c hc=>Enc_len te.ty x c hc) _ _ h4,jZ]
 obtain⟨⟨ν',h6⟩,_⟩:=WoG (t:=et) (vs:=vs') hr hd (e:=te.ty) bo (xs:=xs) (cap:=n) (cs:=vs'.toList) (by omega) (by unfold maxLen;omega) og h4 (Xfr _) w rfl rfl rfl rfl;rw[jZ]at h6;refine⟨_,_,_,G,ν',?_,.inl rfl,h6⟩;have iL:(parts.map λx=>match x with|(i,x)=>(i,a.eval x)).toList=parts.toList.map λp=>(p.1,a.eval p.2):=by simp
 simp only[execOp,ho,Instr.buildSlice,Sem.run_bind,Wk hu,Result.andThen_ok,(hT _ _ hle).sizeOf,W4 hp,Wa (show¬n*te.ty.size>2^24 by omega),Sem.run_pure];by_cases h0:n*te.ty.size=0
 .have vg:n=0:=by rcases Nat.mul_eq_zero.1 h0 with h|h<;>omega
  have e1:((Xci (n*te.ty.size)).map λi=>z.cells[i%te.ty.size]!)= #[]:=by grind
  rw[e1]at h3;have e2:∀zz:Array Value,((Xci (n*te.ty.size)).map λi=>zz[i%zz.size]!)= #[]:=λzz=>by grind
  simp only[Wb h0,Sem.run_pure,Result.andThen_ok,e2,iL,h3,Wc5];rfl
 simp_all [Wa,Sem.run_bind,Result.andThen_ok,Sem.run_pure,Wc5]
theorem WjJ(hT:War P T)(hr:Rel w0 F nt G0 G ν st a w){o:Oper}(hd:∀d,o.dst=some d->nt.Ok d){t:TypeId}{n c:Operand}(ho:o.op= .makeSlice t n c)
  {ty:Ty} {et:TypeId} {te:TE} {n' c':Int} {k k':IntKind} (hl:look T t=some ⟨ty,false,.slice et⟩) (hle:look T et=some te) (hn:a.eval n= .int k n') (hc:a.eval c= .int k' c')
  (h0:0<=n') (h1:n'<=c') (h2:WB c'.toNat=true) (bo:te.ty.data=true) (hp:te.plain=true):
  Done P w0 F nt G0 o a w (st.new o.dst (.arr te.ty (Xo n'.toNat te.ty.dflt)) (.s (.one (.own st.nx)))):=by
 have hu:=(hT _ _ hl).und.2.1;obtain⟨i,z,hi,hs,hz,eh,oh⟩:=(hT _ _ hle).info;rw[WbP hp]at eh;rw[W4 hp]at hs;have hZ:z.cells.size=te.ty.size:=by rw[←Xas,eh,WbC]
 have aH:c'.toNat<=1073741824:=by simpa [WB]using h2
 have eD:=Wg2 z.cells c'.toNat;rw[hZ,eh]at eD;have vi:rep (WbM te.ty) n'.toNat<+:rep (WbM te.ty) c'.toNat:=by
  have:∀(l:List Value) (p q:Nat),rep l p<+:rep l (p+q):=λl p q=>by
   induction p with
   |zero=>exact Xhb
   |succ p ih=>grind [Nat.succ_add,rep,Xfg]
  have h:=this (WbM te.ty) n'.toNat (c'.toNat-n'.toNat)
  rwa [show n'.toNat+(c'.toNat-n'.toNat)=c'.toNat by omega]at h
 have hb:(i.bytes:Int)*c'<=281474976710656:=by
  have h3:(i.bytes:Int)*c'<=4096*c':=Xfa (by omega) (by omega);omega
 have hm:madeCells z.cells (c'.toNat*i.size)=(Xci (c'.toNat*te.ty.size)).map λi=>z.cells[i%te.ty.size]!:=by
  rw[hs,←hZ];rfl
 obtain⟨⟨ν',h6⟩,_⟩:=WoG (t:=et) (vs:=(Xci (c'.toNat*te.ty.size)).map λi=>z.cells[i%te.ty.size]!) hr hd (e:=te.ty) bo (xs:=Xo n'.toNat te.ty.dflt) (cap:=c'.toNat) (cs:=rep (WbM te.ty) n'.toNat) (by simp;omega) (by unfold maxLen;omega)
  (by simp) (Wg6 bo _) (by simp_all) w rfl rfl rfl rfl
 rw[Xes]at h6;refine⟨_,_,_,G,ν',?_,.inl rfl,h6⟩
 grind [execOp,Sem.run_bind,run_make,Result.andThen_ok,Sem.run_pure]
theorem WiY(hT:War P T)(hr:Rel w0 F nt G0 G ν st a w){o:Oper}(hd:∀d,o.dst=some d->nt.Ok d){t:TypeId}{n c:Operand}(ho:o.op= .makeSlice t n c)
  {ty:Ty} {et:TypeId} {te:TE} {e:Ty} {n' c':Int} {k k':IntKind} (hl:look T t=some ⟨ty,false,.slice et⟩) (hle:look T et=some te) (hn:a.eval n= .int k n') (hc:a.eval c= .int k' c')
  (h0:0<=n') (h1:n'<=c') (h2:WB c'.toNat=true) (he:e.ro=te.ty) (hp:te.plain=true):
  Done P w0 F nt G0 o a w (st.new o.dst (.arr e (Xo n'.toNat e.dflt)) (.s (.one (.own st.nx)))):=by
 have hu:=(hT _ _ hl).und.2.1;obtain⟨i,z,hi,hs,hz,eh,oh⟩:=(hT _ _ hle).info;rw[WbP hp]at eh;rw[W4 hp]at hs;have jz:te.ty.size=e.size:=by rw[←he,WbO]
 have hZ:z.cells.size=te.ty.size:=by rw[←Xas,eh,WbC]
 have aH:c'.toNat<=1073741824:=by simpa [WB]using h2
 have eD:=Wg2 z.cells c'.toNat;rw[hZ,eh]at eD;have vi:rep (WbM te.ty) n'.toNat<+:rep (WbM te.ty) c'.toNat:=by
  have:∀(l:List Value) (p q:Nat),rep l p<+:rep l (p+q):=λl p q=>by
   induction p with
   |zero=>exact Xhb
   |succ p ih=>grind [Nat.succ_add,rep,Xfg]
  have h:=this (WbM te.ty) n'.toNat (c'.toNat-n'.toNat)
  rwa [show n'.toNat+(c'.toNat-n'.toNat)=c'.toNat by omega]at h
 have hb:(i.bytes:Int)*c'<=281474976710656:=by
  have h3:(i.bytes:Int)*c'<=4096*c':=Xfa (by omega) (by omega);omega
 have hm:madeCells z.cells (c'.toNat*i.size)=(Xci (c'.toNat*te.ty.size)).map λi=>z.cells[i%te.ty.size]!:=by
  rw[hs,←hZ];rfl
 obtain⟨⟨ν',h6⟩,_⟩:=Wit (t:=et) (vs:=(Xci (c'.toNat*te.ty.size)).map λi=>z.cells[i%te.ty.size]!) hr hd [] (e:=e) (xs:=Xo n'.toNat e.dflt) (cap:=c'.toNat) (cs:=rep (WbM te.ty) n'.toNat) (by simp;omega) (by unfold maxLen;omega)
  (by simp[jz]) (λφ _=>by
   obtain⟨ps,g1,g2⟩:=WvB (G:=G) (w:=w) e n'.toNat;rw[he]at g1;exact⟨ps,g1,WnD ps g2,λp hp b o hh=>by simp_all⟩) (by simp_all) w rfl rfl rfl rfl
 rw[Xes]at h6;refine⟨_,_,_,G,ν',?_,.inl rfl,h6⟩
 grind [execOp,Sem.run_bind,run_make,Result.andThen_ok,Sem.run_pure]
theorem Wm7(hT:War P T)(hr:Rel w0 F nt G0 G ν st a w){o:Oper}(hd:∀d,o.dst=some d->nt.Ok d){t:TypeId}{parts:Array (Nat×Operand)}{x:Operand}(ho:o.op= .buildSlice t 1 parts)(cJ:parts.toList= [(0,x)])
  {ty:Ty} {et:TypeId} {te:TE} {e:Ty} {xv:AVal} {ds:List Cell} {d:e.den} {m:List Nat} (hl:look T t=some ⟨ty,false,.slice et⟩) (hle:look T et=some te) (hx:AValRel G ν st.nx xv (a.eval x)) (hJ:Whq xv=some ds)
  (hf:WaA e ds st.objs=some (d,m,[])) (hm:m.Nodup) (he:e.ro=te.ty) (hp:te.plain=true) (hsz:te.ty.size<=16777216):
  Done P w0 F nt G0 o a w (({env:=st.env,objs:=(st.nx,.arr e [d])::kill st.objs m,nx:=st.nx+1}:St).put o.dst (.s (.one (.own st.nx)))):=by
 have hu:=(hT _ _ hl).und.2.1;obtain⟨z,hz,eh⟩:=Wfm (w:=w) (hT _ _ hle);rw[WbP hp]at eh;have jz:te.ty.size=e.size:=by rw[←he,WbO]
 have hZ:z.cells.size=te.ty.size:=by rw[←Xas,eh,WbC]
 have eD:=Wg2 z.cells 1;rw[hZ,eh]at eD;simp only[rep,Xdi,Nat.one_mul]at eD;obtain⟨h1,h2⟩:=WdD hx hJ;have eC:∀φ,HR w0 F G ν φ st.objs st.nx w->∃ps,EncP (TyRel G w e) [d] (a.eval x).cells.toList ps/\Sep (ps.map Pc.fp)/\∀p∈ps,CS.le p.fp (FromL φ st.objs m):=λφ hφ=>by
  obtain⟨ns,g1,g2,g3,_⟩:=Wam (G':=G) hφ (λ_ _ _ hh=>hh) e ds _ d m [] h1 (λi hi=>by simp at hi) hm hf;exact⟨ns,Wpk.2 g1,g2,g3⟩
 have hlen:(a.eval x).cells.size=e.size:=by
  obtain⟨φ,hφ⟩:=hr.h;obtain⟨ps,g1,_⟩:=eC φ hφ;have:=WE _ _ _ _ (Wpk.1 g1);simpa using this
 have AM:((Xci te.ty.size).map λi=>z.cells[i%te.ty.size]!).size=te.ty.size:=by simp
 have eN:=WiG (a.eval x).cells.toList 0 0 ((Xci te.ty.size).map λi=>z.cells[i%te.ty.size]!) (by simp;omega);have kz:((Xci te.ty.size).map λi=>z.cells[i%te.ty.size]!).toList.length=e.size:=by simp[jz]
 have dK:((a.eval x).cells.toList.zipIdx.foldl (λcs (c,j)=>cs.setIfInBounds (0+j) c) ((Xci te.ty.size).map λi=>z.cells[i%te.ty.size]!)).toList=(a.eval x).cells.toList:=by
  rw[eN];simp only[Nat.zero_add,List.take_zero,List.nil_append];rw[List.drop_eq_nil_of_le (by rw[kz];simp;omega),Xdi]
 generalize hV:(a.eval x).cells.toList.zipIdx.foldl (λcs (c,j)=>cs.setIfInBounds (0+j) c) ((Xci te.ty.size).map λi=>z.cells[i%te.ty.size]!)=V at dK;have hVs:V.size=1*e.size:=by rw[←Xas,dK];simp[hlen]
 obtain⟨⟨ν',h6⟩,_⟩:=Wit (t:=et) (vs:=V) hr hd m (e:=e) (xs:=[d]) (cap:=1) (cs:=(a.eval x).cells.toList) (by simp) (by unfold maxLen;omega) hVs eC (by rw[dK];exact Xfr _) w rfl rfl rfl rfl;refine⟨_,_,_,G,ν',?_,.inl rfl,h6⟩;have rP:Instr.fill (λi=>some (i*te.ty.size,te.ty.size)) ((Xci te.ty.size).map λi=>z.cells[i%te.ty.size]!) [(0,a.eval x)]=some V:=by
  simp only[Instr.fill,Xey];rw[Wa (by simp;omega),←hV];congr 1;rw[←Xfi];simp
 have iL:(parts.map λx=>match x with|(i,x)=>(i,a.eval x)).toList= [(0,a.eval x)]:=by simp[cJ]
 have hpos:=WbZ te.ty;simp only[execOp,ho,Instr.buildSlice,Sem.run_bind,Wk hu,Result.andThen_ok,(hT _ _ hle).sizeOf,W4 hp,Nat.one_mul,Wa (show¬te.ty.size>2^24 by omega),Wa (show¬te.ty.size=0 by omega),Sem.run_pure,hz,hZ,iL,rP,Wc5];rfl
theorem WeE{t:TypeId}{te:TE}(bT:TEok P T t te){b off:Nat}{v:Value}{cur:Array Value}{TT:TypeId}(hg:w.heap[b]?=some (.cells cur TT (0,0)))(hsz:te.size=v.cells.size)(cy:off+v.cells.size<=cur.size)(h1:∀u∈v.cells.toList,u.oneCell'=true):
  (storeVar t ⟨b,off,none⟩ v).run P w= .ok () (w.setRow b (cur.toList.take off++v.cells.toList++cur.toList.drop (off+v.cells.size)).toArray):=by
 have h:=run_storeCells_at P b off TT v.cells.toList 0 cur w hg (by simpa using cy) h1;simp only[Xbb,Xas]at h;simp[storeVar,bT.sizeOf,hsz,h]
theorem Wdj{b k:Nat}{vs:Array Value}{T:TypeId}{news:List Value}(h:w.heap[b]?=some (Obj.cells vs T (0,0)))(cy:k+news.length<=vs.size):
  WLe (rng b k news.length) w (w.setRow b (vs.toList.take k++news++vs.toList.drop (k+news.length)).toArray)/\Mem (w.setRow b (vs.toList.take k++news++vs.toList.drop (k+news.length)).toArray) b k news:=by
 have hk:(vs.toList.take k).length=k:=by simp;omega
 constructor
 .refine WLe.setRow h (by simp;omega) (λo hn=>?_);have vk:¬(k<=o/\o<k+news.length):=λ⟨h1,h2⟩=>hn ⟨rfl,h1,h2⟩;simp only[Xeu,Xbn];rw[Xav,hk];split
  .rename_i hlt;rw[Xbr,Wb hlt];simp
  .rw[Xav];split
   .omega
   .rw[Xbq,show k+news.length+(o-k-news.length)=o by omega];simp
 .intro j v hj;rw[cell_of_row _ b _ _ T (0,0) (setRow_heap w b vs _ T (0,0) h)];have hlt:j<news.length:=(Xae.1 hj).1;simp only[Xeu,Xbn];rw[Xcg (by omega),hk,Xcy (by omega),show k+j-k=j by omega];exact hj
theorem Wfa{b o k:Nat}{vs us:List Value}(hm:Mem w b o vs)(hw:WLe (rng b (o+k) us.length) w w')(hu:Mem w' b (o+k) us)(hk:k+us.length<=vs.length):Mem w' b o (vs.take k++us++vs.drop (k+us.length)):=λj v hj=>by
 have ia:∀v',vs[j]?=some v'->¬(k<=j/\j<k+us.length)->w'.cell? ⟨b,o+j,none⟩=some v':=λv' hv hn=>by
  have h1:=hm j v' hv;rw[hw.cell b (o+j) (block_lt_of_cell h1) (λ⟨_,h2,h3⟩=>hn ⟨by omega,by omega⟩)];exact h1
 have dL:(vs.take k).length=k:=by simp;omega
 rw[Xbn,Xav,dL]at hj;split at hj
 .rename_i hlt;rw[Xbr,Wb hlt]at hj;exact ia v hj (by omega)
 .rw[Xav]at hj;split at hj
  .have:=hu (j-k) v hj;rw[show o+j=o+k+(j-k) by omega];exact this
  .rw[Xbq,show k+us.length+(j-k-us.length)=j by omega]at hj;exact ia v hj (by omega)
theorem HR.turn{φ:Nat->CS}(h:HR w0 F G ν φ objs nx w){id:Nat}{ob c9:Ob}{m:List Nat}(ho:look objs id=some ob)(hd:ob≠ .dead){S:CS}(hw:WLe S w w')(hs:CS.le S (φ id))
  (c8:WcQ G ν nx w' id (λb o=>φ id b o\/FromL φ objs m b o) c9):HRel w0 F G ν ((id,c9)::kill objs m) nx w':=by
 have hl:Live objs id:=⟨ob,ho,hd⟩;exact⟨_,h.put (ν':=ν) (λ_ _=>rfl) (Xn _) (h.lt id hl) (hw.mono λb o hh=>⟨id,.inl rfl,hl,hs b o hh⟩) (λb o hh=>by
  rcases hh with hh|⟨i,hi,h1,h2⟩
  .exact .inl ⟨id,.inl rfl,hl,hh⟩
  .exact .inl ⟨i,.inr hi,h1,h2⟩) (λ_=>c8)⟩
theorem Wqi(hT:War P T)(hr:Rel w0 F nt G0 G ν st a w){o:Oper}{t:TypeId}{x y:Operand}(ho:o.op= .store t x y)(j8:o.dst=none){p v:AVal}(hx:AValRel G ν st.nx p (a.eval x))(hy:AValRel G ν st.nx v (a.eval y))
  (h:Wdb T st t p v=some am):Done P w0 F nt G0 o a w am:=by
 unfold Wdb at h;split at h
 .rename_i te id off ds hl hJ;obtain⟨iM,mx⟩:=WdD hy hJ;split at h
  .rename_i cs aK;split at h
   .rename_i bI;simp only[Xj,Wh]at bI;obtain⟨⟨hs,eb⟩,cy⟩:=bI;injection h with h;subst h;obtain⟨⟨_,b,hb,gU⟩,_⟩:=hx;obtain⟨φ,hφ⟩:=hr.h;obtain⟨b',vs,hb',⟨row,TT,gy,hrow⟩,hmem,bP,fC⟩:=hφ.ob _ _ aK;rw[hb]at hb';injection hb' with hb';subst hb';have hlen:(a.eval y).cells.size=ds.length:=by have:=iM.1;simpa using this
    have hrun:=WeE (w:=w) (hT _ _ hl) (b:=b) (off:=(ν id).off+off) (v:=a.eval y) gy (by rw[W4 eb,hlen];exact hs) (by omega) mx;obtain⟨hw,hm⟩:=Wdj (k:=(ν id).off+off) (news:=(a.eval y).cells.toList) gy (by simp;omega);simp only[Xas]at hw hm;generalize w.setRow b (row.toList.take ((ν id).off+off)++(a.eval y).cells.toList++row.toList.drop ((ν id).off+off+(a.eval y).cells.size)).toArray=W at hrun hw hm;have c8:HRel w0 F G ν ((id,.box (Wen cs off ds))::st.objs) st.nx W:=by
     refine hφ.turn (m:=[]) aK (by simp) hw (λb' o ⟨e,h1,h2⟩=>fC b' o ⟨e,by omega,by omega⟩) ?_;refine⟨b,_,hb,by rw[Wfl cy];exact hw.rows.row _ _ ⟨row,TT,gy,hrow⟩,Wfa hmem (us:=(a.eval y).cells.toList) (by rw[Xas];exact hw) hm (by rw[bP.1];simp;omega),Wfk bP iM,λb o hh=>.inl (fC b o (by rw[Wfl cy]at hh;exact hh))⟩
    refine⟨.skip,undef,W,G,ν,?_,.inr ⟨rfl,rfl⟩,?_⟩
    .simp only[execOp,ho,gU,Instr.storeAt,Instr.sureAddr,Sem.run_bind,Sem.run_pure,Result.andThen_ok,hrun]
    .rw[j8];exact hr.on (λ_ _ _ hh=>hh) (λ_ _=>rfl) (Xn _) c8 hr.gx
   .simp at h
  .simp at h
 .rename_i te id i off ds hl hJ;obtain⟨iM,mx⟩:=WdD hy hJ;split at h
  .rename_i e xs aK;split at h
   .rename_i bI;simp only[Xj,Wh]at bI;obtain⟨⟨⟨hs,eb⟩,cy⟩,bo⟩:=bI;split at h
    .rename_i d hf;injection h with h;subst h;obtain⟨⟨_,vm,b,hb,gU⟩,_⟩:=hx;obtain⟨φ,hφ⟩:=hr.h;have hown:OwnL w (TyRel G w e) e.size (ν id) xs (φ id):=hφ.ob _ _ aK;obtain⟨jZ,h4,h5,ll,cs,h7,h8,h9⟩:=WdO bo hown hb;obtain⟨row,TT,gy,hrow⟩:=ll;have cx:=hown.2.1;have hlt:i<xs.length:=by omega
     have hlen:(a.eval y).cells.toList.length=ds.length:=iM.1;have cM:(a.eval y).cells.size=ds.length:=by simpa using hlen
     have hcl:cs.length=xs.length*e.size:=EncL_len (λx c hc=>Enc_len e x c hc) _ _ h7;have yw:i*e.size+e.size<=xs.length*e.size:=by rw[←Xcb];exact Xbg _ hlt
     have AN:xs.length*e.size<=(ν id).cap*e.size:=Xbg _ h4;have qV:=Wnr (λx c hc=>Enc_len e x c hc) xs cs i e.dflt h7 hlt;have vn:=Wfk (off:=off) (WaL (G:=G) (ν:=ν) (nx:=st.nx) e _ _ qV) iM;have henc:=Wmf hr.h vn bo hf;have eN:=Wle (λx c hc=>Enc_len e x c hc) xs cs i d _ h7 hlt henc;have hrun:=WeE (w:=w) (hT _ _ hl) (b:=b) (off:=(ν id).off+(i*e.size+off)) (v:=a.eval y) gy (by rw[W4 eb];omega) (by omega) mx;obtain⟨hw,hm⟩:=Wdj (k:=(ν id).off+(i*e.size+off)) (news:=(a.eval y).cells.toList) gy (by omega);simp only[Xas]at hw hm;generalize w.setRow b (row.toList.take ((ν id).off+(i*e.size+off))++(a.eval y).cells.toList++row.toList.drop ((ν id).off+(i*e.size+off)+(a.eval y).cells.size)).toArray=W at hrun hw hm;have oi:cs.take (i*e.size+off)++(a.eval y).cells.toList++cs.drop (i*e.size+off+(a.eval y).cells.toList.length)=
       cs.take (i*e.size)++(((cs.drop (i*e.size)).take e.size).take off++(a.eval y).cells.toList++((cs.drop (i*e.size)).take e.size).drop (off+(a.eval y).cells.toList.length))++cs.drop (i*e.size+e.size):=by
      rw[hlen];have e1:cs.take (i*e.size+off)=cs.take (i*e.size)++((cs.drop (i*e.size)).take e.size).take off:=by
       rw[Xgf,Xby (by omega),←List.take_add]
      have e2:cs.drop (i*e.size+off+ds.length)=((cs.drop (i*e.size)).take e.size).drop (off+ds.length)++cs.drop (i*e.size+e.size):=by
       rw[List.drop_take,Xdy];have:cs.drop (i*e.size+e.size)=(cs.drop (i*e.size+(off+ds.length))).drop (e.size-(off+ds.length)):=by rw[Xdy];congr 1;omega
       rw[this,Xdj];congr 1;omega
      rw[e1,e2];simp
     have c8:HRel w0 F G ν ((id,.arr e (xs.set i d))::st.objs) st.nx W:=by
      refine hφ.turn (m:=[]) aK (by simp) hw (λb' o ⟨e',h1,h2⟩=>h9 b' o ⟨e',by omega,by omega⟩) ?_;refine Wm5 bo hb (by simpa using jZ) cx (by simpa using h4) h5 (hw.rows.row _ _ ⟨row,TT,gy,hrow⟩) eN ?_ (λb o hh=>.inl (h9 b o hh));rw[←oi];exact Wfa h8 (us:=(a.eval y).cells.toList) (by rw[Xas];exact hw) hm (by omega)
     refine⟨.skip,undef,W,G,ν,?_,.inr ⟨rfl,rfl⟩,?_⟩
     .simp only[execOp,ho,gU,cx,Instr.storeAt,Instr.sureAddr,Sem.run_bind,Sem.run_pure,Result.andThen_ok,hrun]
     .rw[j8];exact hr.on (λ_ _ _ hh=>hh) (λ_ _=>rfl) (Xn _) c8 hr.gx
    .simp at h
   .split at h
    .rename_i bI;simp only[Xj,Wh]at bI;obtain⟨⟨⟨hs,eb⟩,vo⟩,AO⟩:=bI;subst vo;split at h
     .rename_i d m hf;split at h
      .rename_i bf;injection h with h;subst h;have bf:(id::m).Nodup:=(Wdh _).1 bf;obtain⟨uz,AP⟩:=Xaj.1 bf;obtain⟨⟨_,vm,b,hb,gU⟩,_⟩:=hx;obtain⟨φ,hφ⟩:=hr.h;have hown:OwnL w (TyRel G w e) e.size (ν id) xs (φ id):=hφ.ob _ _ aK;have aW:Live st.objs id:=⟨_,aK,by simp⟩;obtain⟨jZ,cx,h3⟩:=hown;simp only[hb]at h3;obtain⟨h4,h5,ll,cs,ps,h7,h8,h9,ci⟩:=h3;obtain⟨row,TT,gy,hrow⟩:=ll;have hlt:i<xs.length:=by omega
       have hlen:(a.eval y).cells.toList.length=ds.length:=iM.1;have cM:(a.eval y).cells.size=ds.length:=by simpa using hlen
       have yw:i*e.size+e.size<=xs.length*e.size:=by rw[←Xcb];exact Xbg _ hlt
       have AN:xs.length*e.size<=(ν id).cap*e.size:=Xbg _ h4;obtain⟨c1,c,c2,p1,pc,p2,g1,g2,g3,g4,g5⟩:=WoP h7 e.dflt hlt;have l1:=Wba (λx c q hx=>WE e x c q hx) _ _ _ g3;rw[Xay,Xby (by omega)]at l1;have lc:=WE _ _ _ _ g4;obtain⟨ns,t1,t2,t3,t4,_⟩:=Wam (G':=G) hφ (λ_ _ _ hh=>hh) e ds _ d m [] iM (λi hi=>by simp at hi) AP hf;have hrun:=WeE (w:=w) (hT _ _ hl) (b:=b) (off:=(ν id).off+(i*e.size+0)) (v:=a.eval y) gy (by rw[W4 eb];omega) (by omega) mx;obtain⟨hw,hm⟩:=Wdj (k:=(ν id).off+(i*e.size+0)) (news:=(a.eval y).cells.toList) gy (by omega);simp only[Xas]at hw hm;generalize w.setRow b (row.toList.take ((ν id).off+(i*e.size+0))++(a.eval y).cells.toList++row.toList.drop ((ν id).off+(i*e.size+0)+(a.eval y).cells.size)).toArray=W at hrun hw hm;have iN:CS.le (rng b ((ν id).off+(i*e.size+0)) (a.eval y).cells.size) (rng b (ν id).off ((ν id).cap*e.size)):=λb' o ⟨e',k1,k2⟩=>⟨e',by omega,by omega⟩;have ib:=ci _ (Xk ..);have hbl:∀p∈p1++(pc++p2),∀b o,p.fp b o->b<w.heap.size:=λp hp b o hh=>hφ.bl id b o aW (ci p.fp (Xf _ (Xao (by rw[g2];exact hp))) b o hh);obtain⟨q1,q2⟩:=Xaa.1 h9;have jA:∀p∈p1++(pc++p2),Same p.fp w W:=λp hp=>hw.same ((q1 p.fp (Xao (by rw[g2];exact hp))).mono iN (λ_ _ hh=>hh)) (hbl p hp);have lm:∀p∈ns,Same p.fp w W:=λp hp=>hw.same (λb o k1 k2=>by
        obtain⟨j,hj,k3,k4⟩:=t3 p hp b o k2;have:=hφ.inj id j b o aW k3 (ib b o (iN b o k1)) k4;subst this;exact uz hj) (λb o hh=>by
        obtain⟨j,hj,k3,k4⟩:=t3 p hp b o hh;exact hφ.bl j b o k3 k4)
       have hEnc:EncP (TyRel G W e) (xs.set i d) (c1++((a.eval y).cells.toList++c2)) (p1++(ns++p2)):=by
        refine WpG hlt ?_ (WaH (λ_ _ _ hh=>hh) e _ _ _ lm t1) ?_
        .exact Wb6 (Q:=λq=>Same q.fp w W) (λx c q hq hx=>WaH (λ_ _ _ hh=>hh) e x c q hq hx) _ _ _ (λq hq=>jA q (Xl _ hq)) g3
        .exact Wb6 (Q:=λq=>Same q.fp w W) (λx c q hq hx=>WaH (λ_ _ _ hh=>hh) e x c q hq hx) _ _ _ (λq hq=>jA q (Xh _ (Xh _ hq))) g5
       have hMem:Mem W b (ν id).off (c1++((a.eval y).cells.toList++c2)):=by
        have:=Wfa h8 (k:=i*e.size+0) (us:=(a.eval y).cells.toList) (by rw[Xas];exact hw) hm (by rw[g1];simp;omega);rw[g1,Xbb,List.take_append_of_le_length (by omega),List.take_of_length_le (by omega)]at this;have ln:(c1++(c++c2)).drop (i*e.size+(a.eval y).cells.toList.length)=c2:=by
         rw[←Xbn,show i*e.size+(a.eval y).cells.toList.length=(c1++c).length by rw[Xs];omega,List.drop_left]
        rw[ln,Xbn]at this;exact this
       have c8:HRel w0 F G ν ((id,.arr e (xs.set i d))::kill st.objs m) st.nx W:=by
        refine hφ.turn aK (by simp) hw (λb' o hh=>ib b' o (iN b' o hh)) ?_;refine⟨by simpa using jZ,cx,?_⟩;simp only[hb];rw[g2,Xu,Xu]at q2 q1;have qA:=Xai.1 q2;have qB:=Xai.1 qA.2.1;have oj:∀p∈ns,∀s,CS.le s (φ id)->CS.disj p.fp s:=λp hp s hs b o k1 k2=>by
         obtain⟨j,hj,k3,k4⟩:=t3 p hp b o k1;have:=hφ.inj id j b o aW k3 (hs b o k2) k4;subst this;exact uz hj
        have cJ:∀p∈p1++(pc++p2),CS.le p.fp (φ id):=λp hp=>ci p.fp (Xf _ (Xao (by rw[g2];exact hp)));refine⟨by simpa using h4,h5,hw.rows.row _ _ ⟨row,TT,gy,hrow⟩,_,p1++(ns++p2),hEnc,hMem,Xaa.2 ⟨λs hs=>?_,?_⟩,λs hs=>?_⟩
        .simp only[Xu,Xm]at hs;rcases hs with hs|hs|hs
         .exact q1 s (Xl _ hs)
         .obtain⟨p,hp,rfl⟩:=Xx.1 hs;exact(oj p hp _ ib).symm
         .exact q1 s (Xh _ (Xh _ hs))
        .rw[Xu,Xu];refine WnE (Xai.2 ⟨qA.1,qB.2.1,λs hs t ht=>qA.2.2 s hs t (Xh _ ht)⟩) t2 (λs hs t ht=>?_);obtain⟨p,hp,rfl⟩:=Xx.1 hs;rcases Xm.1 ht with ht|ht
         .obtain⟨q,hq,rfl⟩:=Xx.1 ht;exact oj p hp _ (cJ q (Xl _ hq))
         .obtain⟨q,hq,rfl⟩:=Xx.1 ht;exact oj p hp _ (cJ q (Xh _ (Xh _ hq)))
        .intro b o hh;rcases Xq.1 hs with rfl|hs
         .exact .inl (ib b o hh)
         .simp only[Xu,Xm]at hs;rcases hs with hs|hs|hs
          .obtain⟨q,hq,rfl⟩:=Xx.1 hs;exact .inl (cJ q (Xl _ hq) b o hh)
          .obtain⟨q,hq,rfl⟩:=Xx.1 hs;exact .inr (t3 q hq b o hh)
          .obtain⟨q,hq,rfl⟩:=Xx.1 hs;exact .inl (cJ q (Xh _ (Xh _ hq)) b o hh)
       refine⟨.skip,undef,W,G,ν,?_,.inr ⟨rfl,rfl⟩,?_⟩
       .simp only[execOp,ho,gU,cx,Instr.storeAt,Instr.sureAddr,Sem.run_bind,Sem.run_pure,Result.andThen_ok,hrun]
       .rw[j8];exact hr.on (λ_ _ _ hh=>hh) (λ_ _=>rfl) (Xn _) c8 hr.gx
      .simp at h
     .simp at h
    .simp at h
  .simp at h
 .simp at h
end
end Go.Sx
namespace Go.Sx
set_option linter.unusedVariables false
set_option linter.unusedSimpArgs false
theorem WvO{G:GH}(t:Ty)(d:t.den)(cs:List Value)(h:Enc G t d cs):∀u∈cs,u.oneCell'=true:=λu hu=>by
 obtain⟨j,hj⟩:=Xed hu;have hc:=WaL (ν:=λ_=>⟨none,0,0,0,0⟩) (nx:=0) t d cs h;have hlt:j<(split t d).length:=by rw[←hc.1];grind
 exact(hc.2 j _ u (Xp hlt) hj).2
theorem Wpy{G:GH}{t:Ty}:∀(l:List t.den) (cs:List Value),EncL (Enc G t) l cs->∀u∈cs,u.oneCell'=true
 | [],cs,h,u,hu=>by grind [EncL]
 |x::l,cs,⟨c1,c2,he,h1,h2⟩,u,hu=>by
  subst he;rcases Xm.1 hu with hu|hu
  .grind [WvO]
  .exact Wpy l c2 h2 u hu
theorem WrC{G:GH}{w:World}(t:Ty)(d:t.den)(cs:List Value)(ps:List Pc)(h:TyRel G w t d cs ps):∀u∈cs,u.oneCell'=true:=λu hu=>by
 obtain⟨j,hj⟩:=Xed hu;have hc:=Wij (ν:=λ_=>⟨none,0,0,0,0⟩) (nx:=0) t d cs ps h;have hlt:j<(split t d).length:=by rw[←hc.1];grind
 exact(hc.2 j _ u (Xp hlt) hj).2
theorem Wmg{G:GH}{w:World}{t:Ty}:∀(l:List t.den) (cs:List Value) (ps:List Pc),EncP (TyRel G w t) l cs ps->∀u∈cs,u.oneCell'=true
 | [],cs,ps,h,u,hu=>by rw[h.1]at hu;simp at hu
 |x::l,cs,ps,⟨c1,c2,p1,p2,he,hp,h1,h2⟩,u,hu=>by
  subst he;rcases Xm.1 hu with hu|hu
  .grind [WrC]
  .exact Wmg l c2 p2 h2 u hu
section
variable{w0:World}{F:CS}{nt:Slots}{G0 G:GH}{ν:Nat->Nu}{φ:Nat->CS}{objs:Wal}{nx:Nat}{st am:St}{a:Act}{w w':World}{P:Program}{T:Tab}
structure Src(w0:World)(F:CS)(G:GH)(ν:Nat->Nu)(st:St)(w:World)(e:Ty)(l:List e.den)(m:List Nat)(v:Value)(news:List Value):Prop where
 enc:∀φ,HR w0 F G ν φ st.objs st.nx w->∃ps,EncP (TyRel G w e) l news ps/\Sep (ps.map Pc.fp)/\∀p∈ps,CS.le p.fp (FromL φ st.objs m)
 rd:(v= .slice none 0 0/\l= [])\/∃(p:Addr) (c:Nat),v= .slice (some p) l.length c/\∀(j:Nat) (u:Value),news[j]?=some u->w.cell? (p.add j)=some u
theorem WcY{e:Ty}(he:e.data=true){l:List e.den}{m:List Nat}{v:Value}{news:List Value}(h:EncL (Enc G e) l news)
  (rd:(v= .slice none 0 0/\l= [])\/∃(p:Addr) (c:Nat),v= .slice (some p) l.length c/\∀(j:Nat) (u:Value),news[j]?=some u->w.cell? (p.add j)=some u):Src w0 F G ν st w e l m v news:=
 ⟨λφ _=>⟨[],(EncP_data he l news []).2 ⟨h,rfl⟩,List.Pairwise.nil,by simp⟩,rd⟩
theorem WjB(hr:Rel w0 F nt G0 G ν st a w){e:Ty}(he:e.data=true){x:AVal}{u:Value}{l:List e.den}(m:List Nat)(hx:AValRel G ν st.nx x u)(h:WwA st e x=some l):∃news,Src w0 F G ν st w e l m u news:=by
 unfold WwA at h;split at h
 .rename_i e' d';obtain⟨iu,hd⟩:=Waz h;subst iu;simp only at hd;subst hd;obtain⟨⟨v,hv,hs⟩,_⟩:=hx;simp at hv;subst hv;rcases hs with⟨rfl,hn⟩|⟨b,off,cap,cs,rfl,h1,h2,h3,h4⟩|⟨a',cap,rfl,hn⟩
  rotate_left 2
  .exact⟨[],WcY he (by rw[hn];rfl) (.inr ⟨a',cap,by grind,λj u hj=>by simp at hj⟩)⟩
  .exact⟨[],WcY he (by rw[hn];rfl) (.inl ⟨rfl,hn⟩)⟩
  .exact⟨cs,WcY he h3 (.inr ⟨⟨b,off,none⟩,cap,rfl,λj u hj=>by rw[Wbf];exact hr.h.g (h4 j u hj)⟩)⟩
 .injection h with h;subst h;obtain⟨hv,_⟩:=hx;simp only[CellRel]at hv;subst hv;exact⟨[],WcY he rfl (.inl ⟨rfl,rfl⟩)⟩
 .rename_i id;split at h
  .rename_i e' xs ho;obtain⟨iu,hd⟩:=Waz h;subst iu;simp only at hd;subst hd;obtain⟨⟨_,hv⟩,_⟩:=hx;subst hv;obtain⟨S,aK⟩:=hr.h.obj ho;unfold Nu.hdr;cases hb:(ν id).blk with
   |none=>have:=WcA aK hb;exact⟨[],WcY he (by rw[this];rfl) (.inl ⟨rfl,this⟩)⟩
   |some b=>
    obtain⟨h1,h2,h3,h4,cs,h5,h6,h7⟩:=WdO he aK hb;exact⟨cs,WcY he h5 (.inr ⟨⟨b,(ν id).off,none⟩,(ν id).cap,by rw[h1],λj u hj=>by rw[Wbf];exact h6 j u hj⟩)⟩
  grind
 .rename_i id lo hi;split at h
  .rename_i e' xs ho;obtain⟨ys,hc,h⟩:=Xz.1 h;subst h;obtain⟨iu,hd⟩:=Waz hc;subst iu;simp only at hd;subst hd;obtain⟨⟨_,g1,g2,g3,hv⟩,_⟩:=hx;subst hv;obtain⟨S,aK⟩:=hr.h.obj ho;have cx:=aK.2.1;have yx:=aK.1;unfold Nu.vhdr;cases hb:(ν id).blk with
   |none=>
    have:=WcA aK hb;subst this;exact⟨[],WcY he (by simp;rfl) (.inl ⟨rfl,by simp⟩)⟩
   |some b=>
    obtain⟨h1,h2,h3,h4,cs,h5,h6,h7⟩:=WdO he aK hb;have hl:((xs.take hi).drop lo).length=hi-lo:=by simp;omega
    by_cases nq:(ν id).cap=lo
    .have h0:(xs.take hi).drop lo= []:=Xt (by omega);exact⟨[],WcY he (by rw[h0];rfl) (.inr ⟨_,_,by rw[hl],λj u hj=>by simp at hj⟩)⟩
    .refine⟨(cs.take (hi*e'.size)).drop (lo*e'.size),WcY he (WeS (λx c hc=>Enc_len e' x c hc) _ _ lo (WeM (λx c hc=>Enc_len e' x c hc) _ _ hi h5)) (.inr ⟨_,_,by rw[hl,Wa nq],λj u hj=>?_⟩)⟩;rw[Xbq,Xbr]at hj;rw[Wbf,cx,Xba];split at hj
     .exact h6 _ u hj
     grind
  grind
 grind
theorem WrF(hr:Rel w0 F nt G0 G ν st a w){dst:Option Tmp}(hd:∀d,dst=some d->nt.Ok d)(e:Ty)(m:List Nat):
  ∃ν',Rel w0 F nt G0 G ν' (({env:=st.env,objs:=(st.nx,.arr e [])::kill st.objs m,nx:=st.nx+1}:St).put dst (.s (.one (.own st.nx)))) (a.put dst (.slice none 0 0)) w:=by
 refine⟨upd ν st.nx ⟨none,0,0,0,e.size⟩,hr.fresh hd m (.arr e []) _ (λ_ _ _=>False) _ _ (λφ _=>WLe.refl _ w) (λφ _ b o hh=>hh.elim) (λφ _=>?_) ⟨⟨Xbv _,by rw[WbG];rfl⟩,rfl⟩⟩;show OwnL _ _ _ (upd ν st.nx ⟨none,0,0,0,e.size⟩ st.nx) _ _;rw[WbG];exact⟨rfl,rfl,rfl⟩
theorem WiC(t ty e TT:TypeId)(i:TypeInfo)(ht:P.underlying t=some (.slice e))(hi:P.info? e=some i)
  (g off sLen sCap:Nat) (cur:Array Value) (hg:w.heap[g]?=some (.cells cur TT (0,0)))
  (p:Addr) (m c:Nat) (news:List Value) (hl:news.length=m*i.size) (rQ:∀j u,news[j]?=some u->w.cell? (p.add j)=some u) (h1:∀u∈news,u.oneCell'=true)
  (aH:sLen+m<=sCap) (cy:off+sLen*i.size+news.length<=cur.size):
  (Builtin.append_ #[t,t] ty #[.slice (some ⟨g,off,none⟩) sLen sCap,.slice (some p) m c]).run P w=
   .ok (.slice (some ⟨g,off,none⟩) (sLen+m) sCap) (w.setRow g (cur.toList.take (off+sLen*i.size)++news++cur.toList.drop (off+sLen*i.size+news.length)).toArray):=by
 have hf:=run_firstCells_some (P:=P) w i.size m p m c news hl rQ;have bb:=run_storeCells_at P g (off+sLen*i.size) TT news 0 cur w hg (by omega) h1;simp only[Xbb]at bb;simp[Builtin.append_,Wk ht,sizeOf,typeInfo,hi,Builtin.lenOf,aH,hf,Wbf,bb]
theorem We0(t ty e:TypeId)(i:TypeInfo)(ht:P.underlying t=some (.slice e))(hi:P.info? e=some i)(base:Option Addr)(n cap:Nat)(h:n<=cap):
  (Builtin.append_ #[t,t] ty #[.slice base n cap,.slice none 0 0]).run P w= .ok (.slice base n cap) w:=by
 cases base<;>simp[Builtin.append_,Wk ht,sizeOf,typeInfo,hi,Builtin.lenOf,h,Builtin.firstCells,storeCells]
theorem WiW(t ty e:TypeId)(i:TypeInfo)(ht:P.underlying t=some (.slice e))(hi:P.info? e=some i)(p:Addr)(c:Nat):
  (Builtin.append_ #[t,t] ty #[.slice none 0 0,.slice (some p) 0 c]).run P w= .ok (.slice none 0 0) w:=by
 simp[Builtin.append_,Wk ht,sizeOf,typeInfo,hi,Builtin.lenOf,Builtin.firstCells,loadCells,loadCellsFrom]
theorem Wcj{o:Oper}{c:Call}(ho:o.op= .call c){s x:Operand}{t:TypeId}(hc:c.callee= .builtin .append)(ha:c.args.toList= [s,x])(dH:c.argTypes.toList= [t,t]){v:Value}
  (hrun:(Builtin.append_ #[t,t] o.type #[a.eval s,a.eval x]).run P w= .ok v w'):(execOp a.eval o).run P w= .ok (.value v) w':=by
 obtain⟨callee,args,argTypes⟩:=c;obtain⟨args⟩:=args;obtain⟨argTypes⟩:=argTypes;simp only at hc ha dH;subst hc ha dH;simp only[execOp,ho,resolve,invoke,builtin,Sem.run_bind,Sem.run_pure,Result.andThen_ok,Xeb,Xag,Xbd,hrun]
theorem Wvs(w:World)(need old:Nat)(e:TypeId)(h:WB need=true):need<=grownCap w need old e/\grownCap w need old e<=maxLen:=
 ⟨grownCap_ge w need old e,grownCap_le_maxLen w need old e (by grind [WB,maxLen])⟩
theorem WkC(hr:Rel w0 F nt G0 G ν st a w){dst:Option Tmp}(hd:∀d,dst=some d->nt.Ok d)(m:List Nat){e:Ty}{xs:List e.den}{cs:List Value}(hl:cs.length=xs.length*e.size)
  (hc:∀φ,HR w0 F G ν φ st.objs st.nx w->∃ps,EncP (TyRel G w e) xs cs ps/\Sep (ps.map Pc.fp)/\∀p∈ps,CS.le p.fp (FromL φ st.objs m)) {cap:Nat} (iH:xs.length<=cap) (my:cap<=maxLen) (z:Array Value) (hz:z.size=e.size) (t:TypeId):
  ∃ν',Rel w0 F nt G0 G ν' (({env:=st.env,objs:=(st.nx,.arr e xs)::kill st.objs m,nx:=st.nx+1}:St).put dst (.s (.one (.own st.nx)))) (a.put dst (.slice (some ⟨w.heap.size,0,none⟩) xs.length cap)) (w.drew.alloc (.cells (cs.toArray++Builtin.zeroCells z (cap-xs.length)) t)):=by
 refine(Wit hr hd m (e:=e) (xs:=xs) (cap:=cap) (cs:=cs) (vs:=cs.toArray++Builtin.zeroCells z (cap-xs.length)) (t:=t) iH my ?_ hc ?_ w.drew rfl rfl rfl rfl).1
 .simp only[Array.size_append,List.size_toArray,size_zeroCells,hz,hl,←Xcz];simp_all
 .simp
structure ElT(P:Program)(t et:TypeId)(e:Ty):Prop where
 u:P.underlying t=some (.slice et)
 i:∃i z,P.info? et=some i/\i.size=e.size/\i.zero=some z/\z.cells.size=e.size/\i.bytes<=4096
theorem elT(hT:War P T){t et:TypeId}{ty:Ty}{ag:Bool}{te:TE}{e:Ty}(hl:look T t=some ⟨ty,ag,.slice et⟩)(hle:look T et=some te)(hp:te.plain=true)(he:te.ty.size=e.size):ElT P t et e:=by
 obtain⟨i,z,hi,hsz,hz,eh,oh⟩:=(hT _ _ hle).info;rw[W4 hp]at hsz;rw[WbP hp]at eh;exact⟨(hT _ _ hl).und.2.1,i,z,hi,by rw[hsz,he],hz,by rw[←Xas,eh,WbC,he],oh⟩
theorem Wbz(hr:Rel w0 F nt G0 G ν st a w){o:Oper}(hd:∀d,o.dst=some d->nt.Ok d){c:Call}{s x:Operand}{t et:TypeId}{e:Ty}(hE:ElT P t et e)
  (ho:o.op= .call c) (hc:c.callee= .builtin .append) (ha:c.args.toList= [s,x]) (dH:c.argTypes.toList= [t,t]) (dM:a.eval s= .slice none 0 0)
  {l:List e.den} {m m':List Nat} {news:List Value} (hx:Src w0 F G ν st w e l m (a.eval x) news) (hm:∀i∈m,i∈m') (aH:WB l.length=true):
  Done P w0 F nt G0 o a w (({env:=st.env,objs:=(st.nx,.arr e l)::kill st.objs m',nx:=st.nx+1}:St).put o.dst (.s (.one (.own st.nx)))):=by
 obtain⟨hu,i,z,hi,hsz,hz,hZ,oh⟩:=hE;have rR:l.length<=1073741824:=by grind [WB]
 have hpos:=WbZ e;rcases hx.rd with⟨bg,bY⟩|⟨pa,cc,bg,ax⟩
 .subst bY;obtain⟨ν',hh⟩:=WrF hr hd e m';exact⟨_,_,_,G,ν',Wcj ho hc ha dH (by simp_all [We0,Xn]),.inl rfl,hh⟩
 .by_cases h0:l.length=0
  .have bY:l= []:=Xt h0;subst bY;obtain⟨ν',hh⟩:=WrF hr hd e m';exact⟨_,_,_,G,ν',Wcj ho hc ha dH (by grind [WiW]),.inl rfl,hh⟩
  .obtain⟨φ,hφ⟩:=hr.h;obtain⟨AQ,e0,_⟩:=hx.enc φ hφ;have jB:news.length=l.length*e.size:=Wba (λx c q hx=>WE e x c q hx) _ _ _ e0;obtain⟨nl,hQ⟩:=Wvs w l.length 0 et aH;obtain⟨ν',hh⟩:=WkC hr hd m' jB (λφ hφ=>by
    obtain⟨ps,k1,k2,k3⟩:=hx.enc φ hφ;exact⟨ps,k1,k2,λp hp b o hh=>FromL.mono hm b o (k3 p hp b o hh)⟩) nl hQ z.cells hZ et
   have uA:l.length*i.bytes<=281474976710656:=by
    have:=Nat.mul_le_mul rR oh;omega
   refine⟨_,_,_,G,ν',Wcj ho hc ha dH ?_,.inl rfl,hh⟩
   grind [run_append_nil]
theorem WdM{e:Ty}{nu:Nu}{xs:List e.den}{S:CS}{b k:Nat}(h:OwnL w (TyRel G w e) e.size nu xs S)(hb:nu.blk=some b)(hk:k<=xs.length):
  ∃c1 p1,EncP (TyRel G w e) (xs.take k) c1 p1/\c1.length=k*e.size/\Mem w b nu.off c1/\Sep (rng b nu.off (nu.cap*e.size)::p1.map Pc.fp)/\(∀s∈rng b nu.off (nu.cap*e.size)::p1.map Pc.fp,CS.le s S):=by
 obtain⟨h1,h2,h3⟩:=h;simp only[hb]at h3;obtain⟨h4,h5,h6,cs,ps,h7,h8,h9,ci⟩:=h3;obtain⟨c1,c2,p1,p2,g1,g2,g3,g4⟩:=WeV xs cs ps k h7;have hl:=Wba (λx c q hx=>WE e x c q hx) _ _ _ g3;rw[Xay,Xby hk]at hl;obtain⟨q1,q2⟩:=Xaa.1 h9;rw[g2,Xu]at q1 q2 ci;refine⟨c1,p1,g3,hl,by rw[g1]at h8;exact h8.left,Xaa.2 ⟨λs hs=>q1 s (Xl _ hs),(Xai.1 q2).1⟩,λs hs=>?_⟩
 grind
theorem Wdz(hr:Rel w0 F nt G0 G ν st a w){o:Oper}(hd:∀d,o.dst=some d->nt.Ok d){c:Call}{s x:Operand}{t et:TypeId}{e:Ty}(hE:ElT P t et e)
  (ho:o.op= .call c) (hc:c.callee= .builtin .append) (ha:c.args.toList= [s,x]) (dH:c.argTypes.toList= [t,t])
  {id g k:Nat} {xs:List e.den} (aK:look st.objs id=some (.arr e xs)) (bt:(ν id).blk=some g) (hk:k<=xs.length) (dM:a.eval s= .slice (some ⟨g,(ν id).off,none⟩) k (ν id).cap)
  {l:List e.den} {m:List Nat} {news:List Value} (hx:Src w0 F G ν st w e l m (a.eval x) news) (hm:id∉m) (aH:WB (k+l.length)=true):
  Done P w0 F nt G0 o a w (({env:=st.env,objs:=(st.nx,.arr e (Xe (xs.take k) l))::kill st.objs (id::m),nx:=st.nx+1}:St).put o.dst (.s (.one (.own st.nx)))):=by
 obtain⟨hu,i,z,hi,hsz,hz,hZ,oh⟩:=hE;have rR:k+l.length<=1073741824:=by grind [WB]
 have hpos:=WbZ e;have hlen:(Xe (xs.take k) l).length=k+l.length:=by show(xs.take k++l).length=_;rw[Xs,Xay,Xby hk]
 obtain⟨φ0,hφ0⟩:=hr.h;have jC:OwnL w (TyRel G w e) e.size (ν id) xs (φ0 id):=hφ0.ob _ _ aK;have nr:=jC.2.2;simp only[bt]at nr;obtain⟨hxc,my,⟨row,TT,gy,hrow⟩,_⟩:=nr;obtain⟨c1,p10,_,rS,rT,_,_⟩:=WdM jC bt hk;obtain⟨AQ,e0,_⟩:=hx.enc φ0 hφ0;have jB:news.length=l.length*e.size:=Wba (λx c q hx=>WE e x c q hx) _ _ _ e0;have aW:Live st.objs id:=⟨_,aK,by simp⟩;have rU:∀{c2:List Value},c2.length=k*e.size->Mem w g (ν id).off c2->c2=c1:=λ{c2} h1 h2=>Xfl λj=>by
  by_cases hj:j<k*e.size
  .have qW:j<c2.length:=by omega
   have uB:j<c1.length:=by omega
   have a1:=h2 j _ (Xp qW);have a2:=rT j _ (Xp uB);simp_all
  simp_all
 have inplace:∀(W:World),WLe (rng g ((ν id).off+k*e.size) (l.length*e.size)) w W->Mem W g ((ν id).off+k*e.size) news->k+l.length<=(ν id).cap->
   ∃ν',Rel w0 F nt G0 G ν' (({env:=st.env,objs:=(st.nx,.arr e (Xe (xs.take k) l))::kill st.objs (id::m),nx:=st.nx+1}:St).put o.dst (.s (.one (.own st.nx)))) (a.put o.dst (.slice (some ⟨g,(ν id).off,none⟩) (k+l.length) (ν id).cap)) W:=by
  intro W hW hM cy;have lh:(k+l.length)*e.size<=(ν id).cap*e.size:=Xbg _ cy;rw[Xcz]at lh;have iN:CS.le (rng g ((ν id).off+k*e.size) (l.length*e.size)) (rng g (ν id).off ((ν id).cap*e.size)):=λb o ⟨k0,k1,k2⟩=>⟨k0,by omega,by omega⟩;refine⟨upd ν st.nx ⟨some g,(ν id).off,k+l.length,(ν id).cap,e.size⟩,hr.fresh hd (id::m) (.arr e (Xe (xs.take k) l)) _ (λφ b o=>φ id b o\/FromL φ st.objs m b o) _ _ (λφ hφ=>?_) (λφ hφ b o hh=>?_) (λφ hφ=>?_) ⟨⟨Xbv _,by rw[WbG];rfl⟩,rfl⟩⟩
  .have hown:OwnL w (TyRel G w e) e.size (ν id) xs (φ id):=hφ.ob _ _ aK;obtain⟨_,_,_,_,_,_,hle⟩:=WdM hown bt hk;exact hW.mono λb o hh=>⟨id,.inr (Xk ..),aW,hle _ (Xk ..) b o (iN b o hh)⟩
  .rcases hh with hh|⟨j,hj,h1,h2⟩
   .exact .inl ⟨id,.inr (Xk ..),aW,hh⟩
   .exact .inl ⟨j,.inr (Xf _ hj),h1,h2⟩
  .have hown:OwnL w (TyRel G w e) e.size (ν id) xs (φ id):=hφ.ob _ _ aK;obtain⟨qX,p1,g3,g4,g5,g6,g7⟩:=WdM hown bt hk;obtain⟨ps,k1,k2,k3⟩:=hx.enc φ hφ;obtain⟨q1,q2⟩:=Xaa.1 g6;have ib:=g7 _ (Xk ..);have nv:∀p∈p1,CS.le p.fp (φ id):=λp hp=>g7 _ (Xf _ (Xao hp));have rV:∀p∈ps,∀S,CS.le S (φ id)->CS.disj S p.fp:=λp hp S hS b o h1 h2=>by
    obtain⟨j,hj,h3,h4⟩:=k3 p hp b o h2;have:=hφ.inj id j b o aW h3 (hS b o h1) h4;simp_all
   have jA:∀p∈p1,Same p.fp w W:=λp hp=>hW.same ((q1 p.fp (Xao hp)).mono iN (λ_ _ hh=>hh)) (λb o hh=>hφ.bl id b o aW (nv p hp b o hh));have lm:∀p∈ps,Same p.fp w W:=λp hp=>hW.same (rV p hp _ (λb o hh=>ib b o (iN b o hh))) (λb o hh=>by
    obtain⟨j,hj,h3,h4⟩:=k3 p hp b o hh;exact hφ.bl j b o h3 h4)
   show OwnL W (TyRel G W e) e.size (upd ν st.nx ⟨some g,(ν id).off,k+l.length,(ν id).cap,e.size⟩ st.nx) _ _;rw[WbG];refine⟨hlen,rfl,by simp_all,my,hW.rows.row _ _ ⟨row,TT,gy,hrow⟩,qX++news,p1++ps,Wd7 _ _ _ _ _ _ ?_ ?_,?_,Xaa.2 ⟨λs hs=>?_,?_⟩,λs hs b o hh=>?_⟩
   .exact Wb6 (Q:=λq=>Same q.fp w W) (λx c q hq hx=>WaH (λ_ _ _ hh=>hh) e x c q hq hx) _ _ _ jA g3
   .exact Wb6 (Q:=λq=>Same q.fp w W) (λx c q hq hx=>WaH (λ_ _ _ hh=>hh) e x c q hq hx) _ _ _ lm k1
   .refine Mem.app (n:=k*e.size) (λj v hj=>?_) hM g4;have h1:=g5 j v hj;have hj':j<qX.length:=(Xae.1 hj).1;rw[hW.cell g ((ν id).off+j) (block_lt_of_cell h1) (λ⟨_,h2,_⟩=>by omega)];exact h1
   .grind
   .rw[Xu];refine Xai.2 ⟨q2,k2,λs hs t ht=>?_⟩
    grind
   .rcases Xq.1 hs with rfl|hs
    .exact .inl (ib b o hh)
    .rw[Xu]at hs;rcases Xm.1 hs with hs|hs
     .obtain⟨p,hp,rfl⟩:=Xx.1 hs;exact .inl (nv p hp b o hh)
     .obtain⟨q,hq,rfl⟩:=Xx.1 hs;exact .inr (k3 q hq b o hh)
 rcases hx.rd with⟨bg,bY⟩|⟨pa,cc,bg,ax⟩
 .have hl0:l.length=0:=by simp_all
  have vg:news= []:=Xt (by simp_all);obtain⟨ν',hh⟩:=inplace w (WLe.refl _ w) (by rw[vg];exactλj v hj=>by simp at hj) (by omega);refine⟨_,_,_,G,ν',Wcj ho hc ha dH ?_,.inl rfl,hh⟩
  grind [We0]
 .by_cases cy:k+l.length<=(ν id).cap
  .have rW:(k+l.length)*e.size<=(ν id).cap*e.size:=Xbg _ cy;rw[Xcz]at rW;have hrun:=WiC (P:=P) (w:=w) t o.type et TT i hu hi g (ν id).off k (ν id).cap row gy pa l.length cc news (by rw[hsz];exact jB) (λj v hj=>ax j v hj) (Wmg _ _ _ e0) cy (by rw[hsz,jB];omega);obtain⟨hw,lY⟩:=Wdj (k:=(ν id).off+k*i.size) (news:=news) gy (by rw[hsz,jB];omega);generalize w.setRow g (row.toList.take ((ν id).off+k*i.size)++news++row.toList.drop ((ν id).off+k*i.size+news.length)).toArray=W at hrun hw lY;rw[hsz]at hw lY;rw[jB]at hw;obtain⟨ν',hh⟩:=inplace W hw lY cy;exact⟨_,_,_,G,ν',Wcj ho hc ha dH (by rw[dM,bg,hrun]),.inl rfl,hh⟩
  .obtain⟨nl,hQ⟩:=Wvs w (k+l.length) (ν id).cap et aH;have hcl:(c1++news).length=(Xe (xs.take k) l).length*e.size:=by rw[Xs,rS,jB,hlen,Xcz]
   obtain⟨ν',hh⟩:=WkC hr hd (id::m) (xs:=Xe (xs.take k) l) hcl (λφ hφ=>by
    have hown:OwnL w (TyRel G w e) e.size (ν id) xs (φ id):=hφ.ob _ _ aK;obtain⟨qX,p1,g3,g4,g5,g6,g7⟩:=WdM hown bt hk;obtain⟨ps,k1,k2,k3⟩:=hx.enc φ hφ;have:=rU g4 g5;subst this;obtain⟨q1,q2⟩:=Xaa.1 g6;have nv:∀p∈p1,CS.le p.fp (φ id):=λp hp=>g7 _ (Xf _ (Xao hp));refine⟨p1++ps,Wd7 _ _ _ _ _ _ g3 k1,?_,λp hp b o hh=>?_⟩
    .rw[Xu];refine Xai.2 ⟨q2,k2,λs hs t ht=>?_⟩;obtain⟨p,hp,rfl⟩:=Xx.1 hs;obtain⟨q,hq,rfl⟩:=Xx.1 ht;intro b o h1 h2;obtain⟨j,hj,h3,h4⟩:=k3 q hq b o h2;have:=hφ.inj id j b o aW h3 (nv p hp b o h1) h4;subst this;exact hm hj
    .rcases Xm.1 hp with hp|hp
     .exact⟨id,Xk ..,aW,nv p hp b o hh⟩
     .exact FromL.mono (λi hi=>Xf _ hi) b o (k3 p hp b o hh)) (by rw[hlen];exact nl) hQ z.cells hZ et
   have uA:(k+l.length)*i.bytes<=140737488355328:=by
    have:=Nat.mul_le_mul rR oh;omega
   have hrun:=run_append_grow (P:=P) w t o.type et i z hu hi hz ⟨g,(ν id).off,none⟩ k (ν id).cap c1 (by rw[hsz];exact rS) (λj v hj=>by rw[Wbf];exact rT j v hj) pa l.length cc news (by rw[hsz];exact jB) (λj v hj=>ax j v hj) (by omega) (by omega) (growslice_fits (by omega) uA);refine⟨_,_,_,G,ν',Wcj ho hc ha dH ?_,.inl rfl,hh⟩;rw[dM,bg,hrun,hlen];simp
theorem Wls{id:Nat}{e:Ty}{xs:List e.den}(hh:HRel w0 F G ν objs nx w)(aK:look objs id=some (.arr e xs)):
  ((ν id).blk=none/\xs= []/\(ν id).hdr= .slice none 0 0)\/∃g,(ν id).blk=some g/\(ν id).hdr= .slice (some ⟨g,(ν id).off,none⟩) xs.length (ν id).cap:=by
 obtain⟨S,ho⟩:=hh.obj aK;unfold Nu.hdr;cases hb:(ν id).blk with
 |none=>exact .inl ⟨rfl,WcA ho hb,rfl⟩
 |some g=>exact .inr ⟨g,rfl,by rw[ho.1]⟩
theorem Wnc(hT:War P T)(hr:Rel w0 F nt G0 G ν st a w){o:Oper}(hd:∀d,o.dst=some d->nt.Ok d){c:Call}{s x:Operand}{t et:TypeId}{ty:Ty}{te:TE}{sv xv:AVal}{R:Type}{k:St->Option R}{r:R}
  (hl:look T t=some ⟨ty,false,.slice et⟩) (hle:look T et=some te) (hp:te.plain=true)
  (ho:o.op= .call c) (hc:c.callee= .builtin .append) (ha:c.args.toList= [s,x]) (dH:c.argTypes.toList= [t,t]) (hs:ev st s=some sv) (hx:ev st x=some xv)
  (h:WeW st te.ty sv xv (λx objs nx=>k (({env:=st.env,objs:=objs,nx:=nx}:St).put o.dst x))=some r):∃am,k am=some r/\Done P w0 F nt G0 o a w am:=by
 have move:∀(e:Ty) (l:List e.den) (m:List Nat),Wu1 st e xv=some (l,m)->∃news,Src w0 F G ν st w e l m (a.eval x) news:=λe l m fm=>by
  unfold Wu1 at fm;split at fm
  .simp only[Option.some.injEq,Prod.mk.injEq]at fm;obtain⟨rfl,rfl⟩:=fm;obtain⟨hv,_⟩:=WV hr x _ hx;exact⟨[],λφ _=>⟨[],⟨rfl,rfl⟩,List.Pairwise.nil,by simp⟩,.inl ⟨hv,rfl⟩⟩
  .rename_i id;split at fm
   .rename_i e' xs aK;obtain⟨ys,bJ,fm⟩:=Xz.1 fm;have h2:=Prod.mk.inj fm;obtain⟨h3,h4⟩:=h2;subst h3 h4;obtain⟨iu,rX⟩:=Waz bJ;subst iu;simp only at rX;subst rX;obtain⟨⟨_,hv⟩,_⟩:=WV hr x _ hx;have aW:Live st.objs id:=⟨_,aK,by simp⟩;rcases Wls hr.h aK with⟨hb,bY,hh⟩|⟨g,hb,hh⟩
    .subst bY;exact⟨[],λφ _=>⟨[],⟨rfl,rfl⟩,List.Pairwise.nil,by simp⟩,.inl ⟨by rw[hv,hh],rfl⟩⟩
    .obtain⟨φ0,hφ0⟩:=hr.h;have jC:OwnL w (TyRel G w e') e'.size (ν id) xs (φ0 id):=hφ0.ob _ _ aK;obtain⟨c1,p1,g1,g2,g3,g4,g5⟩:=WdM jC hb (Xn _);refine⟨c1,λφ hφ=>?_,.inr ⟨⟨g,(ν id).off,none⟩,(ν id).cap,by rw[hv,hh],λj u hj=>by rw[Wbf];exact g3 j u hj⟩⟩;have hown:OwnL w (TyRel G w e') e'.size (ν id) xs (φ id):=hφ.ob _ _ aK;obtain⟨qX,AR,k1,k2,k3,k4,k5⟩:=WdM hown hb (Xn _);have:qX=c1:=Xfl λj=>by
      by_cases hj:j<xs.length*e'.size
      .have qW:j<qX.length:=by omega
       have uB:j<c1.length:=by omega
       have a1:=k3 j _ (Xp qW);have a2:=g3 j _ (Xp uB);rw[a1]at a2;rw[Xp qW,Xp uB];exact a2
      .rw[Xcv (by omega),Xcv (by omega)]
     subst this;rw[Xcu]at k1;exact⟨AR,k1,(Xaa.1 k4).2,λp hp b o hh=>⟨id,Xaf.2 rfl,aW,k5 _ (Xf _ (Xao hp)) b o hh⟩⟩
   .simp at fm
  .simp at fm
 unfold WeW at h;split at h
 .split at h
  .rename_i e hel;split at h
   .rename_i he;split at h
    .rename_i l m fm;obtain⟨news,dC⟩:=move e l m fm;cases aH:WB l.length with
     |false=>simp[aH]at h
     |true=>
      simp[aH]at h;obtain⟨dM,_⟩:=WV hr s _ hs;exact⟨_,h,Wbz hr hd (elT hT hl hle hp (by rw[←he,WbO])) ho hc ha dH dM dC (λi hi=>hi) aH⟩
    .simp at h
   .simp at h
  .simp at h
 .rename_i id;split at h
  .rename_i e xs aK;split at h
   .rename_i he;split at h
    .rename_i l m fm;obtain⟨news,dC⟩:=move e l m fm;split at h
     .rename_i bf;have bf:=(Xaj.1 ((Wdh _).1 bf)).1;cases aH:WB (xs.length+l.length)with
      |false=>simp[aH]at h
      |true=>
       simp[aH]at h;refine⟨_,h,?_⟩;have hE:ElT P t et e:=elT hT hl hle hp (by rw[←he,WbO]);obtain⟨⟨_,dM⟩,_⟩:=WV hr s _ hs;rcases Wls hr.h aK with⟨hb,bY,hh⟩|⟨g,hb,hh⟩
       .subst bY;exact Wbz hr hd hE ho hc ha dH (by rw[dM,hh]) dC (λi hi=>Xf _ hi) (by simpa [WB]using aH)
       .have:=Wdz hr hd hE ho hc ha dH aK hb (Xn _) (by rw[dM,hh]) dC bf aH;rw[Xcu]at this;exact this
     .simp at h
    .simp at h
   .simp at h
  .simp at h
 .simp at h
theorem Woz(hT:War P T)(hr:Rel w0 F nt G0 G ν st a w){o:Oper}(hd:∀d,o.dst=some d->nt.Ok d){c:Call}{s x:Operand}{t t2:TypeId}{sv xv:AVal}{R:Type}{k:St->Option R}{r:R}
  (ho:o.op= .call c) (hc:c.callee= .builtin .append) (ha:c.args.toList= [s,x]) (dH:c.argTypes.toList= [t,t2]) (hs:ev st s=some sv) (hx:ev st x=some xv)
  (h:Wd4 T st t t2 sv xv (λx objs nx=>k (({env:=st.env,objs:=objs,nx:=nx}:St).put o.dst x))=some r):∃am,k am=some r/\Done P w0 F nt G0 o a w am:=by
 unfold Wd4 at h;split at h
 .rename_i ty et _ hl _;split at h
  .rename_i te hle;split at h
   .rename_i bI;obtain⟨rfl,hp,bo⟩:=bI;have hE:ElT P t et te.ty:=elT hT hl hle hp rfl;cases iv:Wuj st sv xv with
    |false=>
     simp only[iv,Bool.not_false,We]at h;exact Wnc hT hr hd hl hle hp ho hc ha dH hs hx h
    |true=>
    simp only[iv,Xv,Wc]at h;split at h
    .rename_i l cM;cases aH:WB l.length with
     |false=>simp[aH]at h
     |true=>
      simp[aH]at h;obtain⟨dM,_⟩:=WV hr s _ hs;obtain⟨news,dC⟩:=WjB hr bo [] (WV hr x _ hx) cM;exact⟨_,h,Wbz (m':=[]) hr hd hE ho hc ha dH dM dC (λi hi=>hi) aH⟩
    .rename_i id l cM;split at h
     .rename_i e0 xs aK;split at h
      .rename_i ys bJ;obtain⟨he,hy⟩:=Wf2 bJ;injection he with he;subst he;simp only at hy;subst hy;cases aH:WB (Xb xs+l.length)with
       |false=>simp[aH]at h
       |true=>
        simp[aH]at h;refine⟨_,h,?_⟩;obtain⟨⟨_,dM⟩,_⟩:=WV hr s _ hs;obtain⟨news,dC⟩:=WjB hr bo [] (WV hr x _ hx) cM;rcases Wls hr.h aK with⟨hb,bY,hh⟩|⟨g,hb,hh⟩
        .subst bY;exact Wbz (m':=[id]) hr hd hE ho hc ha dH (by rw[dM,hh]) dC (λi hi=>by simp at hi) (by simpa [WB]using aH)
        .have:=Wdz hr hd hE ho hc ha dH aK hb (Xn _) (by rw[dM,hh]) dC (by simp) aH;rw[Xcu]at this;exact this
      .simp at h
     .simp at h
    .rename_i id hi l cM;split at h
     .rename_i e0 xs aK;split at h
      .rename_i ys bJ;obtain⟨he,hy⟩:=Wf2 bJ;injection he with he;subst he;simp only at hy;subst hy;cases aH:WB (hi+l.length)with
       |false=>simp[aH]at h
       |true=>
        simp[aH]at h;refine⟨_,h,?_⟩;obtain⟨⟨_,g1,g2,g3,dM⟩,_⟩:=WV hr s _ hs;obtain⟨news,dC⟩:=WjB hr bo [] (WV hr x _ hx) cM;obtain⟨S,hown⟩:=hr.h.obj aK;unfold Nu.vhdr at dM;cases hb:(ν id).blk with
        |none=>
         have bY:=WcA hown hb;simp only[hb]at dM;have h0:=g3 hb;subst h0;show Done P w0 F nt G0 o a w (({env:=st.env,objs:=(st.nx,.arr te.ty l)::(id,.dead)::st.objs,nx:=st.nx+1}:St).put o.dst (.s (.one (.own st.nx))));exact Wbz (m':=[id]) hr hd hE ho hc ha dH dM dC (λi hi=>by simp at hi) (by simpa [WB]using aH)
        |some g=>
         simp only[hb,Nat.sub_zero,Xey,Xbb,ite_self]at dM;exact Wdz hr hd hE ho hc ha dH aK hb (by rw[hown.1];exact g2) dM dC (by simp) aH
      .simp at h
     .simp at h
    .simp at h
   .simp at h
  .simp at h
 .simp at h
end
end Go.Sx
namespace Go.Sx
set_option linter.unusedVariables false
set_option linter.unusedSimpArgs false
section
variable{w0:World}{F:CS}{nt:Slots}{G0 G:GH}{ν:Nat->Nu}{φ:Nat->CS}{objs:Wal}{nx:Nat}{st am:St}{a:Act}{w w':World}{P:Program}{T:Tab}
theorem Wjs{t et:TypeId}{te:TE}{nu:Nu}{n:Nat}{lo hi:Option Int}{vl vh:Option Value}(hu:P.underlying t=some (.slice et))(bT:TEok P T et te)(hp:te.plain=true)(cx:nu.esz=te.ty.size)
  (hc:n<=nu.cap) (hn:n=nu.len) (bt:nu.blk=none->n=0) (hl:BRel lo vl) (hh:BRel hi vh) (hb:(Wc8 n lo hi).1=true):
  (Instr.sliceAt t nu.hdr vl vh none).run P w= .ok (nu.vhdr (Wc8 n lo hi).2.1 (Wc8 n lo hi).2.2) w/\(Wc8 n lo hi).2.1<=(Wc8 n lo hi).2.2/\(Wc8 n lo hi).2.2<=n:=by
 unfold Nu.hdr Nu.vhdr;cases hk:nu.blk with
 |none=>
  have h0:=bt hk;subst h0;obtain⟨hr,h3,h4⟩:=Wc7 (P:=P) (w:=w) (isSlice:=true) (cap:=0) hl hh (Xn _) hb;have e1:(Wc8 0 lo hi).2.2=0:=by omega
  have e2:(Wc8 0 lo hi).2.1=0:=by omega
  rw[e1,e2]at hr⊢;refine⟨?_,Xn _,Xn _⟩;simp[Instr.sliceAt,Instr.slice,Wk hu,hr,bT.sizeOf]
 |some b=>
  obtain⟨hr,h7,h8⟩:=Wc7 (P:=P) (w:=w) (isSlice:=true) (cap:=nu.cap) hl hh hc hb;refine⟨?_,h7,h8⟩;rw[←hn];generalize (Wc8 n lo hi).2.1=p at*;generalize (Wc8 n lo hi).2.2=q at*;have hsz:te.size=nu.esz:=by rw[W4 hp,cx]
  simp only[Instr.sliceAt,Instr.slice,Sem.run_bind,Wk hu,Result.andThen_ok,hr,bT.sizeOf,Sem.run_pure,hsz,Xcc,Wbf];split<;>rfl
theorem Wr7{id:Nat}{e:Ty}{xs:List e.den}{S:CS}(h:WcQ G ν nx w id S (.arr e xs)):((ν id).blk=none->xs.length=0)/\((ν id).blk≠none->xs.length<=(ν id).cap):=by
 refine⟨λhb=>by rw[WcA h hb];rfl,λhb=>?_⟩;obtain⟨_,_,h3⟩:=h
 grind
theorem Wmb{t et:TypeId}{te:TE}{id:Nat}{e:Ty}{xs:List e.den}{S:CS}(ho:WcQ G ν nx w id S (.arr e xs)){lo hi:Option Int}{vl vh:Option Value}(hu:P.underlying t=some (.slice et))(bT:TEok P T et te)(hp:te.plain=true)(he:te.ty.size=e.size)
  (hl:BRel lo vl) (hh:BRel hi vh) (hb:(Wc8 xs.length lo hi).1=true):
  (Instr.sliceAt t (ν id).hdr vl vh none).run P w= .ok ((ν id).vhdr (Wc8 xs.length lo hi).2.1 (Wc8 xs.length lo hi).2.2) w/\(Wc8 xs.length lo hi).2.1<=(Wc8 xs.length lo hi).2.2/\(Wc8 xs.length lo hi).2.2<=xs.length:=by
 obtain⟨h1,h2⟩:=Wr7 ho;have hlen:=ho.1;have cx:=ho.2.1;cases hk:(ν id).blk with
 |some b=>grind [Wjs]
 |none=>
  have h0:=h1 hk;have bY:xs= []:=Xt h0;have e0:(ν id).hdr=(⟨none,(ν id).off,(ν id).len,0,(ν id).esz⟩:Nu).hdr:=by grind [Nu.hdr]
  have e1:∀p q,(ν id).vhdr p q=(⟨none,(ν id).off,(ν id).len,0,(ν id).esz⟩:Nu).vhdr p q:=λp q=>by grind [Nu.vhdr]
  rw[e0,e1];exact Wjs hu bT hp (by show(ν id).esz=_;rw[cx,he]) (by omega) hlen (λ_=>h0) hl hh hb
theorem Wha{o:Oper}{t:TypeId}{x:Operand}{lo hi:Option Operand}{v:Value}(ho:o.op= .slice t x lo hi none)(h:(Instr.sliceAt t (a.eval x) (lo.map a.eval) (hi.map a.eval) none).run P w= .ok v w):(execOp a.eval o).run P w= .ok (.value v) w:=by
 grind [execOp,Sem.run_bind,Result.andThen_ok,Sem.run_pure]
theorem WsF(hT:War P T)(hr:Rel w0 F nt G0 G ν st a w){o:Oper}(hd:∀d,o.dst=some d->nt.Ok d){t et:TypeId}{ty:Ty}{te:TE}{x:Operand}{lo hi:Option Operand}(ho:o.op= .slice t x lo hi none)
  {id:Nat} {l h:Option Int} {R:Type} {k:St->Option R} {r:R} (hx:ev st x=some (.s (.one (.own id)))) (hl:look T t=some ⟨ty,false,.slice et⟩) (hle:look T et=some te) (hp:te.plain=true) (h1:Wl8 st lo=some l) (h2:Wl8 st hi=some h)
  (hk:WfQ st te.ty id l h (λx objs nx=>k (({env:=st.env,objs:=objs,nx:=nx}:St).put o.dst x))=some r):∃am,k am=some r/\Done P w0 F nt G0 o a w am:=by
 unfold WfQ at hk;split at hk
 .rename_i e xs aK;split at hk
  case isFalse=>simp at hk
  rename_i jz;cases hb:(Wc8 (Xb xs) l h).1 with
  |false=>simp_all
  |true=>
   simp only[hb,We]at hk;refine⟨_,hk,?_⟩;obtain⟨⟨bO,dM⟩,_⟩:=WV hr x _ hx;obtain⟨S,hown⟩:=hr.h.obj aK;have hbl:=Wdw hr lo _ h1;have rY:=Wdw hr hi _ h2;obtain⟨g1,g2,g3⟩:=Wmb (w:=w) hown (hT _ _ hl).und.2.1 (hT _ _ hle) hp (by rw[jz,WbO]) hbl rY hb;refine⟨_,_,w,G,ν,Wha ho (by simp_all),.inl rfl,hr.put hd ⟨⟨bO,g2,by rw[←hown.1];exact g3,λuC=>?_,rfl⟩,Wpf _ _ _⟩⟩
   grind [Wr7]
 grind
theorem Wt2(n:Nu)(h:Nat):n.part 0 h=⟨n.blk,n.off,h,n.cap,n.esz⟩:=by
 unfold Nu.part;simp
theorem Wxb(n:Nu)(h:Nat):n.vhdr 0 h=(⟨n.blk,n.off,h,n.cap,n.esz⟩:Nu).hdr:=by
 rw[←Wt2,Wlh]
theorem Wq6(hT:War P T)(hr:Rel w0 F nt G0 G ν st a w){o:Oper}(hd:∀d,o.dst=some d->nt.Ok d){t et:TypeId}{ty:Ty}{x:Operand}{lo hi:Option Operand}(ho:o.op= .slice t x lo hi none)
  {id:Nat} {e:Ty} {xs:List e.den} {te:TE} {h:Int} (hx:ev st x=some (.s (.one (.own id)))) (hl:look T t=some ⟨ty,false,.slice et⟩) (hle:look T et=some te) (hp:te.plain=true) (he:te.ty=e.ro) (aK:look st.objs id=some (.arr e xs)) (bm:Wl8 st lo=some none) (hh:Wl8 st hi=some (some h))
  (h0:0<=h) (h1:h<=(xs.length:Int)):Done P w0 F nt G0 o a w (({env:=st.env,objs:=(st.nx,.arr e (xs.take h.toNat))::kill st.objs [id],nx:=st.nx+1}:St).put o.dst (.s (.one (.own st.nx)))):=by
 obtain⟨⟨bO,dM⟩,_⟩:=WV hr x _ hx;obtain⟨S,hown⟩:=hr.h.obj aK;have hbl:=Wdw hr lo _ bm;have rY:=Wdw hr hi _ hh;have hb:(Wc8 xs.length none (some h)).1=true:=by simp[Wc8,h0,h1]
 obtain⟨g1,g2,g3⟩:=Wmb (w:=w) hown (hT _ _ hl).und.2.1 (hT _ _ hle) hp (by rw[he,WbO]) hbl rY hb;have e1:(Wc8 xs.length none (some h)).2.1=0:=rfl;have e2:(Wc8 xs.length none (some h)).2.2=h.toNat:=rfl;rw[e1,e2,Wxb]at g1;refine⟨_,_,w,G,upd ν st.nx ((ν id).part 0 h.toNat),Wha ho (by rw[dM];exact g1),.inl rfl,?_⟩;have aW:Live st.objs id:=⟨_,aK,by simp⟩;refine hr.fresh hd [id] (.arr e (xs.take h.toNat)) _ (λφ=>φ id) _ _ (λφ _=>WLe.refl _ w) (λφ _ b o hh=>.inl ⟨id,.inr (Xaf.2 rfl),aW,hh⟩) (λφ hφ=>?_) ⟨⟨Xbv _,by rw[WbG,Wt2]⟩,Wjd _⟩;show OwnL w (TyRel G w e) e.size (upd ν st.nx ((ν id).part 0 h.toNat) st.nx) (xs.take h.toNat) (φ id);rw[WbG];have hown':OwnL w (TyRel G w e) e.size (ν id) xs (φ id):=hφ.ob _ _ aK;have:=WpV (lo:=0) (hi:=h.toNat) hown' (Nat.zero_le _) (by rw[←hown'.1];omega);simp_all
theorem WjU(hT:War P T)(hr:Rel w0 F nt G0 G ν st a w){o:Oper}(hd:∀d,o.dst=some d->nt.Ok d){t et:TypeId}{ty:Ty}{x:Operand}{lo hi:Option Operand}(ho:o.op= .slice t x lo hi none)
  {id i p:Nat} {e:Ty} {xs:List e.den} {te:TE} {h:Int} (hx:ev st x=some (.s (.one (.own id)))) (hl:look T t=some ⟨ty,false,.slice et⟩) (hle:look T et=some te) (hp:te.plain=true) (he:te.ty=e.ro) (aK:look st.objs id=some (.hole e xs i p)) (vp:Ws8 (look st.objs p) e.size=true) (bm:Wl8 st lo=some none) (hh:Wl8 st hi=some (some h))
  (h0:0<=h) (h1:h<=(xs.length:Int)) (h2:h<=(i:Int)):Done P w0 F nt G0 o a w (({env:=st.env,objs:=(st.nx,.arr e (xs.take h.toNat))::kill st.objs [id,p],nx:=st.nx+1}:St).put o.dst (.s (.one (.own st.nx)))):=by
 obtain⟨⟨bO,dM⟩,_⟩:=WV hr x _ hx;obtain⟨S,mq,hole⟩:=hr.h.obj aK;have gT:∃cs,look st.objs p=some (.box cs)/\cs.length=e.size:=by
  unfold Ws8 at vp
  grind [Xcl]
 obtain⟨pcs,gT,eb⟩:=gT;have hbl:=Wdw hr lo _ bm;have rY:=Wdw hr hi _ hh;have hb:(Wc8 xs.length none (some h)).1=true:=by simp[Wc8,h0,h1]
 obtain⟨k1,k2,k3,b,k4,k5,k6,k7,k8,k9,_⟩:=hole;obtain⟨g1,g2,g3⟩:=Wjs (w:=w) (nu:=ν id) (hT _ _ hl).und.2.1 (hT _ _ hle) hp (by rw[k2,he,WbO]) k7 k1 (λhn=>by simp_all) hbl rY hb;have e1:(Wc8 xs.length none (some h)).2.1=0:=rfl;have e2:(Wc8 xs.length none (some h)).2.2=h.toNat:=rfl;rw[e1,e2,Wxb]at g1;refine⟨_,_,w,G,upd ν st.nx ((ν id).part 0 h.toNat),Wha ho (by rw[dM];exact g1),.inl rfl,?_⟩;have aW:Live st.objs id:=⟨_,aK,by simp⟩;have fj:Live st.objs p:=⟨_,gT,by simp⟩;refine hr.fresh hd [id,p] (.arr e (xs.take h.toNat)) _ (λφ b o=>φ id b o\/φ p b o) _ _ (λφ _=>WLe.refl _ w) (λφ _ b o hh=>?_) (λφ hφ=>?_) ⟨⟨Xbv _,by rw[WbG,Wt2]⟩,Wjd _⟩
 .rcases hh with hh|hh
  .exact .inl ⟨id,.inr (by simp),aW,hh⟩
  .exact .inl ⟨p,.inr (by simp),fj,hh⟩
 .show OwnL w (TyRel G w e) e.size (upd ν st.nx ((ν id).part 0 h.toNat) st.nx) (xs.take h.toNat) _;rw[WbG,Wt2];obtain⟨mq,hole⟩:p<st.nx/\Wh8 w (TyRel G w e) e.size (ν id) (ν p) xs i (φ id):=hφ.ob _ _ aK;obtain⟨_,_,_,b',uD,k5',_,_,_,_,c1,c2,p1,p2,j1,j2,j3,j4,j5,j6⟩:=hole;rw[k4]at uD;injection uD with uD;subst uD;obtain⟨b2,vs,q1,q2,q3,q4,q5⟩:WcQ G ν st.nx w p (φ p) (.box pcs):=hφ.ob _ _ gT;rw[k5]at q1;injection q1 with q1;subst q1;rw[eb,k6]at q5;obtain⟨d1,d2,r1,r2,t1,t2,t3,t4⟩:=WeV _ _ _ h.toNat j1;rw[Xgf,Xby (by omega)]at t3;have gA:=j6 _ (Xk ..);have gC:=j6 _ (Xf _ (Xk ..));obtain⟨s1,s2⟩:=Xaa.1 j5;obtain⟨s3,s4⟩:=Xaa.1 s2;have da:∀s∈r1.map Pc.fp,s∈(p1++p2).map Pc.fp:=λs hs=>by simp_all
  have gp:∀s∈r1.map Pc.fp,CS.le s (φ id):=λs hs=>j6 s (Xf _ (Xf _ (da s hs)));have vq:∀b o,φ id b o->φ p b o->False:=λb o x1 x2=>by
   have:=hφ.inj id p b o aW fj x1 x2;simp_all
  refine⟨by simp;omega,k2,?_⟩;simp only[k4];refine⟨by simp;omega,k8,k9,d1,r1,t3,by rw[t1]at j3;exact j3.left,Xaa.2 ⟨λs hs=>?_,?_⟩,λs hs=>?_⟩
  .exactλb' o gj hP=>(Wgi (show i<(ν id).cap by omega) (S:=λb o=>¬s b o) (λb o hh hP=>s1 s (Xf _ (da s hs)) b o hh hP) (λb o hh hP=>vq b o (gp s hs b o hP) (q5 b o hh)) (λb o hh hP=>s3 s (da s hs) b o hh hP) b' o gj) hP
  .grind
  .rcases Xq.1 hs with rfl|hs
   .exact Wgi (show i<(ν id).cap by omega) (λb o hh=>.inl (gA b o hh)) (λb o hh=>.inr (q5 b o hh)) (λb o hh=>.inl (gC b o hh))
   .exactλb o hh=>.inl (gp s hs b o hh)
theorem Wqo(hT:War P T)(hr:Rel w0 F nt G0 G ν st a w){o:Oper}(hd:∀d,o.dst=some d->nt.Ok d){c:Call}{x:Operand}{t et:TypeId}{ty:Ty}{te:TE}{e:Ty}{xs:List e.den}{id lo hi:Nat}
  (ho:o.op= .call c) (hc:c.callee= .builtin .clear) (ha:c.args.toList= [x]) (dH:c.argTypes.toList= [t]) (hx:ev st x=some (.s (.one (.vw id lo hi)))) (hl:look T t=some ⟨ty,false,.slice et⟩) (hle:look T et=some te)
  (aK:look st.objs id=some (.arr e xs)) (he:te.ty=e) (hp:te.plain=true) (bo:e.data=true):
  Done P w0 F nt G0 o a w (({env:=st.env,objs:=(id,.arr e (xs.take lo++Xo (hi-lo) e.dflt++xs.drop hi))::st.objs,nx:=st.nx}:St).put o.dst (.tup [])):=by
 have hu:=(hT _ _ hl).und.2.1;obtain⟨⟨bO,g1,g2,g3,hv⟩,_⟩:=WV hr x _ hx;obtain⟨φ,hφ⟩:=hr.h;have hown:OwnL w (TyRel G w e) e.size (ν id) xs (φ id):=hφ.ob _ _ aK;have aW:Live st.objs id:=⟨_,aK,by simp⟩;have rZ:∀W,(Builtin.clear_ #[t] o.type #[a.eval x]).run P w= .ok (.tuple #[]) W->(execOp a.eval o).run P w= .ok (.value (.tuple #[])) W:=λW hrun=>by
  obtain⟨callee,args,argTypes⟩:=c;obtain⟨args⟩:=args;obtain⟨argTypes⟩:=argTypes;simp only at hc ha dH;subst hc ha dH;simp only[execOp,ho,resolve,invoke,builtin,Sem.run_bind,Sem.run_pure,Result.andThen_ok,Xeb,Xag,Xbd,hrun]
 have gk:∀W,(Builtin.clear_ #[t] o.type #[a.eval x]).run P w= .ok (.tuple #[]) W->HRel w0 F G ν ((id,.arr e (xs.take lo++Xo (hi-lo) e.dflt++xs.drop hi))::st.objs) st.nx W->
   Done P w0 F nt G0 o a w (({env:=st.env,objs:=(id,.arr e (xs.take lo++Xo (hi-lo) e.dflt++xs.drop hi))::st.objs,nx:=st.nx}:St).put o.dst (.tup [])):=λW hrun hH=>
  ⟨_,_,W,G,ν,rZ W hrun,.inl rfl,(hr.on (λ_ _ _ hh=>hh) (λ_ _=>rfl) (Xn _) hH hr.gx).put hd ⟨[],rfl,rfl,λj x v hj=>by simp at hj⟩⟩
 by_cases h0:hi-lo=0
 .have vr:hi=lo:=by omega
  have e1:xs.take lo++Xo (hi-lo) e.dflt++xs.drop hi=xs:=by
   simp_all
  refine gk w ?_ ?_
  .rw[hv];unfold Nu.vhdr;rw[h0];cases(ν id).blk<;>simp[Builtin.clear_,Wk hu]
  .rw[e1];exact⟨_,hφ.put (m:=[]) (ν':=ν) (λ_ _=>rfl) (Xn _) (hφ.lt id aW) (WLe.refl _ w) (λb o hh=>.inl ⟨id,.inl rfl,aW,hh⟩) (λ_=>hown)⟩
 .cases bt:(ν id).blk with
  |none=>simp_all
  |some b=>
   obtain⟨jZ,h4,h5,⟨row,TT,gy,hrow⟩,cs,h7,h8,h9⟩:=WdO bo hown bt;obtain⟨z,hz,eh⟩:=Wfm (w:=w) (hT _ _ hle);rw[WbP hp,he]at eh;have hZ:z.cells.size=e.size:=by rw[←Xas,eh,WbC]
   have cx:=hown.2.1;have hcl:cs.length=xs.length*e.size:=EncL_len (λx c hc=>Enc_len e x c hc) _ _ h7;have yy:(Builtin.zeroCells z.cells (hi-lo)).toList=rep (WbM e) (hi-lo):=by rw[←eh];exact Wg2 z.cells (hi-lo)
   have dN:(rep (WbM e) (hi-lo)).length=(hi-lo)*e.size:=by rw[Wlk,WbC]
   have qY:lo*e.size+(hi-lo)*e.size=hi*e.size:=by rw[←Xcz];congr 1;omega
   have qZ:hi*e.size<=xs.length*e.size:=Xbg _ (by omega);have yz:xs.length*e.size<=(ν id).cap*e.size:=Xbg _ h4;have eO:∀u∈rep (WbM e) (hi-lo),u.oneCell'=true:=Wpy (G:=G) _ _ (Wg6 bo (hi-lo));have bb:=run_storeCells_at P b ((ν id).off+lo*e.size) TT (rep (WbM e) (hi-lo)) 0 row w gy (by rw[dN];omega) eO;simp only[Xbb]at bb;obtain⟨hw,hm⟩:=Wdj (k:=(ν id).off+lo*e.size) (news:=rep (WbM e) (hi-lo)) gy (by rw[dN];omega);have hrun:(Builtin.clear_ #[t] o.type #[a.eval x]).run P w= .ok (.tuple #[]) (w.setRow b (row.toList.take ((ν id).off+lo*e.size)++rep (WbM e) (hi-lo)++row.toList.drop ((ν id).off+lo*e.size+(rep (WbM e) (hi-lo)).length)).toArray):=by
    rw[hv];unfold Nu.vhdr;simp only[bt,cx];rw[Wa (by omega)];obtain⟨n,hn⟩:∃n,hi-lo=n+1:=⟨hi-lo-1,by omega⟩;simp only[Builtin.clear_,Sem.run_bind,Wk hu,Result.andThen_ok,Xeu,List.getElem?_cons_zero];rw[hn]at bb yy⊢;simp only[Sem.run_bind,hz,Result.andThen_ok,yy,bb,Sem.run_pure]
   generalize w.setRow b (row.toList.take ((ν id).off+lo*e.size)++rep (WbM e) (hi-lo)++row.toList.drop ((ν id).off+lo*e.size+(rep (WbM e) (hi-lo)).length)).toArray=W at hrun hw hm;refine gk W hrun (hφ.turn (m:=[]) aK (by simp) hw (λb' o ⟨k0,k1,k2⟩=>h9 b' o ⟨k0,by omega,by omega⟩) ?_);have nw:(xs.take lo++Xo (hi-lo) e.dflt++xs.drop hi).length=xs.length:=by simp;omega
   have henc:EncL (Enc G e) (xs.take lo++Xo (hi-lo) e.dflt++xs.drop hi) (cs.take (lo*e.size)++rep (WbM e) (hi-lo)++cs.drop (hi*e.size)):=
    Wd6 _ _ _ _ (Wd6 _ _ _ _ (WeM (λx c hc=>Enc_len e x c hc) _ _ lo h7) (Wg6 bo _)) (WeS (λx c hc=>Enc_len e x c hc) _ _ hi h7)
   refine Wm5 bo bt (by rw[nw];exact jZ) cx (by rw[nw];exact h4) h5 (hw.rows.row _ _ ⟨row,TT,gy,hrow⟩) henc ?_ (λb o hh=>.inl (h9 b o hh));have:=Wfa h8 hw hm (by rw[dN];omega);rw[dN,qY]at this;exact this
end
end Go.Sx
namespace Go.Sx
set_option linter.unusedVariables false
set_option linter.unusedSimpArgs false
def WjS(G:GH)(w:World)(t:Ty)(agg:Bool)(d:t.den)(v:Value)(ns:List Pc):Prop:=
 if agg then∃us:List Value,v= .agg us.toArray/\TyRel G w t d us ns else TyRel G w t d [v] ns
def Wcl(b o:Nat):Nu:=⟨some b,o,0,0,0⟩
def WfK(G:GH)(w:World)(t:Ty)(d:t.den)(b o:Nat)(ns:List Pc):Prop:=∃us,Row w b (o+t.size)/\Mem w b o us/\TyRel G w t d us ns
def fps(ns:List Pc):List CS:=ns.map Pc.fp
def nus(ns:List Pc):List Nu:=ns.map Pc.nu
def Wbx(G:GH)(w:World):(ps:List PTy)->WfL ps->List Value->List Pc->List Nu->Prop
 | [],_,vs,ns,ks=>vs= []/\ns= []/\ks= []
 | .v t agg::ps,d,vs,ns,ks=>∃v vs' n1 n2,vs=v::vs'/\ns=n1++n2/\WjS G w t agg d.1 v n1/\Wbx G w ps d.2 vs' n2 ks
 | .box t::ps,d,vs,ns,ks=>∃b o vs' n1 n2 ks',vs= .pointer (some ⟨b,o,none⟩)::vs'/\ns=⟨Wcl b o,rng b o t.size⟩::(n1++n2)/\ks=Wcl b o::ks'/\WfK G w t d.1 b o n1/\Wbx G w ps d.2 vs' n2 ks'
 | .mut e::ps,d,vs,ns,ks=>∃pc vs' n2 ks',vs=pc.nu.hdr::vs'/\ns=pc::n2/\ks=pc.nu::ks'/\OwnL w (TyRel G w e) e.size pc.nu d.1 pc.fp/\Wbx G w ps d.2 vs' n2 ks'
 | .clos g n::ps,d,vs,ns,ks=>∃cvs vs':List Value,vs= .func (.func g) #[] cvs.toArray::vs'/\cvs.length=n/\(∀u∈cvs,u.oneCell'=true)/\Wbx G w ps d (cvs++vs') ns ks
 | .kv t agg::ps,d,vs,ns,ks=>∃v vs' n1 n2 ks',vs=v::vs'/\ns=n1++n2/\ks=nus n1++ks'/\WjS G w t agg d.1 v n1/\Wbx G w ps d.2 vs' n2 ks'
 | .rp t::ps,d,vs,ns,ks=>∃b o us vs',vs= .pointer (some ⟨b,o,none⟩)::vs'/\Enc G t d.1 us/\WfJ G b o us/\Wbx G w ps d.2 vs' ns ks
 | .vj _::_,_,_,_,_=>False
 | .boxal t lf::ps,d,vs,ns,ks=>∃b o b' pc vs' n1 n2 ks',vs= .pointer (some ⟨b,o,none⟩):: .pointer (some ⟨b',pc.nu.off+(d.2.1*pc.nu.esz+0),none⟩)::vs'/\ns=⟨Wcl b o,rng b o t.size⟩::(n1++n2)/\ks=Wcl b o::ks'/\
   WfK G w t d.1 b o n1/\n1[lf]?=some pc/\pc.nu.blk=some b'/\d.2.1<pc.nu.len/\Wbx G w ps d.2.2 vs' n2 ks'
def WbN(G:GH)(w:World):(ps:List PTy)->Wgh ps->List Nu->List CS->List Pc->Prop
 | [],_,ks,kf,ns=>ks= []/\kf= []/\ns= []
 | .v _ _::ps,o,ks,kf,ns=>WbN G w ps o ks kf ns
 | .box t::ps,o,ks,kf,ns=>∃b off ks' dv n1 n2,ks=Wcl b off::ks'/\kf=rng b off t.size::dv/\ns=n1++n2/\WfK G w t o.1 b off n1/\WbN G w ps o.2 ks' dv n2
 | .mut e::ps,o,ks,kf,ns=>∃pc:Pc,∃ks' dv,ks=pc.nu::ks'/\kf=pc.fp::dv/\OwnL w (TyRel G w e) e.size pc.nu o.1 pc.fp/\WbN G w ps o.2 ks' dv ns
 | .clos _ _::ps,o,ks,kf,ns=>WbN G w ps o ks kf ns
 | .kv t _::ps,o,ks,kf,ns=>∃n1 ks' dv us,ks=nus n1++ks'/\kf=fps n1++dv/\TyRel G w t o.1 us n1/\WbN G w ps o.2 ks' dv ns
 | .rp _::ps,o,ks,kf,ns=>WbN G w ps o ks kf ns
 | .vj _::_,_,_,_,_=>False
 | .boxal t _::ps,o,ks,kf,ns=>∃b off ks' dv n1 n2,ks=Wcl b off::ks'/\kf=rng b off t.size::dv/\ns=n1++n2/\WfK G w t o.1 b off n1/\WbN G w ps o.2 ks' dv n2
def WgC(G:GH)(w:World):(rs:List PTy)->Whg rs->List Value->List Pc->Prop
 | [],_,vs,ns=>vs= []/\ns= []
 | .v t agg::rs,d,vs,ns=>∃v vs' n1 n2,vs=v::vs'/\ns=n1++n2/\WjS G w t agg d.1 v n1/\WgC G w rs d.2 vs' n2
 | .box t::rs,d,vs,ns=>∃b o vs' n1 n2,vs= .pointer (some ⟨b,o,none⟩)::vs'/\ns=⟨Wcl b o,rng b o t.size⟩::(n1++n2)/\WfK G w t d.1 b o n1/\WgC G w rs d.2 vs' n2
 | .mut _::_,_,_,_=>False
 | .clos _ _::_,_,_,_=>False
 | .kv _ _::_,_,_,_=>False
 | .rp _::_,_,_,_=>False
 | .vj t::rs,d,vs,ns=>∃us u vs' n1 n2,vs= .agg (us++ [u]).toArray::vs'/\u.oneCell'=true/\ns=n1++n2/\TyRel G w t d.1 us n1/\WgC G w rs d.2 vs' n2
 | .boxal _ _::_,_,_,_=>False
def Wi1:List Value->Value
 | [v]=>v
 |vs=>.tuple vs.toArray
def Of(ns:List Pc):CS:=λb o=>∃q∈ns,q.fp b o
structure After(sg:Sig)(o:Wgh sg.ps×Whg sg.rs)(G:GH)(w:World)(ns:List Pc)(ks:List Nu)(rv:List Value)(kf:List CS)(ms db:List Pc)(G':GH)(w':World):Prop where
 res:WgC G' w' sg.rs o.2 rv db
 outs:WbN G' w' sg.ps o.1 ks kf ms
 sep:Sep (kf++fps (ms++db))
 own:∀S∈kf++fps (ms++db),∀b off,S b off->G' b off=none/\(Of ns b off\/w.heap.size<=b)/\b<w'.heap.size
 gx:GExt w.heap.size (Of ns) G G'
 g:∀b o v,G' b o=some v->w'.cell? ⟨b,o,none⟩=some v
 le:WLe (Of ns) w w'
def Good(P:Program)(k:FuncId)(sg:Sig):Prop:=
 ∀(d:WfL sg.ps) (o:Wgh sg.ps×Whg sg.rs),sg.run d=some o->∀(G:GH) (w:World) (vs:List Value) (ns:List Pc) (ks:List Nu),Wbx G w sg.ps d vs ns ks->Sep (fps ns)->
  (∀q∈ns,∀b off,q.fp b off->G b off=none/\b<w.heap.size)->(∀b o v,G b o=some v->w.cell? ⟨b,o,none⟩=some v)->
  Calls P k vs.toArray w λe w'=>∃rv kf ms db G',e= .returned (Wi1 rv)/\After sg o G w ns ks rv kf ms db G' w'
def Wg1(P:Program)(k:FuncId):Prop:=∃fn,P.funcs[k]?=some fn∧fn.body.isNone=false∧(fn.name== "runtime.NumGoroutine")=false
def Wfx(P:Program)(Γ:Ctx):Prop:=∀k sg,look Γ k=some sg->Good P k sg/\Wg1 P k
section
variable{w0:World}{F:CS}{nt:Slots}{G0 G G':GH}{ν:Nat->Nu}{φ:Nat->CS}{objs:Wal}{nx:Nat}{st am:St}{a:Act}{w w':World}{P:Program}{T:Tab}
theorem WaS:∀(t:Ty) (d:t.den) (nx:Nat),(unfold t d nx).2.2=nx+t.owns
 | .prod a b,d,nx=>by simp only[unfold,WaS a,WaS b,Ty.owns,Xba]
 | .own _,_,_=>rfl
 | .int _,_,_| .bool,_,_| .str,_,_| .slice _,_,_=>rfl
theorem WS{α:Type}{l m:List (Nat×α)}{i:Nat}{x:α}(h:look (l++m) i=some x):look l i=some x\/look m i=some x:=by
 rw[WbQ]at h
 grind
def At(ν:Nat->Nu)(φ:Nat->CS)(nx:Nat)(ns:List Pc):Prop:=∀(j:Nat) (pc:Pc),ns[j]?=some pc->ν (nx+j)=pc.nu/\φ (nx+j)=pc.fp
theorem At.left{n1 n2:List Pc}(h:At ν φ nx (n1++n2)):At ν φ nx n1:=λj pc hj=>h j pc (by grind)
theorem At.right{n1 n2:List Pc}{k:Nat}(h:At ν φ nx (n1++n2))(hk:n1.length=k):At ν φ (nx+k) n2:=λj pc hj=>by
 have:=h (k+j) pc (by grind)
 grind
def WqQ(G:GH)(ν:Nat->Nu)(φ:Nat->CS)(w:World)(id:Nat)(ob:Ob):Prop:=∃(e:Ty) (xs:List e.den),ob= .arr e xs/\OwnL w (TyRel G w e) e.size (ν id) xs (φ id)
theorem Way:∀(t:Ty) (d:t.den) (nx:Nat) (vs:List Value) (ns:List Pc),TyRel G w t d vs ns->At ν φ nx ns->
  (∀(aq:Nat),nx+t.owns<=aq->CellsRel G ν aq (unfold t d nx).1 vs)/\
  (∀id ob,look (unfold t d nx).2.1 id=some ob->nx<=id/\id<nx+t.owns/\WqQ G ν φ w id ob)
 | .own e,d,nx,vs,ns,⟨pc,h1,h2,h3⟩,hν=>by
  obtain⟨hn,hp⟩:ν nx=pc.nu/\φ nx=pc.fp:=by have:=hν 0 pc (by grind);omega
  refine⟨λaq hx=>?_,λid ob hl=>?_⟩
  .rw[h2];refine CellsRel.one ⟨by grind [Ty.owns],by rw[hn]⟩ (Wjd _)
  .simp only[unfold]at hl;rw[WK]at hl;split at hl
   .rename_i e1;subst e1;injection hl with hl;subst hl;exact⟨Xn _,by simp[Ty.owns],e,d,rfl,by simp_all⟩
   .simp[look]at hl
 | .prod p q,d,nx,vs,ns,⟨v1,v2,n1,n2,h1,h2,h3,h4⟩,hν=>by
  subst h2;have bs:=Wac p _ _ _ h3;obtain⟨c1,o1⟩:=Way p d.1 nx v1 n1 h3 hν.left;obtain⟨c2,o2⟩:=Way q d.2 (nx+p.owns) v2 n2 h4 (hν.right bs);refine⟨λaq hx=>?_,λid ob hl=>?_⟩
  .simp only[Ty.owns]at hx;simp only[unfold,WaS];rw[h1];exact(c1 aq (by omega)).append (c2 aq (by omega))
  .simp only[unfold,WaS]at hl
   grind [Ty.owns,WS]
 | .int k,d,nx,vs,ns,h,_=>⟨λaq _=>WaL (.int k) d vs h.2,λid ob hl=>by simp[unfold,look]at hl⟩
 | .bool,d,nx,vs,ns,h,_=>⟨λaq _=>WaL .bool d vs h.2,λid ob hl=>by simp[unfold,look]at hl⟩
 | .str,d,nx,vs,ns,h,_=>⟨λaq _=>WaL .str d vs h.2,λid ob hl=>by simp[unfold,look]at hl⟩
 | .slice e,d,nx,vs,ns,h,_=>⟨λaq _=>WaL (.slice e) d vs h.2,λid ob hl=>by simp[unfold,look]at hl⟩
theorem Wck:∀(t:Ty) (d:t.den) (nx:Nat),(unfold t d nx).1.length=t.size
 | .prod a b,d,nx=>by simp only[unfold,Xs,Wck a,Wck b,Ty.size]
 | .own _,_,_| .int _,_,_| .bool,_,_| .str,_,_| .slice _,_,_=>rfl
theorem WkT{t:Ty}{agg:Bool}{d:t.den}{v:Value}{ns:List Pc}{nx aq:Nat}(h:WjS G w t agg d v ns)(hν:At ν φ nx ns)(hx:nx+t.owns<=aq):
  AvRel G ν aq (Wxd agg (unfold t d nx).1) v:=by
 unfold WjS at h;unfold Wxd;cases agg with
 |true=>
  simp only[WaD]at h⊢;obtain⟨us,rfl,h⟩:=h;exact⟨us,rfl,(Way t d nx us ns h hν).1 aq hx⟩
 |false=>
  simp only[Xbk,WaE]at h⊢;have hc:=(Way t d nx [v] ns h hν).1 aq hx;have hl:=hc.1;generalize (unfold t d nx).1=cs at*
  match cs,hl with
  | [c],_=>exact hc.2 0 c v rfl rfl
theorem Woc{t:Ty}{agg:Bool}{d:t.den}{v:Value}{ns:List Pc}(h:WjS G w t agg d v ns):∃us,TyRel G w t d us ns:=by
 grind [WjS]
def Wjw(objs:Wal):Ty->List Nat->Prop
 | .own e,ids=>∃(id:Nat) (ys:List e.den),ids= [id]/\look objs id=some (.arr e ys)
 | .prod a b,ids=>∃i1 i2,ids=i1++i2/\Wjw objs a i1/\Wjw objs b i2
 | .int _,ids=>ids= []
 | .bool,ids=>ids= []
 | .str,ids=>ids= []
 | .slice _,ids=>ids= []
theorem Wfb{objs:Wal}:∀(t:Ty) (ids:List Nat),Wjw objs t ids->ids.length=t.owns
 | .own e,ids,⟨id,ys,h,_⟩=>by rw[h];rfl
 | .prod a b,ids,⟨i1,i2,h,h1,h2⟩=>by rw[h,Xs,Wfb a _ h1,Wfb b _ h2];rfl
 | .int _,ids,h=>by have:ids= []:=h;rw[this];rfl
 | .bool,ids,h=>by have:ids= []:=h;rw[this];rfl
 | .str,ids,h=>by have:ids= []:=h;rw[this];rfl
 | .slice _,ids,h=>by have:ids= []:=h;rw[this];rfl
def KeptBox(objs:Wal)(ν:Nat->Nu)(bx:List (Nat×CS))(t:Ty)(k:Kp)(nu:Nu):Prop:=
 ∃cs b,look objs k.id=some (.box cs)/\k.off+t.size<=cs.length/\(ν k.id).blk=some b/\nu=Wcl b ((ν k.id).off+k.off)/\(k.id,rng b ((ν k.id).off+k.off) t.size)∈bx
def KeptOk(objs:Wal)(ν:Nat->Nu)(bx:List (Nat×CS)):List PTy->List Kp->List Nu->Prop
 | [],ids,ks=>ids= []/\ks= []
 | .v _ _::ps,ids,ks=>KeptOk objs ν bx ps ids ks
 | .box t::ps,ids,ks=>∃k bv nu ks',ids=k::bv/\ks=nu::ks'/\KeptBox objs ν bx t k nu/\KeptOk objs ν bx ps bv ks'
 | .mut e::ps,ids,ks=>∃(id:Nat) (bv:List Kp) (ks':List Nu) (ys:List e.den),ids=⟨id,0⟩::bv/\ks=ν id::ks'/\look objs id=some (.arr e ys)/\KeptOk objs ν bx ps bv ks'
 | .clos _ _::ps,ids,ks=>KeptOk objs ν bx ps ids ks
 | .kv t _::ps,ids,ks=>∃i1 i2 ks',ids=kp0 i1++i2/\ks=i1.map ν++ks'/\Wjw objs t i1/\KeptOk objs ν bx ps i2 ks'
 | .rp _::ps,ids,ks=>KeptOk objs ν bx ps ids ks
 | .vj _::_,_,_=>False
 | .boxal t _::ps,ids,ks=>∃k bv nu ks',ids=k::bv/\ks=nu::ks'/\KeptBox objs ν bx t k nu/\KeptOk objs ν bx ps bv ks'
theorem KeptBox.mono{bx ny:List (Nat×CS)}{t:Ty}{k:Kp}{nu:Nu}(hb:∀p∈bx,p∈ny)(h:KeptBox objs ν bx t k nu):KeptBox objs ν ny t k nu:=by
 obtain⟨cs,b,h1,h2,h3,h4,h5⟩:=h;exact⟨cs,b,h1,h2,h3,h4,hb _ h5⟩
theorem KeptOk.mono{bx ny:List (Nat×CS)}(hb:∀p∈bx,p∈ny):∀(ps:List PTy) (ids:List Kp) (ks:List Nu),KeptOk objs ν bx ps ids ks->KeptOk objs ν ny ps ids ks
 | [],_,_,h=>h
 | .v _ _::ps,ids,ks,h=>KeptOk.mono hb ps ids ks h
 | .box t::ps,ids,ks,⟨k,bv,nu,ks',h1,h2,h3,h4⟩=>⟨k,bv,nu,ks',h1,h2,h3.mono hb,KeptOk.mono hb ps bv ks' h4⟩
 | .mut e::ps,ids,ks,⟨id,bv,ks',ys,h1,h2,h3,h4⟩=>⟨id,bv,ks',ys,h1,h2,h3,KeptOk.mono hb ps bv ks' h4⟩
 | .clos _ _::ps,ids,ks,h=>KeptOk.mono hb ps ids ks h
 | .kv t _::ps,ids,ks,⟨i1,i2,ks',h1,h2,h3,h4⟩=>⟨i1,i2,ks',h1,h2,h3,KeptOk.mono hb ps i2 ks' h4⟩
 | .rp _::ps,ids,ks,h=>KeptOk.mono hb ps ids ks h
 | .vj _::_,_,_,h=>h.elim
 | .boxal t _::ps,ids,ks,⟨k,bv,nu,ks',h1,h2,h3,h4⟩=>⟨k,bv,nu,ks',h1,h2,h3.mono hb,KeptOk.mono hb ps bv ks' h4⟩
def Wmw(G:GH)(ν:Nat->Nu)(w:World)(aY:Wal)(bx:List (Nat×CS))(aq:Nat)(id:Nat)(S:CS)(ob:Ob):Prop:=
 (∃lZ off ds b us,look aY id=some (.box lZ)/\ob= .box (Wen lZ off ds)/\off+ds.length<=lZ.length/\(ν id).blk=some b/\Mem w b ((ν id).off+off) us/\CellsRel G ν aq ds us/\
  S=rng b ((ν id).off+off) ds.length/\(id,rng b ((ν id).off+off) ds.length)∈bx)\/
 (∃(e:Ty) (ys xs:List e.den),look aY id=some (.arr e ys)/\ob= .arr e xs/\OwnL w (TyRel G w e) e.size (ν id) xs S)
theorem Whc(aY:Wal){bx:List (Nat×CS)}{aq:Nat}:∀(t:Ty) (d:t.den) (us:List Value) (ns:List Pc) (ids:List Nat),TyRel G w t d us ns->nus ns=ids.map ν->Wjw aY t ids->
  (∀id ob,look (WcW t d ids) id=some ob->∃(j:Nat) (S:CS),ids[j]?=some id/\(fps ns)[j]?=some S/\Wmw G ν w aY bx aq id S ob)/\∀id∈ids,∃ob,look (WcW t d ids) id=some ob
 | .own e,d,us,ns,ids,⟨pc,h1,h2,h3⟩,hn,⟨id,ys,h,bm⟩=>by
  subst h h1;simp only[nus,Xag,Xbd,List.cons.injEq,and_true]at hn;refine⟨λi ob hl=>?_,λi hi=>?_⟩
  .simp only[WcW,WK]at hl;split at hl
   .rename_i e3;subst e3;injection hl with hl;subst hl;exact⟨0,pc.fp,rfl,rfl,.inr ⟨e,ys,d,bm,rfl,by simp_all⟩⟩
   .simp[look]at hl
  simp_all [Xaf,WcW,look]
 | .prod a b,d,us,ns,ids,⟨u1,u2,n1,n2,h1,h2,h3,h4⟩,hn,⟨i1,i2,h,uE,mz⟩=>by
  subst h h2;have bs:=Wac a _ _ _ h3;have ky:=Wfb a _ uE;simp only[nus,Xu]at hn;obtain⟨e1,e2⟩:=Xgc hn (by rw[Xad,Xad,bs,ky]);have t1:(i1++i2).take a.owns=i1:=by simp_all
  have t2:(i1++i2).drop a.owns=i2:=by simp_all
  obtain⟨a1,a2⟩:=Whc aY (bx:=bx) (aq:=aq) a d.1 _ n1 i1 h3 e1 uE;obtain⟨b1,b2⟩:=Whc aY (bx:=bx) (aq:=aq) b d.2 _ n2 i2 h4 e2 mz;simp only[WcW,t1,t2];refine⟨λi ob hl=>?_,λi hi=>?_⟩
  .rcases WS hl with hl|hl
   .grind [fps,Xcy,Xae]
   grind [fps,Xcg,Xce,Xad]
  .rcases Xm.1 hi with hi|hi
   .grind [WbQ]
   .obtain⟨ob,ho⟩:=b2 i hi;rw[WbQ]
    grind
 | .int _,d,us,ns,ids,hr,_,h=>by have:ids= []:=h;grind [WcW,look]
 | .bool,d,us,ns,ids,hr,_,h=>by have:ids= []:=h;grind [WcW,look]
 | .str,d,us,ns,ids,hr,_,h=>by have:ids= []:=h;grind [WcW,look]
 | .slice _,d,us,ns,ids,hr,_,h=>by have:ids= []:=h;grind [WcW,look]
theorem WiF:∀(t:Ty) (d:t.den) (ids:List Nat) (id:Nat) (ob:Ob),look (WcW t d ids) id=some ob->id∈ids
 | .own e,d,ids,id,ob,h=>by
  cases ids with
  |nil=>simp[WcW,look]at h
  |cons i l=>
   grind [WcW,WK,Xk,look]
 | .prod a b,d,ids,id,ob,h=>by
  simp only[WcW]at h;rcases WS h with h|h
  .exact Xbf (WiF a d.1 _ id ob h)
  .exact Xdo (WiF b d.2 _ id ob h)
 | .int _,_,_,_,_,h=>by simp[WcW,look]at h
 | .bool,_,_,_,_,h=>by simp[WcW,look]at h
 | .str,_,_,_,_,h=>by simp[WcW,look]at h
 | .slice _,_,_,_,_,h=>by simp[WcW,look]at h
def kids(l:List Kp):List Nat:=l.map Kp.id
theorem Wis(l:List Nat):kids (kp0 l)=l:=by simp[kids,kp0,Function.comp_def]
theorem Wa2(aY:Wal){bx:List (Nat×CS)}:∀(ps:List PTy) (o:Wgh ps) (ids:List Kp) (ks:List Nu) (kf:List CS) (ms:List Pc) (objs:Wal) (nx aq:Nat),WbN G w ps o ks kf ms->KeptOk aY ν bx ps ids ks->At ν φ nx ms->
  (kids ids).Nodup->(∀k∈ids,k.id<nx/\look objs k.id=look aY k.id)->nx+ms.length<=aq->
  (Wao ps o ids objs nx).2=nx+ms.length/\kf.length=ids.length/\
  ∀id ob,look (Wao ps o ids objs nx).1 id=some ob->(nx<=id/\id<nx+ms.length/\WqQ G ν φ w id ob)\/(∃(j:Nat) (S:CS),(kids ids)[j]?=some id/\kf[j]?=some S/\Wmw G ν w aY bx aq id S ob)\/(look objs id=some ob/\id∉kids ids)
 | [],o,ids,ks,kf,ms,objs,nx,aq,⟨_,h1,h2⟩,hk,_,_,_,_=>by subst h1 h2;obtain⟨hk,_⟩:=hk;subst hk;exact⟨rfl,rfl,λid ob hl=>.inr (.inr ⟨hl,by simp[kids]⟩)⟩
 | .v _ _::ps,o,ids,ks,kf,ms,objs,nx,aq,h,hk,hν,hn,hi,hx=>Wa2 aY ps o ids ks kf ms objs nx aq h hk hν hn hi hx
 | .box t::ps,o,ids,ks,kf,ms,objs,nx,aq,⟨b,off,ks',dv,n1,n2,h1,h2,h3,hb,h5⟩,hk,hν,hn,hi,hx=>putOuts_box aY t ps o.1 o.2 ids ks kf ms objs nx aq (λids ks kf ms objs nx aq=>Wa2 aY ps o.2 ids ks kf ms objs nx aq) ⟨b,off,ks',dv,n1,n2,h1,h2,h3,hb,h5⟩ hk hν hn hi hx
 | .vj _::_,_,_,_,_,_,_,_,_,h,_,_,_,_,_=>h.elim
 | .boxal t _::ps,o,ids,ks,kf,ms,objs,nx,aq,⟨b,off,ks',dv,n1,n2,h1,h2,h3,hb,h5⟩,hk,hν,hn,hi,hx=>putOuts_box aY t ps o.1 o.2 ids ks kf ms objs nx aq (λids ks kf ms objs nx aq=>Wa2 aY ps o.2 ids ks kf ms objs nx aq) ⟨b,off,ks',dv,n1,n2,h1,h2,h3,hb,h5⟩ hk hν hn hi hx
 | .mut e::ps,o,ids,ks,kf,ms,objs,nx,aq,⟨pc,ks',dv,h1,h2,h3,h4⟩,hk,hν,hn,hi,hx=>by
  obtain⟨id,bv,yA,ys,rfl,l0,bm,dL⟩:=hk;rw[h1]at l0;simp only[List.cons.injEq]at l0;obtain⟨hνid,rfl⟩:=l0;subst h2;have bf:=Xaj.1 hn;obtain⟨e1,el,e2⟩:=Wa2 aY ps o.2 bv ks' dv ms ((id,.arr e o.1)::objs) nx aq h4 dL hν bf.2 (λk ol=>by
   obtain⟨g1,g2⟩:=hi k (Xf _ ol);have hne:id≠k.id:=λe=>bf.1 (by grind);simp_all [WK,Wa]) hx
  simp only[Wao];refine⟨e1,by simp[el],λi ob hl=>?_⟩;rcases e2 i ob hl with g|⟨j,S,g1,g2,g3⟩|⟨g,gn⟩
  .grind
  .exact .inr (.inl ⟨j+1,S,g1,g2,g3⟩)
  .rw[WK]at g;split at g
   .rename_i e3;subst e3;injection g with g;subst g;exact .inr (.inl ⟨0,pc.fp,rfl,rfl,.inr ⟨e,ys,o.1,bm,rfl,by simp_all⟩⟩)
   .rename_i hne;exact .inr (.inr ⟨g,λhm=>by rcases Xq.1 hm with hm|hm;exact hne hm.symm;exact gn hm⟩)
 | .clos _ _::ps,o,ids,ks,kf,ms,objs,nx,aq,h,hk,hν,hn,hi,hx=>Wa2 aY ps o ids ks kf ms objs nx aq h hk hν hn hi hx
 | .rp _::ps,o,ids,ks,kf,ms,objs,nx,aq,h,hk,hν,hn,hi,hx=>Wa2 aY ps o ids ks kf ms objs nx aq h hk hν hn hi hx
 | .kv t agg::ps,o,ids,ks,kf,ms,objs,nx,aq,⟨n1,ks',dv,us,h1,h2,h3,h4⟩,⟨i1,i2,yA,bO,r9,ho,dL⟩,hν,hn,hi,hx=>by
  subst bO h2;have bs:=Wac t _ _ _ h3;have ky:=Wfb t _ ho;rw[h1]at r9;obtain⟨q1,q2⟩:=Xgc r9 (by simp[nus,bs,ky]);subst q2;have nz:(kp0 i1).length=t.owns:=by simp[kp0,ky]
  have t1:((kp0 i1++i2).take t.owns).map Kp.id=i1:=by rw[←nz];simp;exact Wis i1
  have t2:(kp0 i1++i2).drop t.owns=i2:=by simp_all
  obtain⟨r1,r2⟩:=Whc (bx:=bx) (aq:=aq) aY t o.1 us n1 i1 h3 q1 ho;have lq:kids (kp0 i1++i2)=i1++kids i2:=by grind [kids,Wis]
  rw[lq]at hn;obtain⟨m1,m2,m3⟩:=Xak.1 hn;obtain⟨e1,el,e2⟩:=Wa2 aY ps o.2 i2 ks' dv ms (WcW t o.1 i1++objs) nx aq h4 dL hν m2 (λk ol=>by
   obtain⟨g1,g2⟩:=hi k (Xh _ ol);refine⟨g1,?_⟩;rw[WbQ];cases hq:look (WcW t o.1 i1) k.id with
   |none=>exact g2
   |some ob=>exact Wj rfl (m3 _ (WiF t o.1 i1 _ ob hq) _ (Xao ol))) hx
  simp only[Wao,t1,t2];have iv:(fps n1).length=i1.length:=by simp[fps,bs,ky]
  refine⟨e1,by simp_all,λi ob hl=>?_⟩;rw[lq];rcases e2 i ob hl with g|⟨j,S,g1,g2,g3⟩|⟨g,gn⟩
  .grind
  .refine .inr (.inl ⟨i1.length+j,S,?_,?_,g3⟩)
   .grind
   grind
  .rw[WbQ]at g;cases hq:look (WcW t o.1 i1) i with
   |some c9=>
    rw[hq]at g;injection g with g;subst g;obtain⟨j,S,g1,g2,g3⟩:=r1 i _ hq;refine .inr (.inl ⟨j,S,?_,?_,g3⟩)
    .grind
    grind
   |none=>
    grind
where
 putOuts_box (aY:Wal) {bx:List (Nat×CS)} (t:Ty) (ps:List PTy) (o1:t.den) (o2:Wgh ps) (ids:List Kp) (ks:List Nu) (kf:List CS) (ms:List Pc) (objs:Wal) (nx aq:Nat)
   (ih:∀(ids:List Kp) (ks:List Nu) (kf:List CS) (ms:List Pc) (objs:Wal) (nx aq:Nat),WbN G w ps o2 ks kf ms->KeptOk aY ν bx ps ids ks->At ν φ nx ms->
    (kids ids).Nodup->(∀k∈ids,k.id<nx/\look objs k.id=look aY k.id)->nx+ms.length<=aq->
    (Wao ps o2 ids objs nx).2=nx+ms.length/\kf.length=ids.length/\
    ∀id ob,look (Wao ps o2 ids objs nx).1 id=some ob->(nx<=id/\id<nx+ms.length/\WqQ G ν φ w id ob)\/(∃(j:Nat) (S:CS),(kids ids)[j]?=some id/\kf[j]?=some S/\Wmw G ν w aY bx aq id S ob)\/(look objs id=some ob/\id∉kids ids))
   (h:∃b off ks' dv n1 n2,ks=Wcl b off::ks'/\kf=rng b off t.size::dv/\ms=n1++n2/\WfK G w t o1 b off n1/\WbN G w ps o2 ks' dv n2)
   (hk:∃k bv nu ks',ids=k::bv/\ks=nu::ks'/\KeptBox aY ν bx t k nu/\KeptOk aY ν bx ps bv ks') (hν:At ν φ nx ms)
   (hn:(kids ids).Nodup) (hi:∀k∈ids,k.id<nx/\look objs k.id=look aY k.id) (hx:nx+ms.length<=aq):
   (Wao (.box t::ps) (o1,o2) ids objs nx).2=nx+ms.length/\kf.length=ids.length/\
   ∀id ob,look (Wao (.box t::ps) (o1,o2) ids objs nx).1 id=some ob->(nx<=id/\id<nx+ms.length/\WqQ G ν φ w id ob)\/(∃(j:Nat) (S:CS),(kids ids)[j]?=some id/\kf[j]?=some S/\Wmw G ν w aY bx aq id S ob)\/(look objs id=some ob/\id∉kids ids):=by
  obtain⟨b,off,ks',dv,n1,n2,h1,h2,h3,⟨us,_,hmem,iw⟩,h5⟩:=h;obtain⟨k,bv,nu,yA,rfl,l0,⟨lZ,b0,bm,cy,bt,ma,vt⟩,dL⟩:=hk;rw[h1]at l0;simp only[List.cons.injEq]at l0;obtain⟨uC,rfl⟩:=l0;rw[ma]at uC;unfold Wcl at uC;injection uC with vu AS;injection vu with vu;subst vu AS h2 h3;have bs:=Wac t _ _ _ iw;have hlen:(n1++n2).length=t.owns+n2.length:=by rw[Xs,bs]
  obtain⟨c1,yB⟩:=Way t o1 nx us n1 iw hν.left;have bf:=Xaj.1 hn;obtain⟨uF,iO⟩:=hi k (Xk ..);have dg:=Wck t o1 nx;have fR:WhH (look objs k.id) k.off (unfold t o1 nx).1= .box (Wen lZ k.off (unfold t o1 nx).1):=by rw[iO,bm];rfl
  obtain⟨e1,el,e2⟩:=ih bv ks' dv n2 ((k.id,WhH (look objs k.id) k.off (unfold t o1 nx).1)::((unfold t o1 nx).2.1++objs)) (nx+t.owns) aq h5 dL (hν.right bs) bf.2 (λk' ol=>by
   obtain⟨g1,g2⟩:=hi k' (Xf _ ol);refine⟨by omega,?_⟩;rw[WK,Wa (λe=>bf.1 (by rw[e];exact Xao ol)),WbQ];cases hq:look (unfold t o1 nx).2.1 k'.id with
   |none=>exact g2
   |some ob=>have:=(yB _ ob hq).1;omega) (by omega)
  simp only[Wao,WaS];refine⟨by rw[e1,hlen];omega,by simp[el],λi ob hl=>?_⟩;rcases e2 i ob hl with⟨g1,g2,g3⟩|⟨j,S,g1,g2,g3⟩|⟨g,gn⟩
  .exact .inl ⟨by omega,by omega,g3⟩
  .exact .inr (.inl ⟨j+1,S,g1,g2,g3⟩)
  .rw[WK]at g;split at g
   .rename_i e3;subst e3;injection g with g;rw[fR]at g;subst g;refine .inr (.inl ⟨0,_,rfl,rfl,.inl ⟨lZ,k.off,_,_,us,bm,rfl,by rw[dg];exact cy,bt,hmem,c1 aq (by omega),by rw[dg],by rw[dg];exact vt⟩⟩)
   .rename_i hne;rcases WS g with g|g
    .obtain⟨g1,g2,g3⟩:=yB i ob g;exact .inl ⟨g1,by omega,g3⟩
    .exact .inr (.inr ⟨g,λhm=>by rcases Xq.1 hm with hm|hm;exact hne hm.symm;exact gn hm⟩)
def Ww8(G:GH)(ν:Nat->Nu)(φ:Nat->CS)(w:World)(aq:Nat)(id:Nat)(ob:Ob):Prop:=
 WqQ G ν φ w id ob\/∃cs b us,ob= .box cs/\(ν id).blk=some b/\Row w b ((ν id).off+cs.length)/\Mem w b (ν id).off us/\CellsRel G ν aq cs us/\CS.le (rng b (ν id).off cs.length) (φ id)
theorem Wd5:∀(rs:List PTy) (d:Whg rs) (vs:List Value) (ns:List Pc) (objs:Wal) (nx aq:Nat),WgC G w rs d vs ns->At ν φ nx ns->nx+ns.length<=aq->
  (WbH rs d objs nx).2.2=nx+ns.length/\
  (∀id ob,look (WbH rs d objs nx).2.1 id=some ob->(nx<=id/\id<nx+ns.length/\Ww8 G ν φ w aq id ob)\/look objs id=some ob)/\
  WtD G ν aq (WbH rs d objs nx).1 vs
 | [],d,vs,ns,objs,nx,aq,⟨h1,h2⟩,_,_=>by subst h1 h2;exact⟨rfl,λid ob hl=>.inr hl,rfl,λj x v hj=>by simp[WbH]at hj⟩
 | .v t agg::rs,d,vs,ns,objs,nx,aq,⟨v,vs',n1,n2,h1,h2,h3,h4⟩,hν,hx=>by
  subst h2;obtain⟨us,kw⟩:=Woc h3;have bs:=Wac _ _ _ _ kw;have hlen:(n1++n2).length=t.owns+n2.length:=by rw[Xs,bs]
  obtain⟨_,o1⟩:=Way t d.1 nx us n1 kw hν.left;obtain⟨e1,e2,e4,e5⟩:=Wd5 rs d.2 vs' n2 ((unfold t d.1 nx).2.1++objs) (nx+t.owns) aq h4 (hν.right bs) (by omega);simp only[WbH,WaS];refine⟨by rw[e1,hlen];omega,λi ob hl=>?_,?_⟩
  .rcases e2 i ob hl with⟨g1,g2,g3⟩|g
   .exact .inl ⟨by omega,by omega,g3⟩
   .rcases WS g with g|g
    .obtain⟨g1,g2,g3⟩:=o1 i ob g;exact .inl ⟨g1,by omega,.inl g3⟩
    .exact .inr g
  .rw[h1];refine⟨by simp[e4],λj x u hj hu=>?_⟩;cases j with
   |zero=>simp at hj hu;subst hj hu;exact WkT h3 hν.left (by omega)
   |succ j=>exact e5 j x u (by simpa using hj) (by simpa using hu)
 | .box t::rs,d,vs,ns,objs,nx,aq,⟨b,o,vs',n1,n2,h1,h2,⟨us,hrow,hmem,iw⟩,h5⟩,hν,hx=>by
  subst h2;have bs:=Wac _ _ _ _ iw;have hlen:((⟨Wcl b o,rng b o t.size⟩:Pc)::(n1++n2)).length=1+t.owns+n2.length:=by rw[List.length_cons,Xs,bs];omega
  obtain⟨hν0,hφ0⟩:ν nx=Wcl b o/\φ nx=rng b o t.size:=by have:=hν 0 _ rfl;simpa using this
  have hν1:At ν φ (nx+1) (n1++n2):=hν.right (n1:=[⟨Wcl b o,rng b o t.size⟩]) rfl;obtain⟨c1,o1⟩:=Way t d.1 (nx+1) us n1 iw hν1.left;obtain⟨e1,e2,e4,e5⟩:=Wd5 rs d.2 vs' n2 ((nx,.box (unfold t d.1 (nx+1)).1)::((unfold t d.1 (nx+1)).2.1++objs)) (nx+1+t.owns) aq h5 (hν1.right bs) (by omega);have dg:=Wck t d.1 (nx+1);simp only[WbH,WaS];refine⟨by rw[e1,hlen];omega,λid ob hl=>?_,?_⟩
  .rcases e2 id ob hl with⟨g1,g2,g3⟩|g
   .exact .inl ⟨by omega,by omega,g3⟩
   .rw[WK]at g;split at g
    .rename_i e;subst e;injection g with g;subst g;refine .inl ⟨Xn _,by omega,.inr ⟨_,b,us,rfl,by rw[hν0];rfl,?_,?_,c1 aq (by omega),?_⟩⟩
     .rw[hν0,dg];exact hrow
     .rw[hν0];exact hmem
     .rw[hν0,dg,hφ0];exactλ_ _ hh=>hh
    .rcases WS g with g|g
     .obtain⟨g1,g2,g3⟩:=o1 id ob g;exact .inl ⟨by omega,by omega,.inl g3⟩
     .exact .inr g
  .rw[h1];refine⟨by simp[e4],λj x u hj hu=>?_⟩;cases j with
   |zero=>
    simp at hj hu;subst hj hu;exact⟨⟨by omega,b,by rw[hν0];rfl,by rw[hν0];rfl⟩,rfl⟩
   |succ j=>exact e5 j x u (by simpa using hj) (by simpa using hu)
 | .mut _::_,_,_,_,_,_,_,h,_,_=>h.elim
 | .clos _ _::_,_,_,_,_,_,_,h,_,_=>h.elim
 | .kv _ _::_,_,_,_,_,_,_,h,_,_=>h.elim
 | .rp _::_,_,_,_,_,_,_,h,_,_=>h.elim
 | .vj t::rs,d,vs,ns,objs,nx,aq,⟨us,u,vs',n1,n2,h1,h0,h2,h3,h4⟩,hν,hx=>by
  subst h2;have bs:=Wac _ _ _ _ h3;have hlen:(n1++n2).length=t.owns+n2.length:=by rw[Xs,bs]
  obtain⟨c1,o1⟩:=Way t d.1 nx us n1 h3 hν.left;obtain⟨e1,e2,e4,e5⟩:=Wd5 rs d.2 vs' n2 ((unfold t d.1 nx).2.1++objs) (nx+t.owns) aq h4 (hν.right bs) (by omega);simp only[WbH,WaS];refine⟨by rw[e1,hlen];omega,λi ob hl=>?_,?_⟩
  .rcases e2 i ob hl with⟨g1,g2,g3⟩|g
   .exact .inl ⟨by omega,by omega,g3⟩
   .rcases WS g with g|g
    .obtain⟨g1,g2,g3⟩:=o1 i ob g;exact .inl ⟨g1,by omega,.inl g3⟩
    .exact .inr g
  .rw[h1];refine⟨by simp[e4],λj x v hj hv=>?_⟩;cases j with
   |zero=>simp at hj hv;subst hj hv;exact⟨us++ [u],rfl,(c1 aq (by omega)).append (CellsRel.one trivial h0)⟩
   |succ j=>exact e5 j x v (by simpa using hj) (by simpa using hv)
 | .boxal _ _::_,_,_,_,_,_,_,h,_,_=>h.elim
theorem Wtv{xs:List AV}{vs:List Value}(h:WtD G ν nx xs vs):AValRel G ν nx (WwN xs) (Wi1 vs):=by
 obtain⟨h1,h2⟩:=h
 match xs,vs,h1 with
 | [],[],_=>exact⟨[],rfl,rfl,λj x v hj=>by simp at hj⟩
 | [x],[v],_=>exact h2 0 x v rfl rfl
 |x::y::xs,v::u::vs,h1=>exact⟨v::u::vs,rfl,h1,h2⟩
end
end Go.Sx
namespace Go.Sx
set_option linter.unusedVariables false
set_option linter.unusedSimpArgs false
theorem WaZ(i:Nat):∀l:List Nat,Wcz i l=true↔i∈l
 | []=>by simp[Wcz]
 |j::l=>by
  simp only[Wcz,Bool.or_eq_true,WaZ i l,Xq];rw[show(Nat.beq i j=true)=(i=j)from by simp]
theorem We7:∀l:List Nat,WbJ l=true↔l.Nodup
 | []=>by simp[WbJ]
 |i::l=>by
  have h:=WaZ i l;simp only[WbJ,Xj,Xan,Xaj,We7 l]
  grind
theorem Wni{l m:List Nat}(h:Whx l m=true):∀i∈l,i∉m:=λi hi hm=>by
 grind [Whx,Xah,WaZ]
section
variable{w0:World}{F:CS}{nt:Slots}{G0 G G':GH}{ν:Nat->Nu}{φ:Nat->CS}{objs:Wal}{nx:Nat}{st am:St}{a:Act}{w w':World}{P:Program}{T:Tab}
theorem WlR(h:HR w0 F G ν φ objs nx w){t:Ty}{agg:Bool}{x:AVal}{v:Value}{cs:List Cell}{d:t.den}{m l:List Nat}(hg:GLe G G')(hx:AValRel G ν nx x v)(hl:Lent G' w φ objs l)(hm:m.Nodup)
  (hc:cellsOf agg x=some cs) (hf:WaA t cs objs=some (d,m,l)):∃ns,WjS G' w t agg d v ns/\Sep (fps ns)/\(∀p∈ns,CS.le p.fp (FromL φ objs m))/\(∀i∈m,Live objs i)/\(∀i∈l,Live objs i):=by
 unfold cellsOf at hc;split at hc
 .split at hc
  .cases hc
  .rename_i c ha;injection hc with hc;subst hc;obtain⟨ns,h1,h2,h3,h4,h5,_⟩:=Wam h hg t [c] [v] d m l (CellsRel.one hx.1 hx.2) hl hm hf;refine⟨ns,?_,h2,h3,h4,h5⟩;simp_all [WjS,Wa]
 .split at hc
  .rename_i ds ha;injection hc with hc;subst hc;obtain⟨us,rfl,bP⟩:=hx;obtain⟨ns,h1,h2,h3,h4,h5,_⟩:=Wam h hg t ds us d m l bP hl hm hf;refine⟨ns,?_,h2,h3,h4,h5⟩;unfold WjS;simp_all
  .cases hc
 .cases hc
def Ww5(objs:Wal)(m:List Nat):Prop:=∀i∈m,∃(e:Ty) (xs:List e.den),look objs i=some (.arr e xs)
theorem Wik:∀(t:Ty) (cs:List Cell) (d:t.den) (m l:List Nat),Ww5 objs m->WaA t cs objs=some (d,m,l)->m.length<=t.owns
 | .prod a b,cs,d,m,l,ha,h=>by
  simp only[WaA]at h;split at h
  .rename_i x m1 l1 y m2 l2 h1 h2;simp only[Option.some.injEq,Prod.mk.injEq]at h;obtain⟨rfl,rfl,rfl⟩:=h;have:=Wik a _ _ _ _ (λi hi=>ha i (Xl _ hi)) h1;have:=Wik b _ _ _ _ (λi hi=>ha i (Xh _ hi)) h2;rw[Xs];show _<=a.owns+b.owns;omega
  grind
 | .own e,cs,d,m,l,ha,h=>by
  simp only[WaA]at h;split at h
  .rename_i id;obtain⟨⟨ys,m'⟩,ho,hf⟩:=Xz.1 h;simp only[Prod.mk.injEq]at hf;obtain⟨rfl,rfl,rfl⟩:=hf;unfold Wul at ho;split at ho
   .obtain⟨zs,_,ho⟩:=Xz.1 ho;obtain⟨_,rfl⟩:=Prod.mk.inj ho;exact Xn 1
   .rename_i e' xs i p bm;split at ho
    .split at ho
     .simp only[Option.some.injEq,Prod.mk.injEq]at ho;obtain⟨_,rfl⟩:=ho;obtain⟨e2,AT,h2⟩:=ha id (Xk ..);simp_all
     grind
    grind
   grind
  .split at h
   .obtain⟨zs,_,h⟩:=Xz.1 h;have h2:=(Prod.mk.inj (Prod.mk.inj h).2).1;subst h2;exact Xn 1
   grind
  .grind
  grind
 | .slice e,cs,d,m,l,_,h=>by
  have hm:m= []:=by
   simp only[WaA]at h
   grind [Xz,Prod.mk.inj]
  simp_all
 | .int k,cs,d,m,l,_,h=>by
  simp only[WaA]at h;split at h
  .obtain⟨q,hq,h⟩:=Xz.1 h;simp_all
  grind
 | .bool,cs,d,m,l,_,h=>by
  simp only[WaA]at h;split at h
  .obtain⟨q,hq,h⟩:=Xz.1 h;simp_all
  grind
 | .str,cs,d,m,l,_,h=>by
  simp only[WaA]at h;split at h
  .obtain⟨q,hq,h⟩:=Xz.1 h;simp_all
  grind
theorem Wfh(h:HR w0 F G ν φ objs nx w)(hg:GLe G G'){t:Ty}(ht:t.owns=0){cs:List Cell}{vs:List Value}{d:t.den}{m l:List Nat}(hc:CellsRel G ν nx cs vs)(hl:Lent G' w φ objs l)(hf:WaA t cs objs=some (d,m,l))(hm:m= []):TyRel G' w t d vs []:=by
 subst hm;obtain⟨ns,h1,_⟩:=Wam h hg t cs vs d [] l hc hl Xde hf;have:=Wac _ _ _ _ h1;simp_all
def pcs(ν:Nat->Nu)(φ:Nat->CS)(m:List Nat):List Pc:=m.map λi=>⟨ν i,φ i⟩
theorem Wv4(m:List Nat):nus (pcs ν φ m)=m.map ν:=by simp[nus,pcs,Function.comp_def]
theorem Wo5(m:List Nat):fps (pcs ν φ m)=m.map φ:=by simp[fps,pcs,Function.comp_def]
theorem We8(h:HR w0 F G ν φ objs nx w)(hg:GLe G G'):∀(t:Ty) (cs:List Cell) (vs:List Value) (d:t.den) (m l:List Nat),CellsRel G ν nx cs vs->Lent G' w φ objs l->(∀c∈cs,Wsp c=true)->Ww5 objs m->
  WaA t cs objs=some (d,m,l)->m.length=t.owns->TyRel G' w t d vs (pcs ν φ m)/\Wjw objs t m
 | .prod a b,cs,vs,d,m,l,hc,hl,hw,ha,hf,hm=>by
  have yC:=hf;simp only[WaA]at hf;split at hf
  .rename_i x m1 l1 y m2 l2 h1 h2;simp only[Option.some.injEq,Prod.mk.injEq]at hf;obtain⟨rfl,rfl,rfl⟩:=hf;have yD:Ww5 objs m1:=λi hi=>ha i (Xl _ hi);have yE:Ww5 objs m2:=λi hi=>ha i (Xh _ hi);have q1:=Wik a _ _ _ _ yD h1;have q2:=Wik b _ _ _ _ yE h2;rw[Xs]at hm;have iP:m1.length+m2.length=a.owns+b.owns:=hm;obtain⟨g1,g2⟩:=We8 h hg a _ (vs.take a.size) x m1 l1 (hc.take _) (hl.mono (by simp_all)) (λc hc=>hw c (Xbf hc)) yD h1 (by omega);obtain⟨g3,g4⟩:=We8 h hg b _ (vs.drop a.size) y m2 l2 (hc.drop _) (hl.mono (by simp_all)) (λc hc=>hw c (Xdo hc)) yE h2 (by omega);exact⟨⟨_,_,pcs ν φ m1,pcs ν φ m2,(Xdj a.size vs).symm,by simp[pcs],g1,g3⟩,m1,m2,rfl,g2,g4⟩
  grind
 | .own e,cs,vs,d,m,l,hc,hl,hw,ha,hf,hm=>by
  simp only[WaA]at hf;split at hf
  .rename_i id;obtain⟨v,rfl,⟨_,hv⟩,_⟩:=hc.single;subst hv;obtain⟨⟨ys,m'⟩,ho,hf⟩:=Xz.1 hf;simp only[Prod.mk.injEq]at hf;obtain⟨rfl,rfl,rfl⟩:=hf;unfold Wul at ho;split at ho
   .rename_i e' xs bm;obtain⟨zs,bJ,ho⟩:=Xz.1 ho;obtain⟨rfl,rfl⟩:=Prod.mk.inj ho;obtain⟨he,hy⟩:=Waz bJ;subst he;simp only at hy;subst hy;have aK:OwnL w (TyRel G w e') e'.size (ν id) xs (φ id):=h.ob _ _ bm;exact⟨⟨⟨ν id,φ id⟩,rfl,rfl,Wdl hg (Same.refl _ w) (λ_ _ hh=>hh) aK⟩,id,xs,rfl,bm⟩
   .rename_i e' xs i p bm;split at ho
    .split at ho
     .simp only[Option.some.injEq,Prod.mk.injEq]at ho;obtain⟨_,rfl⟩:=ho;obtain⟨e2,AT,h2⟩:=ha id (Xk ..);simp_all
     grind
    grind
   grind
  .have:=hw _ (Xaf.2 rfl);cases this
  .simp only[Option.some.injEq,Prod.mk.injEq]at hf;obtain⟨rfl,rfl,rfl⟩:=hf;exact Wj hm (by show¬(0=1);omega)
  grind
 | .slice e,cs,vs,d,m,l,hc,hl,hw,ha,hf,hm=>by
  have lr:m= []:=Xt hm;have:=Wfh h hg (t:=.slice e) rfl hc hl hf lr;subst lr;exact⟨this,rfl⟩
 | .int k,cs,vs,d,m,l,hc,hl,hw,ha,hf,hm=>by
  have lr:m= []:=Xt hm;have:=Wfh h hg (t:=.int k) rfl hc hl hf lr;subst lr;exact⟨this,rfl⟩
 | .bool,cs,vs,d,m,l,hc,hl,hw,ha,hf,hm=>by
  have lr:m= []:=Xt hm;have:=Wfh h hg (t:=.bool) rfl hc hl hf lr;subst lr;exact⟨this,rfl⟩
 | .str,cs,vs,d,m,l,hc,hl,hw,ha,hf,hm=>by
  have lr:m= []:=Xt hm;have:=Wfh h hg (t:=.str) rfl hc hl hf lr;subst lr;exact⟨this,rfl⟩
theorem Wrc{t:Ty}{m:List Nat}{x:AVal}(h:WmU objs t m x=true):m.length=t.owns/\Wvc x=true/\Ww5 objs m:=by
 unfold WmU at h;simp only[Xj,Wh,Xah]at h;obtain⟨⟨h1,h2⟩,h3⟩:=h;refine⟨h1,h2,λi hi=>?_⟩
 grind
theorem Wmd(h:HR w0 F G ν φ objs nx w){t:Ty}{agg:Bool}{x:AVal}{v:Value}{cs:List Cell}{d:t.den}{m l:List Nat}(hg:GLe G G')(hx:AValRel G ν nx x v)(hl:Lent G' w φ objs l)
  (hc:cellsOf agg x=some cs) (hf:WaA t cs objs=some (d,m,l)) (ha:WmU objs t m x=true):WjS G' w t agg d v (pcs ν φ m)/\Wjw objs t m:=by
 obtain⟨hm,hw,ic⟩:=Wrc ha;unfold cellsOf at hc;split at hc
 .split at hc
  .cases hc
  .rename_i c eK;injection hc with hc;subst hc;obtain⟨h1,h2⟩:=We8 h hg t [c] [v] d m l (CellsRel.one hx.1 hx.2) hl (λc' gS=>by rw[Xaf.1 gS];exact hw) ic hf hm;simp_all [WjS,Wa]
 .split at hc
  .rename_i ds eK;injection hc with hc;subst hc;obtain⟨us,rfl,bP⟩:=hx;obtain⟨h1,h2⟩:=We8 h hg t ds us d m l bP hl (λc' gS=>Xah.1 hw c' gS) ic hf hm;refine⟨?_,h2⟩;unfold WjS;simp_all
  .cases hc
 .cases hc
def Tk(φ:Nat->CS)(objs:Wal)(bx:List (Nat×CS))(l:List Nat):CS:=λb o=>∃i∈l,Live objs i/\φ i b o/\∀p∈bx,p.1=i->p.2 b o
structure AOk(G':GH)(ν:Nat->Nu)(φ:Nat->CS)(objs:Wal)(w:World)(ps:List PTy)(A:Args ps)(vs:List Value)(ns:List Pc)(ks:List Nu)(bx:List (Nat×CS)):Prop where
 args:Wbx G' w ps A.d vs ns ks
 kept:KeptOk objs ν bx ps A.kept ks
 sep:Sep (fps ns)
 tk:∀q∈ns,CS.le q.fp (Tk φ objs bx A.all)
 bx:∀p∈bx,p.1∈A.all
 live:∀i∈A.all,Live objs i
 lent:∀i∈A.lent,Live objs i
 mv:∀i∈A.moved,i∈A.all
 mvk:∀i∈A.all,i∈A.moved\/i∈kids A.kept
 sub:(kids A.kept).Sublist A.all
 dis:∀i∈kids A.kept,i∉A.moved
theorem Wjg{bx:List (Nat×CS)}{l:List Nat}:CS.le (Tk φ objs bx l) (FromL φ objs l):=λb o ⟨i,hi,h1,h2,_⟩=>⟨i,hi,h1,h2⟩
theorem WkL{bx ny:List (Nat×CS)}{l l':List Nat}(hl:∀i∈l,i∈l')(hb:∀p∈ny,p∈bx\/p.1∉l):CS.le (Tk φ objs bx l) (Tk φ objs ny l'):=λb o ⟨i,hi,h1,h2,h3⟩=>
 ⟨i,hl i hi,h1,h2,λp hp e=>by
  grind⟩
theorem Wo0{bx:List (Nat×CS)}{m l:List Nat}(hm:∀i∈m,i∈l)(hb:∀p∈bx,p.1∉m):CS.le (FromL φ objs m) (Tk φ objs bx l):=λb o ⟨i,hi,h1,h2⟩=>
 ⟨i,hm i hi,h1,h2,λp hp e=>Wj (by simp_all) (hb p hp)⟩
theorem Wcx(h:HR w0 F G ν φ objs nx w){n1 n2:List Pc}{m l:List Nat}(h1:Sep (fps n1))(h2:Sep (fps n2))(g1:∀q∈n1,CS.le q.fp (FromL φ objs m))(g2:∀q∈n2,CS.le q.fp (FromL φ objs l))(hd:∀i∈m,i∉l):Sep (fps (n1++n2)):=by
 unfold fps;rw[Xu];refine Wog h1 h2 (A:=FromL φ objs m) (B:=FromL φ objs l) (λs hs=>?_) (λs hs=>?_) (FromL.disj h hd)
 .grind
 grind
theorem Wp1(h:HR w0 F G ν φ objs nx w)(hg:GLe G G'){t:Ty}{ps:List PTy}{id off:Nat}{cs:List Cell}{d:t.den}{m:List Nat}{A:Args ps}{vs:List Value}{ns:List Pc}{ks:List Nu}{bx:List (Nat×CS)}{v:Value}
  (hv:CellRel G ν nx (.ptr id off) v) (bm:look objs id=some (.box cs)) (hf:WaA t ((cs.drop off).take t.size) objs=some (d,m,[])) (bf:(id::(m++A.all)).Nodup) (hA:AOk G' ν φ objs w ps A vs ns ks bx):
  ∃b n1,v= .pointer (some ⟨b,(ν id).off+off,none⟩)/\(ν id).blk=some b/\WfK G' w t d b ((ν id).off+off) n1/\Leaf ν t ((cs.drop off).take t.size) n1/\
   KeptBox objs ν ((id,rng b ((ν id).off+off) t.size)::bx) t ⟨id,off⟩ (Wcl b ((ν id).off+off))/\KeptOk objs ν ((id,rng b ((ν id).off+off) t.size)::bx) ps A.kept ks/\
   Sep (fps (⟨Wcl b ((ν id).off+off),rng b ((ν id).off+off) t.size⟩::(n1++ns)))/\
   (∀q∈(⟨Wcl b ((ν id).off+off),rng b ((ν id).off+off) t.size⟩:Pc)::(n1++ns),CS.le q.fp (Tk φ objs ((id,rng b ((ν id).off+off) t.size)::bx) (id::(m++A.all))))/\
   (∀p∈(id,rng b ((ν id).off+off) t.size)::bx,p.1∈id::(m++A.all))/\(∀i∈id::(m++A.all),Live objs i)/\
   (∀i∈m++A.moved,i∈id::(m++A.all))/\(∀i∈id::(m++A.all),i∈m++A.moved\/i∈id::kids A.kept)/\(id::kids A.kept).Sublist (id::(m++A.all))/\(∀i∈id::kids A.kept,i∉m++A.moved):=by
 obtain⟨bO,b,bt,rfl⟩:=hv;obtain⟨n1,n2⟩:=Xaj.1 bf;obtain⟨n3,n4,n5⟩:=Xak.1 n2;have aW:Live objs id:=⟨_,bm,by simp⟩;obtain⟨b',us,hb',hrow,hmem,bP,fC⟩:WcQ G ν nx w id (φ id) (.box cs):=h.ob _ _ bm;rw[bt]at hb';injection hb' with hb';subst hb';obtain⟨q1,t1,t2,t3,t4,_,t5⟩:=Wam h hg t _ ((us.drop off).take t.size) d m [] ((bP.drop off).take _) (λi hi=>by simp at hi) n3 hf;have hlen:=WE _ _ _ _ t1;have cy:off+t.size<=cs.length:=by
  have:=bP.1
  grind [Xay,Xee,WbZ]
 have ib:CS.le (rng b ((ν id).off+off) t.size) (φ id):=λb' o ⟨k0,k1,k2⟩=>fC b' o ⟨k0,by omega,by omega⟩;refine⟨b,q1,rfl,bt,⟨_,?_,?_,t1⟩,t5,⟨cs,b,bm,cy,bt,rfl,Xk ..⟩,KeptOk.mono (λp hp=>Xf _ hp) _ _ _ hA.kept,?_,?_,?_,?_,?_,?_,?_,?_⟩
 .obtain⟨row,TT,r1,r2⟩:=hrow;exact⟨row,TT,r1,by omega⟩
 .intro j v hj;rw[Xbr]at hj;split at hj
  .rw[Xbq]at hj;rw[Xba];exact hmem _ v hj
  grind
 .have s1:=Wcx h t2 hA.sep t3 (λq hq b o hh=>Wjg b o (hA.tk q hq b o hh)) (λi hi hj=>n5 i hi i hj rfl);refine Xaa.2 ⟨λs hs=>?_,s1⟩;obtain⟨p,hp,rfl⟩:=Xx.1 hs;refine CS.disj.mono (FromL.disj h (m:=[id]) (m':=m++A.all) (λi hi hj=>n1 (by simp_all))) (λb o hh=>⟨id,by simp,aW,ib b o hh⟩) (λb o hh=>?_);rcases Xm.1 hp with hp|hp
  .exact FromL.mono (λi hi=>Xl _ hi) b o (t3 p hp b o hh)
  .exact FromL.mono (λi hi=>Xh _ hi) b o (Wjg b o (hA.tk p hp b o hh))
 .intro q hq;rcases Xq.1 hq with rfl|hq
  .exactλb o hh=>⟨id,Xk ..,aW,ib b o hh,λp hp e=>by
    rcases Xq.1 hp with rfl|hp
    .exact hh
    .exact Wj (Xh _ (by rw[←e];exact hA.bx p hp)) n1⟩
  .rcases Xm.1 hq with hq|hq
   .refineλb o hh=>Wo0 (m:=m) (λi hi=>Xf _ (Xl _ hi)) (λp hp hm=>?_) b o (t3 q hq b o hh)
    rcases Xq.1 hp with rfl|hp
    .simp_all
    .exact n5 _ hm _ (hA.bx p hp) rfl
   .refineλb o hh=>WkL (λi hi=>Xf _ (Xh _ hi)) (λp hp=>?_) b o (hA.tk q hq b o hh)
    grind
 .intro p hp;rcases Xq.1 hp with rfl|hp
  .simp_all
  .exact Xf _ (Xh _ (hA.bx p hp))
 .intro i hi;rcases Xq.1 hi with rfl|hi
  .exact aW
  .rcases Xm.1 hi with hi|hi
   .grind
   .exact hA.live i hi
 .intro i hi;rcases Xm.1 hi with hi|hi
  .exact Xf _ (Xl _ hi)
  .exact Xf _ (Xh _ (hA.mv i hi))
 .intro i hi;rcases Xq.1 hi with rfl|hi
  .exact .inr (Xk ..)
  .rcases Xm.1 hi with hi|hi
   .exact .inl (Xl _ hi)
   .rcases hA.mvk i hi with hi|hi
    .exact .inl (Xh _ hi)
    .exact .inr (Xf _ hi)
 .exact List.Sublist.cons_cons _ (List.Sublist.trans hA.sub (Xfp _ _))
 .intro i hi hm;rcases Xq.1 hi with rfl|hi
  .rcases Xm.1 hm with hm|hm
   .exact n1 (Xl _ hm)
   .exact n1 (Xh _ (hA.mv _ hm))
  .rcases Xm.1 hm with hm|hm
   .exact n5 _ hm _ (hA.sub.subset hi) rfl
   .exact hA.dis i hi hm
theorem WqV(h:HR w0 F G ν φ objs nx w){c:Cell}{y:AVal}{i:Nat}{u:Value}(hy:AValRel G ν nx y u)(he:WtI objs c y=some i):
  ∃r b,c= .own r/\(ν r).blk=some b/\i<(ν r).len/\u= .pointer (some ⟨b,(ν r).off+(i*(ν r).esz+0),none⟩):=by
 unfold WtI at he;split at he
 .rename_i r p off;split at he
  .rename_i e xs j p' bm;split at he
   .rename_i hp;injection he with he;subst he;have hp:=Xcl hp;subst hp;obtain⟨mq,k1,k2,k3,b,k4,k5,k6,_⟩:p<nx/\Wh8 w (TyRel G w e) e.size (ν r) (ν p) xs j (φ r):=h.ob _ _ bm;obtain⟨⟨_,b',hb',rfl⟩,_⟩:=hy;rw[k5]at hb';injection hb' with hb';subst hb';exact⟨r,b,rfl,k4,by omega,by rw[k6,k2,Xbb,Xbb]⟩
   .simp at he
  .simp at he
 .rename_i r r' j off;split at he
  .rename_i e xs bm;split at he
   .rename_i hp;injection he with he;subst he;have hp:=Xcl hp;subst hp;obtain⟨⟨_,hlt,b,hb,rfl⟩,_⟩:=hy;exact⟨r,b,rfl,hb,hlt,rfl⟩
   .simp at he
  .simp at he
 .simp at he
theorem WaJ(h:HR w0 F G ν φ objs nx w)(hg:GLe G G'):∀(ps:List PTy) (xs:List AVal) (vs:List Value) (A:Args ps),vs.length=xs.length->
  (∀(j:Nat) (x:AVal) (v:Value),xs[j]?=some x->vs[j]?=some v->AValRel G ν nx x v)->Lent G' w φ objs A.lent->A.all.Nodup->Waj ps xs objs=some A->
  ∃ns ks bx,AOk G' ν φ objs w ps A vs ns ks bx
 | [],xs,vs,A,hlen,hx,hl,bf,hf=>by
  simp only[Waj]at hf;split at hf
  .injection hf with hf;subst hf;have dK:vs= []:=Xt (by simpa using hlen);exact⟨[],[],[],⟨dK,rfl,rfl⟩,⟨rfl,rfl⟩,List.Pairwise.nil,by simp,by simp,by simp,by simp,by simp,by simp,List.Sublist.refl _,by simp[kids]⟩
  .cases hf
 | .v t agg::ps,xs,vs,A,hlen,hx,hl,bf,hf=>by
  simp only[Waj]at hf;split at hf
  .rename_i x xs;split at hf
   .rename_i d m r A' h1 h2;injection hf with hf;subst hf
    match vs,hlen with
    |v::vs,hlen=>
     cases hc:cellsOf agg x with
     |none=>simp[hc]at h1
     |some cs=>
      simp[hc]at h1;obtain⟨n1,n2,n3⟩:=Xak.1 bf;obtain⟨q1,g1,g2,g3,g4,g5⟩:=WlR h hg (hx 0 x v rfl rfl) (hl.mono (λi hi=>Xl _ hi)) n1 hc h1;obtain⟨ns,ks,bx,hA⟩:=WaJ h hg ps xs vs A' (by simpa using hlen) (λj y u hj hu=>hx (j+1) y u (by simpa using hj) (by simpa using hu)) (hl.mono (λi hi=>Xh _ hi)) n2 h2;refine⟨q1++ns,ks,bx,⟨v,vs,q1,ns,rfl,rfl,g1,hA.args⟩,hA.kept,Wcx h g2 hA.sep g3 (λq hq b o hh=>Wjg b o (hA.tk q hq b o hh)) (λi hi hj=>n3 i hi i hj rfl),λq hq=>?_,λp hp=>Xh _ (hA.bx p hp),λi hi=>?_,λi hi=>?_,λi hi=>?_,λi hi=>?_,List.Sublist.trans hA.sub (Xfp _ _),λi hi hm=>?_⟩
      .rcases Xm.1 hq with hq|hq
       .exactλb o hh=>Wo0 (λi hi=>Xl _ hi) (λp hp hm=>n3 _ hm _ (hA.bx p hp) rfl) b o (g3 q hq b o hh)
       .exactλb o hh=>WkL (λi hi=>Xh _ hi) (λp hp=>.inl hp) b o (hA.tk q hq b o hh)
      .rcases Xm.1 hi with hi|hi
       .exact g4 i hi
       .exact hA.live i hi
      .rcases Xm.1 hi with hi|hi
       .exact g5 i hi
       .exact hA.lent i hi
      .rcases Xm.1 hi with hi|hi
       .exact Xl _ hi
       .exact Xh _ (hA.mv i hi)
      .rcases Xm.1 hi with hi|hi
       .exact .inl (Xl _ hi)
       .rcases hA.mvk i hi with hi|hi
        .exact .inl (Xh _ hi)
        .exact .inr hi
      .rcases Xm.1 hm with hm|hm
       .exact n3 _ hm _ (hA.sub.subset hi) rfl
       .exact hA.dis i hi hm
   .cases hf
  .cases hf
 | .box t::ps,xs,vs,A,hlen,hx,hl,bf,hf=>by
  simp only[Waj]at hf;split at hf
  .rename_i id off xs;split at hf
   .rename_i cs bm;split at hf
    .rename_i d m A' h1 h2;injection hf with hf;subst hf
     match vs,hlen with
     |v::vs,hlen=>
      obtain⟨n1,n2⟩:=Xaj.1 bf;obtain⟨ns,ks,bx,hA⟩:=WaJ h hg ps xs vs A' (by simpa using hlen) (λj y u hj hu=>hx (j+1) y u (by simpa using hj) (by simpa using hu)) hl (Xak.1 n2).2.1 h2;obtain⟨b,q1,rfl,bt,k1,_,k2,k3,k4,k5,k6,k7,k8,k9,k10,q7⟩:=Wp1 h hg (hx 0 _ v rfl rfl).1 bm h1 bf hA;exact⟨_,_,_,⟨b,_,vs,q1,ns,ks,rfl,rfl,rfl,k1,hA.args⟩,⟨_,_,_,_,rfl,rfl,k2,k3⟩,k4,k5,k6,k7,hA.lent,k8,k9,k10,q7⟩
    .cases hf
   .cases hf
  .cases hf
 | .vj _::_,_,_,_,_,_,_,_,hf=>by simp only[Waj]at hf;cases hf
 | .boxal t lf::ps,xs,vs,A,hlen,hx,hl,bf,hf=>by
  simp only[Waj]at hf;split at hf
  .rename_i id off y xs;split at hf
   .rename_i cs bm;split at hf
    .rename_i d m A' i h1 h2 h3;injection hf with hf;subst hf
     match vs,hlen with
     |v::u::vs,hlen=>
      obtain⟨n1,n2⟩:=Xaj.1 bf;obtain⟨ns,ks,bx,hA⟩:=WaJ h hg ps xs vs A' (by simpa using hlen) (λj y u hj hu=>hx (j+2) y u (by simpa using hj) (by simpa using hu)) hl (Xak.1 n2).2.1 h2;obtain⟨b,q1,rfl,bt,k1,kl,k2,k3,k4,k5,k6,k7,k8,k9,k10,q7⟩:=Wp1 h hg (hx 0 _ v rfl rfl).1 bm h1 bf hA;obtain⟨c,hc,h3⟩:=Xbx.1 h3;obtain⟨k,hk,hc⟩:=Xbx.1 hc;obtain⟨r,b',rfl,e1,e2,rfl⟩:=WqV h (hx 1 y u rfl rfl) h3;obtain⟨pc,e3,e4⟩:=kl lf k r hk hc;exact⟨_,_,_,⟨b,_,b',pc,vs,q1,ns,ks,by rw[e4],rfl,rfl,k1,e3,by rw[e4];exact e1,by rw[e4];exact e2,hA.args⟩,⟨_,_,_,_,rfl,rfl,k2,k3⟩,k4,k5,k6,k7,hA.lent,k8,k9,k10,q7⟩
    .cases hf
   .cases hf
  .cases hf
 | .mut e::ps,xs,vs,A,hlen,hx,hl,bf,hf=>by
  simp only[Waj]at hf;split at hf
  .rename_i id xs;split at hf
   .rename_i e' ys bm;split at hf
    .rename_i d A' h1 h2;injection hf with hf;subst hf;obtain⟨he,hd⟩:=Waz h1;subst he;simp only at hd;subst hd
     match vs,hlen with
     |v::vs,hlen=>
      obtain⟨⟨_,hv⟩,_⟩:=hx 0 _ v rfl rfl;subst hv;obtain⟨n1,n2⟩:=Xaj.1 bf;have aW:Live objs id:=⟨_,bm,by simp⟩;have hown:OwnL w (TyRel G w e') e'.size (ν id) ys (φ id):=h.ob _ _ bm;obtain⟨ns,ks,bx,hA⟩:=WaJ h hg ps xs vs A' (by simpa using hlen) (λj y u hj hu=>hx (j+1) y u (by simpa using hj) (by simpa using hu)) hl n2 h2;refine⟨⟨ν id,φ id⟩::ns,ν id::ks,bx,⟨⟨ν id,φ id⟩,vs,ns,ks,rfl,rfl,rfl,Wdl hg (Same.refl _ w) (λ_ _ hh=>hh) hown,hA.args⟩,⟨id,_,ks,ys,rfl,rfl,bm,hA.kept⟩,?_,λq hq=>?_,λp hp=>Xf _ (hA.bx p hp),λi hi=>?_,hA.lent,λi hi=>Xf _ (hA.mv i hi),λi hi=>?_,List.Sublist.cons_cons _ hA.sub,λi hi hm=>?_⟩
      .refine Wcx h (n1:=[⟨ν id,φ id⟩]) (m:=[id]) (List.pairwise_singleton _ _) hA.sep (λq hq=>?_) (λq hq b o hh=>Wjg b o (hA.tk q hq b o hh)) (λi hi hj=>n1 (by rw[←Xaf.1 hi];exact hj));rw[Xaf.1 hq];exact FromL.one (by simp) aW
      .rcases Xq.1 hq with rfl|hq
       .exactλb o hh=>⟨id,Xk ..,aW,hh,λp hp e=>Wj (by rw[←e];exact hA.bx p hp) n1⟩
       .exactλb o hh=>WkL (λi hi=>Xf _ hi) (λp hp=>.inl hp) b o (hA.tk q hq b o hh)
      .rcases Xq.1 hi with rfl|hi
       .exact aW
       .exact hA.live i hi
      .rcases Xq.1 hi with rfl|hi
       .exact .inr (Xk ..)
       .rcases hA.mvk i hi with hi|hi
        .exact .inl hi
        .exact .inr (Xf _ hi)
      .rcases Xq.1 hi with rfl|hi
       .exact n1 (hA.mv _ hm)
       .exact hA.dis i hi hm
    .cases hf
   .cases hf
  .cases hf
 | .clos g n::ps,xs,vs,A,hlen,hx,hl,bf,hf=>by
  simp only[Waj]at hf;split at hf
  .rename_i g' caps xs;split at hf
   .rename_i hc;obtain⟨rfl,hcl⟩:=hc;cases hA:Waj ps (Wkf caps++xs) objs with
    |none=>simp[hA]at hf
    |some A'=>
     simp only[hA,Xcc,Option.some.injEq]at hf;subst hf
     match vs,hlen with
     |v::vs,hlen=>
      obtain⟨⟨cvs,hv,hcv,sa⟩,_⟩:=hx 0 _ v rfl rfl;subst hv;obtain⟨ns,ks,bx,hAk⟩:=WaJ h hg ps (Wkf caps++xs) (cvs++vs) A' (by simp[Wkf,hcv];simpa using hlen) (λj y u hj hu=>by
       rw[Xav]at hj hu;simp only[Wkf,Xad]at hj;rw[hcv]at hu;split at hj
       .rename_i hlt;rw[Wb hlt]at hu;rw[Xaq]at hj;obtain⟨id,bO,rfl⟩:=Xz.1 hj;obtain⟨h1,h3,h2⟩:=sa _ id u bO hu;exact⟨⟨h1,h2⟩,h3⟩
       .rename_i hlt;rw[Wa hlt]at hu;exact hx (j-caps.length+1) y u (by simpa using hj) (by simpa using hu)) hl bf hA
      refine⟨ns,ks,bx,⟨cvs,vs,rfl,by rw[hcv];exact hcl,λu hu=>?_,hAk.args⟩,hAk.kept,hAk.sep,hAk.tk,hAk.bx,hAk.live,hAk.lent,hAk.mv,hAk.mvk,hAk.sub,hAk.dis⟩;obtain⟨j,hj⟩:=Xed hu;have hlt:j<caps.length:=by rw[←hcv];exact(Xae.1 hj).1
      exact(sa j _ u (Xp hlt) hj).2.1
   .cases hf
  .cases hf
 | .kv t agg::ps,xs,vs,A,hlen,hx,hl,bf,hf=>by
  simp only[Waj]at hf;split at hf
  .rename_i x xs;split at hf
   .rename_i d m r A' h1 h2;split at hf
    .rename_i ic;injection hf with hf;subst hf
     match vs,hlen with
     |v::vs,hlen=>
      cases hc:cellsOf agg x with
      |none=>simp[hc]at h1
      |some cs=>
       simp[hc]at h1;obtain⟨n1,n2,n3⟩:=Xak.1 bf;have bs:Lent G' w φ objs r:=hl.mono (λi hi=>Xl _ hi);obtain⟨_,_,_,_,g4,g5⟩:=WlR h hg (hx 0 x v rfl rfl) bs n1 hc h1;obtain⟨k1,k2⟩:=Wmd h hg (hx 0 x v rfl rfl) bs hc h1 ic;obtain⟨ns,ks,bx,hA⟩:=WaJ h hg ps xs vs A' (by simpa using hlen) (λj y u hj hu=>hx (j+1) y u (by simpa using hj) (by simpa using hu)) (hl.mono (λi hi=>Xh _ hi)) n2 h2;have lq:kids (kp0 m++A'.kept)=m++kids A'.kept:=by simp only[kids,Xu];congr 1;exact Wis m
       have gp:∀q∈pcs ν φ m,CS.le q.fp (FromL φ objs m):=λq hq=>by
        obtain⟨i,hi,rfl⟩:=Xx.1 hq;exact FromL.one hi (g4 i hi)
       have gs:Sep (fps (pcs ν φ m)):=by
        rw[Wo5];refine List.pairwise_map.2 (n1.imp_of_mem λ{i j} hi hj hne=>?_)
        exactλb o h1 h2=>hne (h.inj i j b o (g4 i hi) (g4 j hj) h1 h2)
       refine⟨pcs ν φ m++ns,m.map ν++ks,bx,⟨v,vs,pcs ν φ m,ns,ks,rfl,rfl,by rw[Wv4],k1,hA.args⟩,⟨m,A'.kept,ks,rfl,rfl,k2,hA.kept⟩,Wcx h gs hA.sep gp (λq hq b o hh=>Wjg b o (hA.tk q hq b o hh)) (λi hi hj=>n3 i hi i hj rfl),λq hq=>?_,λp hp=>Xh _ (hA.bx p hp),λi hi=>?_,λi hi=>?_,λi hi=>Xh _ (hA.mv i hi),λi hi=>?_,by rw[lq];exact List.Sublist.append (List.Sublist.refl _) hA.sub,λi hi hm=>?_⟩
       .rcases Xm.1 hq with hq|hq
        .exactλb o hh=>Wo0 (λi hi=>Xl _ hi) (λp hp hm=>n3 _ hm _ (hA.bx p hp) rfl) b o (gp q hq b o hh)
        .exactλb o hh=>WkL (λi hi=>Xh _ hi) (λp hp=>.inl hp) b o (hA.tk q hq b o hh)
       .rcases Xm.1 hi with hi|hi
        .exact g4 i hi
        .exact hA.live i hi
       .rcases Xm.1 hi with hi|hi
        .exact g5 i hi
        .exact hA.lent i hi
       .rw[lq];rcases Xm.1 hi with hi|hi
        .exact .inr (Xl _ hi)
        .rcases hA.mvk i hi with hi|hi
         .exact .inl hi
         .exact .inr (Xh _ hi)
       .rw[lq]at hi;rcases Xm.1 hi with hi|hi
        .exact n3 _ hi _ (hA.mv i hm) rfl
        .exact hA.dis i hi hm
    .cases hf
   .cases hf
  .cases hf
 | .rp t::ps,xs,vs,A,hlen,hx,hl,bf,hf=>by
  simp only[Waj]at hf;split at hf
  .rename_i id off xs;split at hf
   .rename_i cs bm;split at hf
    .rename_i d r A' h1 h2;split at hf
     case isFalse=>cases hf
     rename_i vv;injection hf with hf;subst hf
     match vs,hlen with
     |v::vs,hlen=>
      obtain⟨ns,ks,bx,hA⟩:=WaJ h hg ps xs vs A' (by simpa using hlen) (λj y u hj hu=>hx (j+1) y u (by simpa using hj) (by simpa using hu)) (hl.mono (λi hi=>Xf _ (Xh _ hi))) bf h2;obtain⟨⟨bO,b,bt,rfl⟩,_⟩:=hx 0 _ v rfl rfl;have aW:Live objs id:=⟨_,bm,by simp⟩;obtain⟨b',us,hb',hrow,hmem,bP,fC⟩:WcQ G ν nx w id (φ id) (.box cs):=h.ob _ _ bm;rw[bt]at hb';injection hb' with hb';subst hb';obtain⟨q1,t1,t2,t3,t4,t5,_⟩:=Wam h hg t _ ((us.drop off).take t.size) d [] r ((bP.drop off).take _) (hl.mono (λi hi=>Xf _ (Xl _ hi))) Xde h1;have nA:∀p∈q1,Froz G' w p.fp:=λp hp b o v hh=>by
       obtain⟨i,hi,_⟩:=t3 p hp b o hh;simp at hi
      have henc:Enc G' t.ro (Wvm t d) ((us.drop off).take t.size):=WdZ (λ_ _ _ hh=>hh) t d _ q1 nA t1;have jD:=WE _ _ _ _ t1;have cy:off+t.size<=cs.length:=by
       have:=bP.1;rw[Xay,Xee]at jD;have:=WbZ t;omega
      have bb:WfJ G' b ((ν id).off+off) ((us.drop off).take t.size):=λj v hj=>by
       have vx:j<t.size:=by have:=(Xae.1 hj).1;omega
       rw[Xbr,Wb vx,Xbq]at hj;have h3:=hmem _ v hj;rw[←Xba]at h3;exact hl id (Xk ..) aW b _ v (fC b _ ⟨rfl,by omega,by omega⟩) h3
      exact⟨ns,ks,bx,⟨b,(ν id).off+off,(us.drop off).take t.size,vs,rfl,((Wbi t d _ q1 vv).1 t1).1,bb,hA.args⟩,hA.kept,hA.sep,hA.tk,hA.bx,hA.live,λi hi=>by
       rcases Xq.1 hi with rfl|hi
       .exact aW
       .rcases Xm.1 hi with hi|hi
        .exact t5 i hi
        .exact hA.lent i hi,hA.mv,hA.mvk,hA.sub,hA.dis⟩
    .cases hf
   .cases hf
  .rename_i t' d' off xs;split at hf
   .rename_i d A' h1 h2;split at hf
    case isFalse=>cases hf
    rename_i vv;injection hf with hf;subst hf
    match vs,hlen with
    |v::vs,hlen=>
     obtain⟨ns,ks,bx,hA⟩:=WaJ h hg ps xs vs A' (by simpa using hlen) (λj y u hj hu=>hx (j+1) y u (by simpa using hj) (by simpa using hu)) hl bf h2;obtain⟨⟨b,o,cs,rfl,e1,e2⟩,_⟩:=hx 0 _ v rfl rfl;have bP:=WaL (ν:=ν) (nx:=nx) t' d' cs e1;obtain⟨q1,t1,t2,t3,t4,t5,_⟩:=Wam h hg t _ ((cs.drop off).take t.size) d [] [] ((bP.drop off).take _) (λi hi=>by simp at hi) Xde h1;exact⟨ns,ks,bx,⟨b,o+off,(cs.drop off).take t.size,vs,rfl,((Wbi t d _ q1 vv).1 t1).1,λj v hj=>by
      rw[Xbr]at hj;split at hj
      .rw[Xbq]at hj;rw[Xba];exact hg _ _ _ (e2 _ v hj)
      .simp at hj,hA.args⟩,hA.kept,hA.sep,hA.tk,hA.bx,hA.live,hA.lent,hA.mv,hA.mvk,hA.sub,hA.dis⟩
   .cases hf
  .cases hf
end
end Go.Sx
namespace Go.Sx
set_option linter.unusedVariables false
set_option linter.unusedSimpArgs false
theorem Wbt{G G':GH}{w:World}:∀(t:Ty) (d:t.den) (vs:List Value) (ns:List Pc),t.noRo=true->TyRel G w t d vs ns->TyRel G' w t d vs ns
 | .own e,_,_,_,hn,⟨pc,h1,h2,h3⟩=>⟨pc,h1,h2,Wir (λx c q hx=>WE e x c q hx) (Same.refl _ w) (λ_ _ hh=>hh) (λx c q _ hx=>Wbt e x c q hn hx) h3⟩
 | .prod a b,_,_,_,hn,⟨v1,v2,n1,n2,h1,h2,h3,h4⟩=>by
  simp only[Ty.noRo,Xj]at hn;exact⟨v1,v2,n1,n2,h1,h2,Wbt a _ _ _ hn.1 h3,Wbt b _ _ _ hn.2 h4⟩
 | .int _,_,_,_,_,h=>h
 | .bool,_,_,_,_,h=>h
 | .str,_,_,_,_,h=>h
 | .slice _,_,_,_,hn,_=>by simp[Ty.noRo]at hn
theorem Wsz{G G':GH}{w:World}{e:Ty}{nu:Nu}{xs:List e.den}{S:CS}(hn:e.noRo=true)(h:OwnL w (TyRel G w e) e.size nu xs S):OwnL w (TyRel G' w e) e.size nu xs S:=
 Wir (λx c q hx=>WE e x c q hx) (Same.refl _ w) (λ_ _ hh=>hh) (λx c q _ hx=>Wbt e x c q hn hx) h
theorem Wgd{G G':GH}{w:World}{t:Ty}{d:t.den}{b o:Nat}{ns:List Pc}(hn:t.noRo=true)(h:WfK G w t d b o ns):WfK G' w t d b o ns:=by
 obtain⟨us,h1,h2,h3⟩:=h;exact⟨us,h1,h2,Wbt _ _ _ _ hn h3⟩
theorem WrK{G G':GH}{w:World}{t:Ty}{agg:Bool}{d:t.den}{v:Value}{ns:List Pc}(hn:t.noRo=true)(h:WjS G w t agg d v ns):WjS G' w t agg d v ns:=by
 unfold WjS at h⊢;split
 .rename_i ha;rw[Wb ha]at h;obtain⟨us,h1,h2⟩:=h;exact⟨us,h1,Wbt _ _ _ _ hn h2⟩
 .rename_i ha;rw[Wa ha]at h;exact Wbt _ _ _ _ hn h
theorem WdX{G G':GH}{w:World}:∀(rs:List PTy) (d:Whg rs) (vs:List Value) (ns:List Pc),rs.all PTy.freshR=true->WgC G w rs d vs ns->WgC G' w rs d vs ns
 | [],_,_,_,_,h=>h
 | .v t agg::rs,d,vs,ns,hn,⟨v,vs',n1,n2,h1,h2,h3,h4⟩=>by
  simp only[Xcf,Xj]at hn;exact⟨v,vs',n1,n2,h1,h2,WrK hn.1 h3,WdX rs _ _ _ hn.2 h4⟩
 | .box t::rs,d,vs,ns,hn,⟨b,o,vs',n1,n2,h1,h2,h3,h5⟩=>by
  simp only[Xcf,Xj]at hn;exact⟨b,o,vs',n1,n2,h1,h2,Wgd hn.1 h3,WdX rs _ _ _ hn.2 h5⟩
 | .mut _::_,_,_,_,_,h=>h.elim
 | .clos _ _::_,_,_,_,_,h=>h.elim
 | .kv _ _::_,_,_,_,_,h=>h.elim
 | .rp _::_,_,_,_,_,h=>h.elim
 | .vj t::rs,d,vs,ns,hn,⟨us,u,vs',n1,n2,h1,h0,h2,h3,h4⟩=>by
  simp only[Xcf,Xj]at hn;exact⟨us,u,vs',n1,n2,h1,h0,h2,Wbt _ _ _ _ hn.1 h3,WdX rs _ _ _ hn.2 h4⟩
 | .boxal _ _::_,_,_,_,_,h=>h.elim
theorem Wa4{G G':GH}{w:World}:∀(ps:List PTy) (o:Wgh ps) (ks:List Nu) (kf:List CS) (ns:List Pc),ps.all PTy.fresh=true->WbN G w ps o ks kf ns->WbN G' w ps o ks kf ns
 | [],_,_,_,_,_,h=>h
 | .v _ _::ps,o,ks,kf,ns,hn,h=>by
  simp only[Xcf,Xj]at hn;exact Wa4 ps o ks kf ns hn.2 h
 | .box t::ps,o,ks,kf,ns,hn,⟨b,off,ks',dv,n1,n2,h1,h2,h3,h4,h5⟩=>by
  simp only[Xcf,Xj]at hn;exact⟨b,off,ks',dv,n1,n2,h1,h2,h3,Wgd hn.1 h4,Wa4 ps _ _ _ _ hn.2 h5⟩
 | .mut e::ps,o,ks,kf,ns,hn,⟨pc,ks',dv,h1,h2,h3,h4⟩=>by
  simp only[Xcf,Xj]at hn;exact⟨pc,ks',dv,h1,h2,Wsz hn.1 h3,Wa4 ps _ _ _ _ hn.2 h4⟩
 | .clos _ _::ps,o,ks,kf,ns,hn,h=>by
  simp only[Xcf,Xj]at hn;exact Wa4 ps o ks kf ns hn.2 h
 | .kv t _::ps,o,ks,kf,ns,hn,⟨n1,ks',dv,us,h1,h2,h3,h4⟩=>by
  simp only[Xcf,Xj]at hn;exact⟨n1,ks',dv,us,h1,h2,Wbt _ _ _ _ hn.1 h3,Wa4 ps _ _ _ _ hn.2 h4⟩
 | .rp _::ps,o,ks,kf,ns,hn,h=>by
  simp only[Xcf,Xj]at hn;exact Wa4 ps o ks kf ns hn.2 h
 | .vj _::_,_,_,_,_,_,h=>h.elim
 | .boxal t _::ps,o,ks,kf,ns,hn,⟨b,off,ks',dv,n1,n2,h1,h2,h3,h4,h5⟩=>by
  simp only[Xcf,Xj]at hn;exact⟨b,off,ks',dv,n1,n2,h1,h2,h3,Wgd hn.1 h4,Wa4 ps _ _ _ _ hn.2 h5⟩
theorem Wex{objs:Wal}:∀(l:List Nat) (id:Nat),id∉l->look (kill objs l) id=look objs id
 | [],id,_=>rfl
 |i::l,id,h=>by
  simp only[kill];rw[WK,Wa (λe=>h (by rw[e];exact Xk ..))];exact Wex l id λhm=>h (Xf _ hm)
theorem WkP:∀{l:List CS},Sep l->∀{i j:Nat} {A B:CS} {b o:Nat},l[i]?=some A->l[j]?=some B->A b o->B b o->i=j
 | [],_,i,j,A,B,b,o,hi,_,_,_=>by simp at hi
 |C::l,hs,i,j,A,B,b,o,hi,hj,ha,hb=>by
  obtain⟨h1,h2⟩:=Xaa.1 hs;cases i with
  |zero=>
   simp at hi;subst hi;cases j with
   |zero=>rfl
   |succ j=>
    simp at hj;exact(h1 B (Xat hj) b o ha hb).elim
  |succ i=>
   simp at hi;cases j with
   |zero=>
    simp at hj;subst hj;exact(h1 A (Xat hi) b o hb ha).elim
   |succ j=>
    simp at hj;rw[WkP h2 hi hj ha hb]
section
variable{w0:World}{F:CS}{nt:Slots}{G0 G G':GH}{ν:Nat->Nu}{φ:Nat->CS}{objs:Wal}{nx:Nat}{st am:St}{a:Act}{w w':World}{P:Program}{T:Tab}
theorem Wqq{f g:Nat->Nu}:∀{l:List Nat},(∀i∈l,g i=f i)->l.map f=l.map g:=λ{l} h=>List.map_congr_left λi hi=>(h i hi).symm
theorem WcF{ν':Nat->Nu}{bx:List (Nat×CS)}:∀(ps:List PTy) (ids:List Kp) (ks:List Nu),(∀i∈kids ids,ν' i=ν i)->KeptOk objs ν bx ps ids ks->KeptOk objs ν' bx ps ids ks
 | [],_,_,_,h=>h
 | .v _ _::ps,ids,ks,hn,h=>WcF ps ids ks hn h
 | .box t::ps,ids,ks,hn,⟨k,bv,nu,ks',h1,h2,⟨cs,b,g1,g2,g3,g4,g5⟩,h4⟩=>by
  subst h1;have e:=hn k.id (Xk ..);exact⟨k,bv,nu,ks',rfl,h2,⟨cs,b,g1,g2,by rw[e];exact g3,by rw[e];exact g4,by rw[e];exact g5⟩,WcF ps bv ks' (λi hi=>hn i (Xf _ hi)) h4⟩
 | .mut e::ps,ids,ks,hn,⟨id,bv,ks',ys,h1,h2,h3,h4⟩=>by
  subst h1;exact⟨id,bv,ks',ys,rfl,by rw[hn id (Xk ..)];exact h2,h3,WcF ps bv ks' (λi hi=>hn i (Xf _ hi)) h4⟩
 | .clos _ _::ps,ids,ks,hn,h=>WcF ps ids ks hn h
 | .kv t _::ps,ids,ks,hn,⟨i1,i2,ks',h1,h2,h3,h4⟩=>by
  subst h1;have lq:kids (kp0 i1++i2)=i1++kids i2:=by simp only[kids,Xu];congr 1;exact Wis i1
  rw[lq]at hn;exact⟨i1,i2,ks',rfl,by rw[h2,Wqq (λi hi=>hn i (Xl _ hi))],h3,WcF ps i2 ks' (λi hi=>hn i (Xh _ hi)) h4⟩
 | .rp _::ps,ids,ks,hn,h=>WcF ps ids ks hn h
 | .vj _::_,_,_,_,h=>h.elim
 | .boxal t _::ps,ids,ks,hn,⟨k,bv,nu,ks',h1,h2,⟨cs,b,g1,g2,g3,g4,g5⟩,h4⟩=>by
  subst h1;have e:=hn k.id (Xk ..);exact⟨k,bv,nu,ks',rfl,h2,⟨cs,b,g1,g2,by rw[e];exact g3,by rw[e];exact g4,by rw[e];exact g5⟩,WcF ps bv ks' (λi hi=>hn i (Xf _ hi)) h4⟩
theorem WsI(hr:Rel w0 F nt G0 G ν st a w):∀(l:List Operand) (xs:List AVal),evs st l=some xs->xs.length=l.length/\
  ∀(j:Nat) (x:AVal) (v:Value),xs[j]?=some x->(l.map a.eval)[j]?=some v->AValRel G ν st.nx x v
 | [],xs,h=>by simp[evs]at h;subst h;exact⟨rfl,λj x v hj=>by simp at hj⟩
 |o::l,xs,h=>by
  simp only[evs]at h;split at h
  .rename_i y ys h1 h2;injection h with h;subst h;obtain⟨h3,h4⟩:=WsI hr l ys h2;refine⟨by simp[h3],λj x v hj hv=>?_⟩;cases j with
   |zero=>simp at hj hv;subst hj hv;exact WV hr o _ h1
   |succ j=>exact h4 j x v (by simpa using hj) (by simpa using hv)
  .simp at h
theorem Wud{o:Oper}{c:Call}{f:Operand}{g:FuncId}{caps:List Value}(ho:o.op= .call c)(hc:c.callee= .value f)(hf:a.eval f= .func (.func g) #[] caps.toArray)(sb:Wg1 P g):
  (execOp a.eval o).run P w= .ok (.enter g (c.args.toList.map a.eval++caps).toArray) w:=by
 obtain⟨fn,h1,h2,h3⟩:=sb;obtain⟨callee,args,argTypes⟩:=c;simp only at hc;subst hc;have e:(#[]++args.map a.eval++caps.toArray)=(args.toList.map a.eval++caps).toArray:=by
  apply Array.ext';simp
 simp only[execOp,ho,resolve,Deferred.ofValue,hf,Sem.run_bind,Sem.run_pure,Result.andThen_ok,invoke,callFunc,run_program,h1,h2,h3,Xbk,WaE,e]
theorem WuA{b o k:Nat}{vs us:List Value}(hm:Mem w b o vs)(hu:Mem w' b (o+k) us)(hk:k+us.length<=vs.length)(bF:∀j,j<vs.length->¬(k<=j/\j<k+us.length)->w'.cell? ⟨b,o+j,none⟩=w.cell? ⟨b,o+j,none⟩):
  Mem w' b o (vs.take k++us++vs.drop (k+us.length)):=λj v hj=>by
 have ia:∀v',vs[j]?=some v'->¬(k<=j/\j<k+us.length)->w'.cell? ⟨b,o+j,none⟩=some v':=λv' hv hn=>by
  rw[bF j (Xae.1 hv).1 hn];exact hm j v' hv
 have dL:(vs.take k).length=k:=by simp;omega
 rw[Xbn,Xav,dL]at hj;split at hj
 .rename_i hlt;rw[Xbr,Wb hlt]at hj;exact ia v hj (by omega)
 .rw[Xav]at hj;split at hj
  .have:=hu (j-k) v hj;rw[show o+j=o+k+(j-k) by omega];exact this
  .rw[Xbq,show k+us.length+(j-k-us.length)=j by omega]at hj;exact ia v hj (by omega)
theorem WlX{Γ:Ctx}(hΓ:Wfx P Γ)(hr:Rel w0 F nt G0 G ν st a w){o:Oper}(hd:∀d,o.dst=some d->nt.Ok d){c:Call}{f:Operand}{g:FuncId}{cvs:List Value}{xs:List AVal}{sg:Sig}{R:Type}{k:St->Option R}{r:R}
  (ho:o.op= .call c) (hc:c.callee= .value f) (sc:a.eval f= .func (.func g) #[] cvs.toArray) (om:look Γ g=some sg) (hlen:xs.length=(c.args.toList.map a.eval++cvs).length)
  (hargs:∀(j:Nat) (x:AVal) (v:Value),xs[j]?=some x->(c.args.toList.map a.eval++cvs)[j]?=some v->AValRel G ν st.nx x v)
  (h:WfT sg st xs (λx objs nx=>k (({env:=st.env,objs:=objs,nx:=nx}:St).put o.dst x))=some r) {K:Act->World->Prop} {Q:Exit->Act->World->Prop}
  (hK:∀am a' w' G' ν',Rel w0 F nt G0 G' ν' am a' w'->k am=some r->K a' w'):o.wp P a w K Q:=by
 obtain⟨ls,j9⟩:=hΓ g sg om;unfold WfT at h;split at h
 .rename_i A hA;split at h
  .rename_i bI;simp only[Xj]at bI;obtain⟨⟨bf,mA⟩,nB⟩:=bI;have bf:=(We7 _).1 bf;have mA:=Wni mA;obtain⟨out,hrun,hk⟩:=sg.law' A.d _ r h;dsimp only at hk;obtain⟨φ,hφ⟩:=hr.h;have hY:=hφ.addG_le A.lent;have hG1w:=hφ.addG_w A.lent;obtain⟨ns,ks,bx,hO⟩:=WaJ hφ hY sg.ps _ (c.args.toList.map a.eval++cvs) A hlen.symm hargs (λid bO hl=>(Wjk _).mono (FromL.one bO hl)) bf hA;have hTk:∀b o,Of ns b o->Tk φ st.objs bx A.all b o:=λb o ⟨q,hq,hh⟩=>hO.tk q hq b o hh;have hfree:∀q∈ns,∀b off,q.fp b off->Wrr G w (FromL φ st.objs A.lent) b off=none/\b<w.heap.size:=λq hq b off hh=>by
    obtain⟨i,hi,h1,h2,_⟩:=hO.tk q hq b off hh;refine⟨?_,hφ.bl i b off h1 h2⟩;rw[Wdx (λ⟨j,hj,h3,h4⟩=>by
     have:=hφ.inj i j b off h1 h3 h2 h4;subst this;exact mA _ hj hi)]
    exact hφ.gf i b off h1 h2
   have oo:=ls A.d out hrun _ w _ ns _ hO.args hO.sep hfree hG1w;unfold Oper.wp;rw[Wud ho hc sc j9,Oper.upon_enter];refine oo.mono λe w' se=>?_;obtain⟨rv,kf,ms,db,G2,rfl,hA2⟩:=se;simp only;have hG3:∃G3:GH,GLe G G3/\(∀b off v,G3 b off=some v->w'.cell? ⟨b,off,none⟩=some v)/\WgC G3 w' sg.rs out.2 rv db/\WbN G3 w' sg.ps out.1 ks kf ms/\
     GExt w0.heap.size F G0 G3/\(∀S∈kf++fps (ms++db),∀b off,S b off->G3 b off=none)/\(∀id b off,Live st.objs id->φ id b off->¬Tk φ st.objs bx A.all b off->G3 b off=none):=by
    by_cases hle:A.lent= []
    .have hGG:Wrr G w (FromL φ st.objs A.lent)=G:=by
      rw[hle];funext b off;exact Wdx (λ⟨i,hi,_⟩=>by simp at hi)
     rw[hGG]at hA2;refine⟨G2,hA2.gx.le,hA2.g,hA2.res,hA2.outs,⟨λb o v hv=>hA2.gx.le b o v (hr.gx.le b o v hv),λb o v hv=>?_⟩,λS hS b off hh=>(hA2.own S hS b off hh).1,λid b off hl hp hn=>?_⟩
     .rcases hA2.gx.new b o v hv with h1|h1|h1
      .exact hr.gx.new b o v h1
      .exact .inr (.inl (Xcr hφ.le.size h1))
      .obtain⟨i,hi,h2,h3,_⟩:=hTk b o h1;exact .inr (hφ.own i b o h2 h3)
     .cases hv:G2 b off with
      |none=>rfl
      |some v=>
       rcases hA2.gx.new b off v hv with h1|h1|h1
       .rw[hφ.gf id b off hl hp]at h1;cases h1
       .have:=hφ.bl id b off hl hp;omega
       .exact Wj (hTk b off h1) hn
    .have gz:sg.fresh=true:=by
      rcases Bool.or_eq_true_iff.1 nB with h1|h1
      .exact h1
      .exact Wj (by simpa using h1) hle
     unfold Sig.fresh at gz;simp only[Xj]at gz;refine⟨G,λ_ _ _ hh=>hh,λb o v hv=>hA2.g b o v (hA2.gx.le b o v (hY b o v hv)),WdX _ _ _ _ gz.1 hA2.res,Wa4 _ _ _ _ _ gz.2 hA2.outs,hr.gx,λS hS b off hh=>?_,λid b off hl hp _=>hφ.gf id b off hl hp⟩;cases hv:G b off with
     |none=>rfl
     |some v=>
      have:=hA2.gx.le b off v (hY b off v hv);rw[(hA2.own S hS b off hh).1]at this;cases this
   obtain⟨G3,vy,vz,iQ,sf,vA,vC,vD⟩:=hG3;obtain⟨ν2,hν2⟩:∃ν2:Nat->Nu,ν2= λi=>if i<st.nx then ν i else((nus (ms++db))[i-st.nx]?).getD ⟨none,0,0,0,0⟩:=⟨_,rfl⟩;obtain⟨φ2,hφ2⟩:∃φ2:Nat->CS,φ2= λi=>if i<st.nx then(λb o=>(∃(j:Nat) (S:CS),(kids A.kept)[j]?=some i/\kf[j]?=some S/\S b o)\/(φ i b o/\¬Tk φ st.objs bx A.all b o))else((fps (ms++db))[i-st.nx]?).getD (λ_ _=>False):=⟨_,rfl⟩;have hνold:Wsv st.nx ν ν2:=λi hi=>by rw[hν2];simp[hi]
   have hAt:At ν2 φ2 st.nx (ms++db):=λj pc hj=>by
    have e1:(nus (ms++db))[j]?=some pc.nu:=by unfold nus;rw[Xaq,hj];rfl
    have e2:(fps (ms++db))[j]?=some pc.fp:=by unfold fps;rw[Xaq,hj];rfl
    rw[hν2,hφ2];simp only;rw[Wa (by omega),Wa (by omega),Xce,e1,e2];exact⟨rfl,rfl⟩
   have dc:∀i∈kids A.kept,i<st.nx:=λi hi=>hφ.lt i (hO.live i (hO.sub.subset hi));have mB:(kids A.kept).Nodup:=bf.sublist hO.sub;obtain⟨oq,AU,dO⟩:=Wa2 (ν:=ν2) (φ:=φ2) (bx:=bx) st.objs sg.ps out.1 A.kept ks kf ms (kill st.objs A.moved) st.nx (st.nx+ms.length+db.length) sf (WcF _ _ _ (λi hi=>hνold i (dc i hi)) hO.kept) hAt.left mB (λq hq=>by
    have li:q.id∈kids A.kept:=Xao hq;exact⟨dc _ li,Wex _ _ (hO.dis _ li)⟩) (by omega)
   generalize hp:Wao sg.ps out.1 A.kept (kill st.objs A.moved) st.nx=p at*;obtain⟨nA,vE,AW⟩:=Wd5 (ν:=ν2) (φ:=φ2) sg.rs out.2 rv db p.1 (st.nx+ms.length) (st.nx+ms.length+db.length) iQ (hAt.right rfl) (by omega);rw[oq]at hk;generalize hq:WbH sg.rs out.2 p.1 (st.nx+ms.length)=q at*;have iS:∀id ob,look q.2.1 id=some ob->ob≠ .dead->
     (st.nx<=id/\id<st.nx+ms.length+db.length/\Ww8 G3 ν2 φ2 w' (st.nx+ms.length+db.length) id ob)\/
     (∃(j:Nat) (S:CS),(kids A.kept)[j]?=some id/\kf[j]?=some S/\Wmw G3 ν2 w' st.objs bx (st.nx+ms.length+db.length) id S ob)\/(look st.objs id=some ob/\id∉A.all):=λid ob hl dh=>by
    rcases vE id ob hl with⟨h1,h2,h3⟩|h1
    .exact .inl ⟨by omega,h2,h3⟩
    .rcases dO id ob h1 with⟨h2,h3,h4⟩|h2|⟨h2,h3⟩
     .exact .inl ⟨h2,by omega,.inl h4⟩
     .exact .inr (.inl h2)
     .obtain⟨h4,h5⟩:=WeN A.moved id ob h2 dh;exact .inr (.inr ⟨h4,λhm=>by rcases hO.mvk id hm with h6|h6;exact h5 h6;exact h3 h6⟩)
   have ax:∀id b off,Live q.2.1 id->φ2 id b off->
     (∃(pos:Nat) (S:CS),(kf++fps (ms++db))[pos]?=some S/\S b off/\id=(if pos<kf.length then((kids A.kept)[pos]?).getD 0 else st.nx+(pos-kf.length)))\/
     (Live st.objs id/\φ id b off/\¬Tk φ st.objs bx A.all b off/\id<st.nx):=λid b off ⟨ob,hl,dh⟩ hp=>by
    have ot:id<st.nx->Live st.objs id:=λhlt=>by
     rcases iS id ob hl dh with⟨h1,_⟩|⟨j,S,h1,_⟩|⟨h1,_⟩
     .omega
     .exact hO.live id (hO.sub.subset (Xat h1))
     .exact⟨ob,h1,dh⟩
    rw[hφ2]at hp
    try simp only at hp
    by_cases hlt:id<st.nx
    .rw[Wb hlt]at hp;rcases hp with⟨j,S,h1,h2,h3⟩|⟨h1,h2⟩
     .left;have hj:j<kf.length:=(Xae.1 h2).1;refine⟨j,S,by rw[Xcy hj];exact h2,h3,?_⟩;rw[Wb hj,h1];rfl
     .exact .inr ⟨ot hlt,h1,h2,hlt⟩
    .rw[Wa hlt]at hp;left;cases hS:(fps (ms++db))[id-st.nx]? with
     |none=>rw[hS]at hp;exact hp.elim
     |some S=>
      rw[hS]at hp;refine⟨kf.length+(id-st.nx),S,by rw[Xcg (by omega),Xce];exact hS,hp,?_⟩;rw[Wa (by omega)];omega
   have hown:=hA2.own;have jE:∀{pos:Nat} {S:CS},(kf++fps (ms++db))[pos]?=some S->S∈kf++fps (ms++db):=λh=>Xat h;have hH:HR w0 F G3 ν2 φ2 q.2.1 (st.nx+ms.length+db.length) w':={
    g:=vz
    ob:=λid ob hl=>by
     by_cases dh:ob= .dead
     .subst dh;trivial
     .rcases iS id ob hl dh with⟨h1,h2,⟨e,xs,rfl,h3⟩|⟨cs,b,us,rfl,h3,h4,h5,h6,h7⟩⟩|⟨j,S,h1,h2,h3⟩|⟨h1,h2⟩
      .exact h3
      .exact⟨b,us,h3,h4,h5,h6,h7⟩
      .have bO:id∈kids A.kept:=Xat h1;have hlt:=dc id bO;have aW:Live st.objs id:=hO.live id (hO.sub.subset bO);have hSφ:CS.le S (φ2 id):=λb o hh=>by
        rw[hφ2];(try simp only);rw[Wb hlt];exact .inl ⟨j,S,h1,h2,hh⟩
       rcases h3 with⟨lZ,off,ds,b,us,g1,rfl,g2,g3,g4,g5,rfl,g6⟩|⟨e,ys,xs,g1,rfl,g2⟩
       .rw[hνold id hlt]at g3 g4 g6 hSφ;obtain⟨b',vs,e1,e2,e3,e4,e5⟩:WcQ G ν st.nx w id (φ id) (.box lZ):=hφ.ob _ _ g1;rw[g3]at e1;injection e1 with e1;subst e1;have dg:us.length=ds.length:=g5.1;have og:vs.length=lZ.length:=e4.1;have ig:∀o,(ν id).off<=o->o<(ν id).off+lZ.length->¬((ν id).off+off<=o/\o<(ν id).off+off+ds.length)->φ id b o/\¬Tk φ st.objs bx A.all b o:=λo k1 k2 k3=>by
         have hφo:=e5 b o ⟨rfl,k1,k2⟩;refine⟨hφo,λ⟨i,hi,k4,k5,k6⟩=>?_⟩;have:=hφ.inj i id b o k4 aW k5 hφo;subst this;obtain⟨_,k7,k8⟩:=k6 _ g6 rfl;exact k3 ⟨k7,k8⟩
        refine⟨b,_,by rw[hνold id hlt];exact g3,by rw[hνold id hlt,Wfl g2];exact hA2.le.rows.row _ _ e2,?_,Wfk (e4.mono vy hνold (by omega)) g5,?_⟩
        .rw[hνold id hlt];refine WuA e3 g4 (by omega) (λj hj hn=>?_);obtain⟨k1,k2⟩:=ig ((ν id).off+j) (by omega) (by omega) (λ⟨k3,k4⟩=>hn ⟨by omega,by omega⟩);exact hA2.le.cell b _ (hφ.bl id b _ aW k1) (λou=>k2 (hTk b _ ou))
        .rw[hνold id hlt,Wfl g2];intro b' o ⟨k0,k1,k2⟩;subst k0;by_cases iT:(ν id).off+off<=o/\o<(ν id).off+off+ds.length
         .exact hSφ b' o ⟨rfl,iT.1,iT.2⟩
         .rw[hφ2];(try simp only);rw[Wb hlt];exact .inr (ig o k1 k2 iT)
       .exact Wdl (λ_ _ _ hh=>hh) (Same.refl _ w') hSφ g2
      .have mw:Live st.objs id:=⟨ob,h1,dh⟩;have hlt:=hφ.lt id mw;have yF:∀b o,φ id b o->¬Tk φ st.objs bx A.all b o:=λb o hp ⟨i,hi,k1,k2,_⟩=>by
        have:=hφ.inj i id b o k1 mw k2 hp;subst this;exact h2 hi
       refine WdN vy (hA2.le.same (λb o ou hp=>yF b o hp (hTk b o ou)) (λb o hp=>hφ.bl id b o mw hp)) (λb o hp=>?_) hνold (by omega) hlt ob (hφ.ob id ob h1);rw[hφ2];(try simp only);rw[Wb hlt];exact .inr ⟨hp,yF b o hp⟩
    gf:=λid b off hl hp=>by
     rcases ax id b off hl hp with⟨pos,S,h1,h2,_⟩|⟨h1,h2,h3,_⟩
     .exact vC S (jE h1) b off h2
     .exact vD id b off h1 h2 h3
    inj:=λid cb b off hl cM hp eZ=>by
     have key:∀cb,Live st.objs cb->φ cb b off->¬Tk φ st.objs bx A.all b off->∀(pos:Nat) (S:CS),(kf++fps (ms++db))[pos]?=some S->S b off->False:=λcb g1 g2 g3 pos S g4 g5=>by
      rcases(hown S (jE g4) b off g5).2.1 with g6|g6
      .exact g3 (hTk b off g6)
      .have:=hφ.bl cb b off g1 g2;omega
     rcases ax id b off hl hp with⟨pos,S,h1,h2,he⟩|⟨h1,h2,h3,h4⟩<;>rcases ax cb b off cM eZ with⟨vF,S',iG,kx,iu⟩|⟨iG,kx,uw,h4'⟩
     .have:=WkP hA2.sep h1 iG h2 kx;subst this;rw[he,iu]
     .exact(key cb iG kx uw pos S h1 h2).elim
     .exact(key id h1 h2 h3 vF S' iG kx).elim
     .exact hφ.inj id cb b off h1 iG h2 kx
    own:=λid b off hl hp=>by
     rcases ax id b off hl hp with⟨pos,S,h1,h2,_⟩|⟨h1,h2,h3,_⟩
     .rcases(hown S (jE h1) b off h2).2.1 with h5|h5
      .obtain⟨i,hi,h6,h7,_⟩:=hTk b off h5;exact hφ.own i b off h6 h7
      .exact .inl (Xcr hφ.le.size h5)
     .exact hφ.own id b off h1 h2
    lt:=λid ⟨ob,hl,dh⟩=>by
     rcases iS id ob hl dh with⟨_,h2,_⟩|⟨j,S,h1,_⟩|⟨h1,h2⟩
     .exact h2
     .have:=dc id (Xat h1);omega
     .have:=hφ.lt id ⟨ob,h1,dh⟩;omega
    bl:=λid b off hl hp=>by
     rcases ax id b off hl hp with⟨pos,S,h1,h2,_⟩|⟨h1,h2,h3,_⟩
     .exact(hown S (jE h1) b off h2).2.2
     .exact Nat.lt_of_lt_of_le (hφ.bl id b off h1 h2) hA2.le.size
    le:=hφ.le.trans hA2.le (λb off ou=>by
     obtain⟨i,hi,h6,h7,_⟩:=hTk b off ou;exact hφ.own i b off h6 h7)}
   have hR:=hr.on vy hνold (by omega) ⟨φ2,hH⟩ vA;have hR2:=hR.put (dst:=o.dst) hd (Wtv AW);rw[nA]at hk;exact hK _ _ _ _ _ hR2 hk
  .cases h
 .cases h
theorem Wv3{Γ:Ctx}(hΓ:Wfx P Γ)(hr:Rel w0 F nt G0 G ν st a w){o:Oper}(hd:∀d,o.dst=some d->nt.Ok d){c:Call}{f:Operand}{g:FuncId}{caps:List Nat}{xs:List AVal}{sg:Sig}{R:Type}{k:St->Option R}{r:R}
  (ho:o.op= .call c) (hc:c.callee= .value f) (hf:ev st f=some (.s (.one (.clos g caps)))) (oz:evs st c.args.toList=some xs) (om:look Γ g=some sg)
  (h:WnQ sg st (xs++Wkf caps) (λx objs nx=>k (({env:=st.env,objs:=objs,nx:=nx}:St).put o.dst x))=some r) {K:Act->World->Prop} {Q:Exit->Act->World->Prop}
  (hK:∀am a' w' G' ν',Rel w0 F nt G0 G' ν' am a' w'->k am=some r->K a' w'):o.wp P a w K Q:=by
 obtain⟨⟨cvs,sc,hcl,hcv⟩,_⟩:=WV hr f _ hf;obtain⟨jZ,AX⟩:=WsI hr _ _ oz;have hlen:(xs++Wkf caps).length=(c.args.toList.map a.eval++cvs).length:=by simp[jZ,Wkf,hcl]
 have hargs:∀(j:Nat) (x:AVal) (v:Value),(xs++Wkf caps)[j]?=some x->(c.args.toList.map a.eval++cvs)[j]?=some v->AValRel G ν st.nx x v:=λj x v hj hv=>by
  rw[Xav]at hj hv;rw[Xad,←jZ]at hv;split at hj
  .rename_i hlt;rw[Wb hlt]at hv;exact AX j x v hj hv
  .rename_i hlt;rw[Wa hlt]at hv;simp only[Wkf,Xaq]at hj;cases hcj:caps[j-xs.length]? with
   |none=>simp[hcj]at hj
   |some id=>
    simp[hcj]at hj;subst hj;obtain⟨h1,h3,h2⟩:=hcv _ id v hcj hv;exact⟨⟨h1,h2⟩,h3⟩
 unfold WnQ at h;cases nB:sg.fresh with
 |true=>
  rw[nB]at h;exact WlX hΓ hr hd ho hc sc om hlen hargs h hK
 |false=>
  rw[nB]at h;simp only[Wc]at h;split at h
  .rename_i A hA;split at h
   .exact WlX hΓ hr hd ho hc sc om hlen hargs h hK
   .obtain⟨G1,hz⟩:=hr.frz A.lent;refine WlX hΓ hz.rel hd ho hc sc om (by simpa using hlen) (λj x v hj hv=>?_) h hK;rw[Xaq]at hj;obtain⟨y,hy,rfl⟩:=Xz.1 hj;exact hz.val y v (hargs j y v hy hv)
  .cases h
end
end Go.Sx
namespace Go.Sx
set_option linter.unusedVariables false
set_option linter.unusedSimpArgs false
section
variable{w0:World}{F:CS}{nt:Slots}{G0 G G':GH}{ν:Nat->Nu}{objs:Wal}{nx:Nat}{st am:St}{a:Act}{w w':World}{P:Program}{T:Tab}{Γ:Ctx}
theorem Done.wp{o:Oper}{am:St}(h:Done P w0 F nt G0 o a w am){K:Act->World->Prop}{Q:Exit->Act->World->Prop}
  (hK:∀a' w' G' ν',Rel w0 F nt G0 G' ν' am a' w'->K a' w'):o.wp P a w K Q:=by
 obtain⟨n,v,w',G',ν',h1,h2,h3⟩:=h;unfold Oper.wp;rw[h1];rcases h2 with rfl|⟨rfl,rfl⟩
 .exact hK _ _ _ _ h3
 .exact hK _ _ _ _ h3
theorem Wm2{t:TypeId}{x v:AVal}{am:St}(h:Wdb T st t x v=some am):({env:=st.env,objs:=am.objs,nx:=am.nx}:St)=am:=by
 unfold Wdb at h;split at h
 .split at h
  .split at h
   .injection h with h;subst h;rfl
   .cases h
  .cases h
 .split at h
  .split at h
   .split at h
    .injection h with h;subst h;rfl
    .cases h
   .split at h
    .split at h
     .split at h
      .injection h with h;subst h;rfl
      .cases h
     .cases h
    .cases h
  .cases h
 .cases h
theorem WaQ{R:Type}{c:Bool}{x:Option R}{r:R}(h:(bif c then x else none)=some r):c=true/\x=some r:=by
 cases c
 .cases h
 .exact⟨rfl,h⟩
theorem WbY{R:Type}{c:Prop}[Decidable c]{x:Option R}{r:R}(h:(if c then x else none)=some r):c/\x=some r:=by
 split at h
 .exact⟨by assumption,h⟩
 .cases h
theorem Wnu{e:Ty}{ps:List (Nat×AVal)}{R:Type}{k:KV R}{r:R}(h:WdC st e ps k=some r):
  ∃x ds d m,ps= [(0,x)]/\Whq (WhF st.objs (WhX e x) x)=some ds/\WaA e ds (Wec st.objs (WhX e x))=some (d,m,[])/\WbJ m=true/\
   k (.s (.one (.own st.nx))) ((st.nx,.arr e [d])::kill (Wec st.objs (WhX e x)) m) (st.nx+1)=some r:=by
 match ps with
 | [p]=>
  simp only[WdC]at h;obtain⟨hp,h⟩:=WbY h;split at h
  .rename_i ds hJ;split at h
   .rename_i d m hf;obtain⟨bf,h⟩:=WbY h;exact⟨p.2,ds,d,m,by rw[←hp],hJ,hf,bf,h⟩
   .cases h
  .cases h
 | []=>cases h
 |_::_::_=>cases h
theorem WnY(hT:War P T)(hr:Rel w0 F nt G0 G ν st a w){o:Oper}(hd:∀d,o.dst=some d->nt.Ok d){R:Type}{k:St->Option R}{r:R}
  (h:(match Wap T st o.op with|some (c,v)=>bif c then k (({env:=st.env,objs:=st.objs,nx:=st.nx}:St).put o.dst v)else none|none=>none)=some r)
  {K:Act->World->Prop} {Q:Exit->Act->World->Prop} (hK:∀am a' w' G' ν',Rel w0 F nt G0 G' ν' am a' w'->k am=some r->K a' w'):o.wp P a w K Q:=by
 split at h
 .rename_i c v hp;obtain⟨rfl,h⟩:=WaQ h;exact(WrJ hT hr hd hp).wp λa' w' G' ν' bG=>hK _ _ _ _ _ bG h
 .cases h
theorem Wta(hT:War P T)(hΓ:Wfx P Γ)(hr:Rel w0 F nt G0 G ν st a w){o:Oper}(hd:∀d,o.dst=some d->nt.Ok d){A:List (Nat×An)}{R:Type}{k:St->Option R}{r:R}(h:rx1 T Γ A o st k=some r)
  {K:Act->World->Prop} {Q:Exit->Act->World->Prop} (hK:∀am a' w' G' ν',Rel w0 F nt G0 G' ν' am a' w'->k am=some r->K a' w'):o.wp P a w K Q:=by
 unfold rx1 rxe at h;split at h
 .rename_i t ho;split at h
  .rename_i e n et hl;obtain⟨hc,h⟩:=WbY h;simp only[Xj]at hc;exact(WkS hT hr hd ho hl hc.1 hc.2).wp λa' w' G' ν' bG=>hK _ _ _ _ _ bG h
  .rename_i te _ hl;obtain⟨hc,h⟩:=WbY h;exact(WqU hT hr hd ho hl hc).wp λa' w' G' ν' bG=>hK _ _ _ _ _ bG h
  .cases h
 .rename_i t x ho;split at h
  .rename_i te cs hl hb;cases hv:ev st x with
   |none=>simp[hv]at hb
   |some v=>
    simp only[hv,Xd]at hb;exact(Wua hr hd ho hv hb).wp λa' w' G' ν' bG=>hK _ _ _ _ _ bG h
  .cases h
 .rename_i t parts ho;split at h
  .rename_i ty fs ps hl cJ;obtain⟨hc,h⟩:=WbY h;split at h
   .rename_i cs hf;refine(Wrj hT hr hd ho hl cJ hf ?_).wp λa' w' G' ν' bG=>hK _ _ _ _ _ bG h;intro f hf;have:=Xah.1 hc f hf;split at this
    .rename_i te bT;exact⟨te,bT,this⟩
    .cases this
   .cases h
  .cases h
 .rename_i t n parts ho;split at h
  .rename_i ty et ps hl cJ;split at h
   .rename_i te hle;split at h
    .rename_i e _;obtain⟨hc,h1⟩:=WbY h;clear h;simp only[Xj,Wh]at hc;obtain⟨⟨⟨hn,he⟩,hp⟩,hsz⟩:=hc;obtain⟨x,ds,d,m,rfl,hJ,hf,bf,h⟩:=Wnu h1;clear h1;subst hn;have bf:=(Wdh _).1 bf;obtain⟨G1,hz⟩:=hr.frz (WhX e x);obtain⟨p1,p2⟩:=WgT hr _ _ cJ;have eb:∃y,parts.toList= [(0,y)]/\AValRel G ν st.nx x (a.eval y):=by
      match iJ:parts.toList,p1 with
      | [q],_=>
       rw[iJ]at p2;obtain⟨q1,q2⟩:=p2 0 _ q rfl rfl;refine⟨q.2,?_,q2⟩;have:q=(0,q.2):=Prod.ext q1.symm rfl;rw[←this]
     obtain⟨y,AY,AZ⟩:=eb;exact(Wm7 hT hz.rel hd ho AY hl hle (hz.val _ _ AZ) hJ hf bf he hp hsz).wp λa' w' G' ν' bG=>hK _ _ _ _ _ bG h
    split at h
    .rename_i xs hf;obtain⟨hc,h⟩:=WbY h;simp only[Xj,Wh]at hc;obtain⟨G1,hz⟩:=hr.frz (WlP ps);obtain⟨p1,p2⟩:=WgT hr _ _ cJ;exact(Wi7 hT hz.rel hd ho hl hle (by simpa [Wlc]using p1) (λj p q hp hq=>by
      simp only[Wlc,Xaq]at hp;obtain⟨y,hy,rfl⟩:=Xz.1 hp;exact⟨(p2 j y q hy hq).1,hz.val _ _ (p2 j y q hy hq).2⟩) hf hc.1.1 hc.1.2 hc.2).wp λa' w' G' ν' bG=>hK _ _ _ _ _ bG h
    .cases h
   .cases h
  .cases h
 .rename_i t n c ho;split at h
  .rename_i ty et n' c' hl hn hc;split at h
   .rename_i te hle;obtain⟨k1,uF⟩:∃k,a.eval n= .int k n':=by
     cases hv:ev st n with
     |none=>simp[hv]at hn
     |some v=>simp only[hv,Xd]at hn;exact WfY _ _ _ (WV hr n _ hv) hn
    obtain⟨k2,iO⟩:∃k,a.eval c= .int k c':=by
     cases hv:ev st c with
     |none=>simp[hv]at hc
     |some v=>simp only[hv,Xd]at hc;exact WfY _ _ _ (WV hr c _ hv) hc
    split at h
    .obtain⟨lu,h⟩:=WbY h;obtain⟨hb,h⟩:=WaQ h;simp only[Xj,Wh]at hb lu;exact(WiY hT hr hd ho hl hle uF iO hb.1.1 hb.1.2 hb.2 lu.1 lu.2).wp λa' w' G' ν' bG=>hK _ _ _ _ _ bG h
    .obtain⟨lu,h⟩:=WbY h;obtain⟨hb,h⟩:=WaQ h;simp only[Xj,Wh]at hb lu;exact(WjJ hT hr hd ho hl hle uF iO hb.1.1 hb.1.2 hb.2 lu.1 lu.2).wp λa' w' G' ν' bG=>hK _ _ _ _ _ bG h
   .cases h
  .cases h
 .rename_i t x y ho;split at h
  .rename_i p v hp hv;split at h
   .rename_i am hs;split at h
    .rename_i j8;have h:k (({env:=st.env,objs:=am.objs,nx:=am.nx}:St).put o.dst (.tup []))=some r:=h;obtain⟨G1,hz⟩:=hr.frz (WfX st.objs p v);have bF:=Wm2 hs;simp only at bF;rw[bF,j8]at h;exact(Wqi hT hz.rel ho j8 (AValRel.mono hz.le (λ_ _=>rfl) (Xn _) _ _ (WV hr x _ hp)) (hz.val _ _ (WV hr y _ hv)) hs).wp λa' w' G' ν' bG=>hK _ _ _ _ _ bG h
    .cases h
   .cases h
  .cases h
 .rename_i t x lo hi ho;split at h
  .rename_i id hx;split at h
   .rename_i ty et l hh hl bm q8;split at h
    .rename_i te hle;split at h
     .obtain⟨hp,h⟩:=WbY h;obtain⟨am,hk,gk⟩:=WsF hT hr hd ho hx hl hle hp bm q8 h;exact gk.wp λa' w' G' ν' bG=>hK _ _ _ _ _ bG hk
     .split at h
      .rename_i h' e xs _ aK;obtain⟨⟨he,hp⟩,h⟩:=WbY h;obtain⟨hb,h⟩:=WaQ h;simp only[Xj,Wh]at hb;exact(Wq6 hT hr hd ho hx hl hle hp he aK bm q8 hb.1 hb.2).wp λa' w' G' ν' bG=>hK _ _ _ _ _ bG h
      .rename_i h' e xs i p _ aK;obtain⟨⟨he,hp,vt⟩,h⟩:=WbY h;obtain⟨hb,h⟩:=WaQ h;simp only[Xj,Wh]at hb;exact(WjU hT hr hd ho hx hl hle hp he aK vt bm q8 hb.1.1 hb.1.2 hb.2).wp λa' w' G' ν' bG=>hK _ _ _ _ _ bG h
      .cases h
    .cases h
   .cases h
  .rename_i hx;exact WnY hT hr hd (by rw[ho];rw[ho]at h;exact h) hK
 .rename_i c ho;split at h
  .rename_i s x t t2 hc ha dH;split at h
   .rename_i sv xv hs hx;obtain⟨am,hk,gk⟩:=Woz hT hr hd ho hc ha dH hs hx h;exact gk.wp λa' w' G' ν' bG=>hK _ _ _ _ _ bG hk
   .cases h
  .rename_i x t hc ha dH;split at h
   .rename_i id lo hi hx;split at h
    .rename_i ty et e xs hl aK;split at h
     .rename_i te hle;obtain⟨⟨he,hp,bo⟩,h⟩:=WbY h;exact(Wqo hT hr hd ho hc ha dH hx hl hle aK he hp bo).wp λa' w' G' ν' bG=>hK _ _ _ _ _ bG h
     .cases h
    .cases h
   .cases h
  .exact WnY hT hr hd h hK
  .rename_i f args _ hc;split at h
   .rename_i g caps xs hf oz;split at h
    .rename_i sg om;exact Wv3 hΓ hr hd ho hc hf oz om h hK
    .cases h
   .cases h
  .cases h
 .exact WnY hT hr hd h hK
end
end Go.Sx
namespace Go.Sx
set_option linter.unusedVariables false
set_option linter.unusedSimpArgs false
section
variable{w0:World}{F:CS}{nt:Slots}{G0 G G':GH}{ν ν':Nat->Nu}{φ φ':Nat->CS}{objs objs':Wal}{nx aq:Nat}{st am:St}{a:Act}{w w':World}{P:Program}{T:Tab}{Γ:Ctx}
theorem Rel.rebind(h:Rel w0 F nt G0 G ν st a w){i:Nat}{x:AVal}{v:Value}(hv:a.tmps[i]?=some v)(hx:AValRel G ν st.nx x v):Rel w0 F nt G0 G ν (st.put (some i) x) a w:=
 ⟨h.defers,h.ntm,h.par,λj y hy=>by
  simp only[St.put]at hy;rw[WK]at hy;split at hy
  .rename_i e;subst e;injection hy with hy;subst hy;exact⟨v,hv,hx⟩
  .exact h.env j y hy,h.h,h.gx⟩
theorem CellsRel.set{cs:List Cell}{vs:List Value}(h:CellsRel G ν nx cs vs){off:Nat}{c:Cell}(hc:∀v,vs[off]?=some v->CellRel G ν nx c v):CellsRel G ν nx (cs.set off c) vs:=by
 refine⟨by simp[h.1],λj d v hd hv=>?_⟩;rw[List.getElem?_set]at hd;split at hd
 .rename_i e;subst e;split at hd
  .rename_i hlt;injection hd with hd;subst hd;exact⟨hc v hv,(h.2 off cs[off] v (Xp hlt) hv).2⟩
  .cases hd
 .exact h.2 j d v hd hv
theorem HRel.mk_box(h:HRel w0 F G ν objs nx w){id:Nat}{cs cs':List Cell}(ho:look objs id=some (.box cs))(hl:cs'.length=cs.length)
  (hc:∀vs,CellsRel G ν nx cs vs->CellsRel G ν nx cs' vs):HRel w0 F G ν ((id,.box cs')::objs) nx w:=by
 obtain⟨φ,h⟩:=h;have aW:Live objs id:=⟨_,ho,by simp⟩;obtain⟨b,vs,h1,h2,h3,h4,h5⟩:WcQ G ν nx w id (φ id) (.box cs):=h.ob _ _ ho;exact⟨_,h.put (ν':=ν) (m:=[]) (λ_ _=>rfl) (Xn _) (h.lt id aW) (WLe.refl _ w) (λb o hh=>.inl ⟨id,.inl rfl,aW,hh⟩) (λ_=>⟨b,vs,h1,by rw[hl];exact h2,h3,hc _ h4,by rw[hl];exact h5⟩)⟩
theorem HRel.empt(h:HRel w0 F G ν objs nx w){id:Nat}{e e':Ty}(ho:look objs id=some (.arr e' []))(hs:e.size=e'.size):HRel w0 F G ν ((id,.arr e [])::objs) nx w:=by
 obtain⟨φ,h⟩:=h;have aW:Live objs id:=⟨_,ho,by simp⟩;have aK:WcQ G ν nx w id (φ id) (.arr e' []):=h.ob _ _ ho;have aK:OwnL w (TyRel G w e') e'.size (ν id) [] (φ id):=aK;refine⟨_,h.put (ν':=ν) (m:=[]) (λ_ _=>rfl) (Xn _) (h.lt id aW) (WLe.refl _ w) (λb o hh=>.inl ⟨id,.inl rfl,aW,hh⟩) (λ_=>?_)⟩;show OwnL w (TyRel G w e) e.size (ν id) [] (φ id);rw[hs];unfold OwnL at*;refine⟨aK.1,aK.2.1,?_⟩;have h3:=aK.2.2;cases hb:(ν id).blk with
 |none=>rfl
 |some b=>
  rw[hb]at h3;obtain⟨a1,a2,a3,cs,ps,a4,a5,a6,a7⟩:=h3;exact⟨a1,a2,a3,cs,ps,by simpa [EncP]using a4,a5,a6,a7⟩
theorem HRel.adopt(h:HRel w0 F G ν objs nx w)(e:Ty):HRel w0 F G (upd ν nx ⟨none,0,0,0,e.size⟩) ((nx,.arr e [])::objs) (nx+1) w:=by
 obtain⟨φ,h⟩:=h;refine⟨_,h.put (m:=[]) (S:=λ_ _=>False) (WfC ν nx _) (Xdq _) (Xbv _) (WLe.refl _ w) (λb o hh=>hh.elim) (λ_=>?_)⟩;show OwnL _ _ _ (upd ν nx ⟨none,0,0,0,e.size⟩ nx) _ _;rw[WbG];exact⟨rfl,rfl,rfl⟩
theorem Wko(e:Ty):CellRel G (upd ν nx ⟨none,0,0,0,e.size⟩) (nx+1) (.own nx) (.slice none 0 0):=
 ⟨Xbv _,by rw[WbG];rfl⟩
theorem HRel.solo(h:HRel w0 F G ν objs nx w){id lo hi:Nat}{e:Ty}{xs:List e.den}(ho:look objs id=some (.arr e xs))(h1:lo<=hi)(h2:hi<=(ν id).len):
  HRel w0 F G (upd ν nx ((ν id).part lo hi)) ((nx,.arr e ((xs.take hi).drop lo))::(id,.dead)::objs) (nx+1) w:=by
 obtain⟨φ,h⟩:=h;have aW:Live objs id:=⟨_,ho,by simp⟩;have hown:OwnL w (TyRel G w e) e.size (ν id) xs (φ id):=h.ob _ _ ho;refine⟨_,h.put (m:=[id]) (S:=φ id) (WfC ν nx _) (Xdq _) (Xbv _) (WLe.refl _ w) (λb o hh=>.inl ⟨id,.inr (by simp),aW,hh⟩) (λ_=>?_)⟩;show OwnL _ _ _ (upd ν nx ((ν id).part lo hi) nx) _ _;rw[WbG];exact Wmz hown h1 h2
theorem Wm1{id lo hi:Nat}:CellRel G (upd ν nx ((ν id).part lo hi)) (nx+1) (.own nx) ((ν id).vhdr lo hi):=
 ⟨Xbv _,by rw[WbG,Wlh]⟩
theorem Woe(h:Rel w0 F nt G0 G ν st a w){p:Nat}(hg:WoQ st p=some am):Rel w0 F nt G0 G ν am a w:=by
 unfold WoQ at hg;split at hg
 .rename_i r _;split at hg
  .rename_i e xs i p' cs bm gT;split at hg
   .rename_i d m hf;split at hg
    .rename_i bI;injection hg with hg;subst hg;simp only[Xj]at bI;obtain⟨hp,bf⟩:=bI;have hp:=Xcl hp;subst hp;have bf:=(Wdh _).1 bf;obtain⟨n1,n2⟩:=Xaj.1 bf;obtain⟨n3,n4⟩:=Xaj.1 n2;obtain⟨φ,hφ⟩:=h.h;have aW:Live st.objs r:=⟨_,bm,by simp⟩;have fj:Live st.objs p:=⟨_,gT,by simp⟩;obtain⟨mq,hole⟩:p<st.nx/\Wh8 w (TyRel G w e) e.size (ν r) (ν p) xs i (φ r):=hφ.ob _ _ bm;obtain⟨b,us,hb,hrow,hmem,bP,fC⟩:WcQ G ν st.nx w p (φ p) (.box cs):=hφ.ob _ _ gT;obtain⟨ns,t1,t2,t3,t4,_⟩:=Wam (G':=G) hφ (λ_ _ _ hh=>hh) e cs us d m [] bP (λi hi=>by simp at hi) n4 hf;have dg:=WE _ _ _ _ t1;rw[←bP.1,dg]at fC;have hne:r≠p:=λe=>n1 (by rw[e];exact Xk ..);refine h.on (λ_ _ _ hh=>hh) (λ_ _=>rfl) (Xn _) ⟨_,hφ.put (ν':=ν) (S:=λb o=>φ r b o\/FromL φ st.objs (p::m) b o) (λ_ _=>rfl) (Xn _) (hφ.lt r aW) (WLe.refl _ w) (λb o hh=>?_) (λ_=>?_)⟩ h.gx
     .rcases hh with hh|⟨j,hj,h1,h2⟩
      .exact .inl ⟨r,.inl rfl,aW,hh⟩
      .exact .inl ⟨j,.inr hj,h1,h2⟩
     .refine WpH hole t1 hb hmem fC t2 t3 ?_ ?_ ?_ (λb o hh=>.inl hh) (λb o hh=>.inr ⟨p,Xk ..,fj,hh⟩) (λb o hh=>.inr (FromL.mono (λi hi=>Xf _ hi) b o hh))
      .exactλb o h1 h2=>hne (hφ.inj r p b o aW fj h1 h2)
      .exactλb o h1 ⟨j,hj,h2,h3⟩=>by
        have:=hφ.inj r j b o aW h2 h1 h3;subst this;exact n1 (Xf _ hj)
      .exactλb o h1 ⟨j,hj,h2,h3⟩=>by
        have:=hφ.inj p j b o fj h2 h1 h3;subst this;exact n3 hj
    .cases hg
   .cases hg
  .cases hg
 .cases hg
theorem WkG(h:Rel w0 F nt G0 G ν st a w){r i:Nat}{e:Ty}{xs:List e.den}(bm:look st.objs r=some (.arr e xs))(hi:i<xs.length)(hg:WnM st r i=some am):
  ∃ν' b,Rel w0 F nt G0 G ν' am a w/\st.nx<am.nx/\(ν r).blk=some b/\(ν' st.nx)=Wcl b ((ν r).off+i*(ν r).esz)/\am.env=st.env:=by
 unfold WnM at hg;rw[bm]at hg;simp only[Option.some.injEq]at hg;subst hg;obtain⟨φ,hφ⟩:=h.h;have aW:Live st.objs r:=⟨_,bm,by simp⟩;have hown:OwnL w (TyRel G w e) e.size (ν r) xs (φ r):=hφ.ob _ _ bm;obtain⟨g1,g2,g3⟩:=hown;have vG:=hφ.lt r aW;cases hb:(ν r).blk with
 |none=>simp only[hb]at g3;rw[g3]at hi;simp at hi
 |some b=>
  simp only[hb]at g3;obtain⟨g4,g5,g6,cs,ps,g7,g8,g9,uy⟩:=g3;obtain⟨c1,c,c2,p1,pc,p2,k1,k2,k3,k4,k5⟩:=WoP g7 e.dflt hi;have l1:=Wba (λx c q hx=>WE e x c q hx) _ _ _ k3;rw[Xay,Xby (by omega)]at l1;have lc:=WE _ _ _ _ k4;have lo:=Wac _ _ _ _ k4;have e1:(i+1)*e.size=i*e.size+e.size:=Xcb i e.size;have e2:((ν r).cap-(i+1))*e.size+(i+1)*e.size=(ν r).cap*e.size:=by rw[←Xcz];congr 1;omega
  have si:=WaS e (xs.getD i e.dflt) (st.nx+1);have dg:=Wck e (xs.getD i e.dflt) (st.nx+1);rw[k1]at g8;have m1:Mem w b (ν r).off c1:=g8.left;have m2:Mem w b ((ν r).off+i*e.size) c:=(g8.right l1).left;have m3:Mem w b ((ν r).off+(i+1)*e.size) c2:=by
   have:=(g8.right l1).right lc;rw[Xba,←e1]at this;exact this
  obtain⟨q1,q2⟩:=Xaa.1 g9;have ib:=uy _ (Xk ..);have nv:∀p∈p1++(pc++p2),CS.le p.fp (φ r):=λp hp=>uy _ (Xf _ (Xao (by rw[k2];exact hp)));have q9:∀p∈p1++(pc++p2),CS.disj (rng b (ν r).off ((ν r).cap*e.size)) p.fp:=λp hp=>q1 _ (Xao (by rw[k2];exact hp));rw[k2,Xu,Xu]at q2;obtain⟨s1,s2,s3⟩:=Xai.1 q2;obtain⟨s4,s5,s6⟩:=Xai.1 s2;have rA:CS.le (rng b (ν r).off (i*e.size)) (rng b (ν r).off ((ν r).cap*e.size)):=λb o ⟨x0,x1,x2⟩=>⟨x0,by omega,by omega⟩;have rB:CS.le (rng b ((ν r).off+i*e.size) e.size) (rng b (ν r).off ((ν r).cap*e.size)):=λb o ⟨x0,x1,x2⟩=>⟨x0,by omega,by omega⟩;have rC:CS.le (rng b ((ν r).off+(i+1)*e.size) (((ν r).cap-(i+1))*e.size)) (rng b (ν r).off ((ν r).cap*e.size)):=λb o ⟨x0,x1,x2⟩=>⟨x0,by omega,by omega⟩;obtain⟨SR,hSR⟩:∃SR:CS,SR= λb' o=>rng b (ν r).off (i*e.size) b' o\/rng b ((ν r).off+(i+1)*e.size) (((ν r).cap-(i+1))*e.size) b' o\/∃p∈p1++p2,p.fp b' o:=⟨_,rfl⟩;have hSRφ:CS.le SR (φ r):=λb o hh=>by
   rw[hSR]at hh;rcases hh with hh|hh|⟨p,hp,hh⟩
   .exact ib b o (rA b o hh)
   .exact ib b o (rC b o hh)
   .refine nv p ?_ b o hh;rcases Xm.1 hp with hp|hp
    .exact Xl _ hp
    .exact Xh _ (Xh _ hp)
  obtain⟨ν',hν'⟩:∃ν':Nat->Nu,ν'= λj=>if j<st.nx then ν j else if j=st.nx then Wcl b ((ν r).off+i*e.size)else((nus pc)[j-(st.nx+1)]?).getD ⟨none,0,0,0,0⟩:=⟨_,rfl⟩;obtain⟨φ',hφ'⟩:∃φ':Nat->CS,φ'= λj=>if j=r then SR else if j<st.nx then φ j else if j=st.nx then rng b ((ν r).off+i*e.size) e.size else((fps pc)[j-(st.nx+1)]?).getD (λ_ _=>False):=⟨_,rfl⟩;have hνold:Wsv st.nx ν ν':=λj hj=>by rw[hν'];simp[hj]
  have hνp:ν' st.nx=Wcl b ((ν r).off+i*e.size):=by rw[hν'];simp
  have hφr:φ' r=SR:=by rw[hφ'];simp
  have hφp:φ' st.nx=rng b ((ν r).off+i*e.size) e.size:=by rw[hφ'];simp;omega
  have hφold:∀j,j<st.nx->j≠r->φ' j=φ j:=λj hj hn=>by rw[hφ'];simp[hj,hn]
  have hAt:At ν' φ' (st.nx+1) pc:=λj q hj=>by
   have x1:(nus pc)[j]?=some q.nu:=by unfold nus;rw[Xaq,hj];rfl
   have x2:(fps pc)[j]?=some q.fp:=by unfold fps;rw[Xaq,hj];rfl
   rw[hν',hφ'];constructor
   .show(if st.nx+1+j<st.nx then _ else if st.nx+1+j=st.nx then _ else _)=_;rw[Wa (by omega),Wa (by omega),Xce,x1];rfl
   .show(if st.nx+1+j=r then _ else if st.nx+1+j<st.nx then _ else if st.nx+1+j=st.nx then _ else _)=_;rw[Wa (by omega),Wa (by omega),Wa (by omega),Xce,x2];rfl
  obtain⟨uc,uo⟩:=Way (ν:=ν') (φ:=φ') e (xs.getD i e.dflt) (st.nx+1) c pc k4 hAt;have iS:∀id ob,look ((r,Ob.hole e xs i st.nx)::(st.nx,Ob.box (unfold e (xs.getD i e.dflt) (st.nx+1)).1)::((unfold e (xs.getD i e.dflt) (st.nx+1)).2.1++st.objs)) id=some ob->ob≠ .dead->
    (id=r/\ob= .hole e xs i st.nx)\/(id=st.nx/\ob= .box (unfold e (xs.getD i e.dflt) (st.nx+1)).1)\/(st.nx+1<=id/\id<st.nx+1+e.owns/\WqQ G ν' φ' w id ob)\/(id≠r/\id<st.nx/\look st.objs id=some ob):=λid ob hl hd=>by
   rw[WK]at hl;split at hl
   .rename_i x;injection hl with hl;exact .inl ⟨x.symm,hl.symm⟩
   .rename_i uz;rw[WK]at hl;split at hl
    .rename_i x;injection hl with hl;exact .inr (.inl ⟨x.symm,hl.symm⟩)
    .rcases WS hl with hl|hl
     .obtain⟨x1,x2,x3⟩:=uo id ob hl;exact .inr (.inr (.inl ⟨x1,x2,x3⟩))
     .exact .inr (.inr (.inr ⟨λx=>uz x.symm,hφ.lt id ⟨ob,hl,hd⟩,hl⟩))
  have gl:∀id b' o,Live ((r,Ob.hole e xs i st.nx)::(st.nx,Ob.box (unfold e (xs.getD i e.dflt) (st.nx+1)).1)::((unfold e (xs.getD i e.dflt) (st.nx+1)).2.1++st.objs)) id->φ' id b' o->
    (id=r/\SR b' o)\/(id=st.nx/\rng b ((ν r).off+i*e.size) e.size b' o)\/(∃(j:Nat) (q:Pc),id=st.nx+1+j/\pc[j]?=some q/\q.fp b' o)\/(id≠r/\id<st.nx/\Live st.objs id/\φ id b' o):=λid b' o ⟨ob,hl,hd⟩ hp=>by
   rcases iS id ob hl hd with⟨rfl,_⟩|⟨rfl,_⟩|⟨x1,x2,_⟩|⟨x1,x2,x3⟩
   .rw[hφr]at hp;exact .inl ⟨rfl,hp⟩
   .rw[hφp]at hp;exact .inr (.inl ⟨rfl,hp⟩)
   .right;right;left;have hlt:id-(st.nx+1)<pc.length:=by omega
    refine⟨id-(st.nx+1),pc[id-(st.nx+1)],by omega,Xp hlt,?_⟩;have:=(hAt (id-(st.nx+1)) _ (Xp hlt)).2;rw[show st.nx+1+(id-(st.nx+1))=id by omega]at this;rw[this]at hp;exact hp
   .rw[hφold id x2 x1]at hp;exact .inr (.inr (.inr ⟨x1,x2,⟨ob,x3,hd⟩,hp⟩))
  have hq:∀(j:Nat) (q:Pc),pc[j]?=some q->q∈p1++(pc++p2):=λj q hj=>Xh _ (Xl _ (Xat hj));have eP:∀id b' o,(id=r/\SR b' o)\/(id=st.nx/\rng b ((ν r).off+i*e.size) e.size b' o)\/(∃(j:Nat) (q:Pc),id=st.nx+1+j/\pc[j]?=some q/\q.fp b' o)->φ r b' o:=λid b' o hh=>by
   rcases hh with⟨_,hh⟩|⟨_,hh⟩|⟨j,q,_,hj,hh⟩
   .exact hSRφ b' o hh
   .exact ib b' o (rB b' o hh)
   .exact nv q (hq j q hj) b' o hh
  have hH:HR w0 F G ν' φ' ((r,Ob.hole e xs i st.nx)::(st.nx,Ob.box (unfold e (xs.getD i e.dflt) (st.nx+1)).1)::((unfold e (xs.getD i e.dflt) (st.nx+1)).2.1++st.objs)) (st.nx+1+e.owns) w:=by
   refine hφ.step (WLe.refl _ w) (λid ob hl hd=>?_) (λid ⟨ob,hl,hd⟩=>?_) (λid b' o lj hp=>?_) (λid b' o lj hp=>?_) (λid cb b' o hl cM hp eZ=>?_)
   .rcases iS id ob hl hd with⟨rfl,rfl⟩|⟨rfl,rfl⟩|⟨x1,x2,e',uG,rfl,x3⟩|⟨x1,x2,x3⟩
    .refine⟨by omega,?_⟩;rw[hφr,hνold id vG,hνp];refine⟨g1,g2,hi,b,hb,rfl,rfl,g4,g5,g6,c1,c2,p1,p2,k3,k5,m1,m3,?_,λs hs b' o hh=>?_⟩
     .refine Xaa.2 ⟨λs hs=>?_,Xaa.2 ⟨λs hs=>?_,?_⟩⟩
      .rcases Xq.1 hs with rfl|hs
       .exact WuO (by omega)
       .obtain⟨p,hp,rfl⟩:=Xx.1 hs;refine(q9 p ?_).mono rA (λ_ _ hh=>hh);rcases Xm.1 hp with hp|hp
        .exact Xl _ hp
        .exact Xh _ (Xh _ hp)
      .obtain⟨p,hp,rfl⟩:=Xx.1 hs;refine(q9 p ?_).mono rC (λ_ _ hh=>hh);rcases Xm.1 hp with hp|hp
       .exact Xl _ hp
       .exact Xh _ (Xh _ hp)
      .rw[Xu];exact Xai.2 ⟨s1,s5,λs hs t ht=>s3 s hs t (Xh _ ht)⟩
     .rw[hSR];rcases Xq.1 hs with rfl|hs
      .exact .inl hh
      .rcases Xq.1 hs with rfl|hs
       .exact .inr (.inl hh)
       .obtain⟨p,hp,rfl⟩:=Xx.1 hs;exact .inr (.inr ⟨p,hp,hh⟩)
    .refine⟨b,c,by rw[hνp];rfl,?_,by rw[hνp];exact m2,uc _ (Xn _),?_⟩
     .rw[hνp,dg];obtain⟨row,TT,y1,y2⟩:=g6;exact⟨row,TT,y1,by show(ν r).off+i*e.size+e.size<=row.size;omega⟩
     .rw[hνp,dg,hφp];exactλ_ _ hh=>hh
    .exact x3
    .rw[hφold id x2 x1];exact WdN (λ_ _ _ hh=>hh) (Same.refl _ w) (λ_ _ hh=>hh) hνold (by omega) x2 ob (hφ.ob id ob x3)
   .rcases iS id ob hl hd with⟨rfl,_⟩|⟨rfl,_⟩|⟨_,x2,_⟩|⟨_,x2,_⟩<;>omega
   .rcases gl id b' o lj hp with hh|hh|hh|⟨_,_,x3,x4⟩
    .exact .inl ⟨r,aW,eP id b' o (.inl hh)⟩
    .exact .inl ⟨r,aW,eP id b' o (.inr (.inl hh))⟩
    .exact .inl ⟨r,aW,eP id b' o (.inr (.inr hh))⟩
    .exact .inl ⟨id,x3,x4⟩
   .rcases gl id b' o lj hp with hh|hh|hh|⟨_,_,x3,x4⟩
    .exact hφ.bl r b' o aW (eP id b' o (.inl hh))
    .exact hφ.bl r b' o aW (eP id b' o (.inr (.inl hh)))
    .exact hφ.bl r b' o aW (eP id b' o (.inr (.inr hh)))
    .exact hφ.bl id b' o x3 x4
   .have out:∀cb,cb≠r->Live st.objs cb->φ cb b' o->φ r b' o->False:=λcb y1 y2 y3 y4=>y1 (hφ.inj cb r b' o y2 aW y3 y4);have dSP:SR b' o->∀s,(s=rng b ((ν r).off+i*e.size) e.size\/∃q∈pc,s=q.fp)->s b' o->False:=λy1 s y2 y3=>by
     rw[hSR]at y1;rcases y2 with rfl|⟨q,mb,rfl⟩
     .rcases y1 with y1|y1|⟨p,hp,y1⟩
      .obtain⟨z0,z1,z2⟩:=y1;obtain⟨z3,z4,z5⟩:=y3;omega
      .obtain⟨z0,z1,z2⟩:=y1;obtain⟨z3,z4,z5⟩:=y3;omega
      .refine q9 p ?_ b' o (rB b' o y3) y1;rcases Xm.1 hp with hp|hp
       .exact Xl _ hp
       .exact Xh _ (Xh _ hp)
     .have sj:q∈p1++(pc++p2):=Xh _ (Xl _ mb);rcases y1 with y1|y1|⟨p,hp,y1⟩
      .exact q9 q sj b' o (rA b' o y1) y3
      .exact q9 q sj b' o (rC b' o y1) y3
      .rcases Xm.1 hp with hp|hp
       .exact s3 _ (Xao hp) _ (Xl _ (Xao mb)) b' o y1 y3
       .exact s6 _ (Xao mb) _ (Xao hp) b' o y3 y1
    have dPQ:∀(j:Nat) (q:Pc),pc[j]?=some q->rng b ((ν r).off+i*e.size) e.size b' o->q.fp b' o->False:=λj q hj y1 y2=>q9 q (hq j q hj) b' o (rB b' o y1) y2;rcases gl id b' o hl hp with hh|hh|hh|⟨x1,x2,x3,x4⟩<;>rcases gl cb b' o cM eZ with fS|fS|fS|⟨vH,x2',uH,uI⟩
    .rw[hh.1,fS.1]
    .exact(dSP hh.2 _ (.inl rfl) fS.2).elim
    .obtain⟨j,q,_,hj,y⟩:=fS;exact(dSP hh.2 _ (.inr ⟨q,Xat hj,rfl⟩) y).elim
    .exact(out cb vH uH uI (eP id b' o (.inl hh))).elim
    .exact(dSP fS.2 _ (.inl rfl) hh.2).elim
    .rw[hh.1,fS.1]
    .obtain⟨j,q,_,hj,y⟩:=fS;exact(dPQ j q hj hh.2 y).elim
    .exact(out cb vH uH uI (eP id b' o (.inr (.inl hh)))).elim
    .obtain⟨j,q,_,hj,y⟩:=hh;exact(dSP fS.2 _ (.inr ⟨q,Xat hj,rfl⟩) y).elim
    .obtain⟨j,q,_,hj,y⟩:=hh;exact(dPQ j q hj fS.2 y).elim
    .obtain⟨j,q,bO,hj,y⟩:=hh;obtain⟨j',q',vJ,hj',y'⟩:=fS;have x1:(fps pc)[j]?=some q.fp:=by unfold fps;rw[Xaq,hj];rfl
     have x2:(fps pc)[j']?=some q'.fp:=by unfold fps;rw[Xaq,hj'];rfl
     have:=WkP (l:=fps pc) s4 x1 x2 y y';rw[bO,vJ,this]
    .exact(out cb vH uH uI (eP id b' o (.inr (.inr hh)))).elim
    .exact(out id x1 x3 x4 (eP cb b' o (.inl fS))).elim
    .exact(out id x1 x3 x4 (eP cb b' o (.inr (.inl fS)))).elim
    .exact(out id x1 x3 x4 (eP cb b' o (.inr (.inr fS)))).elim
    .exact hφ.inj id cb b' o x3 uH x4 uI
  refine⟨ν',b,?_,?_,rfl,by rw[hνp,g2],rfl⟩
  .have:=h.on (λ_ _ _ hh=>hh) hνold (by omega) ⟨φ',hH⟩ h.gx;rw[si];exact this
  .show st.nx<(unfold e (xs.getD i e.dflt) (st.nx+1)).2.2;rw[si];omega
end
end Go.Sx
namespace Go.Sx
set_option linter.unusedVariables false
set_option linter.unusedSimpArgs false
theorem Wdu:∀(l:List Nat) (i j:Nat),WtQ i l=some j->l[j]?=some i
 | [],i,j,h=>by cases h
 |k::l,i,j,h=>by
  simp only[WtQ]at h;split at h
  .rename_i hb;injection h with h;subst h;have:i=k:=by simpa using hb
   rw[this];rfl
  .cases hp:WtQ i l with
   |none=>simp[hp]at h
   |some n=>
    simp[hp]at h;subst h;exact Wdu l i n hp
theorem Wkj{m:List Nat}:∀(l r:List Nat),Wm3 m l=some r->r.length=l.length/\∀(q j:Nat),r[q]?=some j->∃i,l[q]?=some i/\m[j]?=some i
 | [],r,h=>by simp[Wm3]at h;subst h;exact⟨rfl,λq j hq=>by simp at hq⟩
 |i::l,r,h=>by
  simp only[Wm3]at h;split at h
  .rename_i j r' h1 h2;injection h with h;subst h;obtain⟨h3,h4⟩:=Wkj l r' h2;refine⟨by simp[h3],λq j' hq=>?_⟩;cases q with
   |zero=>simp at hq;subst hq;exact⟨i,rfl,Wdu m i j h1⟩
   |succ q=>exact h4 q j' (by simpa using hq)
  .cases h
theorem Wcg:∀(n:Nat) (todo acc:List Nat) (objs:Wal),acc.Nodup->(Wk8 n todo acc objs).Nodup
 |0,_,_,_,h=>h
 |n+1,[],acc,objs,h=>h
 |n+1,i::l,acc,objs,h=>by
  simp only[Wk8];split
  .exact Wcg n l acc objs h
  .rename_i hi;have A0:i∉acc:=λhm=>hi ((WaZ i acc).2 hm);have h2:(acc++ [i]).Nodup:=by
    rw[Xak];refine⟨h,by simp,λx hx y hy=>?_⟩;simp at hy;subst hy
    exactλe=>A0 (e▸hx)
   split
   .exact Wcg n _ _ objs h2
   .exact Wcg n _ _ objs h2
   .exact Wcg n _ _ objs h2
   .exact Wcg n _ _ objs h
theorem WhY{m:List Nat}{objs:Wal}:∀(l:List Nat) (j0:Nat) (j:Nat) (ob:Ob),look (Wd0 m objs j0 l) j=some ob->∃i c9,j0<=j/\l[j-j0]?=some i/\look objs i=some c9/\ob=WtH m c9
 | [],j0,j,ob,h=>by cases h
 |i::l,j0,j,ob,h=>by
  simp only[Wd0]at h;have step:look (Wd0 m objs (j0+1) l) j=some ob->∃i' c9,j0<=j/\(i::l)[j-j0]?=some i'/\look objs i'=some c9/\ob=WtH m c9:=λh=>by
   obtain⟨i',c9,h1,h2,h3,h4⟩:=WhY l (j0+1) j ob h;refine⟨i',c9,by omega,?_,h3,h4⟩;rw[show j-j0=(j-(j0+1))+1 by omega];simpa using h2
  split at h
  .rename_i c9 ho;rw[WK]at h;split at h
   .rename_i e;subst e;injection h with h;exact⟨i,c9,Xn _,by simp,ho,h.symm⟩
   .exact step h
  .exact step h
theorem Wiy{env:List (Nat×AVal)}{f:AVal->AVal}:∀(l:List Nat) (i:Nat) (x:AVal),look ((Wgc env l).map λp=>(p.1,f p.2)) i=some x->∃y,look env i=some y/\x=f y
 | [],i,x,h=>by cases h
 |j::l,i,x,h=>by
  simp only[Wgc]at h;split at h
  .rename_i y hy;simp only[Xag]at h;rw[WK]at h;split at h
   .rename_i e;subst e;injection h with h;exact⟨y,hy,h.symm⟩
   .exact Wiy l i x h
  .exact Wiy l i x h
section
variable{w0:World}{F:CS}{nt:Slots}{G0 G G':GH}{ν ν':Nat->Nu}{objs objs':Wal}{nx aq:Nat}{st am:St}{a:Act}{w w':World}{P:Program}{T:Tab}{Γ:Ctx}
structure Ren(m:List Nat)(ν ν':Nat->Nu)(aq:Nat):Prop where
 nx:∀(i j:Nat),m[j]?=some i->j<aq
 nu:∀(i j:Nat),m[j]?=some i->ν' j=ν i
theorem CellRel.ren{m:List Nat}(hm:Ren m ν ν' aq):∀(c:Cell) (v:Value),CellRel G ν nx c v->CellRel G ν' aq (Wdi m c) v
 | .val t d,v,h=>h
 | .nils,v,h=>h
 | .rptr t d off,v,h=>h
 | .junk,v,h=>h
 | .own id,v,h=>by
  simp only[Wdi];split
  .rename_i j hj;have hj:=Wdu _ _ _ hj;exact⟨hm.nx _ _ hj,by rw[hm.nu _ _ hj];exact h.2⟩
  .trivial
 | .vw id lo hi,v,h=>by
  simp only[Wdi];split
  .rename_i j hj;have hj:=Wdu _ _ _ hj;exact⟨hm.nx _ _ hj,by rw[hm.nu _ _ hj];exact h.2⟩
  .trivial
 | .aptr id,v,h=>by
  simp only[Wdi];split
  .rename_i j hj;have hj:=Wdu _ _ _ hj;exact⟨hm.nx _ _ hj,by rw[hm.nu _ _ hj];exact h.2⟩
  .trivial
 | .ptr id off,v,h=>by
  simp only[Wdi];split
  .rename_i j hj;have hj:=Wdu _ _ _ hj;exact⟨hm.nx _ _ hj,by rw[hm.nu _ _ hj];exact h.2⟩
  .trivial
 | .eptr id i off,v,h=>by
  simp only[Wdi];split
  .rename_i j hj;have hj:=Wdu _ _ _ hj;exact⟨hm.nx _ _ hj,by rw[hm.nu _ _ hj];exact h.2⟩
  .trivial
 | .clos f caps,v,h=>by
  simp only[Wdi];split
  .rename_i js hj;obtain⟨h1,h2⟩:=Wkj _ _ hj;obtain⟨vs,h3,h4,h5⟩:=h;refine⟨vs,h3,h4.trans h1.symm,λq id u hq hu=>?_⟩;obtain⟨i,h6,h7⟩:=h2 q id hq;obtain⟨h8,h9,ci⟩:=h5 q i u h6 hu;exact⟨hm.nx _ _ h7,h9,by rw[hm.nu _ _ h7];exact ci⟩
  .trivial
theorem CellsRel.ren{m:List Nat}(hm:Ren m ν ν' aq){cs:List Cell}{vs:List Value}(h:CellsRel G ν nx cs vs):CellsRel G ν' aq (cs.map (Wdi m)) vs:=by
 refine⟨by simp[h.1],λj c v hc hv=>?_⟩;simp only[Xaq]at hc;cases hd:cs[j]? with
 |none=>simp[hd]at hc
 |some d=>
  simp[hd]at hc;subst hc;obtain⟨h1,h2⟩:=h.2 j d v hd hv;exact⟨h1.ren hm,h2⟩
theorem AvRel.ren{m:List Nat}(hm:Ren m ν ν' aq):∀(x:AV) (v:Value),AvRel G ν nx x v->AvRel G ν' aq (WvW m x) v
 | .one c,v,h=>⟨h.1.ren hm,h.2⟩
 | .agg cs,v,⟨vs,h1,h2⟩=>⟨vs,h1,h2.ren hm⟩
theorem AValRel.ren{m:List Nat}(hm:Ren m ν ν' aq):∀(x:AVal) (v:Value),AValRel G ν nx x v->AValRel G ν' aq (WoK m x) v
 | .s x,v,h=>AvRel.ren hm x v h
 | .tup xs,v,⟨vs,h1,h2,h3⟩=>⟨vs,h1,by simp[h2],λj x u hx hu=>by
  simp only[Xaq]at hx;cases hd:xs[j]? with
  |none=>simp[hd]at hx
  |some d=>
   simp[hd]at hx;subst hx;exact AvRel.ren hm d u (h3 j d u hd hu)⟩
theorem Ws5(slots:List Nat)(h:Rel w0 F nt G0 G ν st a w):∃ν',Rel w0 F nt G0 G ν' (canon slots st) a w:=by
 obtain⟨m,hm⟩:∃m,m=Wk8 400 ((Wgc st.env slots).flatMap λp=>Wbc p.2) [] st.objs:=⟨_,rfl⟩;have bf:m.Nodup:=by rw[hm];exact Wcg _ _ _ _ (by simp)
 have oC:canon slots st={env:=(Wgc st.env slots).map λp=>(p.1,WoK m p.2),objs:=Wd0 m st.objs 0 m,nx:=m.length}:=by rw[hm];rfl
 obtain⟨ν',hν'⟩:∃ν':Nat->Nu,ν'= λj=>ν ((m[j]?).getD 0):=⟨_,rfl⟩;have ma:∀(i j:Nat),m[j]?=some i->ν' j=ν i:=λi j hj=>by rw[hν'];simp[hj]
 have sm:∀(j:Nat) (ob:Ob),look (Wd0 m st.objs 0 m) j=some ob->∃i c9,m[j]?=some i/\look st.objs i=some c9/\ob=WtH m c9:=λj ob ho=>by
  obtain⟨i,c9,_,h2,h3,h4⟩:=WhY _ _ _ _ ho;exact⟨i,c9,by simpa using h2,h3,h4⟩
 have so:Ren m ν ν' m.length:={
  nx:=λi j hj=>(Xae.1 hj).1
  nu:=ma}
 have eE:∀j,Live (Wd0 m st.objs 0 m) j->∃i,m[j]?=some i/\Live st.objs i:=λj ⟨ob,ho,hd⟩=>by
  obtain⟨i,c9,h1,h2,h3⟩:=sm j ob ho;refine⟨i,h1,c9,h2,λii=>hd ?_⟩;rw[h3,ii];rfl
 rw[oC];refine⟨ν',h.defers,h.ntm,h.par,λi x hx=>?_,?_,h.gx⟩
 .obtain⟨y,h1,rfl⟩:=Wiy _ _ _ hx;obtain⟨v,h2,h3⟩:=h.env i y h1;exact⟨v,h2,AValRel.ren so y v h3⟩
 .obtain⟨φ,hφ⟩:=h.h;refine⟨λj=>φ ((m[j]?).getD 0),?_⟩;have nC:∀(i j:Nat),m[j]?=some i->φ ((m[j]?).getD 0)=φ i:=λi j hj=>by simp[hj]
  exact{
   g:=hφ.g
   ob:=λj ob ho=>by
    obtain⟨i,c9,h1,h2,rfl⟩:=sm j ob ho;have:=hφ.ob i c9 h2;cases c9 with
    |dead=>trivial
    |arr e xs=>
     show OwnL w (TyRel G w e) e.size (ν' j) xs (φ ((m[j]?).getD 0));rw[ma i j h1,nC i j h1];exact this
    |hole e xs k p=>
     simp only[WtH];split
     .rename_i q hq;have hq:=Wdu _ _ _ hq;obtain⟨g1,g2⟩:=this;show q<m.length/\Wh8 w (TyRel G w e) e.size (ν' j) (ν' q) xs k (φ ((m[j]?).getD 0));rw[ma i j h1,nC i j h1,ma p q hq];exact⟨(Xae.1 hq).1,g2⟩
     .trivial
    |box cs=>
     obtain⟨b,vs,h4,h5,h6,h7,h8⟩:=this;refine⟨b,vs,by rw[ma i j h1];exact h4,?_,by rw[ma i j h1];exact h6,h7.ren so,?_⟩
     .rw[ma i j h1,Xad];exact h5
     .rw[ma i j h1,nC i j h1,Xad];exact h8
   gf:=λj b o hj hp=>by
    obtain⟨i,h1,h2⟩:=eE j hj;rw[nC i j h1]at hp;exact hφ.gf i b o h2 hp
   inj:=λj j' b o hj hj' hp eZ=>by
    obtain⟨i,h1,h2⟩:=eE j hj;obtain⟨i',iG,kx⟩:=eE j' hj';rw[nC i j h1]at hp;rw[nC i' j' iG]at eZ;have:=hφ.inj i i' b o h2 kx hp eZ;subst this;have hlt:=(Xae.1 h1).1;exact(List.getElem?_inj hlt bf).1 (h1.trans iG.symm)
   own:=λj b o hj hp=>by
    obtain⟨i,h1,h2⟩:=eE j hj;rw[nC i j h1]at hp;exact hφ.own i b o h2 hp
   lt:=λj hj=>by
    obtain⟨i,h1,h2⟩:=eE j hj;exact(Xae.1 h1).1
   bl:=λj b o hj hp=>by
    obtain⟨i,h1,h2⟩:=eE j hj;rw[nC i j h1]at hp;exact hφ.bl i b o h2 hp
   le:=hφ.le}
theorem WkK(h:Rel w0 F nt G0 G ν st a w){r:Nat}{ix:Option Nat}(hg:WpD st r ix=some (true,am)):∃ν',Rel w0 F nt G0 G ν' am a w:=by
 unfold WpD at hg;split at hg
 .rename_i c i mc;obtain⟨s,hs,hg⟩:=Xz.1 hg;simp only[Prod.mk.injEq]at hg;obtain⟨rfl,rfl⟩:=hg;have hlt:∃(e:Ty) (xs:List e.den),look st.objs r=some (.arr e xs)/\i<xs.length:=by
   unfold Wvj at mc;split at mc
   .split at mc
    .rename_i e xs ho;simp only[Option.some.injEq,Prod.mk.injEq]at mc;obtain⟨h1,rfl⟩:=mc;obtain⟨h2,h3⟩:=WdW h1;exact⟨e,xs,ho,by omega⟩
    .cases mc
   .split at mc
    .rename_i e xs n ho hn;simp only[Option.some.injEq,Prod.mk.injEq]at mc;obtain⟨h1,rfl⟩:=mc;obtain⟨h2,h3⟩:=WdW h1;exact⟨e,xs,ho,by omega⟩
    .cases mc
  obtain⟨e,xs,ho,hlt⟩:=hlt;obtain⟨ν',b,h1,_⟩:=WkG h ho hlt hs;exact⟨ν',h1⟩
 .cases hg
theorem Wnv{g:Ghost}(h:Rel w0 F nt G0 G ν st a w)(hg:WfW g st=some (true,am)):∃G' ν',Rel w0 F nt G0 G' ν' am a w:=by
 cases g with
 |canon slots=>
  simp only[WfW]at hg;injection hg with hg;injection hg with _ hg;subst hg;obtain⟨ν',h'⟩:=Ws5 slots h;exact⟨G,ν',h'⟩
 |adopt slot e=>
  simp only[WfW]at hg;split at hg
  .rename_i hs;injection hg with hg;injection hg with _ hg;subst hg;obtain⟨v,hv,hr⟩:=h.env _ _ hs;have iy:v= .slice none 0 0:=hr.1;subst iy;have h2:=h.on (λ_ _ _ hh=>hh) (WfC ν st.nx _) (Xdq _) (h.h.adopt e) h.gx;exact⟨G,_,h2.rebind hv ⟨Wko e,rfl⟩⟩
  .injection hg with hg;injection hg with _ hg;subst hg;exact⟨G,ν,h⟩
  .cases hg
 |freeze slot=>
  simp only[WfW]at hg;split at hg
  .rename_i id hs;split at hg
   .rename_i e xs ho;injection hg with hg;injection hg with _ hg;subst hg;obtain⟨G1,h1,h2,h3,h4⟩:=h.h.freezeL h.gx [id];obtain⟨v,hv,hr⟩:=h.env _ _ hs;have iy:v=(ν id).hdr:=hr.1.2;have h5:=h.on h1 (λ_ _=>rfl) (Xn _) h2 h3;exact⟨G1,ν,h5.rebind hv ⟨⟨v,rfl,iy▸h4 id (by simp) e xs ho⟩,hr.2⟩⟩
   .cases hg
  .cases hg
 |adoptC slot off e=>
  simp only[WfW]at hg;split at hg
  .rename_i id hs;split at hg
   .rename_i cs ho;split at hg
    .rename_i hc;injection hg with hg;injection hg with _ hg;subst hg;have hne:st.nx≠id:=λe=>by
      obtain⟨φ,hφ⟩:=h.h;have:=hφ.lt id ⟨_,ho,by simp⟩;omega
     have h2:=h.h.adopt e;have mz:look ((st.nx,Ob.arr e [])::st.objs) id=some (.box cs):=by rw[WK,Wa hne];exact ho
     have h3:=h2.mk_box mz (cs':=cs.set off (.own st.nx)) (by simp) (λvs dK=>dK.set λv hv=>by
      have:v= .slice none 0 0:=(dK.2 off _ v hc hv).1;subst this;exact Wko e)
     exact⟨G,_,h.on (λ_ _ _ hh=>hh) (WfC ν st.nx _) (Xdq _) h3 h.gx⟩
    .injection hg with hg;injection hg with _ hg;subst hg;exact⟨G,ν,h⟩
    .cases hg
   .cases hg
  .cases hg
 |freezeC slot off=>
  simp only[WfW]at hg;split at hg
  .rename_i id hs;split at hg
   .rename_i cs ho;split at hg
    .rename_i j hc;split at hg
     .rename_i e xs kA;injection hg with hg;injection hg with _ hg;subst hg;obtain⟨G1,h1,h2,h3,h4⟩:=h.h.freezeL h.gx [j];have hne:j≠id:=λe=>by subst e;rw[ho]at kA;cases kA
      have mz:look ((j,Ob.dead)::st.objs) id=some (.box cs):=by rw[WK,Wa hne];exact ho
      have h5:HRel w0 F G1 ν ((id,.box (cs.set off (.val (.slice e.ro) (WcV e xs))))::(j,.dead)::st.objs) st.nx w:=by
       refine HRel.mk_box h2 mz (by simp) (λvs dK=>dK.set λv hv=>?_);have iy:v=(ν j).hdr:=(dK.2 off _ v hc hv).1.2;exact⟨v,rfl,iy▸h4 j (by simp) e xs kA⟩
      exact⟨G1,ν,h.on h1 (λ_ _=>rfl) (Xn _) h5 h3⟩
     .cases hg
    .injection hg with hg;injection hg with _ hg;subst hg;exact⟨G,ν,h⟩
    .injection hg with hg;injection hg with _ hg;subst hg;exact⟨G,ν,h⟩
    .cases hg
   .cases hg
  .cases hg
 |nest d e=>injection hg with hg;injection hg with _ hg;subst hg;exact⟨G,ν,h⟩
 |view d=>injection hg with hg;injection hg with _ hg;subst hg;exact⟨G,ν,h⟩
 |opn d=>injection hg with hg;injection hg with _ hg;subst hg;exact⟨G,ν,h⟩
 |empt slot e=>
  simp only[WfW]at hg;split at hg
  .split at hg
   .rename_i e' ho;split at hg
    .rename_i hc;injection hg with hg;injection hg with _ hg;subst hg;exact⟨G,ν,h.on (λ_ _ _ hh=>hh) (λ_ _=>rfl) (Xn _) (h.h.empt ho hc.1) h.gx⟩
    .cases hg
   .cases hg
  .cases hg
 |unfE slot=>
  simp only[WfW]at hg;split at hg
  .rename_i r i hs;obtain⟨s,dt,hg⟩:=Xz.1 hg;injection hg with _ hg;subst hg;obtain⟨v,hv,hr⟩:=h.env _ _ hs;have ic:∃(e:Ty) (xs:List e.den),look st.objs r=some (.arr e xs):=by
    unfold WnM at dt;split at dt
    .rename_i e xs ho;exact⟨e,xs,ho⟩
    .cases dt
   obtain⟨e,xs,ho⟩:=ic;obtain⟨⟨_,hlt,b,hb,rfl⟩,_⟩:=hr;obtain⟨S,hown⟩:=h.h.obj ho;obtain⟨ν',b',h1,h2,h3,h4,h5⟩:=WkG h ho (by rw[hown.1];exact hlt) dt;rw[hb]at h3;injection h3 with h3;subst h3;refine⟨G,ν',h1.rebind hv ⟨⟨h2,b,by rw[h4];rfl,?_⟩,rfl⟩⟩;rw[h4];rfl
  .cases hg
 |unfS slot ix=>
  simp only[WfW]at hg;split at hg
  .obtain⟨ν',h'⟩:=WkK h hg;exact⟨G,ν',h'⟩
  .cases hg
 |unfC slot off ix=>
  simp only[WfW]at hg;split at hg
  .split at hg
   .split at hg
    .obtain⟨ν',h'⟩:=WkK h hg;exact⟨G,ν',h'⟩
    .cases hg
   .cases hg
  .cases hg
 |refold slot=>
  simp only[WfW]at hg;split at hg
  .obtain⟨s,dt,hg⟩:=Xz.1 hg;injection hg with _ hg;subst hg;exact⟨G,ν,Woe h dt⟩
  .cases hg
 |solo slot=>
  simp only[WfW]at hg;split at hg
  .rename_i id lo hi hs;split at hg
   .rename_i e xs ho;injection hg with hg;injection hg with _ hg;subst hg;obtain⟨v,hv,hr⟩:=h.env _ _ hs;obtain⟨⟨_,g1,g2,g3,rfl⟩,_⟩:=hr;have h2:=h.on (λ_ _ _ hh=>hh) (WfC ν st.nx _) (Xdq _) (h.h.solo ho g1 g2) h.gx;exact⟨G,_,h2.rebind hv ⟨Wm1,Wpf _ _ _⟩⟩
   .cases hg
  .injection hg with hg;injection hg with _ hg;subst hg;exact⟨G,ν,h⟩
  .cases hg
 |soloC slot off=>
  simp only[WfW]at hg;split at hg
  .rename_i id o hs;split at hg
   .rename_i cs ho;split at hg
    .rename_i j lo hi hc;split at hg
     .rename_i e xs kA;injection hg with hg;injection hg with _ hg;subst hg;have hne:j≠id:=λe=>by subst e;rw[ho]at kA;cases kA
      have vK:st.nx≠id:=λe=>by
       obtain⟨φ,hφ⟩:=h.h;have:=hφ.lt id ⟨_,ho,by simp⟩;omega
      have ax:lo<=hi/\hi<=(ν j).len:=by
       obtain⟨S,b,vs,k1,k2,k3,k4,k5⟩:=h.h.obj ho;have hlt:o+off<vs.length:=by rw[k4.1];exact(Xae.1 hc).1
       obtain⟨⟨_,g1,g2,_⟩,_⟩:=k4.2 _ _ _ hc (Xp hlt);exact⟨g1,g2⟩
      have h2:=h.h.solo kA ax.1 ax.2;have mz:look ((st.nx,Ob.arr e ((xs.take hi).drop lo))::(j,Ob.dead)::st.objs) id=some (.box cs):=by rw[WK,Wa vK,WK,Wa hne];exact ho
      have u7:j<st.nx:=by
       obtain⟨φ,hφ⟩:=h.h;exact hφ.lt j ⟨_,kA,by simp⟩
      have h3:=h2.mk_box mz (cs':=cs.set (o+off) (.own st.nx)) (by simp) (λvs dK=>dK.set λv hv=>by
       obtain⟨_,_,_,_,yG⟩:=(dK.2 _ _ v hc hv).1;rw[WfC ν st.nx _ j u7]at yG;rw[yG];exact Wm1)
      exact⟨G,_,h.on (λ_ _ _ hh=>hh) (WfC ν st.nx _) (Xdq _) h3 h.gx⟩
     .cases hg
    .injection hg with hg;injection hg with _ hg;subst hg;exact⟨G,ν,h⟩
    .cases hg
   .cases hg
  .cases hg
theorem WdI:∀(l:List Ghost) (st am:St) (G:GH) (ν:Nat->Nu),Rel w0 F nt G0 G ν st a w->Wep l st=some (true,am)->∃G' ν',Rel w0 F nt G0 G' ν' am a w
 | [],st,am,G,ν,h,hg=>by injection hg with hg;injection hg with _ hg;subst hg;exact⟨G,ν,h⟩
 |g::l,st,am,G,ν,h,hg=>by
  simp only[Wep]at hg;split at hg
  .rename_i c s A1;split at hg
   .rename_i c' s' hl;simp only[Option.some.injEq,Prod.mk.injEq,Xj]at hg;obtain⟨⟨rfl,rfl⟩,rfl⟩:=hg;obtain⟨G1,ν1,h1⟩:=Wnv h A1;exact WdI l s s' G1 ν1 h1 hl
   .cases hg
  .cases hg
end
end Go.Sx
namespace Go.Sx
set_option linter.unusedVariables false
set_option linter.unusedSimpArgs false
section
variable{T:Tab}{Γ:Ctx}{env A2:List (Nat×AVal)}{objs objs':Wal}{nx aq:Nat}
theorem Wc3{st ar:St}:∀(l:List (Nat×Operand)),(∀p∈l,ev ar p.2=ev st p.2)->WcT ar l=WcT st l
 | [],_=>rfl
 |(i,x)::l,h=>by
  have h1:ev ar x=ev st x:=h (i,x) (Xk ..);simp only[WcT,h1,Wc3 l λp hp=>h p (Xf _ hp)]
theorem WnH{st ar:St}:∀(l:List Operand),(∀x∈l,ev ar x=ev st x)->evs ar l=evs st l
 | [],_=>rfl
 |x::l,h=>by simp only[evs,h x (Xk ..),WnH l λp hp=>h p (Xf _ hp)]
theorem WhO{st ar:St}:∀(l:List Operand),(∀x∈l,ev ar x=ev st x)->WgE ar l=WgE st l
 | [],_=>rfl
 |x::l,h=>by simp only[WgE,h x (Xk ..),WhO l λp hp=>h p (Xf _ hp)]
theorem Wkx{st ar:St}(x:Option Operand)(h:∀y∈x.toList,ev ar y=ev st y):Wl8 ar x=Wl8 st x:=by
 cases x with
 |none=>rfl
 |some y=>simp only[Wl8,h y (by simp)]
def Wei(st ar:St)(v:AVal):Prop:=∀id∈Wbc v,look ar.objs id=look st.objs id
theorem Wn5{st ar:St}{t:TypeId}{v:AVal}(h:Wei st ar v):WhE T ar t v=WhE T st t v:=by
 unfold WhE;cases v with
 |tup xs=>rfl
 |s x=>
  cases x with
  |agg cs=>rfl
  |one c=>
   cases c with
   |ptr id off=>have:=h id (by simp[Wbc,Wfy,Wbr]);simp only[this]
   |eptr id i off=>have:=h id (by simp[Wbc,Wfy,Wbr]);simp only[this]
   |_=>rfl
theorem WnI{st ar:St}{t:TypeId}{v:AVal}(h:Wei st ar v):Wge T ar t v=Wge T st t v:=by
 unfold Wge;cases v with
 |tup xs=>rfl
 |s x=>
  cases x with
  |agg cs=>rfl
  |one c=>
   cases c with
   |aptr id=>have:=h id (by simp[Wbc,Wfy,Wbr]);simp only[this]
   |_=>rfl
theorem Wm0{st:St}{t:TypeId}{id:Nat}:WjR T st t (.s (.one (.own id)))=match look T t with
  |some ⟨_,false,.slice _⟩=>obL (look st.objs id)
  |_=>none:=by
 unfold WjR;generalize look T t=q;rcases q with _|⟨ty,agg,shape⟩
 .rfl
 .cases ty<;>cases agg<;>cases shape<;>rfl
theorem WoR{st ar:St}{t:TypeId}{v:AVal}(h:∀id,v≠ .s (.one (.own id))):WjR T ar t v=WjR T st t v:=by
 unfold WjR;generalize look T t=q;rcases q with _|⟨ty,agg,shape⟩
 .cases v<;>rfl
 .cases v with
  |tup xs=>cases ty<;>cases agg<;>cases shape<;>rfl
  |s x=>
   cases x with
   |agg cs=>cases ty<;>cases agg<;>cases shape<;>rfl
   |one c=>
    cases c with
    |own id=>exact Wj rfl (h id)
    |val t' d=>cases ty<;>cases agg<;>cases shape<;>cases t'<;>rfl
    |_=>cases ty<;>cases agg<;>cases shape<;>rfl
theorem Wvi(v:AVal):(∃id,v= .s (.one (.own id)))\/∀id,v≠ .s (.one (.own id)):=by
 rcases v with x|xs
 .rcases x with c|cs
  .cases c with
   |own id=>exact .inl ⟨id,rfl⟩
   |_=>exact .inr λid h=>by injection h with h;injection h with h;cases h
  .exact .inr λid h=>by injection h with h;cases h
 .exact .inr λid h=>by cases h
theorem WqA{st ar:St}{t:TypeId}{v:AVal}(h:Wei st ar v):WjR T ar t v=WjR T st t v:=by
 rcases Wvi v with⟨id,rfl⟩|hv
 .rw[Wm0,Wm0,h id (by simp[Wbc,Wfy,Wbr])]
 .exact WoR hv
theorem Wh7{st ar:St}{t:TypeId}{v:AVal}{f:Nat}(h:Wei st ar v):Wci T ar t v f=Wci T st t v f:=by
 unfold Wci;generalize WgN T t f=q;rcases q with _|⟨off,te⟩
 .cases v<;>rfl
 .cases v with
  |tup xs=>rfl
  |s x=>
   cases x with
   |agg cs=>rfl
   |one c=>
    cases c with
    |ptr id o=>
     have:=h id (by simp[Wbc,Wfy,Wbr]);show(λq:Option Ob=>match q with|some (.box _)=>some (true,AVal.s (.one (.ptr id (o+off))))|_=>none) (look ar.objs id)=(λq:Option Ob=>match q with|some (.box _)=>some (true,AVal.s (.one (.ptr id (o+off))))|_=>none) (look st.objs id);rw[this]
    |eptr id i o=>
     have:=h id (by simp[Wbc,Wfy,Wbr]);show(λq:Option Ob=>match q with|some (.arr _ _)=>some (true,AVal.s (.one (.eptr id i (o+off))))|_=>none) (look ar.objs id)=(λq:Option Ob=>match q with|some (.arr _ _)=>some (true,AVal.s (.one (.eptr id i (o+off))))|_=>none) (look st.objs id);rw[this]
    |_=>rfl
theorem Wh9{st ar:St}{t:TypeId}{v i:AVal}(h:Wei st ar v):Wcm T ar t v i=Wcm T st t v i:=by
 unfold Wcm;generalize look T t=q;generalize asI i=z;rcases q with _|⟨ty,agg,shape⟩
 .rfl
 rcases z with _|n
 .cases shape<;>rfl
 cases shape with
 |slice et=>
  show(match look T et with|some te=>_|none=>_)=(match look T et with|some te=>_|none=>_);generalize look T et=q;rcases q with _|te
  .rfl
  .show(if te.plain=true then _ else _)=(if te.plain=true then _ else _);by_cases hp:te.plain=true
   .rw[Wb hp,Wb hp];cases v with
    |tup xs=>rfl
    |s x=>
     cases x with
     |agg cs=>rfl
     |one c=>
      cases c with
      |own id=>
       have:=h id (by simp[Wbc,Wfy,Wbr]);show obI te n id (look ar.objs id)=obI te n id (look st.objs id);rw[this]
      |vw id lo hi=>
       have:=h id (by simp[Wbc,Wfy,Wbr]);show Ww1 te n id lo hi (look ar.objs id)=Ww1 te n id lo hi (look st.objs id);rw[this]
      |val t' d=>cases t'<;>rfl
      |_=>rfl
   .rw[Wa hp,Wa hp]
 |arr k et=>
  show(match look T et with|some te=>_|none=>_)=(match look T et with|some te=>_|none=>_);generalize look T et=q;rcases q with _|te
  .rfl
  .show(if te.plain=true then _ else _)=(if te.plain=true then _ else _);by_cases hp:te.plain=true
   .rw[Wb hp,Wb hp];cases v with
    |tup xs=>rfl
    |s x=>
     cases x with
     |agg cs=>rfl
     |one c=>
      cases c with
      |aptr id=>
       have:=h id (by simp[Wbc,Wfy,Wbr]);show Wxm te n k id (look ar.objs id)=Wxm te n k id (look st.objs id);rw[this]
      |_=>rfl
   .rw[Wa hp,Wa hp]
 |_=>rfl
theorem Wqz{st ar:St}{v:AVal}(h:Wei st ar v):WuX ar v=WuX st v:=by
 rcases Wvi v with⟨id,rfl⟩|hv
 .exact h id (by simp[Wbc,Wfy,Wbr])
 .unfold WuX;split
  .rename_i id;exact Wj rfl (hv id)
  .rfl
theorem Woj{st ar:St}{s d:TypeId}{v:AVal}(h:Wei st ar v):Wj2 T ar s d v=Wj2 T st s d v:=by
 unfold Wj2;rw[Wqz h]
theorem WqJ{st ar:St}{v:AVal}(h:Wei st ar v):WqM ar v=WqM st v:=by
 unfold WqM;cases v with
 |tup xs=>rfl
 |s x=>
  cases x with
  |agg cs=>rfl
  |one c=>
   cases c with
   |ptr id off=>have:=h id (by simp[Wbc,Wfy,Wbr]);simp only[this]
   |eptr id i off=>have:=h id (by simp[Wbc,Wfy,Wbr]);simp only[this]
   |aptr id=>have:=h id (by simp[Wbc,Wfy,Wbr]);simp only[this]
   |_=>rfl
theorem Wrd{st ar:St}{op:BinOp}{t:TypeId}{v z:AVal}(h:Wei st ar v):Wrl T ar op t v z=Wrl T st op t v z:=by
 unfold Wrl;split
 .rename_i id;rw[h id (by simp[Wbc,Wfy,Wbr])]
 .rfl
theorem Wcp{α β:Type}{x:Option α}{f g:α->Option β}(h:∀v,x=some v->f v=g v):x.bind f=x.bind g:=by
 cases x with
 |none=>rfl
 |some v=>exact h v rfl
theorem WhP{st ar:St}(op:Op)(hm:∀t x l h m,op≠ .slice t x l h m)(he:∀x∈Wai op,ev ar x=ev st x)(hl:Wwx op=true->∀x∈Wai op,∀v,ev st x=some v->Wei st ar v):Wap T ar op=Wap T st op:=by
 cases op with
 |move x=>simp only[Wap,he x (by simp[Wai])]
 |assign x=>simp only[Wap,he x (by simp[Wai])]
 |pick c a b=>simp only[Wap,he c (by simp[Wai]),he a (by simp[Wai]),he b (by simp[Wai])]
 |load t a=>
  simp only[Wap,he a (by simp[Wai])];exact Wcp λv hv=>by rw[Wn5 (hl rfl a (by simp[Wai]) v hv),WnI (hl rfl a (by simp[Wai]) v hv)]
 |nilCheck x=>
  simp only[Wap,he x (by simp[Wai])];exact Wcp λv hv=>WqJ (hl rfl x (by simp[Wai]) v hv)
 |binOp op t x y z=>
  simp only[Wap,he x (by simp[Wai]),he y (by simp[Wai])];split
  .rename_i a b h1 h2;rw[Wrd (hl rfl x (by simp[Wai]) _ h1)]
  .rfl
 |unOp op t x=>simp only[Wap,he x (by simp[Wai])]
 |convert s d x=>
  simp only[Wap,he x (by simp[Wai])];exact Wcp λv hv=>Woj (hl rfl x (by simp[Wai]) v hv)
 |slice t x l h m=>exact Wj rfl (hm t x l h m)
 |fieldAddr s x f=>
  simp only[Wap,he x (by simp[Wai])];exact Wcp λv hv=>Wh7 (hl rfl x (by simp[Wai]) v hv)
 |field t x f=>simp only[Wap,he x (by simp[Wai])]
 |indexAddr t x i=>
  simp only[Wap,he x (by simp[Wai]),he i (by simp[Wai])];split
  .rename_i a b h1 h2;exact Wh9 (hl rfl x (by simp[Wai]) _ h1)
  .rfl
 |index t x i=>simp only[Wap,he x (by simp[Wai]),he i (by simp[Wai])]
 |extract t ix=>simp only[Wap,he t (by simp[Wai])]
 |makeFunc f first captured=>
  cases f with
  |func f=>simp only[Wap,WhO (st:=st) (ar:=ar) captured.toList λx hx=>he x (by simp[Wai];right;simpa using hx)]
  |_=>rfl
 |call c=>
  have hargs:∀x∈c.args.toList,ev ar x=ev st x:=λx hx=>he x (Xh _ hx);have oD:∀x∈c.args.toList,∀v,ev st x=some v->Wei st ar v:=λx hx=>hl rfl x (Xh _ hx);simp only[Wap];split
  .rename_i x t _ ha _;rw[hargs x (by rw[ha];simp)];exact Wcp λv hv=>WqA (oD x (by rw[ha];simp) v hv)
  .rename_i x y _ _ _ ha _;rw[hargs x (by rw[ha];simp),hargs y (by rw[ha];simp)]
  .rename_i x y _ _ _ ha _;rw[hargs x (by rw[ha];simp),hargs y (by rw[ha];simp)]
  .rfl
 |_=>rfl
end
end Go.Sx
namespace Go.Sx
set_option linter.unusedVariables false
set_option linter.unusedSimpArgs false
abbrev Out:=AVal×Wal×Nat
def Wdf(x:AVal)(objs:Wal)(nx:Nat):Option Out:=some (x,objs,nx)
section
variable{T:Tab}{Γ:Ctx}{A:List (Nat×An)}
theorem Wa9{α β:Type}{c:Prop}[Decidable c]{x:Option α}{f:α->Option β}:(if c then x else none).bind f=if c then x.bind f else none:=by split<;>rfl
theorem Wcw{α β:Type}{c:Bool}{x:Option α}{f:α->Option β}:(bif c then x else none).bind f=bif c then x.bind f else none:=by cases c<;>rfl
theorem Wf3{R:Type}(sg:Sig)(st:St)(xs:List AVal)(k:KV R):WfT sg st xs k=(WfT sg st xs Wdf).bind λp=>k p.1 p.2.1 p.2.2:=by
 unfold WfT;split
 .split
  .rw[sg.law,sg.law,Option.bind_assoc];rfl
  .rfl
 .rfl
theorem WqY{R:Type}(sg:Sig)(st:St)(xs:List AVal)(k:KV R):WnQ sg st xs k=(WnQ sg st xs Wdf).bind λp=>k p.1 p.2.1 p.2.2:=by
 unfold WnQ;cases sg.fresh with
 |true=>exact Wf3 _ _ _ _
 |false=>
  simp only[Wc];split
  .split
   .exact Wf3 _ _ _ _
   .exact Wf3 _ _ _ _
  .rfl
theorem Wnj{R:Type}(st:St)(te:Ty)(s x:AVal)(k:KV R):WeW st te s x k=(WeW st te s x Wdf).bind λp=>k p.1 p.2.1 p.2.2:=by
 unfold WeW;split
 .split
  .split
   .split
    .rw[Wcw];rfl
    .rfl
   .rfl
  .rfl
 .split
  .split
   .split
    .rw[Wa9,Wcw];rfl
    .rfl
   .rfl
  .rfl
 .rfl
theorem WnS{R:Type}(st:St)(e:Ty)(ps:List (Nat×AVal))(k:KV R):WdC st e ps k=(WdC st e ps Wdf).bind λp=>k p.1 p.2.1 p.2.2:=by
 unfold WdC;split
 .rw[Wa9];split
  .split
   .split
    .rw[Wa9];rfl
    .rfl
   .rfl
  .rfl
 .rfl
theorem Wn4{R:Type}(st:St)(te:Ty)(id:Nat)(l h:Option Int)(k:KV R):WfQ st te id l h k=(WfQ st te id l h Wdf).bind λp=>k p.1 p.2.1 p.2.2:=by
 unfold WfQ;split
 .rw[Wa9,Wcw];rfl
 .rfl
theorem WkW{R:Type}(st:St)(t t2:TypeId)(s x:AVal)(k:KV R):Wd4 T st t t2 s x k=(Wd4 T st t t2 s x Wdf).bind λp=>k p.1 p.2.1 p.2.2:=by
 unfold Wd4;split
 .split
  .split
   .cases Wuj st s x with
    |false=>exact Wnj _ _ _ _ _
    |true=>
    simp only[Xv,Wc];split
    .rw[Wcw];rfl
    .split
     .split
      .rw[Wcw];rfl
      .rfl
     .rfl
    .split
     .split
      .rw[Wcw];rfl
      .rfl
     .rfl
    .rfl
   .rfl
  .rfl
 .rfl
theorem WvH{R:Type}(p:Option (Bool×AVal))(objs:Wal)(nx:Nat)(k:KV R):(match p with|some (c,v)=>bif c then k v objs nx else none|none=>none)=(match p with|some (c,v)=>bif c then Wdf v objs nx else none|none=>none).bind λp=>k p.1 p.2.1 p.2.2:=by
 rcases p with _|⟨c,v⟩
 .rfl
 .cases c<;>rfl
theorem Wgo{R:Type}(o:Oper)(st:St)(k:KV R):rxe T Γ A o st k=(rxe T Γ A o st Wdf).bind λp=>k p.1 p.2.1 p.2.2:=by
 unfold rxe;split
 .split
  .rw[Wa9];rfl
  .rw[Wa9];rfl
  .rfl
 .split<;>rfl
 .split
  .split
   .split<;>rfl
   .rfl
  .rfl
 .split
  .split
   .split
    .rw[Wa9];split
     .exact WnS _ _ _ _
     .rfl
    .split
     .rw[Wa9];rfl
     .rfl
   .rfl
  .rfl
 .split
  .split
   .split
    .rw[Wa9,Wcw];rfl
    .rw[Wa9,Wcw];rfl
   .rfl
  .rfl
 .split
  .split
   .split<;>rfl
   .rfl
  .rfl
 .split
  .split
   .split
    .split
     .rw[Wa9];split
      .exact Wn4 _ _ _ _ _ _
      .rfl
     .split
      .rw[Wa9,Wcw];rfl
      .rw[Wa9,Wcw];rfl
      .rfl
    .rfl
   .rfl
  .exact WvH _ _ _ _
 .split
  .split
   .exact WkW _ _ _ _ _ _
   .rfl
  .split
   .split
    .split
     .rw[Wa9];rfl
     .rfl
    .rfl
   .rfl
  .exact WvH _ _ _ _
  .split
   .split
    .exact WqY _ _ _ _
    .rfl
   .rfl
  .rfl
 .exact WvH _ _ _ _
end
section
variable{T:Tab}{Γ:Ctx}{A:List (Nat×An)}
theorem Wok{st:St}{env:List (Nat×AVal)}{t:TypeId}{x v:AVal}:Wdb T {env:=env,objs:=st.objs,nx:=st.nx} t x v=(Wdb T st t x v).map λs=>{env:=env,objs:=s.objs,nx:=s.nx}:=by
 unfold Wdb;generalize look T t=q;generalize Whq v=z;rcases q with _|te
 .rfl
 rcases z with _|ds
 .rcases x with(c|cs)|xs
  .cases c<;>rfl
  .rfl
  .rfl
 rcases x with(c|cs)|xs
 .cases c with
  |ptr id off=>
   show(match look st.objs id with|some (.box cs)=>_|_=>_)=Xfo _ (match look st.objs id with|some (.box cs)=>_|_=>_);generalize look st.objs id=ob;rcases ob with _|ob
   .rfl
   cases ob with
   |box cs=>
    show(if _ then _ else _)=Xfo _ (if _ then _ else _);split<;>rfl
   |arr e xs=>rfl
   |hole e xs i p=>rfl
   |dead=>rfl
  |eptr id i off=>
   show(match look st.objs id with|some (.arr e xs)=>_|_=>_)=Xfo _ (match look st.objs id with|some (.arr e xs)=>_|_=>_);generalize look st.objs id=ob;rcases ob with _|ob
   .rfl
   cases ob with
   |box cs=>rfl
   |hole e xs i p=>rfl
   |dead=>rfl
   |arr e xs=>
    show(if _ then _ else _)=Xfo _ (if _ then _ else _);by_cases hc:(decide (te.ty.size=ds.length)&&te.plain&&decide (off+ds.length<=e.size)&&e.data)=true
    .rw[Wb hc,Wb hc];generalize WaA e (Wen (split e (Xc xs i e.dflt)) off ds) st.objs=r;rcases r with _|⟨d,m,l⟩
     .rfl
     .cases m<;>cases l<;>rfl
    .rw[Wa hc,Wa hc];by_cases hQ:(decide (te.ty.size=ds.length)&&te.plain&&decide (off=0)&&decide (ds.length=e.size))=true
     .rw[Wb hQ,Wb hQ];generalize WaA e ds st.objs=r;rcases r with _|⟨d,m,l⟩
      .rfl
      .cases l with
       |nil=>
        show(if _ then _ else _)=Xfo _ (if _ then _ else _);split<;>rfl
       |cons _ _=>rfl
     .rw[Wa hQ,Wa hQ];rfl
  |_=>rfl
 .rfl
 .rfl
theorem Wsi{R:Type}(o:Oper){st:St}{env:List (Nat×AVal)}(k:KV R)(he:∀x∈Wai o.op,ev {env:=env,objs:=st.objs,nx:=st.nx} x=ev st x):
  rxe T Γ A o {env:=env,objs:=st.objs,nx:=st.nx} k=rxe T Γ A o st k:=by
 have bK:(∀t x l h m,o.op≠ .slice t x l h m)->Wap T {env:=env,objs:=st.objs,nx:=st.nx} o.op=Wap T st o.op:=λhm=>WhP o.op hm he (λ_ _ _ _ _ _ _=>rfl);obtain⟨dst,op,type,pos,after,guard⟩:=o;simp only at he bK;cases op with
 |alloc t=>rfl
 |box t x=>simp only[rxe,he x (by simp[Wai])]
 |build t parts=>simp only[rxe,Wc3 (st:=st) parts.toList λp hp=>he p.2 (by simp only[Wai];exact Xx.2 ⟨p,hp,rfl⟩)]
 |buildSlice t n parts=>
  have e1:∀e ps,WdC {env:=env,objs:=st.objs,nx:=st.nx} e ps k=WdC st e ps k:=λ_ _=>rfl;simp only[rxe,e1,Wc3 (st:=st) parts.toList λp hp=>he p.2 (by simp only[Wai];exact Xx.2 ⟨p,hp,rfl⟩)]
 |makeSlice t n c=>simp only[rxe,he n (by simp[Wai]),he c (by simp[Wai])]
 |store t a x=>
  simp only[rxe,he a (by simp[Wai]),he x (by simp[Wai])];split
  .rename_i p v _ _;have e:=Wok (T:=T) (st:={env:=st.env,objs:=Wec st.objs (WfX st.objs p v),nx:=st.nx}) (env:=env) (t:=t) (x:=p) (v:=WhF st.objs (WfX st.objs p v) v);simp only at e;rw[e];cases Wdb T {env:=st.env,objs:=Wec st.objs (WfX st.objs p v),nx:=st.nx} t p (WhF st.objs (WfX st.objs p v) v)<;>rfl
  .rfl
 |slice t x lo hi m=>
  have hx:=he x (by simp[Wai]);have bm:=Wkx (st:=st) (ar:={env:=env,objs:=st.objs,nx:=st.nx}) lo λy hy=>he y (by simp only[Wai];exact Xf _ (Xl _ hy));have q8:=Wkx (st:=st) (ar:={env:=env,objs:=st.objs,nx:=st.nx}) hi λy hy=>he y (by simp only[Wai];exact Xf _ (Xh _ (Xl _ hy)));cases m with
  |none=>
   have hp:Wap T {env:=env,objs:=st.objs,nx:=st.nx} (.slice t x lo hi none)=Wap T st (.slice t x lo hi none):=by
    simp only[Wap,hx];refine Wcp λv _=>?_;simp only[WlG,bm,q8]
   have e1:∀te id l h,WfQ {env:=env,objs:=st.objs,nx:=st.nx} te id l h k=WfQ st te id l h k:=λ_ _ _ _=>rfl;simp only[rxe,hx,bm,q8,hp,e1]
  |some y=>rfl
 |call c=>
  have hargs:=WnH (st:=st) (ar:={env:=env,objs:=st.objs,nx:=st.nx}) c.args.toList λx hx=>he x (by simp only[Wai];exact Xh _ hx);have hp:=bK (λ_ _ _ _ _ h=>by cases h);simp only[rxe];split
  .rename_i s x t t2 hc ha dH;have h1:ev {env:=env,objs:=st.objs,nx:=st.nx} s=ev st s:=he s (by simp only[Wai];rw[ha];exact Xh _ (by simp));have h2:ev {env:=env,objs:=st.objs,nx:=st.nx} x=ev st x:=he x (by simp only[Wai];rw[ha];exact Xh _ (by simp));rw[h1,h2];rfl
  .rename_i x t hc ha dH;have h1:ev {env:=env,objs:=st.objs,nx:=st.nx} x=ev st x:=he x (by simp only[Wai];rw[ha];exact Xh _ (by simp));rw[h1]
  .rw[hp]
  .rename_i f hc;have h1:ev {env:=env,objs:=st.objs,nx:=st.nx} f=ev st f:=he f (by simp only[Wai];rw[hc];exact Xl _ (by simp));rw[h1,hargs];rfl
  .rfl
 |move x=>simp only[rxe,bK (λ_ _ _ _ _ h=>by cases h)]
 |assign x=>simp only[rxe,bK (λ_ _ _ _ _ h=>by cases h)]
 |pick c a b=>simp only[rxe,bK (λ_ _ _ _ _ h=>by cases h)]
 |load t a=>simp only[rxe,bK (λ_ _ _ _ _ h=>by cases h)]
 |nilCheck x=>simp only[rxe,bK (λ_ _ _ _ _ h=>by cases h)]
 |binOp op t x y z=>simp only[rxe,bK (λ_ _ _ _ _ h=>by cases h)]
 |unOp op t x=>simp only[rxe,bK (λ_ _ _ _ _ h=>by cases h)]
 |convert s d x=>simp only[rxe,bK (λ_ _ _ _ _ h=>by cases h)]
 |fieldAddr s x f=>simp only[rxe,bK (λ_ _ _ _ _ h=>by cases h)]
 |field t x f=>simp only[rxe,bK (λ_ _ _ _ _ h=>by cases h)]
 |indexAddr t x i=>simp only[rxe,bK (λ_ _ _ _ _ h=>by cases h)]
 |index t x i=>simp only[rxe,bK (λ_ _ _ _ _ h=>by cases h)]
 |extract t ix=>simp only[rxe,bK (λ_ _ _ _ _ h=>by cases h)]
 |makeFunc f first captured=>simp only[rxe,bK (λ_ _ _ _ _ h=>by cases h)]
 |_=>rfl
def Wvr(T:Tab)(o:Oper)(st:St):Option AVal:=match o.op with
 | .build t parts=>match look T t,WcT st parts.toList with
  |some ⟨ty,true,.struct fs⟩,some ps=>
   if fs.all (λf=>match look T f.2 with|some te=>te.plain|none=>false)then
    match Wml T fs ps (WeC ty)with
    |some cs=>some (.s (.agg cs))
    |none=>none
   else none
  |_,_=>none
 |op=>match Wap T st op with
  |some (c,v)=>bif c then some v else none
  |none=>none
theorem Wxj(p:Option (Bool×AVal))(objs:Wal)(nx:Nat):(match p with|some (c,v)=>bif c then Wdf v objs nx else none|none=>none)=(match p with|some (c,v)=>bif c then some v else none|none=>none).bind λv=>Wdf v objs nx:=by
 rcases p with _|⟨c,v⟩
 .rfl
 .cases c<;>rfl
theorem Wmv{o:Oper}(hm:Wa1 o=false)(st:St):rxe T Γ A o st Wdf=(Wvr T o st).bind λv=>Wdf v st.objs st.nx:=by
 obtain⟨dst,op,type,pos,after,guard⟩:=o;cases op with
 |alloc t=>cases hm
 |box t x=>cases hm
 |buildSlice t n parts=>cases hm
 |makeSlice t n c=>cases hm
 |store t a x=>cases hm
 |slice t x lo hi m=>cases hm
 |build t parts=>
  simp only[rxe,Wvr];generalize look T t=q;generalize WcT st parts.toList=z;rcases q with _|⟨ty,agg,shape⟩
  .rfl
  rcases z with _|ps
  .cases agg<;>cases shape<;>rfl
  cases agg with
  |false=>rfl
  |true=>
   cases shape with
   |struct fs=>
    show(if _ then _ else _)=Option.bind (if _ then _ else _) _;rw[Wa9];cases Wml T fs ps (WeC ty)<;>rfl
   |_=>rfl
 |call c=>
  simp only[rxe,Wvr];split
  .rename_i hc _ _;simp only[Wa1,hc]at hm;cases hm
  .rename_i hc _ _;simp only[Wa1,hc]at hm;cases hm
  .exact Wxj _ _ _
  .rename_i hc;simp only[Wa1,hc]at hm;cases hm
  .rename_i h0 h1 h2 h3;have:Wap T st (.call c)=none:=by
    simp only[Wap];split
    .rename_i hc _ _;first|exact Wj hc (h0 _)|exact Wj hc (h1 _)|exact Wj hc (h2 _)|exact Wj hc (h3 _)
    .rename_i hc _ _;first|exact Wj hc (h0 _)|exact Wj hc (h1 _)|exact Wj hc (h2 _)|exact Wj hc (h3 _)
    .rename_i hc _ _;first|exact Wj hc (h0 _)|exact Wj hc (h1 _)|exact Wj hc (h2 _)|exact Wj hc (h3 _)
    .rfl
   rw[this];rfl
 |_=>first|rfl|exact Wxj (Wap T st _) st.objs st.nx
theorem WqE{o:Oper}(hm:Wa1 o=false){st ar:St}(he:∀x∈Wai o.op,ev ar x=ev st x)(hl:Wwx o.op=true->∀x∈Wai o.op,∀v,ev st x=some v->Wei st ar v):Wvr T o ar=Wvr T o st:=by
 have bK:(∀t x l h m,o.op≠ .slice t x l h m)->Wap T ar o.op=Wap T st o.op:=λhm=>WhP o.op hm he hl;obtain⟨dst,op,type,pos,after,guard⟩:=o;simp only at he bK;cases op with
 |slice t x lo hi m=>cases hm
 |build t parts=>simp only[Wvr,Wc3 (st:=st) parts.toList λp hp=>he p.2 (by simp only[Wai];exact Xx.2 ⟨p,hp,rfl⟩)]
 |_=>simp only[Wvr,bK (λ_ _ _ _ _ h=>by cases h)]
theorem Wdd(objs:Wal):∀l,∃pre,kill objs l=pre++objs
 | []=>⟨[],rfl⟩
 |i::l=>by
  obtain⟨pre,h⟩:=Wdd objs l;exact⟨(i,.dead)::pre,by simp only[kill,h];rfl⟩
theorem Wak:∀(ps:List PTy) (o:Wgh ps) (ids:List Kp) (objs:Wal) (nx:Nat),∃pre,(Wao ps o ids objs nx).1=pre++objs
 | [],_,_,objs,_=>⟨[],rfl⟩
 | .v _ _::ps,o,ids,objs,nx=>Wak ps o ids objs nx
 | .rp _::ps,o,ids,objs,nx=>Wak ps o ids objs nx
 | .box t::ps,o,ids,objs,nx=>by
  cases ids with
  |nil=>exact⟨[],rfl⟩
  |cons k ids=>
   obtain⟨pre,h⟩:=Wak ps o.2 ids ((k.id,WhH (look objs k.id) k.off (unfold t o.1 nx).1)::((unfold t o.1 nx).2.1++objs)) (unfold t o.1 nx).2.2;exact⟨pre++(k.id,WhH (look objs k.id) k.off (unfold t o.1 nx).1)::(unfold t o.1 nx).2.1,by simp only[Wao,h];simp⟩
 | .vj _::ps,o,ids,objs,nx=>Wak ps o ids objs nx
 | .boxal t _::ps,o,ids,objs,nx=>by
  cases ids with
  |nil=>exact⟨[],rfl⟩
  |cons k ids=>
   obtain⟨pre,h⟩:=Wak ps o.2 ids ((k.id,WhH (look objs k.id) k.off (unfold t o.1 nx).1)::((unfold t o.1 nx).2.1++objs)) (unfold t o.1 nx).2.2;exact⟨pre++(k.id,WhH (look objs k.id) k.off (unfold t o.1 nx).1)::(unfold t o.1 nx).2.1,by simp only[Wao,h];simp⟩
 | .mut e::ps,o,ids,objs,nx=>by
  cases ids with
  |nil=>exact⟨[],rfl⟩
  |cons k ids=>
   obtain⟨pre,h⟩:=Wak ps o.2 ids ((k.id,.arr e o.1)::objs) nx;exact⟨pre++ [(k.id,.arr e o.1)],by simp only[Wao,h];simp⟩
 | .clos _ _::ps,o,ids,objs,nx=>Wak ps o ids objs nx
 | .kv t _::ps,o,ids,objs,nx=>by
  obtain⟨pre,h⟩:=Wak ps o.2 (ids.drop t.owns) (WcW t o.1 ((ids.take t.owns).map Kp.id)++objs) nx;exact⟨pre++WcW t o.1 ((ids.take t.owns).map Kp.id),by simp only[Wao,h];simp⟩
theorem Wau:∀(rs:List PTy) (d:Whg rs) (objs:Wal) (nx:Nat),∃pre,(WbH rs d objs nx).2.1=pre++objs
 | [],_,objs,_=>⟨[],rfl⟩
 | .v t agg::rs,d,objs,nx=>by
  obtain⟨pre,h⟩:=Wau rs d.2 ((unfold t d.1 nx).2.1++objs) (unfold t d.1 nx).2.2;exact⟨pre++(unfold t d.1 nx).2.1,by simp only[WbH,h];simp⟩
 | .box t::rs,d,objs,nx=>by
  obtain⟨pre,h⟩:=Wau rs d.2 ((nx,.box (unfold t d.1 (nx+1)).1)::((unfold t d.1 (nx+1)).2.1++objs)) (unfold t d.1 (nx+1)).2.2;exact⟨pre++(nx,.box (unfold t d.1 (nx+1)).1)::(unfold t d.1 (nx+1)).2.1,by simp only[WbH,h];simp⟩
 | .mut _::rs,d,objs,nx=>Wau rs d objs nx
 | .clos _ _::rs,d,objs,nx=>Wau rs d objs nx
 | .kv _ _::rs,d,objs,nx=>Wau rs d objs nx
 | .rp _::rs,d,objs,nx=>Wau rs d objs nx
 | .vj t::rs,d,objs,nx=>by
  obtain⟨pre,h⟩:=Wau rs d.2 ((unfold t d.1 nx).2.1++objs) (unfold t d.1 nx).2.2;exact⟨pre++(unfold t d.1 nx).2.1,by simp only[WbH,h];simp⟩
 | .boxal _ _::rs,d,objs,nx=>Wau rs d objs nx
def Suf(objs:Wal)(r:Option Out):Prop:=∀x objs' nx,r=some (x,objs',nx)->∃pre,objs'=pre++objs
theorem Suf.none{objs:Wal}:Suf objs none:=λ_ _ _ h=>by cases h
theorem Suf.out{objs pre:Wal}{x:AVal}{nx:Nat}:Suf objs (Wdf x (pre++objs) nx):=λ_ _ _ h=>by
 injection h with h;have:=Wm (λp:Out=>p.2.1) h;exact⟨pre,this.symm⟩
theorem Suf.ite{objs:Wal}{c:Prop}[Decidable c]{r:Option Out}(h:Suf objs r):Suf objs (if c then r else Option.none):=by split;exact h;exact .none
theorem Suf.bif{objs:Wal}{c:Bool}{r:Option Out}(h:Suf objs r):Suf objs (bif c then r else Option.none):=by cases c;exact .none;exact h
theorem WjV{st am:St}{t:TypeId}{x v:AVal}(h:Wdb T st t x v=some am):∃pre,am.objs=pre++st.objs:=by
 unfold Wdb at h;split at h
 .split at h
  .split at h
   .injection h with h;subst h;exact⟨[_],rfl⟩
   .cases h
  .cases h
 .split at h
  .split at h
   .split at h
    .injection h with h;subst h;exact⟨[_],rfl⟩
    .cases h
   .split at h
    .split at h
     .rename_i m _;split at h
      .injection h with h;subst h;obtain⟨pre,hp⟩:=Wdd st.objs m;exact⟨_::pre,by simp only[hp];rfl⟩
      .cases h
     .cases h
    .cases h
  .cases h
 .cases h
theorem WoC(p:Option (Bool×AVal))(objs:Wal)(nx:Nat):Suf objs (match p with|some (c,v)=>bif c then Wdf v objs nx else none|none=>none):=by
 rcases p with _|⟨c,v⟩
 .exact .none
 .exact Suf.bif (Suf.out (pre:=[]))
theorem Web(sg:Sig)(st:St)(xs:List AVal):Suf st.objs (WfT sg st xs Wdf):=by
 unfold WfT;split
 .rename_i A _;split
  .intro x objs' nx h;rw[sg.law]at h;cases hr:sg.run A.d with
   |none=>rw[hr]at h;cases h
   |some out=>
    rw[hr]at h;simp only[Xd]at h;injection h with h;have h2:=Wm (λp:Out=>p.2.1) h;simp only at h2;obtain⟨p1,e1⟩:=Wdd st.objs A.moved;obtain⟨p2,e2⟩:=Wak sg.ps out.1 A.kept (kill st.objs A.moved) st.nx;obtain⟨p3,e3⟩:=Wau sg.rs out.2 (Wao sg.ps out.1 A.kept (kill st.objs A.moved) st.nx).1 (Wao sg.ps out.1 A.kept (kill st.objs A.moved) st.nx).2;refine⟨p3++(p2++p1),?_⟩;rw[←h2,e3,e2,e1];simp
  .exact .none
 .exact .none
theorem Suf.over{objs:Wal}{l:List Nat}{r:Option Out}(h:Suf (kill objs l) r):Suf objs r:=λx objs' nx hr=>by
 obtain⟨p1,e1⟩:=h x objs' nx hr;obtain⟨p2,e2⟩:=Wdd objs l;exact⟨p1++p2,by rw[e1,e2];simp⟩
theorem WnJ(sg:Sig)(st:St)(xs:List AVal):Suf st.objs (WnQ sg st xs Wdf):=by
 unfold WnQ;cases sg.fresh with
 |true=>exact Web _ _ _
 |false=>
  simp only[Wc];split
  .split
   .exact Web _ _ _
   .exact Suf.over (Web sg {env:=st.env,objs:=kill st.objs _,nx:=st.nx} _)
  .exact .none
theorem Won{objs:Wal}{x:AVal}{p:Nat×Ob}{l:List Nat}{nx:Nat}:Suf objs (Wdf x (p::kill objs l) nx):=by
 obtain⟨pre,h⟩:=Wdd objs l;rw[h];exact Suf.out (pre:=p::pre)
theorem WjO(st:St)(te:Ty)(s x:AVal):Suf st.objs (WeW st te s x Wdf):=by
 unfold WeW;split
 .split
  .split
   .split
    .exact Suf.bif Won
    .exact .none
   .exact .none
  .exact .none
 .split
  .split
   .split
    .exact Suf.ite (Suf.bif Won)
    .exact .none
   .exact .none
  .exact .none
 .exact .none
theorem WjZ(st:St)(e:Ty)(ps:List (Nat×AVal)):Suf st.objs (WdC st e ps Wdf):=by
 unfold WdC;split
 .refine Suf.ite ?_;split
  .split
   .exact Suf.ite (Suf.over Won)
   .exact .none
  .exact .none
 .exact .none
theorem WlK(st:St)(te:Ty)(id:Nat)(l h:Option Int):Suf st.objs (WfQ st te id l h Wdf):=by
 unfold WfQ;split
 .exact Suf.ite (Suf.bif (Suf.out (pre:=[])))
 .exact .none
theorem WqF(o:Oper)(st:St):Suf st.objs (rxe T Γ A o st Wdf):=by
 unfold rxe;split
 .split
  .exact Suf.ite (Suf.out (pre:=[_]))
  .exact Suf.ite (Suf.out (pre:=[_]))
  .exact .none
 .split
  .exact Suf.out (pre:=[_])
  .exact .none
 .split
  .split
   .split
    .exact Suf.out (pre:=[])
    .exact .none
   .exact .none
  .exact .none
 .split
  .split
   .split
    .exact Suf.ite (WjZ _ _ _)
    .split
     .exact Suf.ite (Suf.over (Suf.out (pre:=[_])))
     .exact .none
   .exact .none
  .exact .none
 .split
  .split
   .split
    .exact Suf.ite (Suf.bif (Suf.out (pre:=[_])))
    .exact Suf.ite (Suf.bif (Suf.out (pre:=[_])))
   .exact .none
  .exact .none
 .split
  .split
   .rename_i am hs;split
    .obtain⟨pre,h⟩:=WjV hs;rw[h];exact Suf.over Suf.out
    .exact .none
   .exact .none
  .exact .none
 .split
  .split
   .split
    .split
     .exact Suf.ite (WlK _ _ _ _ _)
     .split
      .exact Suf.ite (Suf.bif (Suf.out (pre:=[_,_])))
      .exact Suf.ite (Suf.bif (Suf.out (pre:=[_,_,_])))
      .exact .none
    .exact .none
   .exact .none
  .exact WoC _ _ _
 .split
  .split
   .unfold Wd4;split
    .split
     .split
      .cases Wuj st _ _ with
       |false=>exact WjO _ _ _ _
       |true=>
       simp only[Xv,Wc];split
       .exact Suf.bif (Suf.out (pre:=[_]))
       .split
        .split
         .exact Suf.bif (Suf.out (pre:=[_,_]))
         .exact .none
        .exact .none
       .split
        .split
         .exact Suf.bif (Suf.out (pre:=[_,_]))
         .exact .none
        .exact .none
       .exact .none
      .exact .none
     .exact .none
    .exact .none
   .exact .none
  .split
   .split
    .split
     .exact Suf.ite (Suf.out (pre:=[_]))
     .exact .none
    .exact .none
   .exact .none
  .exact WoC _ _ _
  .split
   .split
    .exact WnJ _ _ _
    .exact .none
   .exact .none
  .exact .none
 .exact WoC _ _ _
end
end Go.Sx
