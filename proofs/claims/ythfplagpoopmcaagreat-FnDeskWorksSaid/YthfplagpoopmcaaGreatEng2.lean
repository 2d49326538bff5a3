/- The abstract machine, part 2: a reflective interpreter of the program's code over data, with its soundness over the model. -/
import Derived.Test.YthfplagpoopmcaaGreatEng1
open Bool renaming and_eq_true→Xg,not_eq_true'→Xak,false_eq_true→Xap
open List renaming nodup_cons→Xaa,getElem?_append_left→Xce,getElem?_append_right→Xbr,ext_getElem?→Xdf,getElem?_eq_none→Xbp,replicate→Xr,prefix_refl→Xff,nil_prefix→Xgt,prefix_append_right_inj→Xeq,length_replicate→Xfl,append_nil→Xcf,getElem?_toArray→Xed,append_assoc→Xax,getElem?_append→Xan,getElem?_take→Xbg,getElem?_drop→Xbf,getElem?_eq_some_iff→Xz,drop_drop→Xdg,take_append_drop→Xdi,length_take→Xbe,mem_cons_self→Xh,mem_cons_of_mem→Xe,mem_map_of_mem→Xaj,pairwise_cons→Xw,mem_append_left→Xj,mem_append_right→Xf,length_append→Xo,map_append→Xy,pairwise_append→Xah,mem_append→Xl,mem_map→Xv,mem_cons→Xq,getElem?_of_mem→Xdj,getElem?_eq_getElem→Xp,eq_nil_of_length_eq_zero→Xu,map_toArray→Xdm,map_cons→Xag,map_nil→Xbu,append→Xt,take_length→Xdk,mem_singleton→Xaf,length→Xb,append_inj→Xfh,length_map→Xad,mem_of_mem_take→Xcj,mem_of_mem_drop→Xeh,nodup_append→Xac,all_eq_true→Xab,nodup_nil→Xcy,length_drop→Xdl,sublist_append_right→Xfb,getElem?_map→Xai,all_cons→Xbk,mem_of_getElem?→Xas
open Array renaming range→Xcc,foldl_toList→Xer,length_toList→Xam
open Nat renaming succ_mul→Xbl,mul_le_mul_right→Xau,add_zero→Xay,le_trans→Xcr,zero_mul→Xem,le_refl→Xm,min_eq_left→Xbw,add_assoc→Xav,lt_succ_self→Xbo,add_mul→Xcn,eq_of_beq_eq_true→Xch,add_sub_cancel_left→Xbq,le_succ→Xcw
open Int renaming mul_le_mul_of_nonneg_right→Xel
open Option renaming map_eq_some_iff→Xs,map_some→Xbv,bind_eq_some_iff→Xao,bind_some→Xd
namespace Go.Sx
set_option linter.unusedVariables false
set_option linter.unusedSimpArgs false
theorem Wca:∀l:List Nat,WaR l=true↔l.Nodup
 | []=>by simp[WaR]
 |i::l=>by
  have h:=WfC i l;simp only[WaR,Xg,Xak,Xaa,Wca l]
  grind
theorem WoB{α:Type}(l:List α)(d:α):∀(n i:Nat),i<n*l.length->(rep l n)[i]?=some (l.getD (i%l.length) d)
 |0,i,h=>by simp at h
 |n+1,i,h=>by
  rw[rep];by_cases hi:i<l.length
  .grind [Xce,Nat.mod_eq_of_lt,List.getD]
  .have eS:l.length<=i:=by omega
   rw[Xbr eS,WoB l d n (i-l.length) (by grind)];rw[Nat.mod_eq_sub_mod eS]
theorem WeZ(z:Array Value)(n:Nat):((Xcc (n*z.size)).map λi=>z[i%z.size]!).toList=rep z.toList n:=by
 apply Xdf;intro i;by_cases hi:i<n*z.size
 .rw[WoB z.toList default n i (by omega)]
  grind
 grind [Xbp,Wjz]
section
variable{w0:World}{F:CS}{nt:Slots}{G0 G:GH}{ν:Nat->Nu}{objs:WZ}{nx:Nat}{st ac:St}{a:Act}{w w':World}{P:Program}{T:Tab}
theorem WgD(hh:HRel w0 F G ν objs nx w){e:Ty}(he:e.data=true):
  ∀(l:List (Nat×AVal)) (ps:List (Nat×Value)) (xs ys:List e.den) (vs:Array Value),WcT (Enc G e) xs vs.toList->ps.length=l.length->
   (∀(j:Nat) (p:Nat×AVal) (q:Nat×Value),l[j]?=some p->ps[j]?=some q->p.1=q.1/\AValRel G ν nx p.2 q.2)->WnY e objs l xs=some ys->
   ∃aj,Instr.fill (λi=>some (i*e.size,e.size)) vs ps=some aj/\WcT (Enc G e) ys aj.toList/\ys.length=xs.length
 | [],[],xs,ys,vs,hc,_,_,h=>by simp[WnY]at h;subst h;exact⟨vs,rfl,hc,rfl⟩
 |(i,x)::l,[],_,_,_,_,hl,_,_=>by simp at hl
 | [],_::_,_,_,_,_,hl,_,_=>by simp at hl
 |(i,x)::l,(i',v)::ps,xs,ys,vs,hc,hl,hp,h=>by
  obtain⟨hi,hx⟩:=hp 0 _ _ rfl rfl;simp only at hi hx;subst hi;simp only[WnY]at h;split at h
  .rename_i ds fA;split at h
   .rename_i d hf;split at h
    .rename_i ad;obtain⟨h1,_⟩:=Wcw hx fA;have eD:=WkG hh h1 he hf;have aa:v.cells.toList.length=e.size:=WS _ _ _ eD;have ee:vs.toList.length=xs.length*e.size:=Wc5 (λx c hc=>WS e x c hc) _ _ hc;have bO:i*e.size+e.size<=xs.length*e.size:=by rw[←Xbl];exact Xau _ ad
     have dv:=Whp v.cells.toList (i*e.size) 0 vs (by simp_all);simp only[Xay]at dv;have fO:=WiJ (λx c hc=>WS e x c hc) xs vs.toList i d v.cells.toList hc ad eD;obtain⟨aj,h4,h5,h6⟩:=WgD hh he l ps (xs.set i d) ys _ (by rw[dv,aa];exact fO) (by simp_all) (λj p q hj hq=>hp (j+1) p q (by simp_all) (by simp_all)) h;refine⟨aj,?_,h5,by grind⟩;simp only[Instr.fill];rw[Wc (by simp_all)];rw[←h4];congr 1;rw[←Xer];simp
    grind
   grind
  grind
theorem Wgq(hT:W5 P T)(hr:Rel w0 F nt G0 G ν st a w){o:Oper}(hd:∀d,o.dst=some d->nt.Ok d){t:TypeId}{n:Nat}{parts:Array (Nat×Operand)}(ho:o.op= .buildSlice t n parts)
  {ty:Ty} {et:TypeId} {te:TE} {ps:List (Nat×AVal)} {xs:List te.ty.den} (hl:Wj T t=some ⟨ty,false,.slice et⟩) (aG:Wj T et=some te)
  (h1:ps.length=parts.toList.length) (h2:∀(j:Nat) (p:Nat×AVal) (q:Nat×Operand),ps[j]?=some p->parts.toList[j]?=some q->p.1=q.1/\AValRel G ν st.nx p.2 (a.eval q.2))
  (hf:WnY te.ty st.objs ps (Xr n te.ty.dflt)=some xs) (bE:n*te.ty.size<=16777216) (aO:te.ty.data=true) (hp:te.plain=true):
  Done P w0 F nt G0 o a w (st.new o.dst (.arr te.ty xs) (.s (.one (.own st.nx)))):=by
 have hu:=(hT _ _ hl).und.2.1;obtain⟨z,hz,dh⟩:=WdS (w:=w) (hT _ _ aG);rw[Wa1 hp]at dh;have fP:z.cells.size=te.ty.size:=by rw[←Xam,dh,WaT]
 have dw:=WeZ z.cells n;rw[fP,dh]at dw;obtain⟨aj,h3,h4,h5⟩:=WgD hr.h aO ps (parts.toList.map λp=>(p.1,a.eval p.2)) _ xs ((Xcc (n*te.ty.size)).map λi=>z.cells[i%te.ty.size]!) (by grind [Wfk]) (by simp[h1]) (λj p q hp hq=>by
   grind) hf
 have fB:xs.length=n:=by grind
 have eE:=Wba te.ty;have hn:n<=16777216:=Xcr (Nat.le_mul_of_pos_right n eE) bE;have pm:aj.size=n*te.ty.size:=by
  rw[←Xam,Wc5 (λx c hc=>WS te.ty x c hc) _ _ h4,fB]
 obtain⟨⟨ν',h6⟩,_⟩:=WlW (t:=et) (vs:=aj) hr hd (e:=te.ty) aO (xs:=xs) (cap:=n) (cs:=aj.toList) (by omega) (by unfold maxLen;omega) pm h4 (Xff _) w rfl rfl rfl rfl;rw[fB]at h6;refine⟨_,_,_,G,ν',?_,.inl rfl,h6⟩;have fQ:(parts.map λx=>match x with|(i,x)=>(i,a.eval x)).toList=parts.toList.map λp=>(p.1,a.eval p.2):=by simp
 simp only[execOp,ho,Instr.buildSlice,Sem.run_bind,Wi hu,Result.andThen_ok,(hT _ _ aG).sizeOf,WJ hp,Wc (show¬n*te.ty.size>2^24 by omega),Sem.run_pure];by_cases h0:n*te.ty.size=0
 .have pX:n=0:=by rcases Nat.mul_eq_zero.1 h0 with h|h<;>omega
  have e1:((Xcc (n*te.ty.size)).map λi=>z.cells[i%te.ty.size]!)= #[]:=by grind
  rw[e1]at h3;have e2:∀zz:Array Value,((Xcc (n*te.ty.size)).map λi=>zz[i%zz.size]!)= #[]:=λzz=>by grind
  simp only[We h0,Sem.run_pure,Result.andThen_ok,e2,fQ,h3,WbY];rfl
 simp_all [Wc,Sem.run_bind,Result.andThen_ok,Sem.run_pure,WbY]
theorem WhO(hT:W5 P T)(hr:Rel w0 F nt G0 G ν st a w){o:Oper}(hd:∀d,o.dst=some d->nt.Ok d){t:TypeId}{n c:Operand}(ho:o.op= .makeSlice t n c)
  {ty:Ty} {et:TypeId} {te:TE} {n' c':Int} {k k':IntKind} (hl:Wj T t=some ⟨ty,false,.slice et⟩) (aG:Wj T et=some te) (hn:a.eval n= .int k n') (hc:a.eval c= .int k' c')
  (h0:0<=n') (h1:n'<=c') (h2:WV c'.toNat=true) (aO:te.ty.data=true) (hp:te.plain=true):
  Done P w0 F nt G0 o a w (st.new o.dst (.arr te.ty (Xr n'.toNat te.ty.dflt)) (.s (.one (.own st.nx)))):=by
 have hu:=(hT _ _ hl).und.2.1;obtain⟨i,z,hi,hs,hz,dh,lu⟩:=(hT _ _ aG).info;rw[Wa1 hp]at dh;rw[WJ hp]at hs;have fP:z.cells.size=te.ty.size:=by rw[←Xam,dh,WaT]
 have aq:c'.toNat<=1073741824:=by simpa [WV]using h2
 have dw:=WeZ z.cells c'.toNat;rw[fP,dh]at dw;have pY:rep (Wa3 te.ty) n'.toNat<+:rep (Wa3 te.ty) c'.toNat:=by
  have:∀(l:List Value) (p q:Nat),rep l p<+:rep l (p+q):=λl p q=>by
   induction p with
   |zero=>exact Xgt
   |succ p ih=>grind [Nat.succ_add,rep,Xeq]
  have h:=this (Wa3 te.ty) n'.toNat (c'.toNat-n'.toNat)
  rwa [show n'.toNat+(c'.toNat-n'.toNat)=c'.toNat by omega]at h
 have hb:(i.bytes:Int)*c'<=281474976710656:=by
  have h3:(i.bytes:Int)*c'<=4096*c':=Xel (by omega) (by omega);omega
 have hm:madeCells z.cells (c'.toNat*i.size)=(Xcc (c'.toNat*te.ty.size)).map λi=>z.cells[i%te.ty.size]!:=by
  rw[hs,←fP];rfl
 obtain⟨⟨ν',h6⟩,_⟩:=WlW (t:=et) (vs:=(Xcc (c'.toNat*te.ty.size)).map λi=>z.cells[i%te.ty.size]!) hr hd (e:=te.ty) aO (xs:=Xr n'.toNat te.ty.dflt) (cap:=c'.toNat) (cs:=rep (Wa3 te.ty) n'.toNat) (by simp;omega) (by unfold maxLen;omega)
  (by simp) (Wfk aO _) (by simp_all) w rfl rfl rfl rfl
 rw[Xfl]at h6;refine⟨_,_,_,G,ν',?_,.inl rfl,h6⟩
 grind [execOp,Sem.run_bind,run_make,Result.andThen_ok,Sem.run_pure]
theorem Whj(hT:W5 P T)(hr:Rel w0 F nt G0 G ν st a w){o:Oper}(hd:∀d,o.dst=some d->nt.Ok d){t:TypeId}{n c:Operand}(ho:o.op= .makeSlice t n c)
  {ty:Ty} {et:TypeId} {te:TE} {e:Ty} {n' c':Int} {k k':IntKind} (hl:Wj T t=some ⟨ty,false,.slice et⟩) (aG:Wj T et=some te) (hn:a.eval n= .int k n') (hc:a.eval c= .int k' c')
  (h0:0<=n') (h1:n'<=c') (h2:WV c'.toNat=true) (he:e.ro=te.ty) (hp:te.plain=true):
  Done P w0 F nt G0 o a w (st.new o.dst (.arr e (Xr n'.toNat e.dflt)) (.s (.one (.own st.nx)))):=by
 have hu:=(hT _ _ hl).und.2.1;obtain⟨i,z,hi,hs,hz,dh,lu⟩:=(hT _ _ aG).info;rw[Wa1 hp]at dh;rw[WJ hp]at hs;have nB:te.ty.size=e.size:=by rw[←he,Wa7]
 have fP:z.cells.size=te.ty.size:=by rw[←Xam,dh,WaT]
 have aq:c'.toNat<=1073741824:=by simpa [WV]using h2
 have dw:=WeZ z.cells c'.toNat;rw[fP,dh]at dw;have pY:rep (Wa3 te.ty) n'.toNat<+:rep (Wa3 te.ty) c'.toNat:=by
  have:∀(l:List Value) (p q:Nat),rep l p<+:rep l (p+q):=λl p q=>by
   induction p with
   |zero=>exact Xgt
   |succ p ih=>grind [Nat.succ_add,rep,Xeq]
  have h:=this (Wa3 te.ty) n'.toNat (c'.toNat-n'.toNat)
  rwa [show n'.toNat+(c'.toNat-n'.toNat)=c'.toNat by omega]at h
 have hb:(i.bytes:Int)*c'<=281474976710656:=by
  have h3:(i.bytes:Int)*c'<=4096*c':=Xel (by omega) (by omega);omega
 have hm:madeCells z.cells (c'.toNat*i.size)=(Xcc (c'.toNat*te.ty.size)).map λi=>z.cells[i%te.ty.size]!:=by
  rw[hs,←fP];rfl
 obtain⟨⟨ν',h6⟩,_⟩:=Wgj (t:=et) (vs:=(Xcc (c'.toNat*te.ty.size)).map λi=>z.cells[i%te.ty.size]!) hr hd [] (e:=e) (xs:=Xr n'.toNat e.dflt) (cap:=c'.toNat) (cs:=rep (Wa3 te.ty) n'.toNat) (by simp;omega) (by unfold maxLen;omega)
  (by simp[nB]) (λφ _=>by
   obtain⟨ps,g1,g2⟩:=Wrj (G:=G) (w:=w) e n'.toNat;rw[he]at g1;exact⟨ps,g1,WjV ps g2,λp hp b o hh=>by simp_all⟩) (by simp_all) w rfl rfl rfl rfl
 rw[Xfl]at h6;refine⟨_,_,_,G,ν',?_,.inl rfl,h6⟩
 grind [execOp,Sem.run_bind,run_make,Result.andThen_ok,Sem.run_pure]
theorem WkZ(hT:W5 P T)(hr:Rel w0 F nt G0 G ν st a w){o:Oper}(hd:∀d,o.dst=some d->nt.Ok d){t:TypeId}{parts:Array (Nat×Operand)}{x:Operand}(ho:o.op= .buildSlice t 1 parts)(cq:parts.toList= [(0,x)])
  {ty:Ty} {et:TypeId} {te:TE} {e:Ty} {xv:AVal} {ds:List Cell} {d:e.den} {m:List Nat} (hl:Wj T t=some ⟨ty,false,.slice et⟩) (aG:Wj T et=some te) (hx:AValRel G ν st.nx xv (a.eval x)) (fA:Wfs xv=some ds)
  (hf:Wac e ds st.objs=some (d,m,[])) (hm:m.Nodup) (he:e.ro=te.ty) (hp:te.plain=true) (bE:te.ty.size<=16777216):
  Done P w0 F nt G0 o a w (({env:=st.env,objs:=(st.nx,.arr e [d])::kill st.objs m,nx:=st.nx+1}:St).put o.dst (.s (.one (.own st.nx)))):=by
 have hu:=(hT _ _ hl).und.2.1;obtain⟨z,hz,dh⟩:=WdS (w:=w) (hT _ _ aG);rw[Wa1 hp]at dh;have nB:te.ty.size=e.size:=by rw[←he,Wa7]
 have fP:z.cells.size=te.ty.size:=by rw[←Xam,dh,WaT]
 have dw:=WeZ z.cells 1;rw[fP,dh]at dw;simp only[rep,Xcf,Nat.one_mul]at dw;obtain⟨h1,h2⟩:=Wcw hx fA;have dv:∀φ,HR w0 F G ν φ st.objs st.nx w->∃ps,WdQ (Wm G w e) [d] (a.eval x).cells.toList ps/\Sep (ps.map Pc.fp)/\∀p∈ps,CS.le p.fp (FromL φ st.objs m):=λφ hφ=>by
  obtain⟨ns,g1,g2,g3,_⟩:=W2 (G':=G) hφ (λ_ _ _ hh=>hh) e ds _ d m [] h1 (λi hi=>by simp at hi) hm hf;exact⟨ns,Wnc.2 g1,g2,g3⟩
 have aa:(a.eval x).cells.size=e.size:=by
  obtain⟨φ,hφ⟩:=hr.h;obtain⟨ps,g1,_⟩:=dv φ hφ;have:=Wu _ _ _ _ (Wnc.1 g1);simpa using this
 have tt:((Xcc te.ty.size).map λi=>z.cells[i%te.ty.size]!).size=te.ty.size:=by simp
 have fO:=Whp (a.eval x).cells.toList 0 0 ((Xcc te.ty.size).map λi=>z.cells[i%te.ty.size]!) (by simp;omega);have nC:((Xcc te.ty.size).map λi=>z.cells[i%te.ty.size]!).toList.length=e.size:=by simp[nB]
 have ee:((a.eval x).cells.toList.zipIdx.foldl (λcs (c,j)=>cs.setIfInBounds (0+j) c) ((Xcc te.ty.size).map λi=>z.cells[i%te.ty.size]!)).toList=(a.eval x).cells.toList:=by
  rw[fO];simp only[Nat.zero_add,List.take_zero,List.nil_append];rw[List.drop_eq_nil_of_le (by rw[nC];simp;omega),Xcf]
 generalize hV:(a.eval x).cells.toList.zipIdx.foldl (λcs (c,j)=>cs.setIfInBounds (0+j) c) ((Xcc te.ty.size).map λi=>z.cells[i%te.ty.size]!)=V at ee;have hVs:V.size=1*e.size:=by rw[←Xam,ee];simp[aa]
 obtain⟨⟨ν',h6⟩,_⟩:=Wgj (t:=et) (vs:=V) hr hd m (e:=e) (xs:=[d]) (cap:=1) (cs:=(a.eval x).cells.toList) (by simp) (by unfold maxLen;omega) hVs dv (by rw[ee];exact Xff _) w rfl rfl rfl rfl;refine⟨_,_,_,G,ν',?_,.inl rfl,h6⟩;have nD:Instr.fill (λi=>some (i*te.ty.size,te.ty.size)) ((Xcc te.ty.size).map λi=>z.cells[i%te.ty.size]!) [(0,a.eval x)]=some V:=by
  simp only[Instr.fill,Xem];rw[Wc (by simp;omega),←hV];congr 1;rw[←Xer];simp
 have fQ:(parts.map λx=>match x with|(i,x)=>(i,a.eval x)).toList= [(0,a.eval x)]:=by simp[cq]
 have eE:=Wba te.ty;simp only[execOp,ho,Instr.buildSlice,Sem.run_bind,Wi hu,Result.andThen_ok,(hT _ _ aG).sizeOf,WJ hp,Nat.one_mul,Wc (show¬te.ty.size>2^24 by omega),Wc (show¬te.ty.size=0 by omega),Sem.run_pure,hz,fP,fQ,nD,WbY];rfl
theorem Wdx{t:TypeId}{te:TE}(bo:TEok P T t te){b off:Nat}{v:Value}{cur:Array Value}{TT:TypeId}(hg:w.heap[b]?=some (.cells cur TT (0,0)))(bE:te.size=v.cells.size)(bO:off+v.cells.size<=cur.size)(h1:∀u∈v.cells.toList,u.oneCell'=true):
  (storeVar t ⟨b,off,none⟩ v).run P w= .ok () (w.setRow b (cur.toList.take off++v.cells.toList++cur.toList.drop (off+v.cells.size)).toArray):=by
 have h:=run_storeCells_at P b off TT v.cells.toList 0 cur w hg (by simpa using bO) h1;simp only[Xay,Xam]at h;simp[storeVar,bo.sizeOf,bE,h]
theorem Wb2{b k:Nat}{vs:Array Value}{T:TypeId}{news:List Value}(h:w.heap[b]?=some (Obj.cells vs T (0,0)))(bO:k+news.length<=vs.size):
  WLe (rng b k news.length) w (w.setRow b (vs.toList.take k++news++vs.toList.drop (k+news.length)).toArray)/\Mem (w.setRow b (vs.toList.take k++news++vs.toList.drop (k+news.length)).toArray) b k news:=by
 have hk:(vs.toList.take k).length=k:=by simp;omega
 constructor
 .refine WLe.setRow h (by simp;omega) (λo hn=>?_);have hn':¬(k<=o/\o<k+news.length):=λ⟨h1,h2⟩=>hn ⟨rfl,h1,h2⟩;simp only[Xed,Xax];rw[Xan,hk];split
  .rename_i ad;rw[Xbg,We ad];simp
  .rw[Xan];split
   .omega
   .rw[Xbf,show k+news.length+(o-k-news.length)=o by omega];simp
 .intro j v hj;rw[cell_of_row _ b _ _ T (0,0) (setRow_heap w b vs _ T (0,0) h)];have ad:j<news.length:=(Xz.1 hj).1;simp only[Xed,Xax];rw[Xbr (by omega),hk,Xce (by omega),show k+j-k=j by omega];exact hj
theorem WdN{b o k:Nat}{vs us:List Value}(hm:Mem w b o vs)(hw:WLe (rng b (o+k) us.length) w w')(hu:Mem w' b (o+k) us)(hk:k+us.length<=vs.length):Mem w' b o (vs.take k++us++vs.drop (k+us.length)):=λj v hj=>by
 have fe:∀v',vs[j]?=some v'->¬(k<=j/\j<k+us.length)->w'.cell? ⟨b,o+j,none⟩=some v':=λv' hv hn=>by
  have h1:=hm j v' hv;rw[hw.cell b (o+j) (block_lt_of_cell h1) (λ⟨_,h2,h3⟩=>hn ⟨by omega,by omega⟩)];exact h1
 have ik:(vs.take k).length=k:=by simp;omega
 rw[Xax,Xan,ik]at hj;split at hj
 .rename_i ad;rw[Xbg,We ad]at hj;exact fe v hj (by omega)
 .rw[Xan]at hj;split at hj
  .have:=hu (j-k) v hj;rw[show o+j=o+k+(j-k) by omega];exact this
  .rw[Xbf,show k+us.length+(j-k-us.length)=j by omega]at hj;exact fe v hj (by omega)
theorem HR.turn{φ:Nat->CS}(h:HR w0 F G ν φ objs nx w){id:Nat}{ob cp:Ob}{m:List Nat}(ho:Wj objs id=some ob)(hd:ob≠ .dead){S:CS}(hw:WLe S w w')(hs:CS.le S (φ id))
  (cE:WbR G ν nx w' id (λb o=>φ id b o\/FromL φ objs m b o) cp):HRel w0 F G ν ((id,cp)::kill objs m) nx w':=by
 have hl:Live objs id:=⟨ob,ho,hd⟩;exact⟨_,h.put (ν':=ν) (λ_ _=>rfl) (Xm _) (h.lt id hl) (hw.mono λb o hh=>⟨id,.inl rfl,hl,hs b o hh⟩) (λb o hh=>by
  rcases hh with hh|⟨i,hi,h1,h2⟩
  .exact .inl ⟨id,.inl rfl,hl,hh⟩
  .exact .inl ⟨i,.inr hi,h1,h2⟩) (λ_=>cE)⟩
theorem Wnt(hT:W5 P T)(hr:Rel w0 F nt G0 G ν st a w){o:Oper}{t:TypeId}{x y:Operand}(ho:o.op= .store t x y)(gV:o.dst=none){p v:AVal}(hx:AValRel G ν st.nx p (a.eval x))(hy:AValRel G ν st.nx v (a.eval y))
  (h:Wcd T st t p v=some ac):Done P w0 F nt G0 o a w ac:=by
 unfold Wcd at h;split at h
 .rename_i te id off ds hl fA;obtain⟨fR,jX⟩:=Wcw hy fA;split at h
  .rename_i cs an;split at h
   .rename_i bc;simp only[Xg,Wg]at bc;obtain⟨⟨hs,ec⟩,bO⟩:=bc;injection h with h;subst h;obtain⟨⟨_,b,hb,jB⟩,_⟩:=hx;obtain⟨φ,hφ⟩:=hr.h;obtain⟨b',vs,bV,⟨row,TT,eF,aJ⟩,ay,bk,dW⟩:=hφ.ob _ _ an;rw[hb]at bV;injection bV with bV;subst bV;have aa:(a.eval y).cells.size=ds.length:=by have:=fR.1;simpa using this
    have aM:=Wdx (w:=w) (hT _ _ hl) (b:=b) (off:=(ν id).off+off) (v:=a.eval y) eF (by rw[WJ ec,aa];exact hs) (by omega) jX;obtain⟨hw,hm⟩:=Wb2 (k:=(ν id).off+off) (news:=(a.eval y).cells.toList) eF (by simp;omega);simp only[Xam]at hw hm;generalize w.setRow b (row.toList.take ((ν id).off+off)++(a.eval y).cells.toList++row.toList.drop ((ν id).off+off+(a.eval y).cells.size)).toArray=W at aM hw hm;have cE:HRel w0 F G ν ((id,.box (Wc8 cs off ds))::st.objs) st.nx W:=by
     refine hφ.turn (m:=[]) an (by simp) hw (λb' o ⟨e,h1,h2⟩=>dW b' o ⟨e,by omega,by omega⟩) ?_;refine⟨b,_,hb,by rw[WdR bO];exact hw.rows.row _ _ ⟨row,TT,eF,aJ⟩,WdN ay (us:=(a.eval y).cells.toList) (by rw[Xam];exact hw) hm (by rw[bk.1];simp;omega),Wd2 bk fR,λb o hh=>.inl (dW b o (by rw[WdR bO]at hh;exact hh))⟩
    refine⟨.skip,undef,W,G,ν,?_,.inr ⟨rfl,rfl⟩,?_⟩
    .simp only[execOp,ho,jB,Instr.storeAt,Instr.sureAddr,Sem.run_bind,Sem.run_pure,Result.andThen_ok,aM]
    .rw[gV];exact hr.on (λ_ _ _ hh=>hh) (λ_ _=>rfl) (Xm _) cE hr.gx
   .simp at h
  .simp at h
 .rename_i te id i off ds hl fA;obtain⟨fR,jX⟩:=Wcw hy fA;split at h
  .rename_i e xs an;split at h
   .rename_i bc;simp only[Xg,Wg]at bc;obtain⟨⟨⟨hs,ec⟩,bO⟩,aO⟩:=bc;split at h
    .rename_i d hf;injection h with h;subst h;obtain⟨⟨_,pZ,b,hb,jB⟩,_⟩:=hx;obtain⟨φ,hφ⟩:=hr.h;have az:Wa9 w (Wm G w e) e.size (ν id) xs (φ id):=hφ.ob _ _ an;obtain⟨fB,h4,h5,iQ,cs,h7,h8,h9⟩:=Wcz aO az hb;obtain⟨row,TT,eF,aJ⟩:=iQ;have bN:=az.2.1;have ad:i<xs.length:=by omega
     have aa:(a.eval y).cells.toList.length=ds.length:=fR.1;have dB:(a.eval y).cells.size=ds.length:=by simpa using aa
     have cK:cs.length=xs.length*e.size:=Wc5 (λx c hc=>WS e x c hc) _ _ h7;have tu:i*e.size+e.size<=xs.length*e.size:=by rw[←Xbl];exact Xau _ ad
     have tv:xs.length*e.size<=(ν id).cap*e.size:=Xau _ h4;have p0:=Wkj (λx c hc=>WS e x c hc) xs cs i e.dflt h7 ad;have p4:=Wd2 (off:=off) (Wak (G:=G) (ν:=ν) (nx:=st.nx) e _ _ p0) fR;have eD:=WkG hr.h p4 aO hf;have fO:=WiJ (λx c hc=>WS e x c hc) xs cs i d _ h7 ad eD;have aM:=Wdx (w:=w) (hT _ _ hl) (b:=b) (off:=(ν id).off+(i*e.size+off)) (v:=a.eval y) eF (by rw[WJ ec];omega) (by omega) jX;obtain⟨hw,hm⟩:=Wb2 (k:=(ν id).off+(i*e.size+off)) (news:=(a.eval y).cells.toList) eF (by omega);simp only[Xam]at hw hm;generalize w.setRow b (row.toList.take ((ν id).off+(i*e.size+off))++(a.eval y).cells.toList++row.toList.drop ((ν id).off+(i*e.size+off)+(a.eval y).cells.size)).toArray=W at aM hw hm;have lv:cs.take (i*e.size+off)++(a.eval y).cells.toList++cs.drop (i*e.size+off+(a.eval y).cells.toList.length)=
       cs.take (i*e.size)++(((cs.drop (i*e.size)).take e.size).take off++(a.eval y).cells.toList++((cs.drop (i*e.size)).take e.size).drop (off+(a.eval y).cells.toList.length))++cs.drop (i*e.size+e.size):=by
      rw[aa];have e1:cs.take (i*e.size+off)=cs.take (i*e.size)++((cs.drop (i*e.size)).take e.size).take off:=by
       rw[List.take_take,Xbw (by omega),←List.take_add]
      have e2:cs.drop (i*e.size+off+ds.length)=((cs.drop (i*e.size)).take e.size).drop (off+ds.length)++cs.drop (i*e.size+e.size):=by
       rw[List.drop_take,Xdg];have:cs.drop (i*e.size+e.size)=(cs.drop (i*e.size+(off+ds.length))).drop (e.size-(off+ds.length)):=by rw[Xdg];congr 1;omega
       rw[this,Xdi];congr 1;omega
      rw[e1,e2];simp
     have cE:HRel w0 F G ν ((id,.arr e (xs.set i d))::st.objs) st.nx W:=by
      refine hφ.turn (m:=[]) an (by simp) hw (λb' o ⟨e',h1,h2⟩=>h9 b' o ⟨e',by omega,by omega⟩) ?_;refine Wka aO hb (by simpa using fB) bN (by simpa using h4) h5 (hw.rows.row _ _ ⟨row,TT,eF,aJ⟩) fO ?_ (λb o hh=>.inl (h9 b o hh));rw[←lv];exact WdN h8 (us:=(a.eval y).cells.toList) (by rw[Xam];exact hw) hm (by omega)
     refine⟨.skip,undef,W,G,ν,?_,.inr ⟨rfl,rfl⟩,?_⟩
     .simp only[execOp,ho,jB,bN,Instr.storeAt,Instr.sureAddr,Sem.run_bind,Sem.run_pure,Result.andThen_ok,aM]
     .rw[gV];exact hr.on (λ_ _ _ hh=>hh) (λ_ _=>rfl) (Xm _) cE hr.gx
    .simp at h
   .split at h
    .rename_i bc;simp only[Xg,Wg]at bc;obtain⟨⟨⟨hs,ec⟩,p7⟩,tw⟩:=bc;subst p7;split at h
     .rename_i d m hf;split at h
      .rename_i aH;injection h with h;subst h;have aH:(id::m).Nodup:=(Wca _).1 aH;obtain⟨pn,tx⟩:=Xaa.1 aH;obtain⟨⟨_,pZ,b,hb,jB⟩,_⟩:=hx;obtain⟨φ,hφ⟩:=hr.h;have az:Wa9 w (Wm G w e) e.size (ν id) xs (φ id):=hφ.ob _ _ an;have ax:Live st.objs id:=⟨_,an,by simp⟩;obtain⟨fB,bN,h3⟩:=az;simp only[hb]at h3;obtain⟨h4,h5,iQ,cs,ps,h7,h8,h9,cG⟩:=h3;obtain⟨row,TT,eF,aJ⟩:=iQ;have ad:i<xs.length:=by omega
       have aa:(a.eval y).cells.toList.length=ds.length:=fR.1;have dB:(a.eval y).cells.size=ds.length:=by simpa using aa
       have tu:i*e.size+e.size<=xs.length*e.size:=by rw[←Xbl];exact Xau _ ad
       have tv:xs.length*e.size<=(ν id).cap*e.size:=Xau _ h4;obtain⟨c1,c,c2,p1,pc,p2,g1,g2,g3,g4,g5⟩:=Wlj h7 e.dflt ad;have l1:=Waw (λx c q hx=>Wu e x c q hx) _ _ _ g3;rw[Xbe,Xbw (by omega)]at l1;have lc:=Wu _ _ _ _ g4;obtain⟨ns,t1,t2,t3,t4,_⟩:=W2 (G':=G) hφ (λ_ _ _ hh=>hh) e ds _ d m [] fR (λi hi=>by simp at hi) tx hf;have aM:=Wdx (w:=w) (hT _ _ hl) (b:=b) (off:=(ν id).off+(i*e.size+0)) (v:=a.eval y) eF (by rw[WJ ec];omega) (by omega) jX;obtain⟨hw,hm⟩:=Wb2 (k:=(ν id).off+(i*e.size+0)) (news:=(a.eval y).cells.toList) eF (by omega);simp only[Xam]at hw hm;generalize w.setRow b (row.toList.take ((ν id).off+(i*e.size+0))++(a.eval y).cells.toList++row.toList.drop ((ν id).off+(i*e.size+0)+(a.eval y).cells.size)).toArray=W at aM hw hm;have fS:CS.le (rng b ((ν id).off+(i*e.size+0)) (a.eval y).cells.size) (rng b (ν id).off ((ν id).cap*e.size)):=λb' o ⟨e',k1,k2⟩=>⟨e',by omega,by omega⟩;have ff:=cG _ (Xh ..);have fL:∀p∈p1++(pc++p2),∀b o,p.fp b o->b<w.heap.size:=λp hp b o hh=>hφ.bl id b o ax (cG p.fp (Xe _ (Xaj (by rw[g2];exact hp))) b o hh);obtain⟨q1,q2⟩:=Xw.1 h9;have gB:∀p∈p1++(pc++p2),Same p.fp w W:=λp hp=>hw.same ((q1 p.fp (Xaj (by rw[g2];exact hp))).mono fS (λ_ _ hh=>hh)) (fL p hp);have iS:∀p∈ns,Same p.fp w W:=λp hp=>hw.same (λb o k1 k2=>by
        obtain⟨j,hj,k3,k4⟩:=t3 p hp b o k2;have:=hφ.inj id j b o ax k3 (ff b o (fS b o k1)) k4;subst this;exact pn hj) (λb o hh=>by
        obtain⟨j,hj,k3,k4⟩:=t3 p hp b o hh;exact hφ.bl j b o k3 k4)
       have hEnc:WdQ (Wm G W e) (xs.set i d) (c1++((a.eval y).cells.toList++c2)) (p1++(ns++p2)):=by
        refine Wm4 ad ?_ (Wag (λ_ _ _ hh=>hh) e _ _ _ iS t1) ?_
        .exact Wbd (Q:=λq=>Same q.fp w W) (λx c q hq hx=>Wag (λ_ _ _ hh=>hh) e x c q hq hx) _ _ _ (λq hq=>gB q (Xj _ hq)) g3
        .exact Wbd (Q:=λq=>Same q.fp w W) (λx c q hq hx=>Wag (λ_ _ _ hh=>hh) e x c q hq hx) _ _ _ (λq hq=>gB q (Xf _ (Xf _ hq))) g5
       have hMem:Mem W b (ν id).off (c1++((a.eval y).cells.toList++c2)):=by
        have:=WdN h8 (k:=i*e.size+0) (us:=(a.eval y).cells.toList) (by rw[Xam];exact hw) hm (by rw[g1];simp;omega);rw[g1,Xay,List.take_append_of_le_length (by omega),List.take_of_length_le (by omega)]at this;have nE:(c1++(c++c2)).drop (i*e.size+(a.eval y).cells.toList.length)=c2:=by
         rw[←Xax,show i*e.size+(a.eval y).cells.toList.length=(c1++c).length by rw[Xo];omega,List.drop_left]
        rw[nE,Xax]at this;exact this
       have cE:HRel w0 F G ν ((id,.arr e (xs.set i d))::kill st.objs m) st.nx W:=by
        refine hφ.turn an (by simp) hw (λb' o hh=>ff b' o (fS b' o hh)) ?_;refine⟨by simpa using fB,bN,?_⟩;simp only[hb];rw[g2,Xy,Xy]at q2 q1;have qA:=Xah.1 q2;have qB:=Xah.1 qA.2.1;have p8:∀p∈ns,∀s,CS.le s (φ id)->CS.disj p.fp s:=λp hp s hs b o k1 k2=>by
         obtain⟨j,hj,k3,k4⟩:=t3 p hp b o k1;have:=hφ.inj id j b o ax k3 (hs b o k2) k4;subst this;exact pn hj
        have cq:∀p∈p1++(pc++p2),CS.le p.fp (φ id):=λp hp=>cG p.fp (Xe _ (Xaj (by rw[g2];exact hp)));refine⟨by simpa using h4,h5,hw.rows.row _ _ ⟨row,TT,eF,aJ⟩,_,p1++(ns++p2),hEnc,hMem,Xw.2 ⟨λs hs=>?_,?_⟩,λs hs=>?_⟩
        .simp only[Xy,Xl]at hs;rcases hs with hs|hs|hs
         .exact q1 s (Xj _ hs)
         .obtain⟨p,hp,rfl⟩:=Xv.1 hs;exact(p8 p hp _ ff).symm
         .exact q1 s (Xf _ (Xf _ hs))
        .rw[Xy,Xy];refine WjS (Xah.2 ⟨qA.1,qB.2.1,λs hs t ht=>qA.2.2 s hs t (Xf _ ht)⟩) t2 (λs hs t ht=>?_);obtain⟨p,hp,rfl⟩:=Xv.1 hs;rcases Xl.1 ht with ht|ht
         .obtain⟨q,hq,rfl⟩:=Xv.1 ht;exact p8 p hp _ (cq q (Xj _ hq))
         .obtain⟨q,hq,rfl⟩:=Xv.1 ht;exact p8 p hp _ (cq q (Xf _ (Xf _ hq)))
        .intro b o hh;rcases Xq.1 hs with rfl|hs
         .exact .inl (ff b o hh)
         .simp only[Xy,Xl]at hs;rcases hs with hs|hs|hs
          .obtain⟨q,hq,rfl⟩:=Xv.1 hs;exact .inl (cq q (Xj _ hq) b o hh)
          .obtain⟨q,hq,rfl⟩:=Xv.1 hs;exact .inr (t3 q hq b o hh)
          .obtain⟨q,hq,rfl⟩:=Xv.1 hs;exact .inl (cq q (Xf _ (Xf _ hq)) b o hh)
       refine⟨.skip,undef,W,G,ν,?_,.inr ⟨rfl,rfl⟩,?_⟩
       .simp only[execOp,ho,jB,bN,Instr.storeAt,Instr.sureAddr,Sem.run_bind,Sem.run_pure,Result.andThen_ok,aM]
       .rw[gV];exact hr.on (λ_ _ _ hh=>hh) (λ_ _=>rfl) (Xm _) cE hr.gx
      .simp at h
     .simp at h
    .simp at h
  .simp at h
 .simp at h
end
end Go.Sx
namespace Go.Sx
set_option linter.unusedVariables false
set_option linter.unusedSimpArgs false
theorem WrJ{G:GH}(t:Ty)(d:t.den)(cs:List Value)(h:Enc G t d cs):∀u∈cs,u.oneCell'=true:=λu hu=>by
 obtain⟨j,hj⟩:=Xdj hu;have hc:=Wak (ν:=λ_=>⟨none,0,0,0,0⟩) (nx:=0) t d cs h;have ad:j<(split t d).length:=by rw[←hc.1];grind
 exact(hc.2 j _ u (Xp ad) hj).2
theorem Wm3{G:GH}{t:Ty}:∀(l:List t.den) (cs:List Value),WcT (Enc G t) l cs->∀u∈cs,u.oneCell'=true
 | [],cs,h,u,hu=>by grind [WcT]
 |x::l,cs,⟨c1,c2,he,h1,h2⟩,u,hu=>by
  subst he;rcases Xl.1 hu with hu|hu
  .grind [WrJ]
  .exact Wm3 l c2 h2 u hu
theorem WoM{G:GH}{w:World}(t:Ty)(d:t.den)(cs:List Value)(ps:List Pc)(h:Wm G w t d cs ps):∀u∈cs,u.oneCell'=true:=λu hu=>by
 obtain⟨j,hj⟩:=Xdj hu;have hc:=Wgm (ν:=λ_=>⟨none,0,0,0,0⟩) (nx:=0) t d cs ps h;have ad:j<(split t d).length:=by rw[←hc.1];grind
 exact(hc.2 j _ u (Xp ad) hj).2
theorem WkO{G:GH}{w:World}{t:Ty}:∀(l:List t.den) (cs:List Value) (ps:List Pc),WdQ (Wm G w t) l cs ps->∀u∈cs,u.oneCell'=true
 | [],cs,ps,h,u,hu=>by rw[h.1]at hu;simp at hu
 |x::l,cs,ps,⟨c1,c2,p1,p2,he,hp,h1,h2⟩,u,hu=>by
  subst he;rcases Xl.1 hu with hu|hu
  .grind [WoM]
  .exact WkO l c2 p2 h2 u hu
section
variable{w0:World}{F:CS}{nt:Slots}{G0 G:GH}{ν:Nat->Nu}{φ:Nat->CS}{objs:WZ}{nx:Nat}{st ac:St}{a:Act}{w w':World}{P:Program}{T:Tab}
structure Src(w0:World)(F:CS)(G:GH)(ν:Nat->Nu)(st:St)(w:World)(e:Ty)(l:List e.den)(m:List Nat)(v:Value)(news:List Value):Prop where
 enc:∀φ,HR w0 F G ν φ st.objs st.nx w->∃ps,WdQ (Wm G w e) l news ps/\Sep (ps.map Pc.fp)/\∀p∈ps,CS.le p.fp (FromL φ st.objs m)
 rd:(v= .slice none 0 0/\l= [])\/∃(p:Addr) (c:Nat),v= .slice (some p) l.length c/\∀(j:Nat) (u:Value),news[j]?=some u->w.cell? (p.add j)=some u
theorem WbT{e:Ty}(he:e.data=true){l:List e.den}{m:List Nat}{v:Value}{news:List Value}(h:WcT (Enc G e) l news)
  (rd:(v= .slice none 0 0/\l= [])\/∃(p:Addr) (c:Nat),v= .slice (some p) l.length c/\∀(j:Nat) (u:Value),news[j]?=some u->w.cell? (p.add j)=some u):Src w0 F G ν st w e l m v news:=
 ⟨λφ _=>⟨[],(WbM he l news []).2 ⟨h,rfl⟩,List.Pairwise.nil,by simp⟩,rd⟩
theorem Wgw(hr:Rel w0 F nt G0 G ν st a w){e:Ty}(he:e.data=true){x:AVal}{u:Value}{l:List e.den}(m:List Nat)(hx:AValRel G ν st.nx x u)(h:Wsi st e x=some l):∃news,Src w0 F G ν st w e l m u news:=by
 unfold Wsi at h;split at h
 .rename_i e' d';obtain⟨jY,hd⟩:=Wab h;subst jY;simp only at hd;subst hd;obtain⟨⟨v,hv,hs⟩,_⟩:=hx;simp at hv;subst hv;rcases hs with⟨rfl,hn⟩|⟨b,off,cap,cs,rfl,h1,h2,h3,h4⟩|⟨a',cap,rfl,hn⟩
  rotate_left 2
  .exact⟨[],WbT he (by rw[hn];rfl) (.inr ⟨a',cap,by grind,λj u hj=>by simp at hj⟩)⟩
  .exact⟨[],WbT he (by rw[hn];rfl) (.inl ⟨rfl,hn⟩)⟩
  .exact⟨cs,WbT he h3 (.inr ⟨⟨b,off,none⟩,cap,rfl,λj u hj=>by rw[Wau];exact hr.h.g (h4 j u hj)⟩)⟩
 .injection h with h;subst h;obtain⟨hv,_⟩:=hx;simp only[CellRel]at hv;subst hv;exact⟨[],WbT he rfl (.inl ⟨rfl,rfl⟩)⟩
 .rename_i id;split at h
  .rename_i e' xs ho;obtain⟨jY,hd⟩:=Wab h;subst jY;simp only at hd;subst hd;obtain⟨⟨_,hv⟩,_⟩:=hx;subst hv;obtain⟨S,an⟩:=hr.h.obj ho;unfold Nu.hdr;cases hb:(ν id).blk with
   |none=>have:=WbK an hb;exact⟨[],WbT he (by rw[this];rfl) (.inl ⟨rfl,this⟩)⟩
   |some b=>
    obtain⟨h1,h2,h3,h4,cs,h5,h6,h7⟩:=Wcz he an hb;exact⟨cs,WbT he h5 (.inr ⟨⟨b,(ν id).off,none⟩,(ν id).cap,by rw[h1],λj u hj=>by rw[Wau];exact h6 j u hj⟩)⟩
  grind
 .rename_i id lo hi;split at h
  .rename_i e' xs ho;obtain⟨ys,hc,h⟩:=Xs.1 h;subst h;obtain⟨jY,hd⟩:=Wab hc;subst jY;simp only at hd;subst hd;obtain⟨⟨_,g1,g2,g3,hv⟩,_⟩:=hx;subst hv;obtain⟨S,an⟩:=hr.h.obj ho;have bN:=an.2.1;have sa:=an.1;unfold Nu.vhdr;cases hb:(ν id).blk with
   |none=>
    have:=WbK an hb;subst this;exact⟨[],WbT he (by simp;rfl) (.inl ⟨rfl,by simp⟩)⟩
   |some b=>
    obtain⟨h1,h2,h3,h4,cs,h5,h6,h7⟩:=Wcz he an hb;have hl:((xs.take hi).drop lo).length=hi-lo:=by simp;omega
    by_cases p9:(ν id).cap=lo
    .have h0:(xs.take hi).drop lo= []:=Xu (by omega);exact⟨[],WbT he (by rw[h0];rfl) (.inr ⟨_,_,by rw[hl],λj u hj=>by simp at hj⟩)⟩
    .refine⟨(cs.take (hi*e'.size)).drop (lo*e'.size),WbT he (Wdw (λx c hc=>WS e' x c hc) _ _ lo (Wdq (λx c hc=>WS e' x c hc) _ _ hi h5)) (.inr ⟨_,_,by rw[hl,Wc p9],λj u hj=>?_⟩)⟩;rw[Xbf,Xbg]at hj;rw[Wau,bN,Xav];split at hj
     .exact h6 _ u hj
     grind
  grind
 grind
theorem WpA(hr:Rel w0 F nt G0 G ν st a w){dst:Option Tmp}(hd:∀d,dst=some d->nt.Ok d)(e:Ty)(m:List Nat):
  ∃ν',Rel w0 F nt G0 G ν' (({env:=st.env,objs:=(st.nx,.arr e [])::kill st.objs m,nx:=st.nx+1}:St).put dst (.s (.one (.own st.nx)))) (a.put dst (.slice none 0 0)) w:=by
 refine⟨upd ν st.nx ⟨none,0,0,0,e.size⟩,hr.fresh hd m (.arr e []) _ (λ_ _ _=>False) _ _ (λφ _=>WLe.refl _ w) (λφ _ b o hh=>hh.elim) (λφ _=>?_) ⟨⟨Xbo _,by rw[WaX];rfl⟩,rfl⟩⟩;show Wa9 _ _ _ (upd ν st.nx ⟨none,0,0,0,e.size⟩ st.nx) _ _;rw[WaX];exact⟨rfl,rfl,rfl⟩
theorem WgM(t ty e TT:TypeId)(i:TypeInfo)(ht:P.underlying t=some (.slice e))(hi:P.info? e=some i)
  (g off sLen sCap:Nat) (cur:Array Value) (hg:w.heap[g]?=some (.cells cur TT (0,0)))
  (p:Addr) (m c:Nat) (news:List Value) (hl:news.length=m*i.size) (nF:∀j u,news[j]?=some u->w.cell? (p.add j)=some u) (h1:∀u∈news,u.oneCell'=true)
  (aq:sLen+m<=sCap) (bO:off+sLen*i.size+news.length<=cur.size):
  (Builtin.append_ #[t,t] ty #[.slice (some ⟨g,off,none⟩) sLen sCap,.slice (some p) m c]).run P w=
   .ok (.slice (some ⟨g,off,none⟩) (sLen+m) sCap) (w.setRow g (cur.toList.take (off+sLen*i.size)++news++cur.toList.drop (off+sLen*i.size+news.length)).toArray):=by
 have hf:=run_firstCells_some (P:=P) w i.size m p m c news hl nF;have bs:=run_storeCells_at P g (off+sLen*i.size) TT news 0 cur w hg (by omega) h1;simp only[Xay]at bs;simp[Builtin.append_,Wi ht,sizeOf,typeInfo,hi,Builtin.lenOf,aq,hf,Wau,bs]
theorem WdG(t ty e:TypeId)(i:TypeInfo)(ht:P.underlying t=some (.slice e))(hi:P.info? e=some i)(base:Option Addr)(n cap:Nat)(h:n<=cap):
  (Builtin.append_ #[t,t] ty #[.slice base n cap,.slice none 0 0]).run P w= .ok (.slice base n cap) w:=by
 cases base<;>simp[Builtin.append_,Wi ht,sizeOf,typeInfo,hi,Builtin.lenOf,h,Builtin.firstCells,storeCells]
theorem WgH(t ty e:TypeId)(i:TypeInfo)(ht:P.underlying t=some (.slice e))(hi:P.info? e=some i)(p:Addr)(c:Nat):
  (Builtin.append_ #[t,t] ty #[.slice none 0 0,.slice (some p) 0 c]).run P w= .ok (.slice none 0 0) w:=by
 simp[Builtin.append_,Wi ht,sizeOf,typeInfo,hi,Builtin.lenOf,Builtin.firstCells,loadCells,loadCellsFrom]
theorem Wbp{o:Oper}{c:Call}(ho:o.op= .call c){s x:Operand}{t:TypeId}(hc:c.callee= .builtin .append)(ha:c.args.toList= [s,x])(cQ:c.argTypes.toList= [t,t]){v:Value}
  (aM:(Builtin.append_ #[t,t] o.type #[a.eval s,a.eval x]).run P w= .ok v w'):(execOp a.eval o).run P w= .ok (.value v) w':=by
 obtain⟨callee,args,argTypes⟩:=c;obtain⟨args⟩:=args;obtain⟨argTypes⟩:=argTypes;simp only at hc ha cQ;subst hc ha cQ;simp only[execOp,ho,resolve,invoke,builtin,Sem.run_bind,Sem.run_pure,Result.andThen_ok,Xdm,Xag,Xbu,aM]
theorem Wq8(w:World)(need old:Nat)(e:TypeId)(h:WV need=true):need<=grownCap w need old e/\grownCap w need old e<=maxLen:=
 ⟨grownCap_ge w need old e,grownCap_le_maxLen w need old e (by grind [WV,maxLen])⟩
theorem WhX(hr:Rel w0 F nt G0 G ν st a w){dst:Option Tmp}(hd:∀d,dst=some d->nt.Ok d)(m:List Nat){e:Ty}{xs:List e.den}{cs:List Value}(hl:cs.length=xs.length*e.size)
  (hc:∀φ,HR w0 F G ν φ st.objs st.nx w->∃ps,WdQ (Wm G w e) xs cs ps/\Sep (ps.map Pc.fp)/\∀p∈ps,CS.le p.fp (FromL φ st.objs m)) {cap:Nat} (fM:xs.length<=cap) (jZ:cap<=maxLen) (z:Array Value) (hz:z.size=e.size) (t:TypeId):
  ∃ν',Rel w0 F nt G0 G ν' (({env:=st.env,objs:=(st.nx,.arr e xs)::kill st.objs m,nx:=st.nx+1}:St).put dst (.s (.one (.own st.nx)))) (a.put dst (.slice (some ⟨w.heap.size,0,none⟩) xs.length cap)) (w.drew.alloc (.cells (cs.toArray++Builtin.zeroCells z (cap-xs.length)) t)):=by
 refine(Wgj hr hd m (e:=e) (xs:=xs) (cap:=cap) (cs:=cs) (vs:=cs.toArray++Builtin.zeroCells z (cap-xs.length)) (t:=t) fM jZ ?_ hc ?_ w.drew rfl rfl rfl rfl).1
 .simp only[Array.size_append,List.size_toArray,size_zeroCells,hz,hl,←Xcn];simp_all
 .simp
structure ElT(P:Program)(t et:TypeId)(e:Ty):Prop where
 u:P.underlying t=some (.slice et)
 i:∃i z,P.info? et=some i/\i.size=e.size/\i.zero=some z/\z.cells.size=e.size/\i.bytes<=4096
theorem elT(hT:W5 P T){t et:TypeId}{ty:Ty}{ag:Bool}{te:TE}{e:Ty}(hl:Wj T t=some ⟨ty,ag,.slice et⟩)(aG:Wj T et=some te)(hp:te.plain=true)(he:te.ty.size=e.size):ElT P t et e:=by
 obtain⟨i,z,hi,bE,hz,dh,lu⟩:=(hT _ _ aG).info;rw[WJ hp]at bE;rw[Wa1 hp]at dh;exact⟨(hT _ _ hl).und.2.1,i,z,hi,by rw[bE,he],hz,by rw[←Xam,dh,WaT,he],lu⟩
theorem WaW(hr:Rel w0 F nt G0 G ν st a w){o:Oper}(hd:∀d,o.dst=some d->nt.Ok d){c:Call}{s x:Operand}{t et:TypeId}{e:Ty}(hE:ElT P t et e)
  (ho:o.op= .call c) (hc:c.callee= .builtin .append) (ha:c.args.toList= [s,x]) (cQ:c.argTypes.toList= [t,t]) (cT:a.eval s= .slice none 0 0)
  {l:List e.den} {m m':List Nat} {news:List Value} (hx:Src w0 F G ν st w e l m (a.eval x) news) (hm:∀i∈m,i∈m') (aq:WV l.length=true):
  Done P w0 F nt G0 o a w (({env:=st.env,objs:=(st.nx,.arr e l)::kill st.objs m',nx:=st.nx+1}:St).put o.dst (.s (.one (.own st.nx)))):=by
 obtain⟨hu,i,z,hi,bE,hz,fP,lu⟩:=hE;have qa:l.length<=1073741824:=by grind [WV]
 have eE:=Wba e;rcases hx.rd with⟨aI,bt⟩|⟨pa,cc,aI,ba⟩
 .subst bt;obtain⟨ν',hh⟩:=WpA hr hd e m';exact⟨_,_,_,G,ν',Wbp ho hc ha cQ (by simp_all [WdG,Xm]),.inl rfl,hh⟩
 .by_cases h0:l.length=0
  .have bt:l= []:=Xu h0;subst bt;obtain⟨ν',hh⟩:=WpA hr hd e m';exact⟨_,_,_,G,ν',Wbp ho hc ha cQ (by grind [WgH]),.inl rfl,hh⟩
  .obtain⟨φ,hφ⟩:=hr.h;obtain⟨tz,e0,_⟩:=hx.enc φ hφ;have jC:news.length=l.length*e.size:=Waw (λx c q hx=>Wu e x c q hx) _ _ _ e0;obtain⟨pk,jW⟩:=Wq8 w l.length 0 et aq;obtain⟨ν',hh⟩:=WhX hr hd m' jC (λφ hφ=>by
    obtain⟨ps,k1,k2,k3⟩:=hx.enc φ hφ;exact⟨ps,k1,k2,λp hp b o hh=>FromL.mono hm b o (k3 p hp b o hh)⟩) pk jW z.cells fP et
   have sb:l.length*i.bytes<=281474976710656:=by
    have:=Nat.mul_le_mul qa lu;omega
   refine⟨_,_,_,G,ν',Wbp ho hc ha cQ ?_,.inl rfl,hh⟩
   grind [run_append_nil]
theorem WcG{e:Ty}{nu:Nu}{xs:List e.den}{S:CS}{b k:Nat}(h:Wa9 w (Wm G w e) e.size nu xs S)(hb:nu.blk=some b)(hk:k<=xs.length):
  ∃c1 p1,WdQ (Wm G w e) (xs.take k) c1 p1/\c1.length=k*e.size/\Mem w b nu.off c1/\Sep (rng b nu.off (nu.cap*e.size)::p1.map Pc.fp)/\(∀s∈rng b nu.off (nu.cap*e.size)::p1.map Pc.fp,CS.le s S):=by
 obtain⟨h1,h2,h3⟩:=h;simp only[hb]at h3;obtain⟨h4,h5,h6,cs,ps,h7,h8,h9,cG⟩:=h3;obtain⟨c1,c2,p1,p2,g1,g2,g3,g4⟩:=WdE xs cs ps k h7;have hl:=Waw (λx c q hx=>Wu e x c q hx) _ _ _ g3;rw[Xbe,Xbw hk]at hl;obtain⟨q1,q2⟩:=Xw.1 h9;rw[g2,Xy]at q1 q2 cG;refine⟨c1,p1,g3,hl,by rw[g1]at h8;exact h8.left,Xw.2 ⟨λs hs=>q1 s (Xj _ hs),(Xah.1 q2).1⟩,λs hs=>?_⟩
 grind
theorem Wct(hr:Rel w0 F nt G0 G ν st a w){o:Oper}(hd:∀d,o.dst=some d->nt.Ok d){c:Call}{s x:Operand}{t et:TypeId}{e:Ty}(hE:ElT P t et e)
  (ho:o.op= .call c) (hc:c.callee= .builtin .append) (ha:c.args.toList= [s,x]) (cQ:c.argTypes.toList= [t,t])
  {id g k:Nat} {xs:List e.den} (an:Wj st.objs id=some (.arr e xs)) (aS:(ν id).blk=some g) (hk:k<=xs.length) (cT:a.eval s= .slice (some ⟨g,(ν id).off,none⟩) k (ν id).cap)
  {l:List e.den} {m:List Nat} {news:List Value} (hx:Src w0 F G ν st w e l m (a.eval x) news) (hm:id∉m) (aq:WV (k+l.length)=true):
  Done P w0 F nt G0 o a w (({env:=st.env,objs:=(st.nx,.arr e (Xt (xs.take k) l))::kill st.objs (id::m),nx:=st.nx+1}:St).put o.dst (.s (.one (.own st.nx)))):=by
 obtain⟨hu,i,z,hi,bE,hz,fP,lu⟩:=hE;have qa:k+l.length<=1073741824:=by grind [WV]
 have eE:=Wba e;have aa:(Xt (xs.take k) l).length=k+l.length:=by show(xs.take k++l).length=_;rw[Xo,Xbe,Xbw hk]
 obtain⟨φ0,hφ0⟩:=hr.h;have gD:Wa9 w (Wm G w e) e.size (ν id) xs (φ0 id):=hφ0.ob _ _ an;have kH:=gD.2.2;simp only[aS]at kH;obtain⟨hxc,jZ,⟨row,TT,eF,aJ⟩,_⟩:=kH;obtain⟨c1,p10,_,nG,nH,_,_⟩:=WcG gD aS hk;obtain⟨tz,e0,_⟩:=hx.enc φ0 hφ0;have jC:news.length=l.length*e.size:=Waw (λx c q hx=>Wu e x c q hx) _ _ _ e0;have ax:Live st.objs id:=⟨_,an,by simp⟩;have nI:∀{c2:List Value},c2.length=k*e.size->Mem w g (ν id).off c2->c2=c1:=λ{c2} h1 h2=>Xdf λj=>by
  by_cases hj:j<k*e.size
  .have m9:j<c2.length:=by omega
   have po:j<c1.length:=by omega
   have a1:=h2 j _ (Xp m9);have a2:=nH j _ (Xp po);simp_all
  simp_all
 have inplace:∀(W:World),WLe (rng g ((ν id).off+k*e.size) (l.length*e.size)) w W->Mem W g ((ν id).off+k*e.size) news->k+l.length<=(ν id).cap->
   ∃ν',Rel w0 F nt G0 G ν' (({env:=st.env,objs:=(st.nx,.arr e (Xt (xs.take k) l))::kill st.objs (id::m),nx:=st.nx+1}:St).put o.dst (.s (.one (.own st.nx)))) (a.put o.dst (.slice (some ⟨g,(ν id).off,none⟩) (k+l.length) (ν id).cap)) W:=by
  intro W hW hM bO;have iN:(k+l.length)*e.size<=(ν id).cap*e.size:=Xau _ bO;rw[Xcn]at iN;have fS:CS.le (rng g ((ν id).off+k*e.size) (l.length*e.size)) (rng g (ν id).off ((ν id).cap*e.size)):=λb o ⟨k0,k1,k2⟩=>⟨k0,by omega,by omega⟩;refine⟨upd ν st.nx ⟨some g,(ν id).off,k+l.length,(ν id).cap,e.size⟩,hr.fresh hd (id::m) (.arr e (Xt (xs.take k) l)) _ (λφ b o=>φ id b o\/FromL φ st.objs m b o) _ _ (λφ hφ=>?_) (λφ hφ b o hh=>?_) (λφ hφ=>?_) ⟨⟨Xbo _,by rw[WaX];rfl⟩,rfl⟩⟩
  .have az:Wa9 w (Wm G w e) e.size (ν id) xs (φ id):=hφ.ob _ _ an;obtain⟨_,_,_,_,_,_,aG⟩:=WcG az aS hk;exact hW.mono λb o hh=>⟨id,.inr (Xh ..),ax,aG _ (Xh ..) b o (fS b o hh)⟩
  .rcases hh with hh|⟨j,hj,h1,h2⟩
   .exact .inl ⟨id,.inr (Xh ..),ax,hh⟩
   .exact .inl ⟨j,.inr (Xe _ hj),h1,h2⟩
  .have az:Wa9 w (Wm G w e) e.size (ν id) xs (φ id):=hφ.ob _ _ an;obtain⟨na,p1,g3,g4,g5,g6,g7⟩:=WcG az aS hk;obtain⟨ps,k1,k2,k3⟩:=hx.enc φ hφ;obtain⟨q1,q2⟩:=Xw.1 g6;have ff:=g7 _ (Xh ..);have kI:∀p∈p1,CS.le p.fp (φ id):=λp hp=>g7 _ (Xe _ (Xaj hp));have nJ:∀p∈ps,∀S,CS.le S (φ id)->CS.disj S p.fp:=λp hp S hS b o h1 h2=>by
    obtain⟨j,hj,h3,h4⟩:=k3 p hp b o h2;have:=hφ.inj id j b o ax h3 (hS b o h1) h4;simp_all
   have gB:∀p∈p1,Same p.fp w W:=λp hp=>hW.same ((q1 p.fp (Xaj hp)).mono fS (λ_ _ hh=>hh)) (λb o hh=>hφ.bl id b o ax (kI p hp b o hh));have iS:∀p∈ps,Same p.fp w W:=λp hp=>hW.same (nJ p hp _ (λb o hh=>ff b o (fS b o hh))) (λb o hh=>by
    obtain⟨j,hj,h3,h4⟩:=k3 p hp b o hh;exact hφ.bl j b o h3 h4)
   show Wa9 W (Wm G W e) e.size (upd ν st.nx ⟨some g,(ν id).off,k+l.length,(ν id).cap,e.size⟩ st.nx) _ _;rw[WaX];refine⟨aa,rfl,by simp_all,jZ,hW.rows.row _ _ ⟨row,TT,eF,aJ⟩,na++news,p1++ps,Wc4 _ _ _ _ _ _ ?_ ?_,?_,Xw.2 ⟨λs hs=>?_,?_⟩,λs hs b o hh=>?_⟩
   .exact Wbd (Q:=λq=>Same q.fp w W) (λx c q hq hx=>Wag (λ_ _ _ hh=>hh) e x c q hq hx) _ _ _ gB g3
   .exact Wbd (Q:=λq=>Same q.fp w W) (λx c q hq hx=>Wag (λ_ _ _ hh=>hh) e x c q hq hx) _ _ _ iS k1
   .refine Mem.app (n:=k*e.size) (λj v hj=>?_) hM g4;have h1:=g5 j v hj;have d4:j<na.length:=(Xz.1 hj).1;rw[hW.cell g ((ν id).off+j) (block_lt_of_cell h1) (λ⟨_,h2,_⟩=>by omega)];exact h1
   .grind
   .rw[Xy];refine Xah.2 ⟨q2,k2,λs hs t ht=>?_⟩
    grind
   .rcases Xq.1 hs with rfl|hs
    .exact .inl (ff b o hh)
    .rw[Xy]at hs;rcases Xl.1 hs with hs|hs
     .obtain⟨p,hp,rfl⟩:=Xv.1 hs;exact .inl (kI p hp b o hh)
     .obtain⟨q,hq,rfl⟩:=Xv.1 hs;exact .inr (k3 q hq b o hh)
 rcases hx.rd with⟨aI,bt⟩|⟨pa,cc,aI,ba⟩
 .have m7:l.length=0:=by simp_all
  have pX:news= []:=Xu (by simp_all);obtain⟨ν',hh⟩:=inplace w (WLe.refl _ w) (by rw[pX];exactλj v hj=>by simp at hj) (by omega);refine⟨_,_,_,G,ν',Wbp ho hc ha cQ ?_,.inl rfl,hh⟩
  grind [WdG]
 .by_cases bO:k+l.length<=(ν id).cap
  .have qb:(k+l.length)*e.size<=(ν id).cap*e.size:=Xau _ bO;rw[Xcn]at qb;have aM:=WgM (P:=P) (w:=w) t o.type et TT i hu hi g (ν id).off k (ν id).cap row eF pa l.length cc news (by rw[bE];exact jC) (λj v hj=>ba j v hj) (WkO _ _ _ e0) bO (by rw[bE,jC];omega);obtain⟨hw,j7⟩:=Wb2 (k:=(ν id).off+k*i.size) (news:=news) eF (by rw[bE,jC];omega);generalize w.setRow g (row.toList.take ((ν id).off+k*i.size)++news++row.toList.drop ((ν id).off+k*i.size+news.length)).toArray=W at aM hw j7;rw[bE]at hw j7;rw[jC]at hw;obtain⟨ν',hh⟩:=inplace W hw j7 bO;exact⟨_,_,_,G,ν',Wbp ho hc ha cQ (by rw[cT,aI,aM]),.inl rfl,hh⟩
  .obtain⟨pk,jW⟩:=Wq8 w (k+l.length) (ν id).cap et aq;have cK:(c1++news).length=(Xt (xs.take k) l).length*e.size:=by rw[Xo,nG,jC,aa,Xcn]
   obtain⟨ν',hh⟩:=WhX hr hd (id::m) (xs:=Xt (xs.take k) l) cK (λφ hφ=>by
    have az:Wa9 w (Wm G w e) e.size (ν id) xs (φ id):=hφ.ob _ _ an;obtain⟨na,p1,g3,g4,g5,g6,g7⟩:=WcG az aS hk;obtain⟨ps,k1,k2,k3⟩:=hx.enc φ hφ;have:=nI g4 g5;subst this;obtain⟨q1,q2⟩:=Xw.1 g6;have kI:∀p∈p1,CS.le p.fp (φ id):=λp hp=>g7 _ (Xe _ (Xaj hp));refine⟨p1++ps,Wc4 _ _ _ _ _ _ g3 k1,?_,λp hp b o hh=>?_⟩
    .rw[Xy];refine Xah.2 ⟨q2,k2,λs hs t ht=>?_⟩;obtain⟨p,hp,rfl⟩:=Xv.1 hs;obtain⟨q,hq,rfl⟩:=Xv.1 ht;intro b o h1 h2;obtain⟨j,hj,h3,h4⟩:=k3 q hq b o h2;have:=hφ.inj id j b o ax h3 (kI p hp b o h1) h4;subst this;exact hm hj
    .rcases Xl.1 hp with hp|hp
     .exact⟨id,Xh ..,ax,kI p hp b o hh⟩
     .exact FromL.mono (λi hi=>Xe _ hi) b o (k3 p hp b o hh)) (by rw[aa];exact pk) jW z.cells fP et
   have sb:(k+l.length)*i.bytes<=140737488355328:=by
    have:=Nat.mul_le_mul qa lu;omega
   have aM:=run_append_grow (P:=P) w t o.type et i z hu hi hz ⟨g,(ν id).off,none⟩ k (ν id).cap c1 (by rw[bE];exact nG) (λj v hj=>by rw[Wau];exact nH j v hj) pa l.length cc news (by rw[bE];exact jC) (λj v hj=>ba j v hj) (by omega) (by omega) (growslice_fits (by omega) sb);refine⟨_,_,_,G,ν',Wbp ho hc ha cQ ?_,.inl rfl,hh⟩;rw[cT,aI,aM,aa];simp
theorem Wi2{id:Nat}{e:Ty}{xs:List e.den}(hh:HRel w0 F G ν objs nx w)(an:Wj objs id=some (.arr e xs)):
  ((ν id).blk=none/\xs= []/\(ν id).hdr= .slice none 0 0)\/∃g,(ν id).blk=some g/\(ν id).hdr= .slice (some ⟨g,(ν id).off,none⟩) xs.length (ν id).cap:=by
 obtain⟨S,ho⟩:=hh.obj an;unfold Nu.hdr;cases hb:(ν id).blk with
 |none=>exact .inl ⟨rfl,WbK ho hb,rfl⟩
 |some g=>exact .inr ⟨g,rfl,by rw[ho.1]⟩
theorem Wk7(hT:W5 P T)(hr:Rel w0 F nt G0 G ν st a w){o:Oper}(hd:∀d,o.dst=some d->nt.Ok d){c:Call}{s x:Operand}{t et:TypeId}{ty:Ty}{te:TE}{sv xv:AVal}{R:Type}{k:St->Option R}{r:R}
  (hl:Wj T t=some ⟨ty,false,.slice et⟩) (aG:Wj T et=some te) (hp:te.plain=true)
  (ho:o.op= .call c) (hc:c.callee= .builtin .append) (ha:c.args.toList= [s,x]) (cQ:c.argTypes.toList= [t,t]) (hs:ev st s=some sv) (hx:ev st x=some xv)
  (h:WdH st te.ty sv xv (λx objs nx=>k (({env:=st.env,objs:=objs,nx:=nx}:St).put o.dst x))=some r):∃ac,k ac=some r/\Done P w0 F nt G0 o a w ac:=by
 have move:∀(e:Ty) (l:List e.den) (m:List Nat),Wq4 st e xv=some (l,m)->∃news,Src w0 F G ν st w e l m (a.eval x) news:=λe l m fg=>by
  unfold Wq4 at fg;split at fg
  .simp only[Option.some.injEq,Prod.mk.injEq]at fg;obtain⟨rfl,rfl⟩:=fg;obtain⟨hv,_⟩:=Wz hr x _ hx;exact⟨[],λφ _=>⟨[],⟨rfl,rfl⟩,List.Pairwise.nil,by simp⟩,.inl ⟨hv,rfl⟩⟩
  .rename_i id;split at fg
   .rename_i e' xs an;obtain⟨ys,bd,fg⟩:=Xs.1 fg;have h2:=Prod.mk.inj fg;obtain⟨h3,h4⟩:=h2;subst h3 h4;obtain⟨jY,sc⟩:=Wab bd;subst jY;simp only at sc;subst sc;obtain⟨⟨_,hv⟩,_⟩:=Wz hr x _ hx;have ax:Live st.objs id:=⟨_,an,by simp⟩;rcases Wi2 hr.h an with⟨hb,bt,hh⟩|⟨g,hb,hh⟩
    .subst bt;exact⟨[],λφ _=>⟨[],⟨rfl,rfl⟩,List.Pairwise.nil,by simp⟩,.inl ⟨by rw[hv,hh],rfl⟩⟩
    .obtain⟨φ0,hφ0⟩:=hr.h;have gD:Wa9 w (Wm G w e') e'.size (ν id) xs (φ0 id):=hφ0.ob _ _ an;obtain⟨c1,p1,g1,g2,g3,g4,g5⟩:=WcG gD hb (Xm _);refine⟨c1,λφ hφ=>?_,.inr ⟨⟨g,(ν id).off,none⟩,(ν id).cap,by rw[hv,hh],λj u hj=>by rw[Wau];exact g3 j u hj⟩⟩;have az:Wa9 w (Wm G w e') e'.size (ν id) xs (φ id):=hφ.ob _ _ an;obtain⟨na,tA,k1,k2,k3,k4,k5⟩:=WcG az hb (Xm _);have:na=c1:=Xdf λj=>by
      by_cases hj:j<xs.length*e'.size
      .have m9:j<na.length:=by omega
       have po:j<c1.length:=by omega
       have a1:=k3 j _ (Xp m9);have a2:=g3 j _ (Xp po);rw[a1]at a2;rw[Xp m9,Xp po];exact a2
      .rw[Xbp (by omega),Xbp (by omega)]
     subst this;rw[Xdk]at k1;exact⟨tA,k1,(Xw.1 k4).2,λp hp b o hh=>⟨id,Xaf.2 rfl,ax,k5 _ (Xe _ (Xaj hp)) b o hh⟩⟩
   .simp at fg
  .simp at fg
 unfold WdH at h;split at h
 .split at h
  .rename_i e nK;split at h
   .rename_i he;split at h
    .rename_i l m fg;obtain⟨news,cL⟩:=move e l m fg;cases aq:WV l.length with
     |false=>simp[aq]at h
     |true=>
      simp[aq]at h;obtain⟨cT,_⟩:=Wz hr s _ hs;exact⟨_,h,WaW hr hd (elT hT hl aG hp (by rw[←he,Wa7])) ho hc ha cQ cT cL (λi hi=>hi) aq⟩
    .simp at h
   .simp at h
  .simp at h
 .rename_i id;split at h
  .rename_i e xs an;split at h
   .rename_i he;split at h
    .rename_i l m fg;obtain⟨news,cL⟩:=move e l m fg;split at h
     .rename_i aH;have aH:=(Xaa.1 ((Wca _).1 aH)).1;cases aq:WV (xs.length+l.length)with
      |false=>simp[aq]at h
      |true=>
       simp[aq]at h;refine⟨_,h,?_⟩;have hE:ElT P t et e:=elT hT hl aG hp (by rw[←he,Wa7]);obtain⟨⟨_,cT⟩,_⟩:=Wz hr s _ hs;rcases Wi2 hr.h an with⟨hb,bt,hh⟩|⟨g,hb,hh⟩
       .subst bt;exact WaW hr hd hE ho hc ha cQ (by rw[cT,hh]) cL (λi hi=>Xe _ hi) (by simpa [WV]using aq)
       .have:=Wct hr hd hE ho hc ha cQ an hb (Xm _) (by rw[cT,hh]) cL aH aq;rw[Xdk]at this;exact this
     .simp at h
    .simp at h
   .simp at h
  .simp at h
 .simp at h
theorem WlE(hT:W5 P T)(hr:Rel w0 F nt G0 G ν st a w){o:Oper}(hd:∀d,o.dst=some d->nt.Ok d){c:Call}{s x:Operand}{t t2:TypeId}{sv xv:AVal}{R:Type}{k:St->Option R}{r:R}
  (ho:o.op= .call c) (hc:c.callee= .builtin .append) (ha:c.args.toList= [s,x]) (cQ:c.argTypes.toList= [t,t2]) (hs:ev st s=some sv) (hx:ev st x=some xv)
  (h:Wc0 T st t t2 sv xv (λx objs nx=>k (({env:=st.env,objs:=objs,nx:=nx}:St).put o.dst x))=some r):∃ac,k ac=some r/\Done P w0 F nt G0 o a w ac:=by
 unfold Wc0 at h;split at h
 .rename_i ty et _ hl _;split at h
  .rename_i te aG;split at h
   .rename_i bc;obtain⟨rfl,hp,aO⟩:=bc;have hE:ElT P t et te.ty:=elT hT hl aG hp rfl;cases fT:Wqz st sv xv with
    |false=>
     simp only[fT,Bool.not_false,Wa]at h;exact Wk7 hT hr hd hl aG hp ho hc ha cQ hs hx h
    |true=>
    simp only[fT,Bool.not_true,Wf]at h;split at h
    .rename_i l dB;cases aq:WV l.length with
     |false=>simp[aq]at h
     |true=>
      simp[aq]at h;obtain⟨cT,_⟩:=Wz hr s _ hs;obtain⟨news,cL⟩:=Wgw hr aO [] (Wz hr x _ hx) dB;exact⟨_,h,WaW (m':=[]) hr hd hE ho hc ha cQ cT cL (λi hi=>hi) aq⟩
    .rename_i id l dB;split at h
     .rename_i e0 xs an;split at h
      .rename_i ys bd;obtain⟨he,hy⟩:=Wex bd;injection he with he;subst he;simp only at hy;subst hy;cases aq:WV (Xb xs+l.length)with
       |false=>simp[aq]at h
       |true=>
        simp[aq]at h;refine⟨_,h,?_⟩;obtain⟨⟨_,cT⟩,_⟩:=Wz hr s _ hs;obtain⟨news,cL⟩:=Wgw hr aO [] (Wz hr x _ hx) dB;rcases Wi2 hr.h an with⟨hb,bt,hh⟩|⟨g,hb,hh⟩
        .subst bt;exact WaW (m':=[id]) hr hd hE ho hc ha cQ (by rw[cT,hh]) cL (λi hi=>by simp at hi) (by simpa [WV]using aq)
        .have:=Wct hr hd hE ho hc ha cQ an hb (Xm _) (by rw[cT,hh]) cL (by simp) aq;rw[Xdk]at this;exact this
      .simp at h
     .simp at h
    .rename_i id hi l dB;split at h
     .rename_i e0 xs an;split at h
      .rename_i ys bd;obtain⟨he,hy⟩:=Wex bd;injection he with he;subst he;simp only at hy;subst hy;cases aq:WV (hi+l.length)with
       |false=>simp[aq]at h
       |true=>
        simp[aq]at h;refine⟨_,h,?_⟩;obtain⟨⟨_,g1,g2,g3,cT⟩,_⟩:=Wz hr s _ hs;obtain⟨news,cL⟩:=Wgw hr aO [] (Wz hr x _ hx) dB;obtain⟨S,az⟩:=hr.h.obj an;unfold Nu.vhdr at cT;cases hb:(ν id).blk with
        |none=>
         have bt:=WbK az hb;simp only[hb]at cT;have h0:=g3 hb;subst h0;show Done P w0 F nt G0 o a w (({env:=st.env,objs:=(st.nx,.arr te.ty l)::(id,.dead)::st.objs,nx:=st.nx+1}:St).put o.dst (.s (.one (.own st.nx))));exact WaW (m':=[id]) hr hd hE ho hc ha cQ cT cL (λi hi=>by simp at hi) (by simpa [WV]using aq)
        |some g=>
         simp only[hb,Nat.sub_zero,Xem,Xay,ite_self]at cT;exact Wct hr hd hE ho hc ha cQ an hb (by rw[az.1];exact g2) cT cL (by simp) aq
      .simp at h
     .simp at h
    .simp at h
   .simp at h
  .simp at h
 .simp at h
end
end Go.Sx
namespace Go.Sx
set_option linter.unusedVariables false
set_option linter.unusedSimpArgs false
section
variable{w0:World}{F:CS}{nt:Slots}{G0 G:GH}{ν:Nat->Nu}{φ:Nat->CS}{objs:WZ}{nx:Nat}{st ac:St}{a:Act}{w w':World}{P:Program}{T:Tab}
theorem Wha{t et:TypeId}{te:TE}{nu:Nu}{n:Nat}{lo hi:Option Int}{vl vh:Option Value}(hu:P.underlying t=some (.slice et))(bo:TEok P T et te)(hp:te.plain=true)(bN:nu.esz=te.ty.size)
  (hc:n<=nu.cap) (hn:n=nu.len) (aS:nu.blk=none->n=0) (hl:BRel lo vl) (hh:BRel hi vh) (hb:(WbX n lo hi).1=true):
  (Instr.sliceAt t nu.hdr vl vh none).run P w= .ok (nu.vhdr (WbX n lo hi).2.1 (WbX n lo hi).2.2) w/\(WbX n lo hi).2.1<=(WbX n lo hi).2.2/\(WbX n lo hi).2.2<=n:=by
 unfold Nu.hdr Nu.vhdr;cases hk:nu.blk with
 |none=>
  have h0:=aS hk;subst h0;obtain⟨hr,h3,h4⟩:=WbZ (P:=P) (w:=w) (isSlice:=true) (cap:=0) hl hh (Xm _) hb;have e1:(WbX 0 lo hi).2.2=0:=by omega
  have e2:(WbX 0 lo hi).2.1=0:=by omega
  rw[e1,e2]at hr⊢;refine⟨?_,Xm _,Xm _⟩;simp[Instr.sliceAt,Instr.slice,Wi hu,hr,bo.sizeOf]
 |some b=>
  obtain⟨hr,h7,h8⟩:=WbZ (P:=P) (w:=w) (isSlice:=true) (cap:=nu.cap) hl hh hc hb;refine⟨?_,h7,h8⟩;rw[←hn];generalize (WbX n lo hi).2.1=p at*;generalize (WbX n lo hi).2.2=q at*;have bE:te.size=nu.esz:=by rw[WJ hp,bN]
  simp only[Instr.sliceAt,Instr.slice,Sem.run_bind,Wi hu,Result.andThen_ok,hr,bo.sizeOf,Sem.run_pure,bE,Xbv,Wau];split<;>rfl
theorem Wpe{id:Nat}{e:Ty}{xs:List e.den}{S:CS}(h:WbR G ν nx w id S (.arr e xs)):((ν id).blk=none->xs.length=0)/\((ν id).blk≠none->xs.length<=(ν id).cap):=by
 refine⟨λhb=>by rw[WbK h hb];rfl,λhb=>?_⟩;obtain⟨_,_,h3⟩:=h
 grind
theorem WkL{t et:TypeId}{te:TE}{id:Nat}{e:Ty}{xs:List e.den}{S:CS}(ho:WbR G ν nx w id S (.arr e xs)){lo hi:Option Int}{vl vh:Option Value}(hu:P.underlying t=some (.slice et))(bo:TEok P T et te)(hp:te.plain=true)(he:te.ty.size=e.size)
  (hl:BRel lo vl) (hh:BRel hi vh) (hb:(WbX xs.length lo hi).1=true):
  (Instr.sliceAt t (ν id).hdr vl vh none).run P w= .ok ((ν id).vhdr (WbX xs.length lo hi).2.1 (WbX xs.length lo hi).2.2) w/\(WbX xs.length lo hi).2.1<=(WbX xs.length lo hi).2.2/\(WbX xs.length lo hi).2.2<=xs.length:=by
 obtain⟨h1,h2⟩:=Wpe ho;have aa:=ho.1;have bN:=ho.2.1;cases hk:(ν id).blk with
 |some b=>grind [Wha]
 |none=>
  have h0:=h1 hk;have bt:xs= []:=Xu h0;have e0:(ν id).hdr=(⟨none,(ν id).off,(ν id).len,0,(ν id).esz⟩:Nu).hdr:=by grind [Nu.hdr]
  have e1:∀p q,(ν id).vhdr p q=(⟨none,(ν id).off,(ν id).len,0,(ν id).esz⟩:Nu).vhdr p q:=λp q=>by grind [Nu.vhdr]
  rw[e0,e1];exact Wha hu bo hp (by show(ν id).esz=_;rw[bN,he]) (by omega) aa (λ_=>h0) hl hh hb
theorem Wfr{o:Oper}{t:TypeId}{x:Operand}{lo hi:Option Operand}{v:Value}(ho:o.op= .slice t x lo hi none)(h:(Instr.sliceAt t (a.eval x) (lo.map a.eval) (hi.map a.eval) none).run P w= .ok v w):(execOp a.eval o).run P w= .ok (.value v) w:=by
 grind [execOp,Sem.run_bind,Result.andThen_ok,Sem.run_pure]
theorem Wpj(hT:W5 P T)(hr:Rel w0 F nt G0 G ν st a w){o:Oper}(hd:∀d,o.dst=some d->nt.Ok d){t et:TypeId}{ty:Ty}{te:TE}{x:Operand}{lo hi:Option Operand}(ho:o.op= .slice t x lo hi none)
  {id:Nat} {l h:Option Int} {R:Type} {k:St->Option R} {r:R} (hx:ev st x=some (.s (.one (.own id)))) (hl:Wj T t=some ⟨ty,false,.slice et⟩) (aG:Wj T et=some te) (hp:te.plain=true) (h1:WjQ st lo=some l) (h2:WjQ st hi=some h)
  (hk:Web st te.ty id l h (λx objs nx=>k (({env:=st.env,objs:=objs,nx:=nx}:St).put o.dst x))=some r):∃ac,k ac=some r/\Done P w0 F nt G0 o a w ac:=by
 unfold Web at hk;split at hk
 .rename_i e xs an;split at hk
  case isFalse=>simp at hk
  rename_i nB;cases hb:(WbX (Xb xs) l h).1 with
  |false=>simp_all
  |true=>
   simp only[hb,Wa]at hk;refine⟨_,hk,?_⟩;obtain⟨⟨bj,cT⟩,_⟩:=Wz hr x _ hx;obtain⟨S,az⟩:=hr.h.obj an;have fL:=Wcn hr lo _ h1;have nL:=Wcn hr hi _ h2;obtain⟨g1,g2,g3⟩:=WkL (w:=w) az (hT _ _ hl).und.2.1 (hT _ _ aG) hp (by rw[nB,Wa7]) fL nL hb;refine⟨_,_,w,G,ν,Wfr ho (by simp_all),.inl rfl,hr.put hd ⟨⟨bj,g2,by rw[←az.1];exact g3,λpp=>?_,rfl⟩,Wmx _ _ _⟩⟩
   grind [Wpe]
 grind
theorem WqE(n:Nu)(h:Nat):n.part 0 h=⟨n.blk,n.off,h,n.cap,n.esz⟩:=by
 unfold Nu.part;simp
theorem WsA(n:Nu)(h:Nat):n.vhdr 0 h=(⟨n.blk,n.off,h,n.cap,n.esz⟩:Nu).hdr:=by
 rw[←WqE,WjF]
theorem WnE(hT:W5 P T)(hr:Rel w0 F nt G0 G ν st a w){o:Oper}(hd:∀d,o.dst=some d->nt.Ok d){t et:TypeId}{ty:Ty}{x:Operand}{lo hi:Option Operand}(ho:o.op= .slice t x lo hi none)
  {id:Nat} {e:Ty} {xs:List e.den} {te:TE} {h:Int} (hx:ev st x=some (.s (.one (.own id)))) (hl:Wj T t=some ⟨ty,false,.slice et⟩) (aG:Wj T et=some te) (hp:te.plain=true) (he:te.ty=e.ro) (an:Wj st.objs id=some (.arr e xs)) (aR:WjQ st lo=some none) (hh:WjQ st hi=some (some h))
  (h0:0<=h) (h1:h<=(xs.length:Int)):Done P w0 F nt G0 o a w (({env:=st.env,objs:=(st.nx,.arr e (xs.take h.toNat))::kill st.objs [id],nx:=st.nx+1}:St).put o.dst (.s (.one (.own st.nx)))):=by
 obtain⟨⟨bj,cT⟩,_⟩:=Wz hr x _ hx;obtain⟨S,az⟩:=hr.h.obj an;have fL:=Wcn hr lo _ aR;have nL:=Wcn hr hi _ hh;have hb:(WbX xs.length none (some h)).1=true:=by simp[WbX,h0,h1]
 obtain⟨g1,g2,g3⟩:=WkL (w:=w) az (hT _ _ hl).und.2.1 (hT _ _ aG) hp (by rw[he,Wa7]) fL nL hb;have e1:(WbX xs.length none (some h)).2.1=0:=rfl;have e2:(WbX xs.length none (some h)).2.2=h.toNat:=rfl;rw[e1,e2,WsA]at g1;refine⟨_,_,w,G,upd ν st.nx ((ν id).part 0 h.toNat),Wfr ho (by rw[cT];exact g1),.inl rfl,?_⟩;have ax:Live st.objs id:=⟨_,an,by simp⟩;refine hr.fresh hd [id] (.arr e (xs.take h.toNat)) _ (λφ=>φ id) _ _ (λφ _=>WLe.refl _ w) (λφ _ b o hh=>.inl ⟨id,.inr (Xaf.2 rfl),ax,hh⟩) (λφ hφ=>?_) ⟨⟨Xbo _,by rw[WaX,WqE]⟩,WgP _⟩;show Wa9 w (Wm G w e) e.size (upd ν st.nx ((ν id).part 0 h.toNat) st.nx) (xs.take h.toNat) (φ id);rw[WaX];have ek:Wa9 w (Wm G w e) e.size (ν id) xs (φ id):=hφ.ob _ _ an;have:=WmG (lo:=0) (hi:=h.toNat) ek (Nat.zero_le _) (by rw[←ek.1];omega);simp_all
theorem Whz(hT:W5 P T)(hr:Rel w0 F nt G0 G ν st a w){o:Oper}(hd:∀d,o.dst=some d->nt.Ok d){t et:TypeId}{ty:Ty}{x:Operand}{lo hi:Option Operand}(ho:o.op= .slice t x lo hi none)
  {id i p:Nat} {e:Ty} {xs:List e.den} {te:TE} {h:Int} (hx:ev st x=some (.s (.one (.own id)))) (hl:Wj T t=some ⟨ty,false,.slice et⟩) (aG:Wj T et=some te) (hp:te.plain=true) (he:te.ty=e.ro) (an:Wj st.objs id=some (.hole e xs i p)) (qc:WpH (Wj st.objs p) e.size=true) (aR:WjQ st lo=some none) (hh:WjQ st hi=some (some h))
  (h0:0<=h) (h1:h<=(xs.length:Int)) (h2:h<=(i:Int)):Done P w0 F nt G0 o a w (({env:=st.env,objs:=(st.nx,.arr e (xs.take h.toNat))::kill st.objs [id,p],nx:=st.nx+1}:St).put o.dst (.s (.one (.own st.nx)))):=by
 obtain⟨⟨bj,cT⟩,_⟩:=Wz hr x _ hx;obtain⟨S,jU,hole⟩:=hr.h.obj an;have eT:∃cs,Wj st.objs p=some (.box cs)/\cs.length=e.size:=by
  unfold WpH at qc
  grind [Xch]
 obtain⟨pcs,eT,ec⟩:=eT;have fL:=Wcn hr lo _ aR;have nL:=Wcn hr hi _ hh;have hb:(WbX xs.length none (some h)).1=true:=by simp[WbX,h0,h1]
 obtain⟨k1,k2,k3,b,k4,k5,k6,k7,k8,k9,_⟩:=hole;obtain⟨g1,g2,g3⟩:=Wha (w:=w) (nu:=ν id) (hT _ _ hl).und.2.1 (hT _ _ aG) hp (by rw[k2,he,Wa7]) k7 k1 (λhn=>by simp_all) fL nL hb;have e1:(WbX xs.length none (some h)).2.1=0:=rfl;have e2:(WbX xs.length none (some h)).2.2=h.toNat:=rfl;rw[e1,e2,WsA]at g1;refine⟨_,_,w,G,upd ν st.nx ((ν id).part 0 h.toNat),Wfr ho (by rw[cT];exact g1),.inl rfl,?_⟩;have ax:Live st.objs id:=⟨_,an,by simp⟩;have dO:Live st.objs p:=⟨_,eT,by simp⟩;refine hr.fresh hd [id,p] (.arr e (xs.take h.toNat)) _ (λφ b o=>φ id b o\/φ p b o) _ _ (λφ _=>WLe.refl _ w) (λφ _ b o hh=>?_) (λφ hφ=>?_) ⟨⟨Xbo _,by rw[WaX,WqE]⟩,WgP _⟩
 .rcases hh with hh|hh
  .exact .inl ⟨id,.inr (by simp),ax,hh⟩
  .exact .inl ⟨p,.inr (by simp),dO,hh⟩
 .show Wa9 w (Wm G w e) e.size (upd ν st.nx ((ν id).part 0 h.toNat) st.nx) (xs.take h.toNat) _;rw[WaX,WqE];obtain⟨jU,hole⟩:p<st.nx/\Wf4 w (Wm G w e) e.size (ν id) (ν p) xs i (φ id):=hφ.ob _ _ an;obtain⟨_,_,_,b',pq,k5',_,_,_,_,c1,c2,p1,p2,j1,j2,j3,j4,j5,j6⟩:=hole;rw[k4]at pq;injection pq with pq;subst pq;obtain⟨b2,vs,q1,q2,q3,q4,q5⟩:WbR G ν st.nx w p (φ p) (.box pcs):=hφ.ob _ _ eT;rw[k5]at q1;injection q1 with q1;subst q1;rw[ec,k6]at q5;obtain⟨d1,d2,r1,r2,t1,t2,t3,t4⟩:=WdE _ _ _ h.toNat j1;rw[List.take_take,Xbw (by omega)]at t3;have gA:=j6 _ (Xh ..);have gC:=j6 _ (Xe _ (Xh ..));obtain⟨s1,s2⟩:=Xw.1 j5;obtain⟨s3,s4⟩:=Xw.1 s2;have dC:∀s∈r1.map Pc.fp,s∈(p1++p2).map Pc.fp:=λs hs=>by simp_all
  have gp:∀s∈r1.map Pc.fp,CS.le s (φ id):=λs hs=>j6 s (Xe _ (Xe _ (dC s hs)));have qd:∀b o,φ id b o->φ p b o->False:=λb o x1 x2=>by
   have:=hφ.inj id p b o ax dO x1 x2;simp_all
  refine⟨by simp;omega,k2,?_⟩;simp only[k4];refine⟨by simp;omega,k8,k9,d1,r1,t3,by rw[t1]at j3;exact j3.left,Xw.2 ⟨λs hs=>?_,?_⟩,λs hs=>?_⟩
  .exactλb' o kE gU=>(Wfh (show i<(ν id).cap by omega) (S:=λb o=>¬s b o) (λb o hh gU=>s1 s (Xe _ (dC s hs)) b o hh gU) (λb o hh gU=>qd b o (gp s hs b o gU) (q5 b o hh)) (λb o hh gU=>s3 s (dC s hs) b o hh gU) b' o kE) gU
  .grind
  .rcases Xq.1 hs with rfl|hs
   .exact Wfh (show i<(ν id).cap by omega) (λb o hh=>.inl (gA b o hh)) (λb o hh=>.inr (q5 b o hh)) (λb o hh=>.inl (gC b o hh))
   .exactλb o hh=>.inl (gp s hs b o hh)
theorem Wn7(hT:W5 P T)(hr:Rel w0 F nt G0 G ν st a w){o:Oper}(hd:∀d,o.dst=some d->nt.Ok d){c:Call}{x:Operand}{t et:TypeId}{ty:Ty}{te:TE}{e:Ty}{xs:List e.den}{id lo hi:Nat}
  (ho:o.op= .call c) (hc:c.callee= .builtin .clear) (ha:c.args.toList= [x]) (cQ:c.argTypes.toList= [t]) (hx:ev st x=some (.s (.one (.vw id lo hi)))) (hl:Wj T t=some ⟨ty,false,.slice et⟩) (aG:Wj T et=some te)
  (an:Wj st.objs id=some (.arr e xs)) (he:te.ty=e) (hp:te.plain=true) (aO:e.data=true):
  Done P w0 F nt G0 o a w (({env:=st.env,objs:=(id,.arr e (xs.take lo++Xr (hi-lo) e.dflt++xs.drop hi))::st.objs,nx:=st.nx}:St).put o.dst (.tup [])):=by
 have hu:=(hT _ _ hl).und.2.1;obtain⟨⟨bj,g1,g2,g3,hv⟩,_⟩:=Wz hr x _ hx;obtain⟨φ,hφ⟩:=hr.h;have az:Wa9 w (Wm G w e) e.size (ν id) xs (φ id):=hφ.ob _ _ an;have ax:Live st.objs id:=⟨_,an,by simp⟩;have nM:∀W,(Builtin.clear_ #[t] o.type #[a.eval x]).run P w= .ok (.tuple #[]) W->(execOp a.eval o).run P w= .ok (.value (.tuple #[])) W:=λW aM=>by
  obtain⟨callee,args,argTypes⟩:=c;obtain⟨args⟩:=args;obtain⟨argTypes⟩:=argTypes;simp only at hc ha cQ;subst hc ha cQ;simp only[execOp,ho,resolve,invoke,builtin,Sem.run_bind,Sem.run_pure,Result.andThen_ok,Xdm,Xag,Xbu,aM]
 have ep:∀W,(Builtin.clear_ #[t] o.type #[a.eval x]).run P w= .ok (.tuple #[]) W->HRel w0 F G ν ((id,.arr e (xs.take lo++Xr (hi-lo) e.dflt++xs.drop hi))::st.objs) st.nx W->
   Done P w0 F nt G0 o a w (({env:=st.env,objs:=(id,.arr e (xs.take lo++Xr (hi-lo) e.dflt++xs.drop hi))::st.objs,nx:=st.nx}:St).put o.dst (.tup [])):=λW aM hH=>
  ⟨_,_,W,G,ν,nM W aM,.inl rfl,(hr.on (λ_ _ _ hh=>hh) (λ_ _=>rfl) (Xm _) hH hr.gx).put hd ⟨[],rfl,rfl,λj x v hj=>by simp at hj⟩⟩
 by_cases h0:hi-lo=0
 .have qe:hi=lo:=by omega
  have e1:xs.take lo++Xr (hi-lo) e.dflt++xs.drop hi=xs:=by
   simp_all
  refine ep w ?_ ?_
  .rw[hv];unfold Nu.vhdr;rw[h0];cases(ν id).blk<;>simp[Builtin.clear_,Wi hu]
  .rw[e1];exact⟨_,hφ.put (m:=[]) (ν':=ν) (λ_ _=>rfl) (Xm _) (hφ.lt id ax) (WLe.refl _ w) (λb o hh=>.inl ⟨id,.inl rfl,ax,hh⟩) (λ_=>az)⟩
 .cases aS:(ν id).blk with
  |none=>simp_all
  |some b=>
   obtain⟨fB,h4,h5,⟨row,TT,eF,aJ⟩,cs,h7,h8,h9⟩:=Wcz aO az aS;obtain⟨z,hz,dh⟩:=WdS (w:=w) (hT _ _ aG);rw[Wa1 hp,he]at dh;have fP:z.cells.size=e.size:=by rw[←Xam,dh,WaT]
   have bN:=az.2.1;have cK:cs.length=xs.length*e.size:=Wc5 (λx c hc=>WS e x c hc) _ _ h7;have se:(Builtin.zeroCells z.cells (hi-lo)).toList=rep (Wa3 e) (hi-lo):=by rw[←dh];exact WeZ z.cells (hi-lo)
   have cU:(rep (Wa3 e) (hi-lo)).length=(hi-lo)*e.size:=by rw[Wjz,WaT]
   have qf:lo*e.size+(hi-lo)*e.size=hi*e.size:=by rw[←Xcn];congr 1;omega
   have pr:hi*e.size<=xs.length*e.size:=Xau _ (by omega);have sf:xs.length*e.size<=(ν id).cap*e.size:=Xau _ h4;have dD:∀u∈rep (Wa3 e) (hi-lo),u.oneCell'=true:=Wm3 (G:=G) _ _ (Wfk aO (hi-lo));have bs:=run_storeCells_at P b ((ν id).off+lo*e.size) TT (rep (Wa3 e) (hi-lo)) 0 row w eF (by rw[cU];omega) dD;simp only[Xay]at bs;obtain⟨hw,hm⟩:=Wb2 (k:=(ν id).off+lo*e.size) (news:=rep (Wa3 e) (hi-lo)) eF (by rw[cU];omega);have aM:(Builtin.clear_ #[t] o.type #[a.eval x]).run P w= .ok (.tuple #[]) (w.setRow b (row.toList.take ((ν id).off+lo*e.size)++rep (Wa3 e) (hi-lo)++row.toList.drop ((ν id).off+lo*e.size+(rep (Wa3 e) (hi-lo)).length)).toArray):=by
    rw[hv];unfold Nu.vhdr;simp only[aS,bN];rw[Wc (by omega)];obtain⟨n,hn⟩:∃n,hi-lo=n+1:=⟨hi-lo-1,by omega⟩;simp only[Builtin.clear_,Sem.run_bind,Wi hu,Result.andThen_ok,Xed,List.getElem?_cons_zero];rw[hn]at bs se⊢;simp only[Sem.run_bind,hz,Result.andThen_ok,se,bs,Sem.run_pure]
   generalize w.setRow b (row.toList.take ((ν id).off+lo*e.size)++rep (Wa3 e) (hi-lo)++row.toList.drop ((ν id).off+lo*e.size+(rep (Wa3 e) (hi-lo)).length)).toArray=W at aM hw hm;refine ep W aM (hφ.turn (m:=[]) an (by simp) hw (λb' o ⟨k0,k1,k2⟩=>h9 b' o ⟨k0,by omega,by omega⟩) ?_);have kJ:(xs.take lo++Xr (hi-lo) e.dflt++xs.drop hi).length=xs.length:=by simp;omega
   have eD:WcT (Enc G e) (xs.take lo++Xr (hi-lo) e.dflt++xs.drop hi) (cs.take (lo*e.size)++rep (Wa3 e) (hi-lo)++cs.drop (hi*e.size)):=
    WcV _ _ _ _ (WcV _ _ _ _ (Wdq (λx c hc=>WS e x c hc) _ _ lo h7) (Wfk aO _)) (Wdw (λx c hc=>WS e x c hc) _ _ hi h7)
   refine Wka aO aS (by rw[kJ];exact fB) bN (by rw[kJ];exact h4) h5 (hw.rows.row _ _ ⟨row,TT,eF,aJ⟩) eD ?_ (λb o hh=>.inl (h9 b o hh));have:=WdN h8 hw hm (by rw[cU];omega);rw[cU,qf]at this;exact this
end
end Go.Sx
namespace Go.Sx
set_option linter.unusedVariables false
set_option linter.unusedSimpArgs false
def WhE(G:GH)(w:World)(t:Ty)(agg:Bool)(d:t.den)(v:Value)(ns:List Pc):Prop:=
 if agg then∃us:List Value,v= .agg us.toArray/\Wm G w t d us ns else Wm G w t d [v] ns
def Wbm(b o:Nat):Nu:=⟨some b,o,0,0,0⟩
def Wd6(G:GH)(w:World)(t:Ty)(d:t.den)(b o:Nat)(ns:List Pc):Prop:=∃us,Row w b (o+t.size)/\Mem w b o us/\Wm G w t d us ns
def fps(ns:List Pc):List CS:=ns.map Pc.fp
def nus(ns:List Pc):List Nu:=ns.map Pc.nu
def WaP(G:GH)(w:World):(ps:List PTy)->Wea ps->List Value->List Pc->List Nu->Prop
 | [],_,vs,ns,ks=>vs= []/\ns= []/\ks= []
 | .v t agg::ps,d,vs,ns,ks=>∃v aj n1 n2,vs=v::aj/\ns=n1++n2/\WhE G w t agg d.1 v n1/\WaP G w ps d.2 aj n2 ks
 | .box t::ps,d,vs,ns,ks=>∃b o aj n1 n2 ak,vs= .pointer (some ⟨b,o,none⟩)::aj/\ns=⟨Wbm b o,rng b o t.size⟩::(n1++n2)/\ks=Wbm b o::ak/\Wd6 G w t d.1 b o n1/\WaP G w ps d.2 aj n2 ak
 | .mut e::ps,d,vs,ns,ks=>∃pc aj n2 ak,vs=pc.nu.hdr::aj/\ns=pc::n2/\ks=pc.nu::ak/\Wa9 w (Wm G w e) e.size pc.nu d.1 pc.fp/\WaP G w ps d.2 aj n2 ak
 | .clos g n::ps,d,vs,ns,ks=>∃cvs aj:List Value,vs= .func (.func g) #[] cvs.toArray::aj/\cvs.length=n/\(∀u∈cvs,u.oneCell'=true)/\WaP G w ps d (cvs++aj) ns ks
 | .kv t agg::ps,d,vs,ns,ks=>∃v aj n1 n2 ak,vs=v::aj/\ns=n1++n2/\ks=nus n1++ak/\WhE G w t agg d.1 v n1/\WaP G w ps d.2 aj n2 ak
 | .rp t::ps,d,vs,ns,ks=>∃b o us aj,vs= .pointer (some ⟨b,o,none⟩)::aj/\Enc G t d.1 us/\Weh G b o us/\WaP G w ps d.2 aj ns ks
 | .vj _::_,_,_,_,_=>False
 | .boxal t lf::ps,d,vs,ns,ks=>∃b o b' pc aj n1 n2 ak,vs= .pointer (some ⟨b,o,none⟩):: .pointer (some ⟨b',pc.nu.off+(d.2.1*pc.nu.esz+0),none⟩)::aj/\ns=⟨Wbm b o,rng b o t.size⟩::(n1++n2)/\ks=Wbm b o::ak/\
   Wd6 G w t d.1 b o n1/\n1[lf]?=some pc/\pc.nu.blk=some b'/\d.2.1<pc.nu.len/\WaP G w ps d.2.2 aj n2 ak
def Wa6(G:GH)(w:World):(ps:List PTy)->WeG ps->List Nu->List CS->List Pc->Prop
 | [],_,ks,kf,ns=>ks= []/\kf= []/\ns= []
 | .v _ _::ps,o,ks,kf,ns=>Wa6 G w ps o ks kf ns
 | .box t::ps,o,ks,kf,ns=>∃b off ak cI n1 n2,ks=Wbm b off::ak/\kf=rng b off t.size::cI/\ns=n1++n2/\Wd6 G w t o.1 b off n1/\Wa6 G w ps o.2 ak cI n2
 | .mut e::ps,o,ks,kf,ns=>∃pc:Pc,∃ak cI,ks=pc.nu::ak/\kf=pc.fp::cI/\Wa9 w (Wm G w e) e.size pc.nu o.1 pc.fp/\Wa6 G w ps o.2 ak cI ns
 | .clos _ _::ps,o,ks,kf,ns=>Wa6 G w ps o ks kf ns
 | .kv t _::ps,o,ks,kf,ns=>∃n1 ak cI us,ks=nus n1++ak/\kf=fps n1++cI/\Wm G w t o.1 us n1/\Wa6 G w ps o.2 ak cI ns
 | .rp _::ps,o,ks,kf,ns=>Wa6 G w ps o ks kf ns
 | .vj _::_,_,_,_,_=>False
 | .boxal t _::ps,o,ks,kf,ns=>∃b off ak cI n1 n2,ks=Wbm b off::ak/\kf=rng b off t.size::cI/\ns=n1++n2/\Wd6 G w t o.1 b off n1/\Wa6 G w ps o.2 ak cI n2
def We8(G:GH)(w:World):(rs:List PTy)->Wfj rs->List Value->List Pc->Prop
 | [],_,vs,ns=>vs= []/\ns= []
 | .v t agg::rs,d,vs,ns=>∃v aj n1 n2,vs=v::aj/\ns=n1++n2/\WhE G w t agg d.1 v n1/\We8 G w rs d.2 aj n2
 | .box t::rs,d,vs,ns=>∃b o aj n1 n2,vs= .pointer (some ⟨b,o,none⟩)::aj/\ns=⟨Wbm b o,rng b o t.size⟩::(n1++n2)/\Wd6 G w t d.1 b o n1/\We8 G w rs d.2 aj n2
 | .mut _::_,_,_,_=>False
 | .clos _ _::_,_,_,_=>False
 | .kv _ _::_,_,_,_=>False
 | .rp _::_,_,_,_=>False
 | .vj t::rs,d,vs,ns=>∃us u aj n1 n2,vs= .agg (us++ [u]).toArray::aj/\u.oneCell'=true/\ns=n1++n2/\Wm G w t d.1 us n1/\We8 G w rs d.2 aj n2
 | .boxal _ _::_,_,_,_=>False
def WgQ:List Value->Value
 | [v]=>v
 |vs=>.tuple vs.toArray
def Of(ns:List Pc):CS:=λb o=>∃q∈ns,q.fp b o
structure After(sg:Sig)(o:WeG sg.ps×Wfj sg.rs)(G:GH)(w:World)(ns:List Pc)(ks:List Nu)(rv:List Value)(kf:List CS)(ms cr:List Pc)(G':GH)(w':World):Prop where
 res:We8 G' w' sg.rs o.2 rv cr
 outs:Wa6 G' w' sg.ps o.1 ks kf ms
 sep:Sep (kf++fps (ms++cr))
 own:∀S∈kf++fps (ms++cr),∀b off,S b off->G' b off=none/\(Of ns b off\/w.heap.size<=b)/\b<w'.heap.size
 gx:GExt w.heap.size (Of ns) G G'
 g:∀b o v,G' b o=some v->w'.cell? ⟨b,o,none⟩=some v
 le:WLe (Of ns) w w'
def Wsk(P:Program)(k:FuncId)(sg:Sig):Prop:=
 ∀(d:Wea sg.ps) (o:WeG sg.ps×Wfj sg.rs),sg.run d=some o->∀(G:GH) (w:World) (vs:List Value) (ns:List Pc) (ks:List Nu),WaP G w sg.ps d vs ns ks->Sep (fps ns)->
  (∀q∈ns,∀b off,q.fp b off->G b off=none/\b<w.heap.size)->(∀b o v,G b o=some v->w.cell? ⟨b,o,none⟩=some v)->
  Calls P k vs.toArray w λe w'=>∃rv kf ms cr G',e= .returned (WgQ rv)/\After sg o G w ns ks rv kf ms cr G' w'
def Wfe(P:Program)(k:FuncId):Prop:=∃fn,P.funcs[k]?=some fn∧fn.body.isNone=false∧(fn.name== "runtime.NumGoroutine")=false
def Wsp(P:Program)(k:FuncId)(i:Inl):Prop:=
 ∀(st:St) (vs:List Value) (out:Out),i.fn Out st WaZ=some out->vs.length<=st.env.length->∀(w0:World) (F:CS) (G0 G:GH) (ν:Nat->Nu) (ex:AVal->Value->Prop) (w:World),
  (∀j x,Wj st.env j=some x->∃v,vs[j]?=some v/\AValRel G ν st.nx x v)->HRel w0 F G ν st.objs st.nx w->GExt w0.heap.size F G0 G->(∀x v,ex x v->AValRel G ν st.nx x v)->
  Calls P k vs.toArray w λe w'=>∃rv G' ν',e= .returned rv/\AValRel G' ν' out.2.2 out.1 rv/\HRel w0 F G' ν' out.2.1 out.2.2 w'/\GExt w0.heap.size F G0 G'/\∀x v,ex x v->AValRel G' ν' out.2.2 x v
def Wmk(P:Program)(k:FuncId)(sg:Sig):Prop:=match sg.inl with
 |none=>Wsk P k sg
 |some i=>Wsp P k i
def Wcy(P:Program)(Γ:Ctx):Prop:=∀k sg,Wj Γ k=some sg->Wmk P k sg/\Wfe P k
section
variable{w0:World}{F:CS}{nt:Slots}{G0 G G':GH}{ν:Nat->Nu}{φ:Nat->CS}{objs:WZ}{nx:Nat}{st ac:St}{a:Act}{w w':World}{P:Program}{T:Tab}
theorem Wap:∀(t:Ty) (d:t.den) (nx:Nat),(unfold t d nx).2.2=nx+t.owns
 | .prod a b,d,nx=>by simp only[unfold,Wap a,Wap b,Ty.owns,Xav]
 | .own _,_,_=>rfl
 | .int _,_,_| .bool,_,_| .str,_,_| .slice _,_,_=>rfl
theorem WA{α:Type}{l m:List (Nat×α)}{i:Nat}{x:α}(h:Wj (l++m) i=some x):Wj l i=some x\/Wj m i=some x:=by
 rw[Wa4]at h
 grind
def At(ν:Nat->Nu)(φ:Nat->CS)(nx:Nat)(ns:List Pc):Prop:=∀(j:Nat) (pc:Pc),ns[j]?=some pc->ν (nx+j)=pc.nu/\φ (nx+j)=pc.fp
theorem At.left{n1 n2:List Pc}(h:At ν φ nx (n1++n2)):At ν φ nx n1:=λj pc hj=>h j pc (by grind)
theorem At.right{n1 n2:List Pc}{k:Nat}(h:At ν φ nx (n1++n2))(hk:n1.length=k):At ν φ (nx+k) n2:=λj pc hj=>by
 have:=h (k+j) pc (by grind)
 grind
def Wnl(G:GH)(ν:Nat->Nu)(φ:Nat->CS)(w:World)(id:Nat)(ob:Ob):Prop:=∃(e:Ty) (xs:List e.den),ob= .arr e xs/\Wa9 w (Wm G w e) e.size (ν id) xs (φ id)
theorem Waa:∀(t:Ty) (d:t.den) (nx:Nat) (vs:List Value) (ns:List Pc),Wm G w t d vs ns->At ν φ nx ns->
  (∀(af:Nat),nx+t.owns<=af->CellsRel G ν af (unfold t d nx).1 vs)/\
  (∀id ob,Wj (unfold t d nx).2.1 id=some ob->nx<=id/\id<nx+t.owns/\Wnl G ν φ w id ob)
 | .own e,d,nx,vs,ns,⟨pc,h1,h2,h3⟩,hν=>by
  obtain⟨hn,hp⟩:ν nx=pc.nu/\φ nx=pc.fp:=by have:=hν 0 pc (by grind);omega
  refine⟨λaf hx=>?_,λid ob hl=>?_⟩
  .rw[h2];refine CellsRel.one ⟨by grind [Ty.owns],by rw[hn]⟩ (WgP _)
  .simp only[unfold]at hl;rw[Wv]at hl;split at hl
   .rename_i e1;subst e1;injection hl with hl;subst hl;exact⟨Xm _,by simp[Ty.owns],e,d,rfl,by simp_all⟩
   .simp[Wj]at hl
 | .prod p q,d,nx,vs,ns,⟨v1,v2,n1,n2,h1,h2,h3,h4⟩,hν=>by
  subst h2;have bz:=WR p _ _ _ h3;obtain⟨c1,o1⟩:=Waa p d.1 nx v1 n1 h3 hν.left;obtain⟨c2,o2⟩:=Waa q d.2 (nx+p.owns) v2 n2 h4 (hν.right bz);refine⟨λaf hx=>?_,λid ob hl=>?_⟩
  .simp only[Ty.owns]at hx;simp only[unfold,Wap];rw[h1];exact(c1 af (by omega)).append (c2 af (by omega))
  .simp only[unfold,Wap]at hl
   grind [Ty.owns,WA]
 | .int k,d,nx,vs,ns,h,_=>⟨λaf _=>Wak (.int k) d vs h.2,λid ob hl=>by simp[unfold,Wj]at hl⟩
 | .bool,d,nx,vs,ns,h,_=>⟨λaf _=>Wak .bool d vs h.2,λid ob hl=>by simp[unfold,Wj]at hl⟩
 | .str,d,nx,vs,ns,h,_=>⟨λaf _=>Wak .str d vs h.2,λid ob hl=>by simp[unfold,Wj]at hl⟩
 | .slice e,d,nx,vs,ns,h,_=>⟨λaf _=>Wak (.slice e) d vs h.2,λid ob hl=>by simp[unfold,Wj]at hl⟩
theorem Wbr:∀(t:Ty) (d:t.den) (nx:Nat),(unfold t d nx).1.length=t.size
 | .prod a b,d,nx=>by simp only[unfold,Xo,Wbr a,Wbr b,Ty.size]
 | .own _,_,_| .int _,_,_| .bool,_,_| .str,_,_| .slice _,_,_=>rfl
theorem WjH{t:Ty}{agg:Bool}{d:t.den}{v:Value}{ns:List Pc}{nx af:Nat}(h:WhE G w t agg d v ns)(hν:At ν φ nx ns)(hx:nx+t.owns<=af):
  AvRel G ν af (WsG agg (unfold t d nx).1) v:=by
 unfold WhE at h;unfold WsG;cases agg with
 |true=>
  simp only[W9]at h⊢;obtain⟨us,rfl,h⟩:=h;exact⟨us,rfl,(Waa t d nx us ns h hν).1 af hx⟩
 |false=>
  simp only[Xap,Wae]at h⊢;have hc:=(Waa t d nx [v] ns h hν).1 af hx;have hl:=hc.1;generalize (unfold t d nx).1=cs at*
  match cs,hl with
  | [c],_=>exact hc.2 0 c v rfl rfl
theorem WlV{t:Ty}{agg:Bool}{d:t.den}{v:Value}{ns:List Pc}(h:WhE G w t agg d v ns):∃us,Wm G w t d us ns:=by
 grind [WhE]
def Whr(objs:WZ):Ty->List Nat->Prop
 | .own e,ids=>∃(id:Nat) (ys:List e.den),ids= [id]/\Wj objs id=some (.arr e ys)
 | .prod a b,ids=>∃i1 i2,ids=i1++i2/\Whr objs a i1/\Whr objs b i2
 | .int _,ids=>ids= []
 | .bool,ids=>ids= []
 | .str,ids=>ids= []
 | .slice _,ids=>ids= []
theorem WdW{objs:WZ}:∀(t:Ty) (ids:List Nat),Whr objs t ids->ids.length=t.owns
 | .own e,ids,⟨id,ys,h,_⟩=>by rw[h];rfl
 | .prod a b,ids,⟨i1,i2,h,h1,h2⟩=>by rw[h,Xo,WdW a _ h1,WdW b _ h2];rfl
 | .int _,ids,h=>by have:ids= []:=h;rw[this];rfl
 | .bool,ids,h=>by have:ids= []:=h;rw[this];rfl
 | .str,ids,h=>by have:ids= []:=h;rw[this];rfl
 | .slice _,ids,h=>by have:ids= []:=h;rw[this];rfl
def KeptBox(objs:WZ)(ν:Nat->Nu)(bx:List (Nat×CS))(t:Ty)(k:Kp)(nu:Nu):Prop:=
 ∃cs b,Wj objs k.id=some (.box cs)/\k.off+t.size<=cs.length/\(ν k.id).blk=some b/\nu=Wbm b ((ν k.id).off+k.off)/\(k.id,rng b ((ν k.id).off+k.off) t.size)∈bx
def KeptOk(objs:WZ)(ν:Nat->Nu)(bx:List (Nat×CS)):List PTy->List Kp->List Nu->Prop
 | [],ids,ks=>ids= []/\ks= []
 | .v _ _::ps,ids,ks=>KeptOk objs ν bx ps ids ks
 | .box t::ps,ids,ks=>∃k aT nu ak,ids=k::aT/\ks=nu::ak/\KeptBox objs ν bx t k nu/\KeptOk objs ν bx ps aT ak
 | .mut e::ps,ids,ks=>∃(id:Nat) (aT:List Kp) (ak:List Nu) (ys:List e.den),ids=⟨id,0⟩::aT/\ks=ν id::ak/\Wj objs id=some (.arr e ys)/\KeptOk objs ν bx ps aT ak
 | .clos _ _::ps,ids,ks=>KeptOk objs ν bx ps ids ks
 | .kv t _::ps,ids,ks=>∃i1 i2 ak,ids=kp0 i1++i2/\ks=i1.map ν++ak/\Whr objs t i1/\KeptOk objs ν bx ps i2 ak
 | .rp _::ps,ids,ks=>KeptOk objs ν bx ps ids ks
 | .vj _::_,_,_=>False
 | .boxal t _::ps,ids,ks=>∃k aT nu ak,ids=k::aT/\ks=nu::ak/\KeptBox objs ν bx t k nu/\KeptOk objs ν bx ps aT ak
theorem KeptBox.mono{bx kK:List (Nat×CS)}{t:Ty}{k:Kp}{nu:Nu}(hb:∀p∈bx,p∈kK)(h:KeptBox objs ν bx t k nu):KeptBox objs ν kK t k nu:=by
 obtain⟨cs,b,h1,h2,h3,h4,h5⟩:=h;exact⟨cs,b,h1,h2,h3,h4,hb _ h5⟩
theorem KeptOk.mono{bx kK:List (Nat×CS)}(hb:∀p∈bx,p∈kK):∀(ps:List PTy) (ids:List Kp) (ks:List Nu),KeptOk objs ν bx ps ids ks->KeptOk objs ν kK ps ids ks
 | [],_,_,h=>h
 | .v _ _::ps,ids,ks,h=>KeptOk.mono hb ps ids ks h
 | .box t::ps,ids,ks,⟨k,aT,nu,ak,h1,h2,h3,h4⟩=>⟨k,aT,nu,ak,h1,h2,h3.mono hb,KeptOk.mono hb ps aT ak h4⟩
 | .mut e::ps,ids,ks,⟨id,aT,ak,ys,h1,h2,h3,h4⟩=>⟨id,aT,ak,ys,h1,h2,h3,KeptOk.mono hb ps aT ak h4⟩
 | .clos _ _::ps,ids,ks,h=>KeptOk.mono hb ps ids ks h
 | .kv t _::ps,ids,ks,⟨i1,i2,ak,h1,h2,h3,h4⟩=>⟨i1,i2,ak,h1,h2,h3,KeptOk.mono hb ps i2 ak h4⟩
 | .rp _::ps,ids,ks,h=>KeptOk.mono hb ps ids ks h
 | .vj _::_,_,_,h=>h.elim
 | .boxal t _::ps,ids,ks,⟨k,aT,nu,ak,h1,h2,h3,h4⟩=>⟨k,aT,nu,ak,h1,h2,h3.mono hb,KeptOk.mono hb ps aT ak h4⟩
def Wkk(G:GH)(ν:Nat->Nu)(w:World)(aA:WZ)(bx:List (Nat×CS))(af:Nat)(id:Nat)(S:CS)(ob:Ob):Prop:=
 (∃jD off ds b us,Wj aA id=some (.box jD)/\ob= .box (Wc8 jD off ds)/\off+ds.length<=jD.length/\(ν id).blk=some b/\Mem w b ((ν id).off+off) us/\CellsRel G ν af ds us/\
  S=rng b ((ν id).off+off) ds.length/\(id,rng b ((ν id).off+off) ds.length)∈bx)\/
 (∃(e:Ty) (ys xs:List e.den),Wj aA id=some (.arr e ys)/\ob= .arr e xs/\Wa9 w (Wm G w e) e.size (ν id) xs S)
theorem Wfn(aA:WZ){bx:List (Nat×CS)}{af:Nat}:∀(t:Ty) (d:t.den) (us:List Value) (ns:List Pc) (ids:List Nat),Wm G w t d us ns->nus ns=ids.map ν->Whr aA t ids->
  (∀id ob,Wj (WbO t d ids) id=some ob->∃(j:Nat) (S:CS),ids[j]?=some id/\(fps ns)[j]?=some S/\Wkk G ν w aA bx af id S ob)/\∀id∈ids,∃ob,Wj (WbO t d ids) id=some ob
 | .own e,d,us,ns,ids,⟨pc,h1,h2,h3⟩,hn,⟨id,ys,h,aR⟩=>by
  subst h h1;simp only[nus,Xag,Xbu,List.cons.injEq,and_true]at hn;refine⟨λi ob hl=>?_,λi hi=>?_⟩
  .simp only[WbO,Wv]at hl;split at hl
   .rename_i e3;subst e3;injection hl with hl;subst hl;exact⟨0,pc.fp,rfl,rfl,.inr ⟨e,ys,d,aR,rfl,by simp_all⟩⟩
   .simp[Wj]at hl
  simp_all [Xaf,WbO,Wj]
 | .prod a b,d,us,ns,ids,⟨u1,u2,n1,n2,h1,h2,h3,h4⟩,hn,⟨i1,i2,h,pt,iT⟩=>by
  subst h h2;have bz:=WR a _ _ _ h3;have kF:=WdW a _ pt;simp only[nus,Xy]at hn;obtain⟨e1,e2⟩:=Xfh hn (by rw[Xad,Xad,bz,kF]);have t1:(i1++i2).take a.owns=i1:=by simp_all
  have t2:(i1++i2).drop a.owns=i2:=by simp_all
  obtain⟨a1,a2⟩:=Wfn aA (bx:=bx) (af:=af) a d.1 _ n1 i1 h3 e1 pt;obtain⟨b1,b2⟩:=Wfn aA (bx:=bx) (af:=af) b d.2 _ n2 i2 h4 e2 iT;simp only[WbO,t1,t2];refine⟨λi ob hl=>?_,λi hi=>?_⟩
  .rcases WA hl with hl|hl
   .grind [fps,Xce,Xz]
   grind [fps,Xbr,Xbq,Xad]
  .rcases Xl.1 hi with hi|hi
   .grind [Wa4]
   .obtain⟨ob,ho⟩:=b2 i hi;rw[Wa4]
    grind
 | .int _,d,us,ns,ids,hr,_,h=>by have:ids= []:=h;grind [WbO,Wj]
 | .bool,d,us,ns,ids,hr,_,h=>by have:ids= []:=h;grind [WbO,Wj]
 | .str,d,us,ns,ids,hr,_,h=>by have:ids= []:=h;grind [WbO,Wj]
 | .slice _,d,us,ns,ids,hr,_,h=>by have:ids= []:=h;grind [WbO,Wj]
theorem Whi:∀(t:Ty) (d:t.den) (ids:List Nat) (id:Nat) (ob:Ob),Wj (WbO t d ids) id=some ob->id∈ids
 | .own e,d,ids,id,ob,h=>by
  cases ids with
  |nil=>simp[WbO,Wj]at h
  |cons i l=>
   grind [WbO,Wv,Xh,Wj]
 | .prod a b,d,ids,id,ob,h=>by
  simp only[WbO]at h;rcases WA h with h|h
  .exact Xcj (Whi a d.1 _ id ob h)
  .exact Xeh (Whi b d.2 _ id ob h)
 | .int _,_,_,_,_,h=>by simp[WbO,Wj]at h
 | .bool,_,_,_,_,h=>by simp[WbO,Wj]at h
 | .str,_,_,_,_,h=>by simp[WbO,Wj]at h
 | .slice _,_,_,_,_,h=>by simp[WbO,Wj]at h
def kids(l:List Kp):List Nat:=l.map Kp.id
theorem Wgh(l:List Nat):kids (kp0 l)=l:=by simp[kids,kp0,Function.comp_def]
theorem Wat(aA:WZ){bx:List (Nat×CS)}:∀(ps:List PTy) (o:WeG ps) (ids:List Kp) (ks:List Nu) (kf:List CS) (ms:List Pc) (objs:WZ) (nx af:Nat),Wa6 G w ps o ks kf ms->KeptOk aA ν bx ps ids ks->At ν φ nx ms->
  (kids ids).Nodup->(∀k∈ids,k.id<nx/\Wj objs k.id=Wj aA k.id)->nx+ms.length<=af->
  (W4 ps o ids objs nx).2=nx+ms.length/\kf.length=ids.length/\
  ∀id ob,Wj (W4 ps o ids objs nx).1 id=some ob->(nx<=id/\id<nx+ms.length/\Wnl G ν φ w id ob)\/(∃(j:Nat) (S:CS),(kids ids)[j]?=some id/\kf[j]?=some S/\Wkk G ν w aA bx af id S ob)\/(Wj objs id=some ob/\id∉kids ids)
 | [],o,ids,ks,kf,ms,objs,nx,af,⟨_,h1,h2⟩,hk,_,_,_,_=>by subst h1 h2;obtain⟨hk,_⟩:=hk;subst hk;exact⟨rfl,rfl,λid ob hl=>.inr (.inr ⟨hl,by simp[kids]⟩)⟩
 | .v _ _::ps,o,ids,ks,kf,ms,objs,nx,af,h,hk,hν,hn,hi,hx=>Wat aA ps o ids ks kf ms objs nx af h hk hν hn hi hx
 | .box t::ps,o,ids,ks,kf,ms,objs,nx,af,⟨b,off,ak,cI,n1,n2,h1,h2,h3,hb,h5⟩,hk,hν,hn,hi,hx=>putOuts_box aA t ps o.1 o.2 ids ks kf ms objs nx af (λids ks kf ms objs nx af=>Wat aA ps o.2 ids ks kf ms objs nx af) ⟨b,off,ak,cI,n1,n2,h1,h2,h3,hb,h5⟩ hk hν hn hi hx
 | .vj _::_,_,_,_,_,_,_,_,_,h,_,_,_,_,_=>h.elim
 | .boxal t _::ps,o,ids,ks,kf,ms,objs,nx,af,⟨b,off,ak,cI,n1,n2,h1,h2,h3,hb,h5⟩,hk,hν,hn,hi,hx=>putOuts_box aA t ps o.1 o.2 ids ks kf ms objs nx af (λids ks kf ms objs nx af=>Wat aA ps o.2 ids ks kf ms objs nx af) ⟨b,off,ak,cI,n1,n2,h1,h2,h3,hb,h5⟩ hk hν hn hi hx
 | .mut e::ps,o,ids,ks,kf,ms,objs,nx,af,⟨pc,ak,cI,h1,h2,h3,h4⟩,hk,hν,hn,hi,hx=>by
  obtain⟨id,aT,sh,ys,rfl,jE,aR,ik⟩:=hk;rw[h1]at jE;simp only[List.cons.injEq]at jE;obtain⟨hνid,rfl⟩:=jE;subst h2;have aH:=Xaa.1 hn;obtain⟨e1,el,e2⟩:=Wat aA ps o.2 aT ak cI ms ((id,.arr e o.1)::objs) nx af h4 ik hν aH.2 (λk lw=>by
   obtain⟨g1,g2⟩:=hi k (Xe _ lw);have bZ:id≠k.id:=λe=>aH.1 (by grind);simp_all [Wv,Wc]) hx
  simp only[W4];refine⟨e1,by simp[el],λi ob hl=>?_⟩;rcases e2 i ob hl with g|⟨j,S,g1,g2,g3⟩|⟨g,gn⟩
  .grind
  .exact .inr (.inl ⟨j+1,S,g1,g2,g3⟩)
  .rw[Wv]at g;split at g
   .rename_i e3;subst e3;injection g with g;subst g;exact .inr (.inl ⟨0,pc.fp,rfl,rfl,.inr ⟨e,ys,o.1,aR,rfl,by simp_all⟩⟩)
   .rename_i bZ;exact .inr (.inr ⟨g,λhm=>by rcases Xq.1 hm with hm|hm;exact bZ hm.symm;exact gn hm⟩)
 | .clos _ _::ps,o,ids,ks,kf,ms,objs,nx,af,h,hk,hν,hn,hi,hx=>Wat aA ps o ids ks kf ms objs nx af h hk hν hn hi hx
 | .rp _::ps,o,ids,ks,kf,ms,objs,nx,af,h,hk,hν,hn,hi,hx=>Wat aA ps o ids ks kf ms objs nx af h hk hν hn hi hx
 | .kv t agg::ps,o,ids,ks,kf,ms,objs,nx,af,⟨n1,ak,cI,us,h1,h2,h3,h4⟩,⟨i1,i2,sh,bj,nN,ho,ik⟩,hν,hn,hi,hx=>by
  subst bj h2;have bz:=WR t _ _ _ h3;have kF:=WdW t _ ho;rw[h1]at nN;obtain⟨q1,q2⟩:=Xfh nN (by simp[nus,bz,kF]);subst q2;have qg:(kp0 i1).length=t.owns:=by simp[kp0,kF]
  have t1:((kp0 i1++i2).take t.owns).map Kp.id=i1:=by rw[←qg];simp;exact Wgh i1
  have t2:(kp0 i1++i2).drop t.owns=i2:=by simp_all
  obtain⟨r1,r2⟩:=Wfn (bx:=bx) (af:=af) aA t o.1 us n1 i1 h3 q1 ho;have iU:kids (kp0 i1++i2)=i1++kids i2:=by grind [kids,Wgh]
  rw[iU]at hn;obtain⟨m1,m2,m3⟩:=Xac.1 hn;obtain⟨e1,el,e2⟩:=Wat aA ps o.2 i2 ak cI ms (WbO t o.1 i1++objs) nx af h4 ik hν m2 (λk lw=>by
   obtain⟨g1,g2⟩:=hi k (Xf _ lw);refine⟨g1,?_⟩;rw[Wa4];cases hq:Wj (WbO t o.1 i1) k.id with
   |none=>exact g2
   |some ob=>exact Ww rfl (m3 _ (Whi t o.1 i1 _ ob hq) _ (Xaj lw))) hx
  simp only[W4,t1,t2];have fT:(fps n1).length=i1.length:=by simp[fps,bz,kF]
  refine⟨e1,by simp_all,λi ob hl=>?_⟩;rw[iU];rcases e2 i ob hl with g|⟨j,S,g1,g2,g3⟩|⟨g,gn⟩
  .grind
  .refine .inr (.inl ⟨i1.length+j,S,?_,?_,g3⟩)
   .grind
   grind
  .rw[Wa4]at g;cases hq:Wj (WbO t o.1 i1) i with
   |some cp=>
    rw[hq]at g;injection g with g;subst g;obtain⟨j,S,g1,g2,g3⟩:=r1 i _ hq;refine .inr (.inl ⟨j,S,?_,?_,g3⟩)
    .grind
    grind
   |none=>
    grind
where
 putOuts_box (aA:WZ) {bx:List (Nat×CS)} (t:Ty) (ps:List PTy) (o1:t.den) (o2:WeG ps) (ids:List Kp) (ks:List Nu) (kf:List CS) (ms:List Pc) (objs:WZ) (nx af:Nat)
   (ih:∀(ids:List Kp) (ks:List Nu) (kf:List CS) (ms:List Pc) (objs:WZ) (nx af:Nat),Wa6 G w ps o2 ks kf ms->KeptOk aA ν bx ps ids ks->At ν φ nx ms->
    (kids ids).Nodup->(∀k∈ids,k.id<nx/\Wj objs k.id=Wj aA k.id)->nx+ms.length<=af->
    (W4 ps o2 ids objs nx).2=nx+ms.length/\kf.length=ids.length/\
    ∀id ob,Wj (W4 ps o2 ids objs nx).1 id=some ob->(nx<=id/\id<nx+ms.length/\Wnl G ν φ w id ob)\/(∃(j:Nat) (S:CS),(kids ids)[j]?=some id/\kf[j]?=some S/\Wkk G ν w aA bx af id S ob)\/(Wj objs id=some ob/\id∉kids ids))
   (h:∃b off ak cI n1 n2,ks=Wbm b off::ak/\kf=rng b off t.size::cI/\ms=n1++n2/\Wd6 G w t o1 b off n1/\Wa6 G w ps o2 ak cI n2)
   (hk:∃k aT nu ak,ids=k::aT/\ks=nu::ak/\KeptBox aA ν bx t k nu/\KeptOk aA ν bx ps aT ak) (hν:At ν φ nx ms)
   (hn:(kids ids).Nodup) (hi:∀k∈ids,k.id<nx/\Wj objs k.id=Wj aA k.id) (hx:nx+ms.length<=af):
   (W4 (.box t::ps) (o1,o2) ids objs nx).2=nx+ms.length/\kf.length=ids.length/\
   ∀id ob,Wj (W4 (.box t::ps) (o1,o2) ids objs nx).1 id=some ob->(nx<=id/\id<nx+ms.length/\Wnl G ν φ w id ob)\/(∃(j:Nat) (S:CS),(kids ids)[j]?=some id/\kf[j]?=some S/\Wkk G ν w aA bx af id S ob)\/(Wj objs id=some ob/\id∉kids ids):=by
  obtain⟨b,off,ak,cI,n1,n2,h1,h2,h3,⟨us,_,ay,fC⟩,h5⟩:=h;obtain⟨k,aT,nu,sh,rfl,jE,⟨jD,b0,aR,bO,aS,jF,qh⟩,ik⟩:=hk;rw[h1]at jE;simp only[List.cons.injEq]at jE;obtain⟨pp,rfl⟩:=jE;rw[jF]at pp;unfold Wbm at pp;injection pp with qi tB;injection qi with qi;subst qi tB h2 h3;have bz:=WR t _ _ _ fC;have aa:(n1++n2).length=t.owns+n2.length:=by rw[Xo,bz]
  obtain⟨c1,si⟩:=Waa t o1 nx us n1 fC hν.left;have aH:=Xaa.1 hn;obtain⟨qj,j8⟩:=hi k (Xh ..);have cH:=Wbr t o1 nx;have ie:WfK (Wj objs k.id) k.off (unfold t o1 nx).1= .box (Wc8 jD k.off (unfold t o1 nx).1):=by rw[j8,aR];rfl
  obtain⟨e1,el,e2⟩:=ih aT ak cI n2 ((k.id,WfK (Wj objs k.id) k.off (unfold t o1 nx).1)::((unfold t o1 nx).2.1++objs)) (nx+t.owns) af h5 ik (hν.right bz) aH.2 (λk' lw=>by
   obtain⟨g1,g2⟩:=hi k' (Xe _ lw);refine⟨by omega,?_⟩;rw[Wv,Wc (λe=>aH.1 (by rw[e];exact Xaj lw)),Wa4];cases hq:Wj (unfold t o1 nx).2.1 k'.id with
   |none=>exact g2
   |some ob=>have:=(si _ ob hq).1;omega) (by omega)
  simp only[W4,Wap];refine⟨by rw[e1,aa];omega,by simp[el],λi ob hl=>?_⟩;rcases e2 i ob hl with⟨g1,g2,g3⟩|⟨j,S,g1,g2,g3⟩|⟨g,gn⟩
  .exact .inl ⟨by omega,by omega,g3⟩
  .exact .inr (.inl ⟨j+1,S,g1,g2,g3⟩)
  .rw[Wv]at g;split at g
   .rename_i e3;subst e3;injection g with g;rw[ie]at g;subst g;refine .inr (.inl ⟨0,_,rfl,rfl,.inl ⟨jD,k.off,_,_,us,aR,rfl,by rw[cH];exact bO,aS,ay,c1 af (by omega),by rw[cH],by rw[cH];exact qh⟩⟩)
   .rename_i bZ;rcases WA g with g|g
    .obtain⟨g1,g2,g3⟩:=si i ob g;exact .inl ⟨g1,by omega,g3⟩
    .exact .inr (.inr ⟨g,λhm=>by rcases Xq.1 hm with hm|hm;exact bZ hm.symm;exact gn hm⟩)
def WsI(G:GH)(ν:Nat->Nu)(φ:Nat->CS)(w:World)(af:Nat)(id:Nat)(ob:Ob):Prop:=
 Wnl G ν φ w id ob\/∃cs b us,ob= .box cs/\(ν id).blk=some b/\Row w b ((ν id).off+cs.length)/\Mem w b (ν id).off us/\CellsRel G ν af cs us/\CS.le (rng b (ν id).off cs.length) (φ id)
theorem WcP:∀(rs:List PTy) (d:Wfj rs) (vs:List Value) (ns:List Pc) (objs:WZ) (nx af:Nat),We8 G w rs d vs ns->At ν φ nx ns->nx+ns.length<=af->
  (WaS rs d objs nx).2.2=nx+ns.length/\
  (∀id ob,Wj (WaS rs d objs nx).2.1 id=some ob->(nx<=id/\id<nx+ns.length/\WsI G ν φ w af id ob)\/Wj objs id=some ob)/\
  Wpn G ν af (WaS rs d objs nx).1 vs
 | [],d,vs,ns,objs,nx,af,⟨h1,h2⟩,_,_=>by subst h1 h2;exact⟨rfl,λid ob hl=>.inr hl,rfl,λj x v hj=>by simp[WaS]at hj⟩
 | .v t agg::rs,d,vs,ns,objs,nx,af,⟨v,aj,n1,n2,h1,h2,h3,h4⟩,hν,hx=>by
  subst h2;obtain⟨us,ig⟩:=WlV h3;have bz:=WR _ _ _ _ ig;have aa:(n1++n2).length=t.owns+n2.length:=by rw[Xo,bz]
  obtain⟨_,o1⟩:=Waa t d.1 nx us n1 ig hν.left;obtain⟨e1,e2,e4,e5⟩:=WcP rs d.2 aj n2 ((unfold t d.1 nx).2.1++objs) (nx+t.owns) af h4 (hν.right bz) (by omega);simp only[WaS,Wap];refine⟨by rw[e1,aa];omega,λi ob hl=>?_,?_⟩
  .rcases e2 i ob hl with⟨g1,g2,g3⟩|g
   .exact .inl ⟨by omega,by omega,g3⟩
   .rcases WA g with g|g
    .obtain⟨g1,g2,g3⟩:=o1 i ob g;exact .inl ⟨g1,by omega,.inl g3⟩
    .exact .inr g
  .rw[h1];refine⟨by simp[e4],λj x u hj hu=>?_⟩;cases j with
   |zero=>simp at hj hu;subst hj hu;exact WjH h3 hν.left (by omega)
   |succ j=>exact e5 j x u (by simpa using hj) (by simpa using hu)
 | .box t::rs,d,vs,ns,objs,nx,af,⟨b,o,aj,n1,n2,h1,h2,⟨us,aJ,ay,fC⟩,h5⟩,hν,hx=>by
  subst h2;have bz:=WR _ _ _ _ fC;have aa:((⟨Wbm b o,rng b o t.size⟩:Pc)::(n1++n2)).length=1+t.owns+n2.length:=by rw[List.length_cons,Xo,bz];omega
  obtain⟨hν0,hφ0⟩:ν nx=Wbm b o/\φ nx=rng b o t.size:=by have:=hν 0 _ rfl;simpa using this
  have hν1:At ν φ (nx+1) (n1++n2):=hν.right (n1:=[⟨Wbm b o,rng b o t.size⟩]) rfl;obtain⟨c1,o1⟩:=Waa t d.1 (nx+1) us n1 fC hν1.left;obtain⟨e1,e2,e4,e5⟩:=WcP rs d.2 aj n2 ((nx,.box (unfold t d.1 (nx+1)).1)::((unfold t d.1 (nx+1)).2.1++objs)) (nx+1+t.owns) af h5 (hν1.right bz) (by omega);have cH:=Wbr t d.1 (nx+1);simp only[WaS,Wap];refine⟨by rw[e1,aa];omega,λid ob hl=>?_,?_⟩
  .rcases e2 id ob hl with⟨g1,g2,g3⟩|g
   .exact .inl ⟨by omega,by omega,g3⟩
   .rw[Wv]at g;split at g
    .rename_i e;subst e;injection g with g;subst g;refine .inl ⟨Xm _,by omega,.inr ⟨_,b,us,rfl,by rw[hν0];rfl,?_,?_,c1 af (by omega),?_⟩⟩
     .rw[hν0,cH];exact aJ
     .rw[hν0];exact ay
     .rw[hν0,cH,hφ0];exactλ_ _ hh=>hh
    .rcases WA g with g|g
     .obtain⟨g1,g2,g3⟩:=o1 id ob g;exact .inl ⟨by omega,by omega,.inl g3⟩
     .exact .inr g
  .rw[h1];refine⟨by simp[e4],λj x u hj hu=>?_⟩;cases j with
   |zero=>
    simp at hj hu;subst hj hu;exact⟨⟨by omega,b,by rw[hν0];rfl,by rw[hν0];rfl⟩,rfl⟩
   |succ j=>exact e5 j x u (by simpa using hj) (by simpa using hu)
 | .mut _::_,_,_,_,_,_,_,h,_,_=>h.elim
 | .clos _ _::_,_,_,_,_,_,_,h,_,_=>h.elim
 | .kv _ _::_,_,_,_,_,_,_,h,_,_=>h.elim
 | .rp _::_,_,_,_,_,_,_,h,_,_=>h.elim
 | .vj t::rs,d,vs,ns,objs,nx,af,⟨us,u,aj,n1,n2,h1,h0,h2,h3,h4⟩,hν,hx=>by
  subst h2;have bz:=WR _ _ _ _ h3;have aa:(n1++n2).length=t.owns+n2.length:=by rw[Xo,bz]
  obtain⟨c1,o1⟩:=Waa t d.1 nx us n1 h3 hν.left;obtain⟨e1,e2,e4,e5⟩:=WcP rs d.2 aj n2 ((unfold t d.1 nx).2.1++objs) (nx+t.owns) af h4 (hν.right bz) (by omega);simp only[WaS,Wap];refine⟨by rw[e1,aa];omega,λi ob hl=>?_,?_⟩
  .rcases e2 i ob hl with⟨g1,g2,g3⟩|g
   .exact .inl ⟨by omega,by omega,g3⟩
   .rcases WA g with g|g
    .obtain⟨g1,g2,g3⟩:=o1 i ob g;exact .inl ⟨g1,by omega,.inl g3⟩
    .exact .inr g
  .rw[h1];refine⟨by simp[e4],λj x v hj hv=>?_⟩;cases j with
   |zero=>simp at hj hv;subst hj hv;exact⟨us++ [u],rfl,(c1 af (by omega)).append (CellsRel.one trivial h0)⟩
   |succ j=>exact e5 j x v (by simpa using hj) (by simpa using hv)
 | .boxal _ _::_,_,_,_,_,_,_,h,_,_=>h.elim
theorem WoL{xs:List AV}{vs:List Value}(h:Wpn G ν nx xs vs):AValRel G ν nx (Wsm xs) (WgQ vs):=by
 obtain⟨h1,h2⟩:=h
 match xs,vs,h1 with
 | [],[],_=>exact⟨[],rfl,rfl,λj x v hj=>by simp at hj⟩
 | [x],[v],_=>exact h2 0 x v rfl rfl
 |x::y::xs,v::u::vs,h1=>exact⟨v::u::vs,rfl,h1,h2⟩
end
end Go.Sx
namespace Go.Sx
set_option linter.unusedVariables false
set_option linter.unusedSimpArgs false
theorem Waq(i:Nat):∀l:List Nat,WbB i l=true↔i∈l
 | []=>by simp[WbB]
 |j::l=>by
  simp only[WbB,Bool.or_eq_true,Waq i l,Xq];rw[show(Nat.beq i j=true)=(i=j)from by simp]
theorem WdL:∀l:List Nat,WaR l=true↔l.Nodup
 | []=>by simp[WaR]
 |i::l=>by
  have h:=Waq i l;simp only[WaR,Xg,Xak,Xaa,WdL l]
  grind
theorem WkK{l m:List Nat}(h:Wen l m=true):∀i∈l,i∉m:=λi hi hm=>by
 grind [Wen,Xab,Waq]
section
variable{w0:World}{F:CS}{nt:Slots}{G0 G G':GH}{ν:Nat->Nu}{φ:Nat->CS}{objs:WZ}{nx:Nat}{st ac:St}{a:Act}{w w':World}{P:Program}{T:Tab}
theorem Wju(h:HR w0 F G ν φ objs nx w){t:Ty}{agg:Bool}{x:AVal}{v:Value}{cs:List Cell}{d:t.den}{m l:List Nat}(hg:GLe G G')(hx:AValRel G ν nx x v)(hl:Lent G' w φ objs l)(hm:m.Nodup)
  (hc:cellsOf agg x=some cs) (hf:Wac t cs objs=some (d,m,l)):∃ns,WhE G' w t agg d v ns/\Sep (fps ns)/\(∀p∈ns,CS.le p.fp (FromL φ objs m))/\(∀i∈m,Live objs i)/\(∀i∈l,Live objs i):=by
 unfold cellsOf at hc;split at hc
 .split at hc
  .cases hc
  .rename_i c ha;injection hc with hc;subst hc;obtain⟨ns,h1,h2,h3,h4,h5,_⟩:=W2 h hg t [c] [v] d m l (CellsRel.one hx.1 hx.2) hl hm hf;refine⟨ns,?_,h2,h3,h4,h5⟩;simp_all [WhE,Wc]
 .split at hc
  .rename_i ds ha;injection hc with hc;subst hc;obtain⟨us,rfl,bk⟩:=hx;obtain⟨ns,h1,h2,h3,h4,h5,_⟩:=W2 h hg t ds us d m l bk hl hm hf;refine⟨ns,?_,h2,h3,h4,h5⟩;unfold WhE;simp_all
  .cases hc
 .cases hc
def WsH(objs:WZ)(m:List Nat):Prop:=∀i∈m,∃(e:Ty) (xs:List e.den),Wj objs i=some (.arr e xs)
theorem Wge:∀(t:Ty) (cs:List Cell) (d:t.den) (m l:List Nat),WsH objs m->Wac t cs objs=some (d,m,l)->m.length<=t.owns
 | .prod a b,cs,d,m,l,ha,h=>by
  simp only[Wac]at h;split at h
  .rename_i x m1 l1 y m2 l2 h1 h2;simp only[Option.some.injEq,Prod.mk.injEq]at h;obtain⟨rfl,rfl,rfl⟩:=h;have:=Wge a _ _ _ _ (λi hi=>ha i (Xj _ hi)) h1;have:=Wge b _ _ _ _ (λi hi=>ha i (Xf _ hi)) h2;rw[Xo];show _<=a.owns+b.owns;omega
  grind
 | .own e,cs,d,m,l,ha,h=>by
  simp only[Wac]at h;split at h
  .rename_i id;obtain⟨⟨ys,m'⟩,ho,hf⟩:=Xs.1 h;simp only[Prod.mk.injEq]at hf;obtain⟨rfl,rfl,rfl⟩:=hf;unfold WqI at ho;split at ho
   .obtain⟨zs,_,ho⟩:=Xs.1 ho;obtain⟨_,rfl⟩:=Prod.mk.inj ho;exact Xm 1
   .rename_i e' xs i p aR;split at ho
    .split at ho
     .simp only[Option.some.injEq,Prod.mk.injEq]at ho;obtain⟨_,rfl⟩:=ho;obtain⟨e2,tC,h2⟩:=ha id (Xh ..);simp_all
     grind
    grind
   grind
  .split at h
   .obtain⟨zs,_,h⟩:=Xs.1 h;have h2:=(Prod.mk.inj (Prod.mk.inj h).2).1;subst h2;exact Xm 1
   grind
  .grind
  grind
 | .slice e,cs,d,m,l,_,h=>by
  have hm:m= []:=by
   simp only[Wac]at h
   grind [Xs,Prod.mk.inj]
  simp_all
 | .int k,cs,d,m,l,_,h=>by
  simp only[Wac]at h;split at h
  .obtain⟨q,hq,h⟩:=Xs.1 h;simp_all
  grind
 | .bool,cs,d,m,l,_,h=>by
  simp only[Wac]at h;split at h
  .obtain⟨q,hq,h⟩:=Xs.1 h;simp_all
  grind
 | .str,cs,d,m,l,_,h=>by
  simp only[Wac]at h;split at h
  .obtain⟨q,hq,h⟩:=Xs.1 h;simp_all
  grind
theorem WdX(h:HR w0 F G ν φ objs nx w)(hg:GLe G G'){t:Ty}(ht:t.owns=0){cs:List Cell}{vs:List Value}{d:t.den}{m l:List Nat}(hc:CellsRel G ν nx cs vs)(hl:Lent G' w φ objs l)(hf:Wac t cs objs=some (d,m,l))(hm:m= []):Wm G' w t d vs []:=by
 subst hm;obtain⟨ns,h1,_⟩:=W2 h hg t cs vs d [] l hc hl Xcy hf;have:=WR _ _ _ _ h1;simp_all
def pcs(ν:Nat->Nu)(φ:Nat->CS)(m:List Nat):List Pc:=m.map λi=>⟨ν i,φ i⟩
theorem WrL(m:List Nat):nus (pcs ν φ m)=m.map ν:=by simp[nus,pcs,Function.comp_def]
theorem Wmf(m:List Nat):fps (pcs ν φ m)=m.map φ:=by simp[fps,pcs,Function.comp_def]
theorem WdY(h:HR w0 F G ν φ objs nx w)(hg:GLe G G'):∀(t:Ty) (cs:List Cell) (vs:List Value) (d:t.den) (m l:List Nat),CellsRel G ν nx cs vs->Lent G' w φ objs l->(∀c∈cs,Wpo c=true)->WsH objs m->
  Wac t cs objs=some (d,m,l)->m.length=t.owns->Wm G' w t d vs (pcs ν φ m)/\Whr objs t m
 | .prod a b,cs,vs,d,m,l,hc,hl,hw,ha,hf,hm=>by
  have hf0:=hf;simp only[Wac]at hf;split at hf
  .rename_i x m1 l1 y m2 l2 h1 h2;simp only[Option.some.injEq,Prod.mk.injEq]at hf;obtain⟨rfl,rfl,rfl⟩:=hf;have sj:WsH objs m1:=λi hi=>ha i (Xj _ hi);have sm:WsH objs m2:=λi hi=>ha i (Xf _ hi);have q1:=Wge a _ _ _ _ sj h1;have q2:=Wge b _ _ _ _ sm h2;rw[Xo]at hm;have fU:m1.length+m2.length=a.owns+b.owns:=hm;obtain⟨g1,g2⟩:=WdY h hg a _ (vs.take a.size) x m1 l1 (hc.take _) (hl.mono (by simp_all)) (λc hc=>hw c (Xcj hc)) sj h1 (by omega);obtain⟨g3,g4⟩:=WdY h hg b _ (vs.drop a.size) y m2 l2 (hc.drop _) (hl.mono (by simp_all)) (λc hc=>hw c (Xeh hc)) sm h2 (by omega);exact⟨⟨_,_,pcs ν φ m1,pcs ν φ m2,(Xdi a.size vs).symm,by simp[pcs],g1,g3⟩,m1,m2,rfl,g2,g4⟩
  grind
 | .own e,cs,vs,d,m,l,hc,hl,hw,ha,hf,hm=>by
  simp only[Wac]at hf;split at hf
  .rename_i id;obtain⟨v,rfl,⟨_,hv⟩,_⟩:=hc.single;subst hv;obtain⟨⟨ys,m'⟩,ho,hf⟩:=Xs.1 hf;simp only[Prod.mk.injEq]at hf;obtain⟨rfl,rfl,rfl⟩:=hf;unfold WqI at ho;split at ho
   .rename_i e' xs aR;obtain⟨zs,bd,ho⟩:=Xs.1 ho;obtain⟨rfl,rfl⟩:=Prod.mk.inj ho;obtain⟨he,hy⟩:=Wab bd;subst he;simp only at hy;subst hy;have an:Wa9 w (Wm G w e') e'.size (ν id) xs (φ id):=h.ob _ _ aR;exact⟨⟨⟨ν id,φ id⟩,rfl,rfl,Wcc hg (Same.refl _ w) (λ_ _ hh=>hh) an⟩,id,xs,rfl,aR⟩
   .rename_i e' xs i p aR;split at ho
    .split at ho
     .simp only[Option.some.injEq,Prod.mk.injEq]at ho;obtain⟨_,rfl⟩:=ho;obtain⟨e2,tC,h2⟩:=ha id (Xh ..);simp_all
     grind
    grind
   grind
  .have:=hw _ (Xaf.2 rfl);cases this
  .simp only[Option.some.injEq,Prod.mk.injEq]at hf;obtain⟨rfl,rfl,rfl⟩:=hf;exact Ww hm (by show¬(0=1);omega)
  grind
 | .slice e,cs,vs,d,m,l,hc,hl,hw,ha,hf,hm=>by
  have iW:m= []:=Xu hm;have:=WdX h hg (t:=.slice e) rfl hc hl hf iW;subst iW;exact⟨this,rfl⟩
 | .int k,cs,vs,d,m,l,hc,hl,hw,ha,hf,hm=>by
  have iW:m= []:=Xu hm;have:=WdX h hg (t:=.int k) rfl hc hl hf iW;subst iW;exact⟨this,rfl⟩
 | .bool,cs,vs,d,m,l,hc,hl,hw,ha,hf,hm=>by
  have iW:m= []:=Xu hm;have:=WdX h hg (t:=.bool) rfl hc hl hf iW;subst iW;exact⟨this,rfl⟩
 | .str,cs,vs,d,m,l,hc,hl,hw,ha,hf,hm=>by
  have iW:m= []:=Xu hm;have:=WdX h hg (t:=.str) rfl hc hl hf iW;subst iW;exact⟨this,rfl⟩
theorem WnI{t:Ty}{m:List Nat}{x:AVal}(h:WkP objs t m x=true):m.length=t.owns/\Wre x=true/\WsH objs m:=by
 unfold WkP at h;simp only[Xg,Wg,Xab]at h;obtain⟨⟨h1,h2⟩,h3⟩:=h;refine⟨h1,h2,λi hi=>?_⟩
 grind
theorem Wkl(h:HR w0 F G ν φ objs nx w){t:Ty}{agg:Bool}{x:AVal}{v:Value}{cs:List Cell}{d:t.den}{m l:List Nat}(hg:GLe G G')(hx:AValRel G ν nx x v)(hl:Lent G' w φ objs l)
  (hc:cellsOf agg x=some cs) (hf:Wac t cs objs=some (d,m,l)) (ha:WkP objs t m x=true):WhE G' w t agg d v (pcs ν φ m)/\Whr objs t m:=by
 obtain⟨hm,hw,fh⟩:=WnI ha;unfold cellsOf at hc;split at hc
 .split at hc
  .cases hc
  .rename_i c pf;injection hc with hc;subst hc;obtain⟨h1,h2⟩:=WdY h hg t [c] [v] d m l (CellsRel.one hx.1 hx.2) hl (λc' iP=>by rw[Xaf.1 iP];exact hw) fh hf hm;simp_all [WhE,Wc]
 .split at hc
  .rename_i ds pf;injection hc with hc;subst hc;obtain⟨us,rfl,bk⟩:=hx;obtain⟨h1,h2⟩:=WdY h hg t ds us d m l bk hl (λc' iP=>Xab.1 hw c' iP) fh hf hm;refine⟨?_,h2⟩;unfold WhE;simp_all
  .cases hc
 .cases hc
def Tk(φ:Nat->CS)(objs:WZ)(bx:List (Nat×CS))(l:List Nat):CS:=λb o=>∃i∈l,Live objs i/\φ i b o/\∀p∈bx,p.1=i->p.2 b o
structure AOk(G':GH)(ν:Nat->Nu)(φ:Nat->CS)(objs:WZ)(w:World)(ps:List PTy)(A:Args ps)(vs:List Value)(ns:List Pc)(ks:List Nu)(bx:List (Nat×CS)):Prop where
 args:WaP G' w ps A.d vs ns ks
 kept:KeptOk objs ν bx ps A.kept ks
 sep:Sep (fps ns)
 tk:∀q∈ns,CS.le q.fp (Tk φ objs bx A.all)
 bx:∀p∈bx,p.1∈A.all
 live:∀i∈A.all,Live objs i
 lent:∀i∈A.lent,Live objs i
 mv:∀i∈A.moved,i∈A.all
 mvk:∀i∈A.all,i∈A.moved\/i∈kids A.kept
 sub:(kids A.kept).Sublist A.all
 dis:∀i∈kids A.kept,i∉A.moved
theorem WgV{bx:List (Nat×CS)}{l:List Nat}:CS.le (Tk φ objs bx l) (FromL φ objs l):=λb o ⟨i,hi,h1,h2,_⟩=>⟨i,hi,h1,h2⟩
theorem WiE{bx kK:List (Nat×CS)}{l l':List Nat}(hl:∀i∈l,i∈l')(hb:∀p∈kK,p∈bx\/p.1∉l):CS.le (Tk φ objs bx l) (Tk φ objs kK l'):=λb o ⟨i,hi,h1,h2,h3⟩=>
 ⟨i,hl i hi,h1,h2,λp hp e=>by
  grind⟩
theorem WlO{bx:List (Nat×CS)}{m l:List Nat}(hm:∀i∈m,i∈l)(hb:∀p∈bx,p.1∉m):CS.le (FromL φ objs m) (Tk φ objs bx l):=λb o ⟨i,hi,h1,h2⟩=>
 ⟨i,hm i hi,h1,h2,λp hp e=>Ww (by simp_all) (hb p hp)⟩
theorem Wbz(h:HR w0 F G ν φ objs nx w){n1 n2:List Pc}{m l:List Nat}(h1:Sep (fps n1))(h2:Sep (fps n2))(g1:∀q∈n1,CS.le q.fp (FromL φ objs m))(g2:∀q∈n2,CS.le q.fp (FromL φ objs l))(hd:∀i∈m,i∉l):Sep (fps (n1++n2)):=by
 unfold fps;rw[Xy];refine WlH h1 h2 (A:=FromL φ objs m) (B:=FromL φ objs l) (λs hs=>?_) (λs hs=>?_) (FromL.disj h hd)
 .grind
 grind
theorem WmQ(h:HR w0 F G ν φ objs nx w)(hg:GLe G G'){t:Ty}{ps:List PTy}{id off:Nat}{cs:List Cell}{d:t.den}{m:List Nat}{A:Args ps}{vs:List Value}{ns:List Pc}{ks:List Nu}{bx:List (Nat×CS)}{v:Value}
  (hv:CellRel G ν nx (.ptr id off) v) (aR:Wj objs id=some (.box cs)) (hf:Wac t ((cs.drop off).take t.size) objs=some (d,m,[])) (aH:(id::(m++A.all)).Nodup) (hA:AOk G' ν φ objs w ps A vs ns ks bx):
  ∃b n1,v= .pointer (some ⟨b,(ν id).off+off,none⟩)/\(ν id).blk=some b/\Wd6 G' w t d b ((ν id).off+off) n1/\Leaf ν t ((cs.drop off).take t.size) n1/\
   KeptBox objs ν ((id,rng b ((ν id).off+off) t.size)::bx) t ⟨id,off⟩ (Wbm b ((ν id).off+off))/\KeptOk objs ν ((id,rng b ((ν id).off+off) t.size)::bx) ps A.kept ks/\
   Sep (fps (⟨Wbm b ((ν id).off+off),rng b ((ν id).off+off) t.size⟩::(n1++ns)))/\
   (∀q∈(⟨Wbm b ((ν id).off+off),rng b ((ν id).off+off) t.size⟩:Pc)::(n1++ns),CS.le q.fp (Tk φ objs ((id,rng b ((ν id).off+off) t.size)::bx) (id::(m++A.all))))/\
   (∀p∈(id,rng b ((ν id).off+off) t.size)::bx,p.1∈id::(m++A.all))/\(∀i∈id::(m++A.all),Live objs i)/\
   (∀i∈m++A.moved,i∈id::(m++A.all))/\(∀i∈id::(m++A.all),i∈m++A.moved\/i∈id::kids A.kept)/\(id::kids A.kept).Sublist (id::(m++A.all))/\(∀i∈id::kids A.kept,i∉m++A.moved):=by
 obtain⟨bj,b,aS,rfl⟩:=hv;obtain⟨n1,n2⟩:=Xaa.1 aH;obtain⟨n3,n4,n5⟩:=Xac.1 n2;have ax:Live objs id:=⟨_,aR,by simp⟩;obtain⟨b',us,bV,aJ,ay,bk,dW⟩:WbR G ν nx w id (φ id) (.box cs):=h.ob _ _ aR;rw[aS]at bV;injection bV with bV;subst bV;obtain⟨q1,t1,t2,t3,t4,_,t5⟩:=W2 h hg t _ ((us.drop off).take t.size) d m [] ((bk.drop off).take _) (λi hi=>by simp at hi) n3 hf;have aa:=Wu _ _ _ _ t1;have bO:off+t.size<=cs.length:=by
  have:=bk.1
  grind [Xbe,Xdl,Wba]
 have ff:CS.le (rng b ((ν id).off+off) t.size) (φ id):=λb' o ⟨k0,k1,k2⟩=>dW b' o ⟨k0,by omega,by omega⟩;refine⟨b,q1,rfl,aS,⟨_,?_,?_,t1⟩,t5,⟨cs,b,aR,bO,aS,rfl,Xh ..⟩,KeptOk.mono (λp hp=>Xe _ hp) _ _ _ hA.kept,?_,?_,?_,?_,?_,?_,?_,?_⟩
 .obtain⟨row,TT,r1,r2⟩:=aJ;exact⟨row,TT,r1,by omega⟩
 .intro j v hj;rw[Xbg]at hj;split at hj
  .rw[Xbf]at hj;rw[Xav];exact ay _ v hj
  grind
 .have s1:=Wbz h t2 hA.sep t3 (λq hq b o hh=>WgV b o (hA.tk q hq b o hh)) (λi hi hj=>n5 i hi i hj rfl);refine Xw.2 ⟨λs hs=>?_,s1⟩;obtain⟨p,hp,rfl⟩:=Xv.1 hs;refine CS.disj.mono (FromL.disj h (m:=[id]) (m':=m++A.all) (λi hi hj=>n1 (by simp_all))) (λb o hh=>⟨id,by simp,ax,ff b o hh⟩) (λb o hh=>?_);rcases Xl.1 hp with hp|hp
  .exact FromL.mono (λi hi=>Xj _ hi) b o (t3 p hp b o hh)
  .exact FromL.mono (λi hi=>Xf _ hi) b o (WgV b o (hA.tk p hp b o hh))
 .intro q hq;rcases Xq.1 hq with rfl|hq
  .exactλb o hh=>⟨id,Xh ..,ax,ff b o hh,λp hp e=>by
    rcases Xq.1 hp with rfl|hp
    .exact hh
    .exact Ww (Xf _ (by rw[←e];exact hA.bx p hp)) n1⟩
  .rcases Xl.1 hq with hq|hq
   .refineλb o hh=>WlO (m:=m) (λi hi=>Xe _ (Xj _ hi)) (λp hp hm=>?_) b o (t3 q hq b o hh)
    rcases Xq.1 hp with rfl|hp
    .simp_all
    .exact n5 _ hm _ (hA.bx p hp) rfl
   .refineλb o hh=>WiE (λi hi=>Xe _ (Xf _ hi)) (λp hp=>?_) b o (hA.tk q hq b o hh)
    grind
 .intro p hp;rcases Xq.1 hp with rfl|hp
  .simp_all
  .exact Xe _ (Xf _ (hA.bx p hp))
 .intro i hi;rcases Xq.1 hi with rfl|hi
  .exact ax
  .rcases Xl.1 hi with hi|hi
   .grind
   .exact hA.live i hi
 .intro i hi;rcases Xl.1 hi with hi|hi
  .exact Xe _ (Xj _ hi)
  .exact Xe _ (Xf _ (hA.mv i hi))
 .intro i hi;rcases Xq.1 hi with rfl|hi
  .exact .inr (Xh ..)
  .rcases Xl.1 hi with hi|hi
   .exact .inl (Xj _ hi)
   .rcases hA.mvk i hi with hi|hi
    .exact .inl (Xf _ hi)
    .exact .inr (Xe _ hi)
 .exact List.Sublist.cons_cons _ (List.Sublist.trans hA.sub (Xfb _ _))
 .intro i hi hm;rcases Xq.1 hi with rfl|hi
  .rcases Xl.1 hm with hm|hm
   .exact n1 (Xj _ hm)
   .exact n1 (Xf _ (hA.mv _ hm))
  .rcases Xl.1 hm with hm|hm
   .exact n5 _ hm _ (hA.sub.subset hi) rfl
   .exact hA.dis i hi hm
theorem WnR(h:HR w0 F G ν φ objs nx w){c:Cell}{y:AVal}{i:Nat}{u:Value}(hy:AValRel G ν nx y u)(he:WoU objs c y=some i):
  ∃r b,c= .own r/\(ν r).blk=some b/\i<(ν r).len/\u= .pointer (some ⟨b,(ν r).off+(i*(ν r).esz+0),none⟩):=by
 unfold WoU at he;split at he
 .rename_i r p off;split at he
  .rename_i e xs j p' aR;split at he
   .rename_i hp;injection he with he;subst he;have hp:=Xch hp;subst hp;obtain⟨jU,k1,k2,k3,b,k4,k5,k6,_⟩:p<nx/\Wf4 w (Wm G w e) e.size (ν r) (ν p) xs j (φ r):=h.ob _ _ aR;obtain⟨⟨_,b',bV,rfl⟩,_⟩:=hy;rw[k5]at bV;injection bV with bV;subst bV;exact⟨r,b,rfl,k4,by omega,by rw[k6,k2,Xay,Xay]⟩
   .simp at he
  .simp at he
 .rename_i r r' j off;split at he
  .rename_i e xs aR;split at he
   .rename_i hp;injection he with he;subst he;have hp:=Xch hp;subst hp;obtain⟨⟨_,ad,b,hb,rfl⟩,_⟩:=hy;exact⟨r,b,rfl,hb,ad,rfl⟩
   .simp at he
  .simp at he
 .simp at he
theorem Waj(h:HR w0 F G ν φ objs nx w)(hg:GLe G G'):∀(ps:List PTy) (xs:List AVal) (vs:List Value) (A:Args ps),vs.length=xs.length->
  (∀(j:Nat) (x:AVal) (v:Value),xs[j]?=some x->vs[j]?=some v->AValRel G ν nx x v)->Lent G' w φ objs A.lent->A.all.Nodup->WX ps xs objs=some A->
  ∃ns ks bx,AOk G' ν φ objs w ps A vs ns ks bx
 | [],xs,vs,A,aa,hx,hl,aH,hf=>by
  simp only[WX]at hf;split at hf
  .injection hf with hf;subst hf;have ee:vs= []:=Xu (by simpa using aa);exact⟨[],[],[],⟨ee,rfl,rfl⟩,⟨rfl,rfl⟩,List.Pairwise.nil,by simp,by simp,by simp,by simp,by simp,by simp,List.Sublist.refl _,by simp[kids]⟩
  .cases hf
 | .v t agg::ps,xs,vs,A,aa,hx,hl,aH,hf=>by
  simp only[WX]at hf;split at hf
  .rename_i x xs;split at hf
   .rename_i d m r A' h1 h2;injection hf with hf;subst hf
    match vs,aa with
    |v::vs,aa=>
     cases hc:cellsOf agg x with
     |none=>simp[hc]at h1
     |some cs=>
      simp[hc]at h1;obtain⟨n1,n2,n3⟩:=Xac.1 aH;obtain⟨q1,g1,g2,g3,g4,g5⟩:=Wju h hg (hx 0 x v rfl rfl) (hl.mono (λi hi=>Xj _ hi)) n1 hc h1;obtain⟨ns,ks,bx,hA⟩:=Waj h hg ps xs vs A' (by simpa using aa) (λj y u hj hu=>hx (j+1) y u (by simpa using hj) (by simpa using hu)) (hl.mono (λi hi=>Xf _ hi)) n2 h2;refine⟨q1++ns,ks,bx,⟨v,vs,q1,ns,rfl,rfl,g1,hA.args⟩,hA.kept,Wbz h g2 hA.sep g3 (λq hq b o hh=>WgV b o (hA.tk q hq b o hh)) (λi hi hj=>n3 i hi i hj rfl),λq hq=>?_,λp hp=>Xf _ (hA.bx p hp),λi hi=>?_,λi hi=>?_,λi hi=>?_,λi hi=>?_,List.Sublist.trans hA.sub (Xfb _ _),λi hi hm=>?_⟩
      .rcases Xl.1 hq with hq|hq
       .exactλb o hh=>WlO (λi hi=>Xj _ hi) (λp hp hm=>n3 _ hm _ (hA.bx p hp) rfl) b o (g3 q hq b o hh)
       .exactλb o hh=>WiE (λi hi=>Xf _ hi) (λp hp=>.inl hp) b o (hA.tk q hq b o hh)
      .rcases Xl.1 hi with hi|hi
       .exact g4 i hi
       .exact hA.live i hi
      .rcases Xl.1 hi with hi|hi
       .exact g5 i hi
       .exact hA.lent i hi
      .rcases Xl.1 hi with hi|hi
       .exact Xj _ hi
       .exact Xf _ (hA.mv i hi)
      .rcases Xl.1 hi with hi|hi
       .exact .inl (Xj _ hi)
       .rcases hA.mvk i hi with hi|hi
        .exact .inl (Xf _ hi)
        .exact .inr hi
      .rcases Xl.1 hm with hm|hm
       .exact n3 _ hm _ (hA.sub.subset hi) rfl
       .exact hA.dis i hi hm
   .cases hf
  .cases hf
 | .box t::ps,xs,vs,A,aa,hx,hl,aH,hf=>by
  simp only[WX]at hf;split at hf
  .rename_i id off xs;split at hf
   .rename_i cs aR;split at hf
    .rename_i d m A' h1 h2;injection hf with hf;subst hf
     match vs,aa with
     |v::vs,aa=>
      obtain⟨n1,n2⟩:=Xaa.1 aH;obtain⟨ns,ks,bx,hA⟩:=Waj h hg ps xs vs A' (by simpa using aa) (λj y u hj hu=>hx (j+1) y u (by simpa using hj) (by simpa using hu)) hl (Xac.1 n2).2.1 h2;obtain⟨b,q1,rfl,aS,k1,_,k2,k3,k4,k5,k6,k7,k8,k9,k10,qk⟩:=WmQ h hg (hx 0 _ v rfl rfl).1 aR h1 aH hA;exact⟨_,_,_,⟨b,_,vs,q1,ns,ks,rfl,rfl,rfl,k1,hA.args⟩,⟨_,_,_,_,rfl,rfl,k2,k3⟩,k4,k5,k6,k7,hA.lent,k8,k9,k10,qk⟩
    .cases hf
   .cases hf
  .cases hf
 | .vj _::_,_,_,_,_,_,_,_,hf=>by simp only[WX]at hf;cases hf
 | .boxal t lf::ps,xs,vs,A,aa,hx,hl,aH,hf=>by
  simp only[WX]at hf;split at hf
  .rename_i id off y xs;split at hf
   .rename_i cs aR;split at hf
    .rename_i d m A' i h1 h2 h3;injection hf with hf;subst hf
     match vs,aa with
     |v::u::vs,aa=>
      obtain⟨n1,n2⟩:=Xaa.1 aH;obtain⟨ns,ks,bx,hA⟩:=Waj h hg ps xs vs A' (by simpa using aa) (λj y u hj hu=>hx (j+2) y u (by simpa using hj) (by simpa using hu)) hl (Xac.1 n2).2.1 h2;obtain⟨b,q1,rfl,aS,k1,kl,k2,k3,k4,k5,k6,k7,k8,k9,k10,qk⟩:=WmQ h hg (hx 0 _ v rfl rfl).1 aR h1 aH hA;obtain⟨c,hc,h3⟩:=Xao.1 h3;obtain⟨k,hk,hc⟩:=Xao.1 hc;obtain⟨r,b',rfl,e1,e2,rfl⟩:=WnR h (hx 1 y u rfl rfl) h3;obtain⟨pc,e3,e4⟩:=kl lf k r hk hc;exact⟨_,_,_,⟨b,_,b',pc,vs,q1,ns,ks,by rw[e4],rfl,rfl,k1,e3,by rw[e4];exact e1,by rw[e4];exact e2,hA.args⟩,⟨_,_,_,_,rfl,rfl,k2,k3⟩,k4,k5,k6,k7,hA.lent,k8,k9,k10,qk⟩
    .cases hf
   .cases hf
  .cases hf
 | .mut e::ps,xs,vs,A,aa,hx,hl,aH,hf=>by
  simp only[WX]at hf;split at hf
  .rename_i id xs;split at hf
   .rename_i e' ys aR;split at hf
    .rename_i d A' h1 h2;injection hf with hf;subst hf;obtain⟨he,hd⟩:=Wab h1;subst he;simp only at hd;subst hd
     match vs,aa with
     |v::vs,aa=>
      obtain⟨⟨_,hv⟩,_⟩:=hx 0 _ v rfl rfl;subst hv;obtain⟨n1,n2⟩:=Xaa.1 aH;have ax:Live objs id:=⟨_,aR,by simp⟩;have az:Wa9 w (Wm G w e') e'.size (ν id) ys (φ id):=h.ob _ _ aR;obtain⟨ns,ks,bx,hA⟩:=Waj h hg ps xs vs A' (by simpa using aa) (λj y u hj hu=>hx (j+1) y u (by simpa using hj) (by simpa using hu)) hl n2 h2;refine⟨⟨ν id,φ id⟩::ns,ν id::ks,bx,⟨⟨ν id,φ id⟩,vs,ns,ks,rfl,rfl,rfl,Wcc hg (Same.refl _ w) (λ_ _ hh=>hh) az,hA.args⟩,⟨id,_,ks,ys,rfl,rfl,aR,hA.kept⟩,?_,λq hq=>?_,λp hp=>Xe _ (hA.bx p hp),λi hi=>?_,hA.lent,λi hi=>Xe _ (hA.mv i hi),λi hi=>?_,List.Sublist.cons_cons _ hA.sub,λi hi hm=>?_⟩
      .refine Wbz h (n1:=[⟨ν id,φ id⟩]) (m:=[id]) (List.pairwise_singleton _ _) hA.sep (λq hq=>?_) (λq hq b o hh=>WgV b o (hA.tk q hq b o hh)) (λi hi hj=>n1 (by rw[←Xaf.1 hi];exact hj));rw[Xaf.1 hq];exact FromL.one (by simp) ax
      .rcases Xq.1 hq with rfl|hq
       .exactλb o hh=>⟨id,Xh ..,ax,hh,λp hp e=>Ww (by rw[←e];exact hA.bx p hp) n1⟩
       .exactλb o hh=>WiE (λi hi=>Xe _ hi) (λp hp=>.inl hp) b o (hA.tk q hq b o hh)
      .rcases Xq.1 hi with rfl|hi
       .exact ax
       .exact hA.live i hi
      .rcases Xq.1 hi with rfl|hi
       .exact .inr (Xh ..)
       .rcases hA.mvk i hi with hi|hi
        .exact .inl hi
        .exact .inr (Xe _ hi)
      .rcases Xq.1 hi with rfl|hi
       .exact n1 (hA.mv _ hm)
       .exact hA.dis i hi hm
    .cases hf
   .cases hf
  .cases hf
 | .clos g n::ps,xs,vs,A,aa,hx,hl,aH,hf=>by
  simp only[WX]at hf;split at hf
  .rename_i g' caps xs;split at hf
   .rename_i hc;obtain⟨rfl,cK⟩:=hc;cases hA:WX ps (WfD caps++xs) objs with
    |none=>simp[hA]at hf
    |some A'=>
     simp only[hA,Xbv,Option.some.injEq]at hf;subst hf
     match vs,aa with
     |v::vs,aa=>
      obtain⟨⟨cvs,hv,jG,nO⟩,_⟩:=hx 0 _ v rfl rfl;subst hv;obtain⟨ns,ks,bx,hAk⟩:=Waj h hg ps (WfD caps++xs) (cvs++vs) A' (by simp[WfD,jG];simpa using aa) (λj y u hj hu=>by
       rw[Xan]at hj hu;simp only[WfD,Xad]at hj;rw[jG]at hu;split at hj
       .rename_i ad;rw[We ad]at hu;rw[Xai]at hj;obtain⟨id,bj,rfl⟩:=Xs.1 hj;obtain⟨h1,h3,h2⟩:=nO _ id u bj hu;exact⟨⟨h1,h2⟩,h3⟩
       .rename_i ad;rw[Wc ad]at hu;exact hx (j-caps.length+1) y u (by simpa using hj) (by simpa using hu)) hl aH hA
      refine⟨ns,ks,bx,⟨cvs,vs,rfl,by rw[jG];exact cK,λu hu=>?_,hAk.args⟩,hAk.kept,hAk.sep,hAk.tk,hAk.bx,hAk.live,hAk.lent,hAk.mv,hAk.mvk,hAk.sub,hAk.dis⟩;obtain⟨j,hj⟩:=Xdj hu;have ad:j<caps.length:=by rw[←jG];exact(Xz.1 hj).1
      exact(nO j _ u (Xp ad) hj).2.1
   .cases hf
  .cases hf
 | .kv t agg::ps,xs,vs,A,aa,hx,hl,aH,hf=>by
  simp only[WX]at hf;split at hf
  .rename_i x xs;split at hf
   .rename_i d m r A' h1 h2;split at hf
    .rename_i fh;injection hf with hf;subst hf
     match vs,aa with
     |v::vs,aa=>
      cases hc:cellsOf agg x with
      |none=>simp[hc]at h1
      |some cs=>
       simp[hc]at h1;obtain⟨n1,n2,n3⟩:=Xac.1 aH;have bz:Lent G' w φ objs r:=hl.mono (λi hi=>Xj _ hi);obtain⟨_,_,_,_,g4,g5⟩:=Wju h hg (hx 0 x v rfl rfl) bz n1 hc h1;obtain⟨k1,k2⟩:=Wkl h hg (hx 0 x v rfl rfl) bz hc h1 fh;obtain⟨ns,ks,bx,hA⟩:=Waj h hg ps xs vs A' (by simpa using aa) (λj y u hj hu=>hx (j+1) y u (by simpa using hj) (by simpa using hu)) (hl.mono (λi hi=>Xf _ hi)) n2 h2;have iU:kids (kp0 m++A'.kept)=m++kids A'.kept:=by simp only[kids,Xy];congr 1;exact Wgh m
       have gp:∀q∈pcs ν φ m,CS.le q.fp (FromL φ objs m):=λq hq=>by
        obtain⟨i,hi,rfl⟩:=Xv.1 hq;exact FromL.one hi (g4 i hi)
       have gs:Sep (fps (pcs ν φ m)):=by
        rw[Wmf];refine List.pairwise_map.2 (n1.imp_of_mem λ{i j} hi hj bZ=>?_)
        exactλb o h1 h2=>bZ (h.inj i j b o (g4 i hi) (g4 j hj) h1 h2)
       refine⟨pcs ν φ m++ns,m.map ν++ks,bx,⟨v,vs,pcs ν φ m,ns,ks,rfl,rfl,by rw[WrL],k1,hA.args⟩,⟨m,A'.kept,ks,rfl,rfl,k2,hA.kept⟩,Wbz h gs hA.sep gp (λq hq b o hh=>WgV b o (hA.tk q hq b o hh)) (λi hi hj=>n3 i hi i hj rfl),λq hq=>?_,λp hp=>Xf _ (hA.bx p hp),λi hi=>?_,λi hi=>?_,λi hi=>Xf _ (hA.mv i hi),λi hi=>?_,by rw[iU];exact List.Sublist.append (List.Sublist.refl _) hA.sub,λi hi hm=>?_⟩
       .rcases Xl.1 hq with hq|hq
        .exactλb o hh=>WlO (λi hi=>Xj _ hi) (λp hp hm=>n3 _ hm _ (hA.bx p hp) rfl) b o (gp q hq b o hh)
        .exactλb o hh=>WiE (λi hi=>Xf _ hi) (λp hp=>.inl hp) b o (hA.tk q hq b o hh)
       .rcases Xl.1 hi with hi|hi
        .exact g4 i hi
        .exact hA.live i hi
       .rcases Xl.1 hi with hi|hi
        .exact g5 i hi
        .exact hA.lent i hi
       .rw[iU];rcases Xl.1 hi with hi|hi
        .exact .inr (Xj _ hi)
        .rcases hA.mvk i hi with hi|hi
         .exact .inl hi
         .exact .inr (Xf _ hi)
       .rw[iU]at hi;rcases Xl.1 hi with hi|hi
        .exact n3 _ hi _ (hA.mv i hm) rfl
        .exact hA.dis i hi hm
    .cases hf
   .cases hf
  .cases hf
 | .rp t::ps,xs,vs,A,aa,hx,hl,aH,hf=>by
  simp only[WX]at hf;split at hf
  .rename_i id off xs;split at hf
   .rename_i cs aR;split at hf
    .rename_i d r A' h1 h2;split at hf
     case isFalse=>cases hf
     rename_i ql;injection hf with hf;subst hf
     match vs,aa with
     |v::vs,aa=>
      obtain⟨ns,ks,bx,hA⟩:=Waj h hg ps xs vs A' (by simpa using aa) (λj y u hj hu=>hx (j+1) y u (by simpa using hj) (by simpa using hu)) (hl.mono (λi hi=>Xe _ (Xf _ hi))) aH h2;obtain⟨⟨bj,b,aS,rfl⟩,_⟩:=hx 0 _ v rfl rfl;have ax:Live objs id:=⟨_,aR,by simp⟩;obtain⟨b',us,bV,aJ,ay,bk,dW⟩:WbR G ν nx w id (φ id) (.box cs):=h.ob _ _ aR;rw[aS]at bV;injection bV with bV;subst bV;obtain⟨q1,t1,t2,t3,t4,t5,_⟩:=W2 h hg t _ ((us.drop off).take t.size) d [] r ((bk.drop off).take _) (hl.mono (λi hi=>Xe _ (Xj _ hi))) Xcy h1;have qm:∀p∈q1,Froz G' w p.fp:=λp hp b o v hh=>by
       obtain⟨i,hi,_⟩:=t3 p hp b o hh;simp at hi
      have eD:Enc G' t.ro (Wrb t d) ((us.drop off).take t.size):=WcJ (λ_ _ _ hh=>hh) t d _ q1 qm t1;have iX:=Wu _ _ _ _ t1;have bO:off+t.size<=cs.length:=by
       have:=bk.1;rw[Xbe,Xdl]at iX;have:=Wba t;omega
      have bs:Weh G' b ((ν id).off+off) ((us.drop off).take t.size):=λj v hj=>by
       have qn:j<t.size:=by have:=(Xz.1 hj).1;omega
       rw[Xbg,We qn,Xbf]at hj;have h3:=ay _ v hj;rw[←Xav]at h3;exact hl id (Xh ..) ax b _ v (dW b _ ⟨rfl,by omega,by omega⟩) h3
      exact⟨ns,ks,bx,⟨b,(ν id).off+off,(us.drop off).take t.size,vs,rfl,((Way t d _ q1 ql).1 t1).1,bs,hA.args⟩,hA.kept,hA.sep,hA.tk,hA.bx,hA.live,λi hi=>by
       rcases Xq.1 hi with rfl|hi
       .exact ax
       .rcases Xl.1 hi with hi|hi
        .exact t5 i hi
        .exact hA.lent i hi,hA.mv,hA.mvk,hA.sub,hA.dis⟩
    .cases hf
   .cases hf
  .rename_i t' d' off xs;split at hf
   .rename_i d A' h1 h2;split at hf
    case isFalse=>cases hf
    rename_i ql;injection hf with hf;subst hf
    match vs,aa with
    |v::vs,aa=>
     obtain⟨ns,ks,bx,hA⟩:=Waj h hg ps xs vs A' (by simpa using aa) (λj y u hj hu=>hx (j+1) y u (by simpa using hj) (by simpa using hu)) hl aH h2;obtain⟨⟨b,o,cs,rfl,e1,e2⟩,_⟩:=hx 0 _ v rfl rfl;have bk:=Wak (ν:=ν) (nx:=nx) t' d' cs e1;obtain⟨q1,t1,t2,t3,t4,t5,_⟩:=W2 h hg t _ ((cs.drop off).take t.size) d [] [] ((bk.drop off).take _) (λi hi=>by simp at hi) Xcy h1;exact⟨ns,ks,bx,⟨b,o+off,(cs.drop off).take t.size,vs,rfl,((Way t d _ q1 ql).1 t1).1,λj v hj=>by
      rw[Xbg]at hj;split at hj
      .rw[Xbf]at hj;rw[Xav];exact hg _ _ _ (e2 _ v hj)
      .simp at hj,hA.args⟩,hA.kept,hA.sep,hA.tk,hA.bx,hA.live,hA.lent,hA.mv,hA.mvk,hA.sub,hA.dis⟩
   .cases hf
  .cases hf
end
end Go.Sx
namespace Go.Sx
set_option linter.unusedVariables false
set_option linter.unusedSimpArgs false
theorem WaM{G G':GH}{w:World}:∀(t:Ty) (d:t.den) (vs:List Value) (ns:List Pc),t.noRo=true->Wm G w t d vs ns->Wm G' w t d vs ns
 | .own e,_,_,_,hn,⟨pc,h1,h2,h3⟩=>⟨pc,h1,h2,Wgo (λx c q hx=>Wu e x c q hx) (Same.refl _ w) (λ_ _ hh=>hh) (λx c q _ hx=>WaM e x c q hn hx) h3⟩
 | .prod a b,_,_,_,hn,⟨v1,v2,n1,n2,h1,h2,h3,h4⟩=>by
  simp only[Ty.noRo,Xg]at hn;exact⟨v1,v2,n1,n2,h1,h2,WaM a _ _ _ hn.1 h3,WaM b _ _ _ hn.2 h4⟩
 | .int _,_,_,_,_,h=>h
 | .bool,_,_,_,_,h=>h
 | .str,_,_,_,_,h=>h
 | .slice _,_,_,_,hn,_=>by simp[Ty.noRo]at hn
theorem WpE{G G':GH}{w:World}{e:Ty}{nu:Nu}{xs:List e.den}{S:CS}(hn:e.noRo=true)(h:Wa9 w (Wm G w e) e.size nu xs S):Wa9 w (Wm G' w e) e.size nu xs S:=
 Wgo (λx c q hx=>Wu e x c q hx) (Same.refl _ w) (λ_ _ hh=>hh) (λx c q _ hx=>WaM e x c q hn hx) h
theorem Weq{G G':GH}{w:World}{t:Ty}{d:t.den}{b o:Nat}{ns:List Pc}(hn:t.noRo=true)(h:Wd6 G w t d b o ns):Wd6 G' w t d b o ns:=by
 obtain⟨us,h1,h2,h3⟩:=h;exact⟨us,h1,h2,WaM _ _ _ _ hn h3⟩
theorem Wo6{G G':GH}{w:World}{t:Ty}{agg:Bool}{d:t.den}{v:Value}{ns:List Pc}(hn:t.noRo=true)(h:WhE G w t agg d v ns):WhE G' w t agg d v ns:=by
 unfold WhE at h⊢;split
 .rename_i ha;rw[We ha]at h;obtain⟨us,h1,h2⟩:=h;exact⟨us,h1,WaM _ _ _ _ hn h2⟩
 .rename_i ha;rw[Wc ha]at h;exact WaM _ _ _ _ hn h
theorem WcO{G G':GH}{w:World}:∀(rs:List PTy) (d:Wfj rs) (vs:List Value) (ns:List Pc),rs.all PTy.freshR=true->We8 G w rs d vs ns->We8 G' w rs d vs ns
 | [],_,_,_,_,h=>h
 | .v t agg::rs,d,vs,ns,hn,⟨v,aj,n1,n2,h1,h2,h3,h4⟩=>by
  simp only[Xbk,Xg]at hn;exact⟨v,aj,n1,n2,h1,h2,Wo6 hn.1 h3,WcO rs _ _ _ hn.2 h4⟩
 | .box t::rs,d,vs,ns,hn,⟨b,o,aj,n1,n2,h1,h2,h3,h5⟩=>by
  simp only[Xbk,Xg]at hn;exact⟨b,o,aj,n1,n2,h1,h2,Weq hn.1 h3,WcO rs _ _ _ hn.2 h5⟩
 | .mut _::_,_,_,_,_,h=>h.elim
 | .clos _ _::_,_,_,_,_,h=>h.elim
 | .kv _ _::_,_,_,_,_,h=>h.elim
 | .rp _::_,_,_,_,_,h=>h.elim
 | .vj t::rs,d,vs,ns,hn,⟨us,u,aj,n1,n2,h1,h0,h2,h3,h4⟩=>by
  simp only[Xbk,Xg]at hn;exact⟨us,u,aj,n1,n2,h1,h0,h2,WaM _ _ _ _ hn.1 h3,WcO rs _ _ _ hn.2 h4⟩
 | .boxal _ _::_,_,_,_,_,h=>h.elim
theorem War{G G':GH}{w:World}:∀(ps:List PTy) (o:WeG ps) (ks:List Nu) (kf:List CS) (ns:List Pc),ps.all PTy.fresh=true->Wa6 G w ps o ks kf ns->Wa6 G' w ps o ks kf ns
 | [],_,_,_,_,_,h=>h
 | .v _ _::ps,o,ks,kf,ns,hn,h=>by
  simp only[Xbk,Xg]at hn;exact War ps o ks kf ns hn.2 h
 | .box t::ps,o,ks,kf,ns,hn,⟨b,off,ak,cI,n1,n2,h1,h2,h3,h4,h5⟩=>by
  simp only[Xbk,Xg]at hn;exact⟨b,off,ak,cI,n1,n2,h1,h2,h3,Weq hn.1 h4,War ps _ _ _ _ hn.2 h5⟩
 | .mut e::ps,o,ks,kf,ns,hn,⟨pc,ak,cI,h1,h2,h3,h4⟩=>by
  simp only[Xbk,Xg]at hn;exact⟨pc,ak,cI,h1,h2,WpE hn.1 h3,War ps _ _ _ _ hn.2 h4⟩
 | .clos _ _::ps,o,ks,kf,ns,hn,h=>by
  simp only[Xbk,Xg]at hn;exact War ps o ks kf ns hn.2 h
 | .kv t _::ps,o,ks,kf,ns,hn,⟨n1,ak,cI,us,h1,h2,h3,h4⟩=>by
  simp only[Xbk,Xg]at hn;exact⟨n1,ak,cI,us,h1,h2,WaM _ _ _ _ hn.1 h3,War ps _ _ _ _ hn.2 h4⟩
 | .rp _::ps,o,ks,kf,ns,hn,h=>by
  simp only[Xbk,Xg]at hn;exact War ps o ks kf ns hn.2 h
 | .vj _::_,_,_,_,_,_,h=>h.elim
 | .boxal t _::ps,o,ks,kf,ns,hn,⟨b,off,ak,cI,n1,n2,h1,h2,h3,h4,h5⟩=>by
  simp only[Xbk,Xg]at hn;exact⟨b,off,ak,cI,n1,n2,h1,h2,h3,Weq hn.1 h4,War ps _ _ _ _ hn.2 h5⟩
theorem WdA{objs:WZ}:∀(l:List Nat) (id:Nat),id∉l->Wj (kill objs l) id=Wj objs id
 | [],id,_=>rfl
 |i::l,id,h=>by
  simp only[kill];rw[Wv,Wc (λe=>h (by rw[e];exact Xh ..))];exact WdA l id λhm=>h (Xe _ hm)
theorem Wjl:∀{l:List CS},Sep l->∀{i j:Nat} {A B:CS} {b o:Nat},l[i]?=some A->l[j]?=some B->A b o->B b o->i=j
 | [],_,i,j,A,B,b,o,hi,_,_,_=>by simp at hi
 |C::l,hs,i,j,A,B,b,o,hi,hj,ha,hb=>by
  obtain⟨h1,h2⟩:=Xw.1 hs;cases i with
  |zero=>
   simp at hi;subst hi;cases j with
   |zero=>rfl
   |succ j=>
    simp at hj;exact(h1 B (Xas hj) b o ha hb).elim
  |succ i=>
   simp at hi;cases j with
   |zero=>
    simp at hj;subst hj;exact(h1 A (Xas hi) b o hb ha).elim
   |succ j=>
    simp at hj;rw[Wjl h2 hi hj ha hb]
section
variable{w0:World}{F:CS}{nt:Slots}{G0 G G':GH}{ν:Nat->Nu}{φ:Nat->CS}{objs:WZ}{nx:Nat}{st ac:St}{a:Act}{w w':World}{P:Program}{T:Tab}
theorem Wn2{f g:Nat->Nu}:∀{l:List Nat},(∀i∈l,g i=f i)->l.map f=l.map g:=λ{l} h=>List.map_congr_left λi hi=>(h i hi).symm
theorem WbG{ν':Nat->Nu}{bx:List (Nat×CS)}:∀(ps:List PTy) (ids:List Kp) (ks:List Nu),(∀i∈kids ids,ν' i=ν i)->KeptOk objs ν bx ps ids ks->KeptOk objs ν' bx ps ids ks
 | [],_,_,_,h=>h
 | .v _ _::ps,ids,ks,hn,h=>WbG ps ids ks hn h
 | .box t::ps,ids,ks,hn,⟨k,aT,nu,ak,h1,h2,⟨cs,b,g1,g2,g3,g4,g5⟩,h4⟩=>by
  subst h1;have e:=hn k.id (Xh ..);exact⟨k,aT,nu,ak,rfl,h2,⟨cs,b,g1,g2,by rw[e];exact g3,by rw[e];exact g4,by rw[e];exact g5⟩,WbG ps aT ak (λi hi=>hn i (Xe _ hi)) h4⟩
 | .mut e::ps,ids,ks,hn,⟨id,aT,ak,ys,h1,h2,h3,h4⟩=>by
  subst h1;exact⟨id,aT,ak,ys,rfl,by rw[hn id (Xh ..)];exact h2,h3,WbG ps aT ak (λi hi=>hn i (Xe _ hi)) h4⟩
 | .clos _ _::ps,ids,ks,hn,h=>WbG ps ids ks hn h
 | .kv t _::ps,ids,ks,hn,⟨i1,i2,ak,h1,h2,h3,h4⟩=>by
  subst h1;have iU:kids (kp0 i1++i2)=i1++kids i2:=by simp only[kids,Xy];congr 1;exact Wgh i1
  rw[iU]at hn;exact⟨i1,i2,ak,rfl,by rw[h2,Wn2 (λi hi=>hn i (Xj _ hi))],h3,WbG ps i2 ak (λi hi=>hn i (Xf _ hi)) h4⟩
 | .rp _::ps,ids,ks,hn,h=>WbG ps ids ks hn h
 | .vj _::_,_,_,_,h=>h.elim
 | .boxal t _::ps,ids,ks,hn,⟨k,aT,nu,ak,h1,h2,⟨cs,b,g1,g2,g3,g4,g5⟩,h4⟩=>by
  subst h1;have e:=hn k.id (Xh ..);exact⟨k,aT,nu,ak,rfl,h2,⟨cs,b,g1,g2,by rw[e];exact g3,by rw[e];exact g4,by rw[e];exact g5⟩,WbG ps aT ak (λi hi=>hn i (Xe _ hi)) h4⟩
theorem WlX(hr:Rel w0 F nt G0 G ν st a w):∀(l:List Operand) (xs:List AVal),evs st l=some xs->xs.length=l.length/\
  ∀(j:Nat) (x:AVal) (v:Value),xs[j]?=some x->(l.map a.eval)[j]?=some v->AValRel G ν st.nx x v
 | [],xs,h=>by simp[evs]at h;subst h;exact⟨rfl,λj x v hj=>by simp at hj⟩
 |o::l,xs,h=>by
  simp only[evs]at h;split at h
  .rename_i y ys h1 h2;injection h with h;subst h;obtain⟨h3,h4⟩:=WlX hr l ys h2;refine⟨by simp[h3],λj x v hj hv=>?_⟩;cases j with
   |zero=>simp at hj hv;subst hj hv;exact Wz hr o _ h1
   |succ j=>exact h4 j x v (by simpa using hj) (by simpa using hv)
  .simp at h
theorem WmU{o:Oper}{c:Call}{f:Operand}{g:FuncId}{caps:List Value}(ho:o.op= .call c)(hc:c.callee= .value f)(hf:a.eval f= .func (.func g) #[] caps.toArray)(nP:Wfe P g):
  (execOp a.eval o).run P w= .ok (.enter g (c.args.toList.map a.eval++caps).toArray) w:=by
 obtain⟨fn,h1,h2,h3⟩:=nP;obtain⟨callee,args,argTypes⟩:=c;simp only at hc;subst hc;have e:(#[]++args.map a.eval++caps.toArray)=(args.toList.map a.eval++caps).toArray:=by
  apply Array.ext';simp
 simp only[execOp,ho,resolve,Deferred.ofValue,hf,Sem.run_bind,Sem.run_pure,Result.andThen_ok,invoke,callFunc,run_program,h1,h2,h3,Xap,Wae,e]
theorem Wqm{b o k:Nat}{vs us:List Value}(hm:Mem w b o vs)(hu:Mem w' b (o+k) us)(hk:k+us.length<=vs.length)(cw:∀j,j<vs.length->¬(k<=j/\j<k+us.length)->w'.cell? ⟨b,o+j,none⟩=w.cell? ⟨b,o+j,none⟩):
  Mem w' b o (vs.take k++us++vs.drop (k+us.length)):=λj v hj=>by
 have fe:∀v',vs[j]?=some v'->¬(k<=j/\j<k+us.length)->w'.cell? ⟨b,o+j,none⟩=some v':=λv' hv hn=>by
  rw[cw j (Xz.1 hv).1 hn];exact hm j v' hv
 have ik:(vs.take k).length=k:=by simp;omega
 rw[Xax,Xan,ik]at hj;split at hj
 .rename_i ad;rw[Xbg,We ad]at hj;exact fe v hj (by omega)
 .rw[Xan]at hj;split at hj
  .have:=hu (j-k) v hj;rw[show o+j=o+k+(j-k) by omega];exact this
  .rw[Xbf,show k+us.length+(j-k-us.length)=j by omega]at hj;exact fe v hj (by omega)
theorem Wjr{Γ:Ctx}(hΓ:Wcy P Γ){sg:Sig}(di:sg.inl=none)(hr:Rel w0 F nt G0 G ν st a w){o:Oper}(hd:∀d,o.dst=some d->nt.Ok d){c:Call}{f:Operand}{g:FuncId}{cvs:List Value}{xs:List AVal}{R:Type}{k:St->Option R}{r:R}
  (ho:o.op= .call c) (hc:c.callee= .value f) (lx:a.eval f= .func (.func g) #[] cvs.toArray) (jH:Wj Γ g=some sg) (aa:xs.length=(c.args.toList.map a.eval++cvs).length)
  (au:∀(j:Nat) (x:AVal) (v:Value),xs[j]?=some x->(c.args.toList.map a.eval++cvs)[j]?=some v->AValRel G ν st.nx x v)
  (h:Wec sg st xs (λx objs nx=>k (({env:=st.env,objs:=objs,nx:=nx}:St).put o.dst x))=some r) {K:Act->World->Prop} {Q:Exit->Act->World->Prop}
  (hK:∀ac a' w' G' ν',Rel w0 F nt G0 G' ν' ac a' w'->k ac=some r->K a' w'):o.wp P a w K Q:=by
 obtain⟨cy,dj⟩:=hΓ g sg jH;unfold Wmk at cy;rw[di]at cy;dsimp only at cy;unfold Wec at h;split at h
 .rename_i A hA;split at h
  .rename_i bc;simp only[Xg]at bc;obtain⟨⟨aH,j9⟩,pu⟩:=bc;have aH:=(WdL _).1 aH;have j9:=WkK j9;obtain⟨out,aM,hk⟩:=sg.law' A.d _ r h;dsimp only at hk;obtain⟨φ,hφ⟩:=hr.h;have fb:=hφ.addG_le A.lent;have hG1w:=hφ.addG_w A.lent;obtain⟨ns,ks,bx,hO⟩:=Waj hφ fb sg.ps _ (c.args.toList.map a.eval++cvs) A aa.symm au (λid bj hl=>(Wgz _).mono (FromL.one bj hl)) aH hA;have hTk:∀b o,Of ns b o->Tk φ st.objs bx A.all b o:=λb o ⟨q,hq,hh⟩=>hO.tk q hq b o hh;have cl:∀q∈ns,∀b off,q.fp b off->Woh G w (FromL φ st.objs A.lent) b off=none/\b<w.heap.size:=λq hq b off hh=>by
    obtain⟨i,hi,h1,h2,_⟩:=hO.tk q hq b off hh;refine⟨?_,hφ.bl i b off h1 h2⟩;rw[Wck (λ⟨j,hj,h3,h4⟩=>by
     have:=hφ.inj i j b off h1 h3 h2 h4;subst this;exact j9 _ hj hi)]
    exact hφ.gf i b off h1 h2
   have fV:=cy A.d out aM _ w _ ns _ hO.args hO.sep cl hG1w;unfold Oper.wp;rw[WmU ho hc lx dj,Oper.upon_enter];refine fV.mono λe w' iY=>?_;obtain⟨rv,kf,ms,cr,G2,rfl,hA2⟩:=iY;simp only;have hG3:∃G3:GH,GLe G G3/\(∀b off v,G3 b off=some v->w'.cell? ⟨b,off,none⟩=some v)/\We8 G3 w' sg.rs out.2 rv cr/\Wa6 G3 w' sg.ps out.1 ks kf ms/\
     GExt w0.heap.size F G0 G3/\(∀S∈kf++fps (ms++cr),∀b off,S b off->G3 b off=none)/\(∀id b off,Live st.objs id->φ id b off->¬Tk φ st.objs bx A.all b off->G3 b off=none):=by
    by_cases aG:A.lent= []
    .have hGG:Woh G w (FromL φ st.objs A.lent)=G:=by
      rw[aG];funext b off;exact Wck (λ⟨i,hi,_⟩=>by simp at hi)
     rw[hGG]at hA2;refine⟨G2,hA2.gx.le,hA2.g,hA2.res,hA2.outs,⟨λb o v hv=>hA2.gx.le b o v (hr.gx.le b o v hv),λb o v hv=>?_⟩,λS hS b off hh=>(hA2.own S hS b off hh).1,λid b off hl hp hn=>?_⟩
     .rcases hA2.gx.new b o v hv with h1|h1|h1
      .exact hr.gx.new b o v h1
      .exact .inr (.inl (Xcr hφ.le.size h1))
      .obtain⟨i,hi,h2,h3,_⟩:=hTk b o h1;exact .inr (hφ.own i b o h2 h3)
     .cases hv:G2 b off with
      |none=>rfl
      |some v=>
       rcases hA2.gx.new b off v hv with h1|h1|h1
       .rw[hφ.gf id b off hl hp]at h1;cases h1
       .have:=hφ.bl id b off hl hp;omega
       .exact Ww (hTk b off h1) hn
    .have eG:sg.fresh=true:=by
      rcases Bool.or_eq_true_iff.1 pu with h1|h1
      .exact h1
      .exact Ww (by simpa using h1) aG
     unfold Sig.fresh at eG;simp only[Xg]at eG;refine⟨G,λ_ _ _ hh=>hh,λb o v hv=>hA2.g b o v (hA2.gx.le b o v (fb b o v hv)),WcO _ _ _ _ eG.1 hA2.res,War _ _ _ _ _ eG.2 hA2.outs,hr.gx,λS hS b off hh=>?_,λid b off hl hp _=>hφ.gf id b off hl hp⟩;cases hv:G b off with
     |none=>rfl
     |some v=>
      have:=hA2.gx.le b off v (fb b off v hv);rw[(hA2.own S hS b off hh).1]at this;cases this
   obtain⟨G3,qo,qp,fW,nQ,qq,qr,qs⟩:=hG3;obtain⟨ν2,hν2⟩:∃ν2:Nat->Nu,ν2= λi=>if i<st.nx then ν i else((nus (ms++cr))[i-st.nx]?).getD ⟨none,0,0,0,0⟩:=⟨_,rfl⟩;obtain⟨φ2,hφ2⟩:∃φ2:Nat->CS,φ2= λi=>if i<st.nx then(λb o=>(∃(j:Nat) (S:CS),(kids A.kept)[j]?=some i/\kf[j]?=some S/\S b o)\/(φ i b o/\¬Tk φ st.objs bx A.all b o))else((fps (ms++cr))[i-st.nx]?).getD (λ_ _=>False):=⟨_,rfl⟩;have hνold:Wpt st.nx ν ν2:=λi hi=>by rw[hν2];simp[hi]
   have hAt:At ν2 φ2 st.nx (ms++cr):=λj pc hj=>by
    have e1:(nus (ms++cr))[j]?=some pc.nu:=by unfold nus;rw[Xai,hj];rfl
    have e2:(fps (ms++cr))[j]?=some pc.fp:=by unfold fps;rw[Xai,hj];rfl
    rw[hν2,hφ2];simp only;rw[Wc (by omega),Wc (by omega),Xbq,e1,e2];exact⟨rfl,rfl⟩
   have ka:∀i∈kids A.kept,i<st.nx:=λi hi=>hφ.lt i (hO.live i (hO.sub.subset hi));have kb:(kids A.kept).Nodup:=aH.sublist hO.sub;obtain⟨tD,tE,nR⟩:=Wat (ν:=ν2) (φ:=φ2) (bx:=bx) st.objs sg.ps out.1 A.kept ks kf ms (kill st.objs A.moved) st.nx (st.nx+ms.length+cr.length) nQ (WbG _ _ _ (λi hi=>hνold i (ka i hi)) hO.kept) hAt.left kb (λq hq=>by
    have jA:q.id∈kids A.kept:=Xaj hq;exact⟨ka _ jA,WdA _ _ (hO.dis _ jA)⟩) (by omega)
   generalize hp:W4 sg.ps out.1 A.kept (kill st.objs A.moved) st.nx=p at*;obtain⟨qm,tF,tG⟩:=WcP (ν:=ν2) (φ:=φ2) sg.rs out.2 rv cr p.1 (st.nx+ms.length) (st.nx+ms.length+cr.length) fW (hAt.right rfl) (by omega);rw[tD]at hk;generalize hq:WaS sg.rs out.2 p.1 (st.nx+ms.length)=q at*;have fX:∀id ob,Wj q.2.1 id=some ob->ob≠ .dead->
     (st.nx<=id/\id<st.nx+ms.length+cr.length/\WsI G3 ν2 φ2 w' (st.nx+ms.length+cr.length) id ob)\/
     (∃(j:Nat) (S:CS),(kids A.kept)[j]?=some id/\kf[j]?=some S/\Wkk G3 ν2 w' st.objs bx (st.nx+ms.length+cr.length) id S ob)\/(Wj st.objs id=some ob/\id∉A.all):=λid ob hl cz=>by
    rcases tF id ob hl with⟨h1,h2,h3⟩|h1
    .exact .inl ⟨by omega,h2,h3⟩
    .rcases nR id ob h1 with⟨h2,h3,h4⟩|h2|⟨h2,h3⟩
     .exact .inl ⟨h2,by omega,.inl h4⟩
     .exact .inr (.inl h2)
     .obtain⟨h4,h5⟩:=Wdm A.moved id ob h2 cz;exact .inr (.inr ⟨h4,λhm=>by rcases hO.mvk id hm with h6|h6;exact h5 h6;exact h3 h6⟩)
   have ba:∀id b off,Live q.2.1 id->φ2 id b off->
     (∃(pos:Nat) (S:CS),(kf++fps (ms++cr))[pos]?=some S/\S b off/\id=(if pos<kf.length then((kids A.kept)[pos]?).getD 0 else st.nx+(pos-kf.length)))\/
     (Live st.objs id/\φ id b off/\¬Tk φ st.objs bx A.all b off/\id<st.nx):=λid b off ⟨ob,hl,cz⟩ hp=>by
    have ly:id<st.nx->Live st.objs id:=λad=>by
     rcases fX id ob hl cz with⟨h1,_⟩|⟨j,S,h1,_⟩|⟨h1,_⟩
     .omega
     .exact hO.live id (hO.sub.subset (Xas h1))
     .exact⟨ob,h1,cz⟩
    rw[hφ2]at hp
    try simp only at hp
    by_cases ad:id<st.nx
    .rw[We ad]at hp;rcases hp with⟨j,S,h1,h2,h3⟩|⟨h1,h2⟩
     .left;have hj:j<kf.length:=(Xz.1 h2).1;refine⟨j,S,by rw[Xce hj];exact h2,h3,?_⟩;rw[We hj,h1];rfl
     .exact .inr ⟨ly ad,h1,h2,ad⟩
    .rw[Wc ad]at hp;left;cases hS:(fps (ms++cr))[id-st.nx]? with
     |none=>rw[hS]at hp;exact hp.elim
     |some S=>
      rw[hS]at hp;refine⟨kf.length+(id-st.nx),S,by rw[Xbr (by omega),Xbq];exact hS,hp,?_⟩;rw[Wc (by omega)];omega
   have az:=hA2.own;have gE:∀{pos:Nat} {S:CS},(kf++fps (ms++cr))[pos]?=some S->S∈kf++fps (ms++cr):=λh=>Xas h;have hH:HR w0 F G3 ν2 φ2 q.2.1 (st.nx+ms.length+cr.length) w':={
    g:=qp
    ob:=λid ob hl=>by
     by_cases cz:ob= .dead
     .subst cz;trivial
     .rcases fX id ob hl cz with⟨h1,h2,⟨e,xs,rfl,h3⟩|⟨cs,b,us,rfl,h3,h4,h5,h6,h7⟩⟩|⟨j,S,h1,h2,h3⟩|⟨h1,h2⟩
      .exact h3
      .exact⟨b,us,h3,h4,h5,h6,h7⟩
      .have bj:id∈kids A.kept:=Xas h1;have ad:=ka id bj;have ax:Live st.objs id:=hO.live id (hO.sub.subset bj);have hSφ:CS.le S (φ2 id):=λb o hh=>by
        rw[hφ2];(try simp only);rw[We ad];exact .inl ⟨j,S,h1,h2,hh⟩
       rcases h3 with⟨jD,off,ds,b,us,g1,rfl,g2,g3,g4,g5,rfl,g6⟩|⟨e,ys,xs,g1,rfl,g2⟩
       .rw[hνold id ad]at g3 g4 g6 hSφ;obtain⟨b',vs,e1,e2,e3,e4,e5⟩:WbR G ν st.nx w id (φ id) (.box jD):=hφ.ob _ _ g1;rw[g3]at e1;injection e1 with e1;subst e1;have cH:us.length=ds.length:=g5.1;have pm:vs.length=jD.length:=e4.1;have fi:∀o,(ν id).off<=o->o<(ν id).off+jD.length->¬((ν id).off+off<=o/\o<(ν id).off+off+ds.length)->φ id b o/\¬Tk φ st.objs bx A.all b o:=λo k1 k2 k3=>by
         have hφo:=e5 b o ⟨rfl,k1,k2⟩;refine⟨hφo,λ⟨i,hi,k4,k5,k6⟩=>?_⟩;have:=hφ.inj i id b o k4 ax k5 hφo;subst this;obtain⟨_,k7,k8⟩:=k6 _ g6 rfl;exact k3 ⟨k7,k8⟩
        refine⟨b,_,by rw[hνold id ad];exact g3,by rw[hνold id ad,WdR g2];exact hA2.le.rows.row _ _ e2,?_,Wd2 (e4.mono qo hνold (by omega)) g5,?_⟩
        .rw[hνold id ad];refine Wqm e3 g4 (by omega) (λj hj hn=>?_);obtain⟨k1,k2⟩:=fi ((ν id).off+j) (by omega) (by omega) (λ⟨k3,k4⟩=>hn ⟨by omega,by omega⟩);exact hA2.le.cell b _ (hφ.bl id b _ ax k1) (λlz=>k2 (hTk b _ lz))
        .rw[hνold id ad,WdR g2];intro b' o ⟨k0,k1,k2⟩;subst k0;by_cases di:(ν id).off+off<=o/\o<(ν id).off+off+ds.length
         .exact hSφ b' o ⟨rfl,di.1,di.2⟩
         .rw[hφ2];(try simp only);rw[We ad];exact .inr (fi o k1 k2 di)
       .exact Wcc (λ_ _ _ hh=>hh) (Same.refl _ w') hSφ g2
      .have jV:Live st.objs id:=⟨ob,h1,cz⟩;have ad:=hφ.lt id jV;have sn:∀b o,φ id b o->¬Tk φ st.objs bx A.all b o:=λb o hp ⟨i,hi,k1,k2,_⟩=>by
        have:=hφ.inj i id b o k1 jV k2 hp;subst this;exact h2 hi
       refine WcF qo (hA2.le.same (λb o lz hp=>sn b o hp (hTk b o lz)) (λb o hp=>hφ.bl id b o jV hp)) (λb o hp=>?_) hνold (by omega) ad ob (hφ.ob id ob h1);rw[hφ2];(try simp only);rw[We ad];exact .inr ⟨hp,sn b o hp⟩
    gf:=λid b off hl hp=>by
     rcases ba id b off hl hp with⟨pos,S,h1,h2,_⟩|⟨h1,h2,h3,_⟩
     .exact qr S (gE h1) b off h2
     .exact qs id b off h1 h2 h3
    inj:=λid bw b off hl dB hp dI=>by
     have key:∀bw,Live st.objs bw->φ bw b off->¬Tk φ st.objs bx A.all b off->∀(pos:Nat) (S:CS),(kf++fps (ms++cr))[pos]?=some S->S b off->False:=λbw g1 g2 g3 pos S g4 g5=>by
      rcases(az S (gE g4) b off g5).2.1 with g6|g6
      .exact g3 (hTk b off g6)
      .have:=hφ.bl bw b off g1 g2;omega
     rcases ba id b off hl hp with⟨pos,S,h1,h2,he⟩|⟨h1,h2,h3,h4⟩<;>rcases ba bw b off dB dI with⟨qu,S',ii,ij,jY⟩|⟨ii,ij,pV,h4'⟩
     .have:=Wjl hA2.sep h1 ii h2 ij;subst this;rw[he,jY]
     .exact(key bw ii ij pV pos S h1 h2).elim
     .exact(key id h1 h2 h3 qu S' ii ij).elim
     .exact hφ.inj id bw b off h1 ii h2 ij
    own:=λid b off hl hp=>by
     rcases ba id b off hl hp with⟨pos,S,h1,h2,_⟩|⟨h1,h2,h3,_⟩
     .rcases(az S (gE h1) b off h2).2.1 with h5|h5
      .obtain⟨i,hi,h6,h7,_⟩:=hTk b off h5;exact hφ.own i b off h6 h7
      .exact .inl (Xcr hφ.le.size h5)
     .exact hφ.own id b off h1 h2
    lt:=λid ⟨ob,hl,cz⟩=>by
     rcases fX id ob hl cz with⟨_,h2,_⟩|⟨j,S,h1,_⟩|⟨h1,h2⟩
     .exact h2
     .have:=ka id (Xas h1);omega
     .have:=hφ.lt id ⟨ob,h1,cz⟩;omega
    bl:=λid b off hl hp=>by
     rcases ba id b off hl hp with⟨pos,S,h1,h2,_⟩|⟨h1,h2,h3,_⟩
     .exact(az S (gE h1) b off h2).2.2
     .exact Nat.lt_of_lt_of_le (hφ.bl id b off h1 h2) hA2.le.size
    le:=hφ.le.trans hA2.le (λb off lz=>by
     obtain⟨i,hi,h6,h7,_⟩:=hTk b off lz;exact hφ.own i b off h6 h7)}
   have hR:=hr.on qo hνold (by omega) ⟨φ2,hH⟩ qq;have hR2:=hR.put (dst:=o.dst) hd (WoL tG);rw[qm]at hk;exact hK _ _ _ _ _ hR2 hk
  .cases h
 .cases h
theorem Wry{Γ:Ctx}(hΓ:Wcy P Γ){sg:Sig}(di:sg.inl=none)(hr:Rel w0 F nt G0 G ν st a w){o:Oper}(hd:∀d,o.dst=some d->nt.Ok d){c:Call}{f:Operand}{g:FuncId}{caps:List Nat}{xs:List AVal}{R:Type}{k:St->Option R}{r:R}
  (ho:o.op= .call c) (hc:c.callee= .value f) (hf:ev st f=some (.s (.one (.clos g caps)))) (jI:evs st c.args.toList=some xs) (jH:Wj Γ g=some sg)
  (h:WkN sg st (xs++WfD caps) (λx objs nx=>k (({env:=st.env,objs:=objs,nx:=nx}:St).put o.dst x))=some r) {K:Act->World->Prop} {Q:Exit->Act->World->Prop}
  (hK:∀ac a' w' G' ν',Rel w0 F nt G0 G' ν' ac a' w'->k ac=some r->K a' w'):o.wp P a w K Q:=by
 obtain⟨⟨cvs,lx,cK,jG⟩,_⟩:=Wz hr f _ hf;obtain⟨fB,qv⟩:=WlX hr _ _ jI;have aa:(xs++WfD caps).length=(c.args.toList.map a.eval++cvs).length:=by simp[fB,WfD,cK]
 have au:∀(j:Nat) (x:AVal) (v:Value),(xs++WfD caps)[j]?=some x->(c.args.toList.map a.eval++cvs)[j]?=some v->AValRel G ν st.nx x v:=λj x v hj hv=>by
  rw[Xan]at hj hv;rw[Xad,←fB]at hv;split at hj
  .rename_i ad;rw[We ad]at hv;exact qv j x v hj hv
  .rename_i ad;rw[Wc ad]at hv;simp only[WfD,Xai]at hj;cases hcj:caps[j-xs.length]? with
   |none=>simp[hcj]at hj
   |some id=>
    simp[hcj]at hj;subst hj;obtain⟨h1,h3,h2⟩:=jG _ id v hcj hv;exact⟨⟨h1,h2⟩,h3⟩
 unfold WkN at h;cases pu:sg.fresh with
 |true=>
  rw[pu]at h;exact Wjr hΓ di hr hd ho hc lx jH aa au h hK
 |false=>
  rw[pu]at h;simp only[Wf]at h;split at h
  .rename_i A hA;split at h
   .exact Wjr hΓ di hr hd ho hc lx jH aa au h hK
   .obtain⟨G1,hz⟩:=hr.frz A.lent;refine Wjr hΓ di hz.rel hd ho hc lx jH (by simpa using aa) (λj x v hj hv=>?_) h hK;rw[Xai]at hj;obtain⟨y,hy,rfl⟩:=Xs.1 hj;exact hz.val y v (au j y v hy hv)
  .cases h
theorem Wij:∀(xs:List AVal) (k i:Nat) (x:AVal),Wj (Wbo k xs) i=some x->k<=i/\xs[i-k]?=some x
 | [],k,i,x,h=>by simp[Wbo,Wj]at h
 |y::xs,k,i,x,h=>by
  simp only[Wbo]at h;rw[Wv]at h;split at h
  .rename_i e;subst e;injection h with h;subst h;simp
  .obtain⟨h1,h2⟩:=Wij xs (k+1) i x h;refine⟨by omega,?_⟩;rw[show i-k=(i-(k+1))+1 by omega];simpa using h2
theorem Whn:∀(xs:List AVal) (k:Nat),(Wbo k xs).length=xs.length
 | [],_=>rfl
 |_::xs,k=>by simp[Wbo,Whn xs]
theorem Wqs{Γ:Ctx}(hΓ:Wcy P Γ){sg:Sig}{i:Inl}(di:sg.inl=some i)(hr:Rel w0 F nt G0 G ν st a w){o:Oper}(hd:∀d,o.dst=some d->nt.Ok d){c:Call}{f:Operand}{g:FuncId}{caps:List Nat}{xs:List AVal}{R:Type}{k:St->Option R}{r:R}
  (ho:o.op= .call c) (hc:c.callee= .value f) (hf:ev st f=some (.s (.one (.clos g caps)))) (jI:evs st c.args.toList=some xs) (jH:Wj Γ g=some sg)
  (h:i.fn R {env:=Wbo 0 (xs++WfD caps),objs:=st.objs,nx:=st.nx} (λx objs nx=>k (({env:=st.env,objs:=objs,nx:=nx}:St).put o.dst x))=some r) {K:Act->World->Prop} {Q:Exit->Act->World->Prop}
  (hK:∀ac a' w' G' ν',Rel w0 F nt G0 G' ν' ac a' w'->k ac=some r->K a' w'):o.wp P a w K Q:=by
 obtain⟨⟨cvs,lx,cK,jG⟩,_⟩:=Wz hr f _ hf;obtain⟨fB,qv⟩:=WlX hr _ _ jI;have aa:(xs++WfD caps).length=(c.args.toList.map a.eval++cvs).length:=by simp[fB,WfD,cK]
 have au:∀(j:Nat) (x:AVal) (v:Value),(xs++WfD caps)[j]?=some x->(c.args.toList.map a.eval++cvs)[j]?=some v->AValRel G ν st.nx x v:=λj x v hj hv=>by
  rw[Xan]at hj hv;rw[Xad,←fB]at hv;split at hj
  .rename_i ad;rw[We ad]at hv;exact qv j x v hj hv
  .rename_i ad;rw[Wc ad]at hv;simp only[WfD,Xai]at hj;cases hcj:caps[j-xs.length]? with
   |none=>simp[hcj]at hj
   |some id=>
    simp[hcj]at hj;subst hj;obtain⟨h1,h3,h2⟩:=jG _ id v hcj hv;exact⟨⟨h1,h2⟩,h3⟩
 obtain⟨cy,dj⟩:=hΓ g sg jH;unfold Wmk at cy;rw[di]at cy;dsimp only at cy;rw[i.law]at h;obtain⟨out,pt,iT⟩:=Xao.1 h;have fV:=cy _ (c.args.toList.map a.eval++cvs) out pt (by simp only[Whn];omega) w0 F G0 G ν (λx v=>nt.ex x v\/∃j,Wj st.env j=some x/\a.tmps[j]?=some v) w (λj x hj=>by
   obtain⟨_,h2⟩:=Wij _ _ _ _ hj;have h2:(xs++WfD caps)[j]?=some x:=by simpa using h2
   have ad:j<(c.args.toList.map a.eval++cvs).length:=by rw[←aa];exact(Xz.1 h2).1
   exact⟨_,Xp ad,au j x _ h2 (Xp ad)⟩) hr.h hr.gx (λx v hv=>by
   rcases hv with hv|⟨j,h1,h2⟩
   .exact hr.ex x v hv
   .obtain⟨u,h3,h4⟩:=hr.env j x h1;rw[h2]at h3;injection h3 with h3;subst h3;exact h4)
 unfold Oper.wp;rw[WmU ho hc lx dj,Oper.upon_enter];refine fV.mono λe w' iY=>?_;obtain⟨rv,G',ν',rfl,h1,h2,h3,h4⟩:=iY;simp only;have hR:Rel w0 F nt G0 G' ν' {env:=st.env,objs:=out.2.1,nx:=out.2.2} a w':=⟨hr.defers,hr.ntm,hr.par,λj x hj=>by
  obtain⟨u,h5,_⟩:=hr.env j x hj;exact⟨u,h5,h4 x u (.inr ⟨j,hj,h5⟩)⟩,h2,h3,λx v hv=>h4 x v (.inl hv)⟩
 exact hK _ _ _ _ _ (hR.put (dst:=o.dst) hd h1) iT
end
end Go.Sx
namespace Go.Sx
set_option linter.unusedVariables false
set_option linter.unusedSimpArgs false
section
variable{w0:World}{F:CS}{nt:Slots}{G0 G G':GH}{ν:Nat->Nu}{objs:WZ}{nx:Nat}{st ac:St}{a:Act}{w w':World}{P:Program}{T:Tab}{Γ:Ctx}
theorem Done.wp{o:Oper}{ac:St}(h:Done P w0 F nt G0 o a w ac){K:Act->World->Prop}{Q:Exit->Act->World->Prop}
  (hK:∀a' w' G' ν',Rel w0 F nt G0 G' ν' ac a' w'->K a' w'):o.wp P a w K Q:=by
 obtain⟨n,v,w',G',ν',h1,h2,h3⟩:=h;unfold Oper.wp;rw[h1];rcases h2 with rfl|⟨rfl,rfl⟩
 .exact hK _ _ _ _ h3
 .exact hK _ _ _ _ h3
theorem Wj7{t:TypeId}{x v:AVal}{ac:St}(h:Wcd T st t x v=some ac):({env:=st.env,objs:=ac.objs,nx:=ac.nx}:St)=ac:=by
 unfold Wcd at h;split at h
 .split at h
  .split at h
   .injection h with h;subst h;rfl
   .cases h
  .cases h
 .split at h
  .split at h
   .split at h
    .injection h with h;subst h;rfl
    .cases h
   .split at h
    .split at h
     .split at h
      .injection h with h;subst h;rfl
      .cases h
     .cases h
    .cases h
  .cases h
 .cases h
theorem WQ{R:Type}{c:Bool}{x:Option R}{r:R}(h:(bif c then x else none)=some r):c=true/\x=some r:=by
 cases c
 .cases h
 .exact⟨rfl,h⟩
theorem Wbh{R:Type}{c:Prop}[Decidable c]{x:Option R}{r:R}(h:(if c then x else none)=some r):c/\x=some r:=by
 split at h
 .exact⟨by assumption,h⟩
 .cases h
theorem WjU{e:Ty}{ps:List (Nat×AVal)}{R:Type}{k:KV R}{r:R}(h:Wco st e ps k=some r):
  ∃x ds d m,ps= [(0,x)]/\Wfs (WfT st.objs (Wf1 e x) x)=some ds/\Wac e ds (Wc1 st.objs (Wf1 e x))=some (d,m,[])/\WaR m=true/\
   k (.s (.one (.own st.nx))) ((st.nx,.arr e [d])::kill (Wc1 st.objs (Wf1 e x)) m) (st.nx+1)=some r:=by
 match ps with
 | [p]=>
  simp only[Wco]at h;obtain⟨hp,h⟩:=Wbh h;split at h
  .rename_i ds fA;split at h
   .rename_i d m hf;obtain⟨aH,h⟩:=Wbh h;exact⟨p.2,ds,d,m,by rw[←hp],fA,hf,aH,h⟩
   .cases h
  .cases h
 | []=>cases h
 |_::_::_=>cases h
theorem Wl3(hT:W5 P T)(hr:Rel w0 F nt G0 G ν st a w){o:Oper}(hd:∀d,o.dst=some d->nt.Ok d){R:Type}{k:St->Option R}{r:R}
  (h:(match W1 T st o.op with|some (c,v)=>bif c then k (({env:=st.env,objs:=st.objs,nx:=st.nx}:St).put o.dst v)else none|none=>none)=some r)
  {K:Act->World->Prop} {Q:Exit->Act->World->Prop} (hK:∀ac a' w' G' ν',Rel w0 F nt G0 G' ν' ac a' w'->k ac=some r->K a' w'):o.wp P a w K Q:=by
 split at h
 .rename_i c v hp;obtain⟨rfl,h⟩:=WQ h;exact(WpL hT hr hd hp).wp λa' w' G' ν' bM=>hK _ _ _ _ _ bM h
 .cases h
theorem Wou(hT:W5 P T)(hΓ:Wcy P Γ)(hr:Rel w0 F nt G0 G ν st a w){o:Oper}(hd:∀d,o.dst=some d->nt.Ok d){A:List (Nat×An)}{R:Type}{k:St->Option R}{r:R}(h:rx1 T Γ A o st k=some r)
  {K:Act->World->Prop} {Q:Exit->Act->World->Prop} (hK:∀ac a' w' G' ν',Rel w0 F nt G0 G' ν' ac a' w'->k ac=some r->K a' w'):o.wp P a w K Q:=by
 unfold rx1 rxe at h;split at h
 .rename_i t ho;split at h
  .rename_i e n et hl;obtain⟨hc,h⟩:=Wbh h;simp only[Xg]at hc;exact(Wjp hT hr hd ho hl hc.1 hc.2).wp λa' w' G' ν' bM=>hK _ _ _ _ _ bM h
  .rename_i te _ hl;obtain⟨hc,h⟩:=Wbh h;exact(WnN hT hr hd ho hl hc).wp λa' w' G' ν' bM=>hK _ _ _ _ _ bM h
  .cases h
 .rename_i t x ho;split at h
  .rename_i te cs hl hb;cases hv:ev st x with
   |none=>simp[hv]at hb
   |some v=>
    simp only[hv,Xd]at hb;exact(Wqf hr hd ho hv hb).wp λa' w' G' ν' bM=>hK _ _ _ _ _ bM h
  .cases h
 .rename_i t parts ho;split at h
  .rename_i ty fs ps hl cq;obtain⟨hc,h⟩:=Wbh h;split at h
   .rename_i cs hf;refine(Wn1 hT hr hd ho hl cq hf ?_).wp λa' w' G' ν' bM=>hK _ _ _ _ _ bM h;intro f hf;have:=Xab.1 hc f hf;split at this
    .rename_i te bo;exact⟨te,bo,this⟩
    .cases this
   .cases h
  .cases h
 .rename_i t n parts ho;split at h
  .rename_i ty et ps hl cq;split at h
   .rename_i te aG;split at h
    .rename_i e _;obtain⟨hc,h1⟩:=Wbh h;clear h;simp only[Xg,Wg]at hc;obtain⟨⟨⟨hn,he⟩,hp⟩,bE⟩:=hc;obtain⟨x,ds,d,m,rfl,fA,hf,aH,h⟩:=WjU h1;clear h1;subst hn;have aH:=(Wca _).1 aH;obtain⟨G1,hz⟩:=hr.frz (Wf1 e x);obtain⟨p1,p2⟩:=WeO hr _ _ cq;have ec:∃y,parts.toList= [(0,y)]/\AValRel G ν st.nx x (a.eval y):=by
      match fN:parts.toList,p1 with
      | [q],_=>
       rw[fN]at p2;obtain⟨q1,q2⟩:=p2 0 _ q rfl rfl;refine⟨q.2,?_,q2⟩;have:q=(0,q.2):=Prod.ext q1.symm rfl;rw[←this]
     obtain⟨y,tH,tI⟩:=ec;exact(WkZ hT hz.rel hd ho tH hl aG (hz.val _ _ tI) fA hf aH he hp bE).wp λa' w' G' ν' bM=>hK _ _ _ _ _ bM h
    split at h
    .rename_i xs hf;obtain⟨hc,h⟩:=Wbh h;simp only[Xg,Wg]at hc;obtain⟨G1,hz⟩:=hr.frz (WiR ps);obtain⟨p1,p2⟩:=WeO hr _ _ cq;exact(Wgq hT hz.rel hd ho hl aG (by simpa [WiO]using p1) (λj p q hp hq=>by
      simp only[WiO,Xai]at hp;obtain⟨y,hy,rfl⟩:=Xs.1 hp;exact⟨(p2 j y q hy hq).1,hz.val _ _ (p2 j y q hy hq).2⟩) hf hc.1.1 hc.1.2 hc.2).wp λa' w' G' ν' bM=>hK _ _ _ _ _ bM h
    .cases h
   .cases h
  .cases h
 .rename_i t n c ho;split at h
  .rename_i ty et n' c' hl hn hc;split at h
   .rename_i te aG;obtain⟨k1,qj⟩:∃k,a.eval n= .int k n':=by
     cases hv:ev st n with
     |none=>simp[hv]at hn
     |some v=>simp only[hv,Xd]at hn;exact Wel _ _ _ (Wz hr n _ hv) hn
    obtain⟨k2,j8⟩:∃k,a.eval c= .int k c':=by
     cases hv:ev st c with
     |none=>simp[hv]at hc
     |some v=>simp only[hv,Xd]at hc;exact Wel _ _ _ (Wz hr c _ hv) hc
    split at h
    .obtain⟨kc,h⟩:=Wbh h;obtain⟨hb,h⟩:=WQ h;simp only[Xg,Wg]at hb kc;exact(Whj hT hr hd ho hl aG qj j8 hb.1.1 hb.1.2 hb.2 kc.1 kc.2).wp λa' w' G' ν' bM=>hK _ _ _ _ _ bM h
    .obtain⟨kc,h⟩:=Wbh h;obtain⟨hb,h⟩:=WQ h;simp only[Xg,Wg]at hb kc;exact(WhO hT hr hd ho hl aG qj j8 hb.1.1 hb.1.2 hb.2 kc.1 kc.2).wp λa' w' G' ν' bM=>hK _ _ _ _ _ bM h
   .cases h
  .cases h
 .rename_i t x y ho;split at h
  .rename_i p v hp hv;split at h
   .rename_i ac hs;split at h
    .rename_i gV;have h:k (({env:=st.env,objs:=ac.objs,nx:=ac.nx}:St).put o.dst (.tup []))=some r:=h;obtain⟨G1,hz⟩:=hr.frz (Weu st.objs p v);have cw:=Wj7 hs;simp only at cw;rw[cw,gV]at h;exact(Wnt hT hz.rel ho gV (AValRel.mono hz.le (λ_ _=>rfl) (Xm _) _ _ (Wz hr x _ hp)) (hz.val _ _ (Wz hr y _ hv)) hs).wp λa' w' G' ν' bM=>hK _ _ _ _ _ bM h
    .cases h
   .cases h
  .cases h
 .rename_i t x lo hi ho;split at h
  .rename_i id hx;split at h
   .rename_i ty et l hh hl aR nb;split at h
    .rename_i te aG;split at h
     .obtain⟨hp,h⟩:=Wbh h;obtain⟨ac,hk,ep⟩:=Wpj hT hr hd ho hx hl aG hp aR nb h;exact ep.wp λa' w' G' ν' bM=>hK _ _ _ _ _ bM hk
     .split at h
      .rename_i h' e xs _ an;obtain⟨⟨he,hp⟩,h⟩:=Wbh h;obtain⟨hb,h⟩:=WQ h;simp only[Xg,Wg]at hb;exact(WnE hT hr hd ho hx hl aG hp he an aR nb hb.1 hb.2).wp λa' w' G' ν' bM=>hK _ _ _ _ _ bM h
      .rename_i h' e xs i p _ an;obtain⟨⟨he,hp,qh⟩,h⟩:=Wbh h;obtain⟨hb,h⟩:=WQ h;simp only[Xg,Wg]at hb;exact(Whz hT hr hd ho hx hl aG hp he an qh aR nb hb.1.1 hb.1.2 hb.2).wp λa' w' G' ν' bM=>hK _ _ _ _ _ bM h
      .cases h
    .cases h
   .cases h
  .rename_i hx;exact Wl3 hT hr hd (by rw[ho];rw[ho]at h;exact h) hK
 .rename_i c ho;split at h
  .rename_i s x t t2 hc ha cQ;split at h
   .rename_i sv xv hs hx;obtain⟨ac,hk,ep⟩:=WlE hT hr hd ho hc ha cQ hs hx h;exact ep.wp λa' w' G' ν' bM=>hK _ _ _ _ _ bM hk
   .cases h
  .rename_i x t hc ha cQ;split at h
   .rename_i id lo hi hx;split at h
    .rename_i ty et e xs hl an;split at h
     .rename_i te aG;obtain⟨⟨he,hp,aO⟩,h⟩:=Wbh h;exact(Wn7 hT hr hd ho hc ha cQ hx hl aG an he hp aO).wp λa' w' G' ν' bM=>hK _ _ _ _ _ bM h
     .cases h
    .cases h
   .cases h
  .exact Wl3 hT hr hd h hK
  .rename_i f args _ hc;split at h
   .rename_i g caps xs hf jI;split at h
    .rename_i sg jH;split at h
     .rename_i di;exact Wry hΓ di hr hd ho hc hf jI jH h hK
     .rename_i i di;exact Wqs hΓ di hr hd ho hc hf jI jH h hK
    .cases h
   .cases h
  .cases h
 .exact Wl3 hT hr hd h hK
end
end Go.Sx
namespace Go.Sx
set_option linter.unusedVariables false
set_option linter.unusedSimpArgs false
section
variable{w0:World}{F:CS}{nt:Slots}{G0 G G':GH}{ν ν':Nat->Nu}{φ φ':Nat->CS}{objs objs':WZ}{nx af:Nat}{st ac:St}{a:Act}{w w':World}{P:Program}{T:Tab}{Γ:Ctx}
theorem Rel.rebind(h:Rel w0 F nt G0 G ν st a w){i:Nat}{x:AVal}{v:Value}(hv:a.tmps[i]?=some v)(hx:AValRel G ν st.nx x v):Rel w0 F nt G0 G ν (st.put (some i) x) a w:=
 ⟨h.defers,h.ntm,h.par,λj y hy=>by
  simp only[St.put]at hy;rw[Wv]at hy;split at hy
  .rename_i e;subst e;injection hy with hy;subst hy;exact⟨v,hv,hx⟩
  .exact h.env j y hy,h.h,h.gx,h.ex⟩
theorem CellsRel.set{cs:List Cell}{vs:List Value}(h:CellsRel G ν nx cs vs){off:Nat}{c:Cell}(hc:∀v,vs[off]?=some v->CellRel G ν nx c v):CellsRel G ν nx (cs.set off c) vs:=by
 refine⟨by simp[h.1],λj d v hd hv=>?_⟩;rw[List.getElem?_set]at hd;split at hd
 .rename_i e;subst e;split at hd
  .rename_i ad;injection hd with hd;subst hd;exact⟨hc v hv,(h.2 off cs[off] v (Xp ad) hv).2⟩
  .cases hd
 .exact h.2 j d v hd hv
theorem HRel.mk_box(h:HRel w0 F G ν objs nx w){id:Nat}{cs bY:List Cell}(ho:Wj objs id=some (.box cs))(hl:bY.length=cs.length)
  (hc:∀vs,CellsRel G ν nx cs vs->CellsRel G ν nx bY vs):HRel w0 F G ν ((id,.box bY)::objs) nx w:=by
 obtain⟨φ,h⟩:=h;have ax:Live objs id:=⟨_,ho,by simp⟩;obtain⟨b,vs,h1,h2,h3,h4,h5⟩:WbR G ν nx w id (φ id) (.box cs):=h.ob _ _ ho;exact⟨_,h.put (ν':=ν) (m:=[]) (λ_ _=>rfl) (Xm _) (h.lt id ax) (WLe.refl _ w) (λb o hh=>.inl ⟨id,.inl rfl,ax,hh⟩) (λ_=>⟨b,vs,h1,by rw[hl];exact h2,h3,hc _ h4,by rw[hl];exact h5⟩)⟩
theorem HRel.empt(h:HRel w0 F G ν objs nx w){id:Nat}{e e':Ty}(ho:Wj objs id=some (.arr e' []))(hs:e.size=e'.size):HRel w0 F G ν ((id,.arr e [])::objs) nx w:=by
 obtain⟨φ,h⟩:=h;have ax:Live objs id:=⟨_,ho,by simp⟩;have an:WbR G ν nx w id (φ id) (.arr e' []):=h.ob _ _ ho;have an:Wa9 w (Wm G w e') e'.size (ν id) [] (φ id):=an;refine⟨_,h.put (ν':=ν) (m:=[]) (λ_ _=>rfl) (Xm _) (h.lt id ax) (WLe.refl _ w) (λb o hh=>.inl ⟨id,.inl rfl,ax,hh⟩) (λ_=>?_)⟩;show Wa9 w (Wm G w e) e.size (ν id) [] (φ id);rw[hs];unfold Wa9 at*;refine⟨an.1,an.2.1,?_⟩;have h3:=an.2.2;cases hb:(ν id).blk with
 |none=>rfl
 |some b=>
  rw[hb]at h3;obtain⟨a1,a2,a3,cs,ps,a4,a5,a6,a7⟩:=h3;exact⟨a1,a2,a3,cs,ps,by simpa [WdQ]using a4,a5,a6,a7⟩
theorem HRel.adopt(h:HRel w0 F G ν objs nx w)(e:Ty):HRel w0 F G (upd ν nx ⟨none,0,0,0,e.size⟩) ((nx,.arr e [])::objs) (nx+1) w:=by
 obtain⟨φ,h⟩:=h;refine⟨_,h.put (m:=[]) (S:=λ_ _=>False) (Weg ν nx _) (Xcw _) (Xbo _) (WLe.refl _ w) (λb o hh=>hh.elim) (λ_=>?_)⟩;show Wa9 _ _ _ (upd ν nx ⟨none,0,0,0,e.size⟩ nx) _ _;rw[WaX];exact⟨rfl,rfl,rfl⟩
theorem Wih(e:Ty):CellRel G (upd ν nx ⟨none,0,0,0,e.size⟩) (nx+1) (.own nx) (.slice none 0 0):=
 ⟨Xbo _,by rw[WaX];rfl⟩
theorem HRel.solo(h:HRel w0 F G ν objs nx w){id lo hi:Nat}{e:Ty}{xs:List e.den}(ho:Wj objs id=some (.arr e xs))(h1:lo<=hi)(h2:hi<=(ν id).len):
  HRel w0 F G (upd ν nx ((ν id).part lo hi)) ((nx,.arr e ((xs.take hi).drop lo))::(id,.dead)::objs) (nx+1) w:=by
 obtain⟨φ,h⟩:=h;have ax:Live objs id:=⟨_,ho,by simp⟩;have az:Wa9 w (Wm G w e) e.size (ν id) xs (φ id):=h.ob _ _ ho;refine⟨_,h.put (m:=[id]) (S:=φ id) (Weg ν nx _) (Xcw _) (Xbo _) (WLe.refl _ w) (λb o hh=>.inl ⟨id,.inr (by simp),ax,hh⟩) (λ_=>?_)⟩;show Wa9 _ _ _ (upd ν nx ((ν id).part lo hi) nx) _ _;rw[WaX];exact Wkv az h1 h2
theorem WkQ{id lo hi:Nat}:CellRel G (upd ν nx ((ν id).part lo hi)) (nx+1) (.own nx) ((ν id).vhdr lo hi):=
 ⟨Xbo _,by rw[WaX,WjF]⟩
theorem Wgr(h:Rel w0 F nt G0 G ν st a w){p:Nat}(hg:Wjk st p=some ac):Rel w0 F nt G0 G ν ac a w:=by
 unfold Wjk at hg;split at hg
 .rename_i r _;split at hg
  .rename_i e xs i p' cs aR eT;split at hg
   .rename_i d m hf;split at hg
    .rename_i bc;injection hg with hg;subst hg;simp only[Xg]at bc;obtain⟨hp,aH⟩:=bc;have hp:=Xch hp;subst hp;have aH:=(Wca _).1 aH;obtain⟨n1,n2⟩:=Xaa.1 aH;obtain⟨n3,n4⟩:=Xaa.1 n2;obtain⟨φ,hφ⟩:=h.h;have ax:Live st.objs r:=⟨_,aR,by simp⟩;have dO:Live st.objs p:=⟨_,eT,by simp⟩;obtain⟨jU,hole⟩:p<st.nx/\Wf4 w (Wm G w e) e.size (ν r) (ν p) xs i (φ r):=hφ.ob _ _ aR;obtain⟨b,us,hb,aJ,ay,bk,dW⟩:WbR G ν st.nx w p (φ p) (.box cs):=hφ.ob _ _ eT;obtain⟨ns,t1,t2,t3,t4,_⟩:=W2 (G':=G) hφ (λ_ _ _ hh=>hh) e cs us d m [] bk (λi hi=>by simp at hi) n4 hf;have cH:=Wu _ _ _ _ t1;rw[←bk.1,cH]at dW;have bZ:r≠p:=λe=>n1 (by rw[e];exact Xh ..);refine h.on (λ_ _ _ hh=>hh) (λ_ _=>rfl) (Xm _) ⟨_,hφ.put (ν':=ν) (S:=λb o=>φ r b o\/FromL φ st.objs (p::m) b o) (λ_ _=>rfl) (Xm _) (hφ.lt r ax) (WLe.refl _ w) (λb o hh=>?_) (λ_=>?_)⟩ h.gx
     .rcases hh with hh|⟨j,hj,h1,h2⟩
      .exact .inl ⟨r,.inl rfl,ax,hh⟩
      .exact .inl ⟨j,.inr hj,h1,h2⟩
     .refine WmI hole t1 hb ay dW t2 t3 ?_ ?_ ?_ (λb o hh=>.inl hh) (λb o hh=>.inr ⟨p,Xh ..,dO,hh⟩) (λb o hh=>.inr (FromL.mono (λi hi=>Xe _ hi) b o hh))
      .exactλb o h1 h2=>bZ (hφ.inj r p b o ax dO h1 h2)
      .exactλb o h1 ⟨j,hj,h2,h3⟩=>by
        have:=hφ.inj r j b o ax h2 h1 h3;subst this;exact n1 (Xe _ hj)
      .exactλb o h1 ⟨j,hj,h2,h3⟩=>by
        have:=hφ.inj p j b o dO h2 h1 h3;subst this;exact n3 hj
    .cases hg
   .cases hg
  .cases hg
 .cases hg
theorem Wh4(h:Rel w0 F nt G0 G ν st a w){r i:Nat}{e:Ty}{xs:List e.den}(aR:Wj st.objs r=some (.arr e xs))(hi:i<xs.length)(hg:Wiv st r i=some ac):
  ∃ν' b,Rel w0 F nt G0 G ν' ac a w/\st.nx<ac.nx/\(ν r).blk=some b/\(ν' st.nx)=Wbm b ((ν r).off+i*(ν r).esz)/\ac.env=st.env:=by
 unfold Wiv at hg;rw[aR]at hg;simp only[Option.some.injEq]at hg;subst hg;obtain⟨φ,hφ⟩:=h.h;have ax:Live st.objs r:=⟨_,aR,by simp⟩;have az:Wa9 w (Wm G w e) e.size (ν r) xs (φ r):=hφ.ob _ _ aR;obtain⟨g1,g2,g3⟩:=az;have qw:=hφ.lt r ax;cases hb:(ν r).blk with
 |none=>simp only[hb]at g3;rw[g3]at hi;simp at hi
 |some b=>
  simp only[hb]at g3;obtain⟨g4,g5,g6,cs,ps,g7,g8,g9,pj⟩:=g3;obtain⟨c1,c,c2,p1,pc,p2,k1,k2,k3,k4,k5⟩:=Wlj g7 e.dflt hi;have l1:=Waw (λx c q hx=>Wu e x c q hx) _ _ _ k3;rw[Xbe,Xbw (by omega)]at l1;have lc:=Wu _ _ _ _ k4;have lo:=WR _ _ _ _ k4;have e1:(i+1)*e.size=i*e.size+e.size:=Xbl i e.size;have e2:((ν r).cap-(i+1))*e.size+(i+1)*e.size=(ν r).cap*e.size:=by rw[←Xcn];congr 1;omega
  have nS:=Wap e (xs.getD i e.dflt) (st.nx+1);have cH:=Wbr e (xs.getD i e.dflt) (st.nx+1);rw[k1]at g8;have m1:Mem w b (ν r).off c1:=g8.left;have m2:Mem w b ((ν r).off+i*e.size) c:=(g8.right l1).left;have m3:Mem w b ((ν r).off+(i+1)*e.size) c2:=by
   have:=(g8.right l1).right lc;rw[Xav,←e1]at this;exact this
  obtain⟨q1,q2⟩:=Xw.1 g9;have ff:=pj _ (Xh ..);have kI:∀p∈p1++(pc++p2),CS.le p.fp (φ r):=λp hp=>pj _ (Xe _ (Xaj (by rw[k2];exact hp)));have nc:∀p∈p1++(pc++p2),CS.disj (rng b (ν r).off ((ν r).cap*e.size)) p.fp:=λp hp=>q1 _ (Xaj (by rw[k2];exact hp));rw[k2,Xy,Xy]at q2;obtain⟨s1,s2,s3⟩:=Xah.1 q2;obtain⟨s4,s5,s6⟩:=Xah.1 s2;have rA:CS.le (rng b (ν r).off (i*e.size)) (rng b (ν r).off ((ν r).cap*e.size)):=λb o ⟨x0,x1,x2⟩=>⟨x0,by omega,by omega⟩;have rB:CS.le (rng b ((ν r).off+i*e.size) e.size) (rng b (ν r).off ((ν r).cap*e.size)):=λb o ⟨x0,x1,x2⟩=>⟨x0,by omega,by omega⟩;have rC:CS.le (rng b ((ν r).off+(i+1)*e.size) (((ν r).cap-(i+1))*e.size)) (rng b (ν r).off ((ν r).cap*e.size)):=λb o ⟨x0,x1,x2⟩=>⟨x0,by omega,by omega⟩;obtain⟨SR,hSR⟩:∃SR:CS,SR= λb' o=>rng b (ν r).off (i*e.size) b' o\/rng b ((ν r).off+(i+1)*e.size) (((ν r).cap-(i+1))*e.size) b' o\/∃p∈p1++p2,p.fp b' o:=⟨_,rfl⟩;have hSRφ:CS.le SR (φ r):=λb o hh=>by
   rw[hSR]at hh;rcases hh with hh|hh|⟨p,hp,hh⟩
   .exact ff b o (rA b o hh)
   .exact ff b o (rC b o hh)
   .refine kI p ?_ b o hh;rcases Xl.1 hp with hp|hp
    .exact Xj _ hp
    .exact Xf _ (Xf _ hp)
  obtain⟨ν',hν'⟩:∃ν':Nat->Nu,ν'= λj=>if j<st.nx then ν j else if j=st.nx then Wbm b ((ν r).off+i*e.size)else((nus pc)[j-(st.nx+1)]?).getD ⟨none,0,0,0,0⟩:=⟨_,rfl⟩;obtain⟨φ',hφ'⟩:∃φ':Nat->CS,φ'= λj=>if j=r then SR else if j<st.nx then φ j else if j=st.nx then rng b ((ν r).off+i*e.size) e.size else((fps pc)[j-(st.nx+1)]?).getD (λ_ _=>False):=⟨_,rfl⟩;have hνold:Wpt st.nx ν ν':=λj hj=>by rw[hν'];simp[hj]
  have hνp:ν' st.nx=Wbm b ((ν r).off+i*e.size):=by rw[hν'];simp
  have hφr:φ' r=SR:=by rw[hφ'];simp
  have hφp:φ' st.nx=rng b ((ν r).off+i*e.size) e.size:=by rw[hφ'];simp;omega
  have hφold:∀j,j<st.nx->j≠r->φ' j=φ j:=λj hj hn=>by rw[hφ'];simp[hj,hn]
  have hAt:At ν' φ' (st.nx+1) pc:=λj q hj=>by
   have x1:(nus pc)[j]?=some q.nu:=by unfold nus;rw[Xai,hj];rfl
   have x2:(fps pc)[j]?=some q.fp:=by unfold fps;rw[Xai,hj];rfl
   rw[hν',hφ'];constructor
   .show(if st.nx+1+j<st.nx then _ else if st.nx+1+j=st.nx then _ else _)=_;rw[Wc (by omega),Wc (by omega),Xbq,x1];rfl
   .show(if st.nx+1+j=r then _ else if st.nx+1+j<st.nx then _ else if st.nx+1+j=st.nx then _ else _)=_;rw[Wc (by omega),Wc (by omega),Wc (by omega),Xbq,x2];rfl
  obtain⟨uc,uo⟩:=Waa (ν:=ν') (φ:=φ') e (xs.getD i e.dflt) (st.nx+1) c pc k4 hAt;have fX:∀id ob,Wj ((r,Ob.hole e xs i st.nx)::(st.nx,Ob.box (unfold e (xs.getD i e.dflt) (st.nx+1)).1)::((unfold e (xs.getD i e.dflt) (st.nx+1)).2.1++st.objs)) id=some ob->ob≠ .dead->
    (id=r/\ob= .hole e xs i st.nx)\/(id=st.nx/\ob= .box (unfold e (xs.getD i e.dflt) (st.nx+1)).1)\/(st.nx+1<=id/\id<st.nx+1+e.owns/\Wnl G ν' φ' w id ob)\/(id≠r/\id<st.nx/\Wj st.objs id=some ob):=λid ob hl hd=>by
   rw[Wv]at hl;split at hl
   .rename_i x;injection hl with hl;exact .inl ⟨x.symm,hl.symm⟩
   .rename_i pn;rw[Wv]at hl;split at hl
    .rename_i x;injection hl with hl;exact .inr (.inl ⟨x.symm,hl.symm⟩)
    .rcases WA hl with hl|hl
     .obtain⟨x1,x2,x3⟩:=uo id ob hl;exact .inr (.inr (.inl ⟨x1,x2,x3⟩))
     .exact .inr (.inr (.inr ⟨λx=>pn x.symm,hφ.lt id ⟨ob,hl,hd⟩,hl⟩))
  have ew:∀id b' o,Live ((r,Ob.hole e xs i st.nx)::(st.nx,Ob.box (unfold e (xs.getD i e.dflt) (st.nx+1)).1)::((unfold e (xs.getD i e.dflt) (st.nx+1)).2.1++st.objs)) id->φ' id b' o->
    (id=r/\SR b' o)\/(id=st.nx/\rng b ((ν r).off+i*e.size) e.size b' o)\/(∃(j:Nat) (q:Pc),id=st.nx+1+j/\pc[j]?=some q/\q.fp b' o)\/(id≠r/\id<st.nx/\Live st.objs id/\φ id b' o):=λid b' o ⟨ob,hl,hd⟩ hp=>by
   rcases fX id ob hl hd with⟨rfl,_⟩|⟨rfl,_⟩|⟨x1,x2,_⟩|⟨x1,x2,x3⟩
   .rw[hφr]at hp;exact .inl ⟨rfl,hp⟩
   .rw[hφp]at hp;exact .inr (.inl ⟨rfl,hp⟩)
   .right;right;left;have ad:id-(st.nx+1)<pc.length:=by omega
    refine⟨id-(st.nx+1),pc[id-(st.nx+1)],by omega,Xp ad,?_⟩;have:=(hAt (id-(st.nx+1)) _ (Xp ad)).2;rw[show st.nx+1+(id-(st.nx+1))=id by omega]at this;rw[this]at hp;exact hp
   .rw[hφold id x2 x1]at hp;exact .inr (.inr (.inr ⟨x1,x2,⟨ob,x3,hd⟩,hp⟩))
  have hq:∀(j:Nat) (q:Pc),pc[j]?=some q->q∈p1++(pc++p2):=λj q hj=>Xf _ (Xj _ (Xas hj));have dE:∀id b' o,(id=r/\SR b' o)\/(id=st.nx/\rng b ((ν r).off+i*e.size) e.size b' o)\/(∃(j:Nat) (q:Pc),id=st.nx+1+j/\pc[j]?=some q/\q.fp b' o)->φ r b' o:=λid b' o hh=>by
   rcases hh with⟨_,hh⟩|⟨_,hh⟩|⟨j,q,_,hj,hh⟩
   .exact hSRφ b' o hh
   .exact ff b' o (rB b' o hh)
   .exact kI q (hq j q hj) b' o hh
  have hH:HR w0 F G ν' φ' ((r,Ob.hole e xs i st.nx)::(st.nx,Ob.box (unfold e (xs.getD i e.dflt) (st.nx+1)).1)::((unfold e (xs.getD i e.dflt) (st.nx+1)).2.1++st.objs)) (st.nx+1+e.owns) w:=by
   refine hφ.step (WLe.refl _ w) (λid ob hl hd=>?_) (λid ⟨ob,hl,hd⟩=>?_) (λid b' o iO hp=>?_) (λid b' o iO hp=>?_) (λid bw b' o hl dB hp dI=>?_)
   .rcases fX id ob hl hd with⟨rfl,rfl⟩|⟨rfl,rfl⟩|⟨x1,x2,e',pw,rfl,x3⟩|⟨x1,x2,x3⟩
    .refine⟨by omega,?_⟩;rw[hφr,hνold id qw,hνp];refine⟨g1,g2,hi,b,hb,rfl,rfl,g4,g5,g6,c1,c2,p1,p2,k3,k5,m1,m3,?_,λs hs b' o hh=>?_⟩
     .refine Xw.2 ⟨λs hs=>?_,Xw.2 ⟨λs hs=>?_,?_⟩⟩
      .rcases Xq.1 hs with rfl|hs
       .exact Wqr (by omega)
       .obtain⟨p,hp,rfl⟩:=Xv.1 hs;refine(nc p ?_).mono rA (λ_ _ hh=>hh);rcases Xl.1 hp with hp|hp
        .exact Xj _ hp
        .exact Xf _ (Xf _ hp)
      .obtain⟨p,hp,rfl⟩:=Xv.1 hs;refine(nc p ?_).mono rC (λ_ _ hh=>hh);rcases Xl.1 hp with hp|hp
       .exact Xj _ hp
       .exact Xf _ (Xf _ hp)
      .rw[Xy];exact Xah.2 ⟨s1,s5,λs hs t ht=>s3 s hs t (Xf _ ht)⟩
     .rw[hSR];rcases Xq.1 hs with rfl|hs
      .exact .inl hh
      .rcases Xq.1 hs with rfl|hs
       .exact .inr (.inl hh)
       .obtain⟨p,hp,rfl⟩:=Xv.1 hs;exact .inr (.inr ⟨p,hp,hh⟩)
    .refine⟨b,c,by rw[hνp];rfl,?_,by rw[hνp];exact m2,uc _ (Xm _),?_⟩
     .rw[hνp,cH];obtain⟨row,TT,y1,y2⟩:=g6;exact⟨row,TT,y1,by show(ν r).off+i*e.size+e.size<=row.size;omega⟩
     .rw[hνp,cH,hφp];exactλ_ _ hh=>hh
    .exact x3
    .rw[hφold id x2 x1];exact WcF (λ_ _ _ hh=>hh) (Same.refl _ w) (λ_ _ hh=>hh) hνold (by omega) x2 ob (hφ.ob id ob x3)
   .rcases fX id ob hl hd with⟨rfl,_⟩|⟨rfl,_⟩|⟨_,x2,_⟩|⟨_,x2,_⟩<;>omega
   .rcases ew id b' o iO hp with hh|hh|hh|⟨_,_,x3,x4⟩
    .exact .inl ⟨r,ax,dE id b' o (.inl hh)⟩
    .exact .inl ⟨r,ax,dE id b' o (.inr (.inl hh))⟩
    .exact .inl ⟨r,ax,dE id b' o (.inr (.inr hh))⟩
    .exact .inl ⟨id,x3,x4⟩
   .rcases ew id b' o iO hp with hh|hh|hh|⟨_,_,x3,x4⟩
    .exact hφ.bl r b' o ax (dE id b' o (.inl hh))
    .exact hφ.bl r b' o ax (dE id b' o (.inr (.inl hh)))
    .exact hφ.bl r b' o ax (dE id b' o (.inr (.inr hh)))
    .exact hφ.bl id b' o x3 x4
   .have out:∀bw,bw≠r->Live st.objs bw->φ bw b' o->φ r b' o->False:=λbw y1 y2 y3 y4=>y1 (hφ.inj bw r b' o y2 ax y3 y4);have dSP:SR b' o->∀s,(s=rng b ((ν r).off+i*e.size) e.size\/∃q∈pc,s=q.fp)->s b' o->False:=λy1 s y2 y3=>by
     rw[hSR]at y1;rcases y2 with rfl|⟨q,qx,rfl⟩
     .rcases y1 with y1|y1|⟨p,hp,y1⟩
      .obtain⟨z0,z1,z2⟩:=y1;obtain⟨z3,z4,z5⟩:=y3;omega
      .obtain⟨z0,z1,z2⟩:=y1;obtain⟨z3,z4,z5⟩:=y3;omega
      .refine nc p ?_ b' o (rB b' o y3) y1;rcases Xl.1 hp with hp|hp
       .exact Xj _ hp
       .exact Xf _ (Xf _ hp)
     .have nT:q∈p1++(pc++p2):=Xf _ (Xj _ qx);rcases y1 with y1|y1|⟨p,hp,y1⟩
      .exact nc q nT b' o (rA b' o y1) y3
      .exact nc q nT b' o (rC b' o y1) y3
      .rcases Xl.1 hp with hp|hp
       .exact s3 _ (Xaj hp) _ (Xj _ (Xaj qx)) b' o y1 y3
       .exact s6 _ (Xaj qx) _ (Xaj hp) b' o y3 y1
    have dPQ:∀(j:Nat) (q:Pc),pc[j]?=some q->rng b ((ν r).off+i*e.size) e.size b' o->q.fp b' o->False:=λj q hj y1 y2=>nc q (hq j q hj) b' o (rB b' o y1) y2;rcases ew id b' o hl hp with hh|hh|hh|⟨x1,x2,x3,x4⟩<;>rcases ew bw b' o dB dI with gF|gF|gF|⟨qy,x2',px,py⟩
    .rw[hh.1,gF.1]
    .exact(dSP hh.2 _ (.inl rfl) gF.2).elim
    .obtain⟨j,q,_,hj,y⟩:=gF;exact(dSP hh.2 _ (.inr ⟨q,Xas hj,rfl⟩) y).elim
    .exact(out bw qy px py (dE id b' o (.inl hh))).elim
    .exact(dSP gF.2 _ (.inl rfl) hh.2).elim
    .rw[hh.1,gF.1]
    .obtain⟨j,q,_,hj,y⟩:=gF;exact(dPQ j q hj hh.2 y).elim
    .exact(out bw qy px py (dE id b' o (.inr (.inl hh)))).elim
    .obtain⟨j,q,_,hj,y⟩:=hh;exact(dSP gF.2 _ (.inr ⟨q,Xas hj,rfl⟩) y).elim
    .obtain⟨j,q,_,hj,y⟩:=hh;exact(dPQ j q hj gF.2 y).elim
    .obtain⟨j,q,bj,hj,y⟩:=hh;obtain⟨j',q',qz,d4,y'⟩:=gF;have x1:(fps pc)[j]?=some q.fp:=by unfold fps;rw[Xai,hj];rfl
     have x2:(fps pc)[j']?=some q'.fp:=by unfold fps;rw[Xai,d4];rfl
     have:=Wjl (l:=fps pc) s4 x1 x2 y y';rw[bj,qz,this]
    .exact(out bw qy px py (dE id b' o (.inr (.inr hh)))).elim
    .exact(out id x1 x3 x4 (dE bw b' o (.inl gF))).elim
    .exact(out id x1 x3 x4 (dE bw b' o (.inr (.inl gF)))).elim
    .exact(out id x1 x3 x4 (dE bw b' o (.inr (.inr gF)))).elim
    .exact hφ.inj id bw b' o x3 px x4 py
  refine⟨ν',b,?_,?_,rfl,by rw[hνp,g2],rfl⟩
  .have:=h.on (λ_ _ _ hh=>hh) hνold (by omega) ⟨φ',hH⟩ h.gx;rw[nS];exact this
  .show st.nx<(unfold e (xs.getD i e.dflt) (st.nx+1)).2.2;rw[nS];omega
end
end Go.Sx
namespace Go.Sx
set_option linter.unusedVariables false
set_option linter.unusedSimpArgs false
theorem Wcm:∀(l:List Nat) (i j:Nat),Wo8 i l=some j->l[j]?=some i
 | [],i,j,h=>by cases h
 |k::l,i,j,h=>by
  simp only[Wo8]at h;split at h
  .rename_i hb;injection h with h;subst h;have:i=k:=by simpa using hb
   rw[this];rfl
  .cases hp:Wo8 i l with
   |none=>simp[hp]at h
   |some n=>
    simp[hp]at h;subst h;exact Wcm l i n hp
theorem Wiz{m:List Nat}:∀(l r:List Nat),Wld m l=some r->r.length=l.length/\∀(q j:Nat),r[q]?=some j->∃i,l[q]?=some i/\m[j]?=some i
 | [],r,h=>by simp[Wld]at h;subst h;exact⟨rfl,λq j hq=>by simp at hq⟩
 |i::l,r,h=>by
  simp only[Wld]at h;split at h
  .rename_i j r' h1 h2;injection h with h;subst h;obtain⟨h3,h4⟩:=Wiz l r' h2;refine⟨by simp[h3],λq j' hq=>?_⟩;cases q with
   |zero=>simp at hq;subst hq;exact⟨i,rfl,Wcm m i j h1⟩
   |succ q=>exact h4 q j' (by simpa using hq)
  .cases h
theorem Wbu:∀(n:Nat) (todo acc:List Nat) (objs:WZ),acc.Nodup->(WjD n todo acc objs).Nodup
 |0,_,_,_,h=>h
 |n+1,[],acc,objs,h=>h
 |n+1,i::l,acc,objs,h=>by
  simp only[WjD];split
  .exact Wbu n l acc objs h
  .rename_i hi;have tJ:i∉acc:=λhm=>hi ((Waq i acc).2 hm);have h2:(acc++ [i]).Nodup:=by
    rw[Xac];refine⟨h,by simp,λx hx y hy=>?_⟩;simp at hy;subst hy
    exactλe=>tJ (e▸hx)
   split
   .exact Wbu n _ _ objs h2
   .exact Wbu n _ _ objs h2
   .exact Wbu n _ _ objs h2
   .exact Wbu n _ _ objs h
theorem Wf2{m:List Nat}{objs:WZ}:∀(l:List Nat) (j0:Nat) (j:Nat) (ob:Ob),Wj (WcU m objs j0 l) j=some ob->∃i cp,j0<=j/\l[j-j0]?=some i/\Wj objs i=some cp/\ob=Woz m cp
 | [],j0,j,ob,h=>by cases h
 |i::l,j0,j,ob,h=>by
  simp only[WcU]at h;have step:Wj (WcU m objs (j0+1) l) j=some ob->∃i' cp,j0<=j/\(i::l)[j-j0]?=some i'/\Wj objs i'=some cp/\ob=Woz m cp:=λh=>by
   obtain⟨i',cp,h1,h2,h3,h4⟩:=Wf2 l (j0+1) j ob h;refine⟨i',cp,by omega,?_,h3,h4⟩;rw[show j-j0=(j-(j0+1))+1 by omega];simpa using h2
  split at h
  .rename_i cp ho;rw[Wv]at h;split at h
   .rename_i e;subst e;injection h with h;exact⟨i,cp,Xm _,by simp,ho,h.symm⟩
   .exact step h
  .exact step h
theorem WgO{env:List (Nat×AVal)}{f:AVal->AVal}:∀(l:List Nat) (i:Nat) (x:AVal),Wj ((WeB env l).map λp=>(p.1,f p.2)) i=some x->∃y,Wj env i=some y/\x=f y
 | [],i,x,h=>by cases h
 |j::l,i,x,h=>by
  simp only[WeB]at h;split at h
  .rename_i y hy;simp only[Xag]at h;rw[Wv]at h;split at h
   .rename_i e;subst e;injection h with h;exact⟨y,hy,h.symm⟩
   .exact WgO l i x h
  .exact WgO l i x h
section
variable{w0:World}{F:CS}{nt:Slots}{G0 G G':GH}{ν ν':Nat->Nu}{objs objs':WZ}{nx af:Nat}{st ac:St}{a:Act}{w w':World}{P:Program}{T:Tab}{Γ:Ctx}
structure Ren(m:List Nat)(ν ν':Nat->Nu)(af:Nat):Prop where
 nx:∀(i j:Nat),m[j]?=some i->j<af
 nu:∀(i j:Nat),m[j]?=some i->ν' j=ν i
theorem CellRel.ren{m:List Nat}(hm:Ren m ν ν' af):∀(c:Cell) (v:Value),CellRel G ν nx c v->CellRel G ν' af (Wb8 m c) v
 | .val t d,v,h=>h
 | .nils,v,h=>h
 | .rptr t d off,v,h=>h
 | .junk,v,h=>h
 | .own id,v,h=>by
  simp only[Wb8];split
  .rename_i j hj;have hj:=Wcm _ _ _ hj;exact⟨hm.nx _ _ hj,by rw[hm.nu _ _ hj];exact h.2⟩
  .trivial
 | .vw id lo hi,v,h=>by
  simp only[Wb8];split
  .rename_i j hj;have hj:=Wcm _ _ _ hj;exact⟨hm.nx _ _ hj,by rw[hm.nu _ _ hj];exact h.2⟩
  .trivial
 | .aptr id,v,h=>by
  simp only[Wb8];split
  .rename_i j hj;have hj:=Wcm _ _ _ hj;exact⟨hm.nx _ _ hj,by rw[hm.nu _ _ hj];exact h.2⟩
  .trivial
 | .ptr id off,v,h=>by
  simp only[Wb8];split
  .rename_i j hj;have hj:=Wcm _ _ _ hj;exact⟨hm.nx _ _ hj,by rw[hm.nu _ _ hj];exact h.2⟩
  .trivial
 | .eptr id i off,v,h=>by
  simp only[Wb8];split
  .rename_i j hj;have hj:=Wcm _ _ _ hj;exact⟨hm.nx _ _ hj,by rw[hm.nu _ _ hj];exact h.2⟩
  .trivial
 | .clos f caps,v,h=>by
  simp only[Wb8];split
  .rename_i js hj;obtain⟨h1,h2⟩:=Wiz _ _ hj;obtain⟨vs,h3,h4,h5⟩:=h;refine⟨vs,h3,h4.trans h1.symm,λq id u hq hu=>?_⟩;obtain⟨i,h6,h7⟩:=h2 q id hq;obtain⟨h8,h9,cG⟩:=h5 q i u h6 hu;exact⟨hm.nx _ _ h7,h9,by rw[hm.nu _ _ h7];exact cG⟩
  .trivial
theorem CellsRel.ren{m:List Nat}(hm:Ren m ν ν' af){cs:List Cell}{vs:List Value}(h:CellsRel G ν nx cs vs):CellsRel G ν' af (cs.map (Wb8 m)) vs:=by
 refine⟨by simp[h.1],λj c v hc hv=>?_⟩;simp only[Xai]at hc;cases hd:cs[j]? with
 |none=>simp[hd]at hc
 |some d=>
  simp[hd]at hc;subst hc;obtain⟨h1,h2⟩:=h.2 j d v hd hv;exact⟨h1.ren hm,h2⟩
theorem AvRel.ren{m:List Nat}(hm:Ren m ν ν' af):∀(x:AV) (v:Value),AvRel G ν nx x v->AvRel G ν' af (Wse m x) v
 | .one c,v,h=>⟨h.1.ren hm,h.2⟩
 | .agg cs,v,⟨vs,h1,h2⟩=>⟨vs,h1,h2.ren hm⟩
theorem AValRel.ren{m:List Nat}(hm:Ren m ν ν' af):∀(x:AVal) (v:Value),AValRel G ν nx x v->AValRel G ν' af (WlG m x) v
 | .s x,v,h=>AvRel.ren hm x v h
 | .tup xs,v,⟨vs,h1,h2,h3⟩=>⟨vs,h1,by simp[h2],λj x u hx hu=>by
  simp only[Xai]at hx;cases hd:xs[j]? with
  |none=>simp[hd]at hx
  |some d=>
   simp[hd]at hx;subst hx;exact AvRel.ren hm d u (h3 j d u hd hu)⟩
theorem Wpy(slots:List Nat)(dX:∀x v,¬nt.ex x v)(h:Rel w0 F nt G0 G ν st a w):∃ν',Rel w0 F nt G0 G ν' (canon slots st) a w:=by
 obtain⟨m,hm⟩:∃m,m=WjD 400 ((WeB st.env slots).flatMap λp=>Wav p.2) [] st.objs:=⟨_,rfl⟩;have aH:m.Nodup:=by rw[hm];exact Wbu _ _ _ _ (by simp)
 have lA:canon slots st={env:=(WeB st.env slots).map λp=>(p.1,WlG m p.2),objs:=WcU m st.objs 0 m,nx:=m.length}:=by rw[hm];rfl
 obtain⟨ν',hν'⟩:∃ν':Nat->Nu,ν'= λj=>ν ((m[j]?).getD 0):=⟨_,rfl⟩;have jF:∀(i j:Nat),m[j]?=some i->ν' j=ν i:=λi j hj=>by rw[hν'];simp[hj]
 have nU:∀(j:Nat) (ob:Ob),Wj (WcU m st.objs 0 m) j=some ob->∃i cp,m[j]?=some i/\Wj st.objs i=some cp/\ob=Woz m cp:=λj ob ho=>by
  obtain⟨i,cp,_,h2,h3,h4⟩:=Wf2 _ _ _ _ ho;exact⟨i,cp,by simpa using h2,h3,h4⟩
 have nV:Ren m ν ν' m.length:={
  nx:=λi j hj=>(Xz.1 hj).1
  nu:=jF}
 have dx:∀j,Live (WcU m st.objs 0 m) j->∃i,m[j]?=some i/\Live st.objs i:=λj ⟨ob,ho,hd⟩=>by
  obtain⟨i,cp,h1,h2,h3⟩:=nU j ob ho;refine⟨i,h1,cp,h2,λtK=>hd ?_⟩;rw[h3,tK];rfl
 rw[lA];refine⟨ν',h.defers,h.ntm,h.par,λi x hx=>?_,?_,h.gx,λx v hv=>Ww hv (dX x v)⟩
 .obtain⟨y,h1,rfl⟩:=WgO _ _ _ hx;obtain⟨v,h2,h3⟩:=h.env i y h1;exact⟨v,h2,AValRel.ren nV y v h3⟩
 .obtain⟨φ,hφ⟩:=h.h;refine⟨λj=>φ ((m[j]?).getD 0),?_⟩;have kL:∀(i j:Nat),m[j]?=some i->φ ((m[j]?).getD 0)=φ i:=λi j hj=>by simp[hj]
  exact{
   g:=hφ.g
   ob:=λj ob ho=>by
    obtain⟨i,cp,h1,h2,rfl⟩:=nU j ob ho;have:=hφ.ob i cp h2;cases cp with
    |dead=>trivial
    |arr e xs=>
     show Wa9 w (Wm G w e) e.size (ν' j) xs (φ ((m[j]?).getD 0));rw[jF i j h1,kL i j h1];exact this
    |hole e xs k p=>
     simp only[Woz];split
     .rename_i q hq;have hq:=Wcm _ _ _ hq;obtain⟨g1,g2⟩:=this;show q<m.length/\Wf4 w (Wm G w e) e.size (ν' j) (ν' q) xs k (φ ((m[j]?).getD 0));rw[jF i j h1,kL i j h1,jF p q hq];exact⟨(Xz.1 hq).1,g2⟩
     .trivial
    |box cs=>
     obtain⟨b,vs,h4,h5,h6,h7,h8⟩:=this;refine⟨b,vs,by rw[jF i j h1];exact h4,?_,by rw[jF i j h1];exact h6,h7.ren nV,?_⟩
     .rw[jF i j h1,Xad];exact h5
     .rw[jF i j h1,kL i j h1,Xad];exact h8
   gf:=λj b o hj hp=>by
    obtain⟨i,h1,h2⟩:=dx j hj;rw[kL i j h1]at hp;exact hφ.gf i b o h2 hp
   inj:=λj j' b o hj d4 hp dI=>by
    obtain⟨i,h1,h2⟩:=dx j hj;obtain⟨i',ii,ij⟩:=dx j' d4;rw[kL i j h1]at hp;rw[kL i' j' ii]at dI;have:=hφ.inj i i' b o h2 ij hp dI;subst this;have ad:=(Xz.1 h1).1;exact(List.getElem?_inj ad aH).1 (h1.trans ii.symm)
   own:=λj b o hj hp=>by
    obtain⟨i,h1,h2⟩:=dx j hj;rw[kL i j h1]at hp;exact hφ.own i b o h2 hp
   lt:=λj hj=>by
    obtain⟨i,h1,h2⟩:=dx j hj;exact(Xz.1 h1).1
   bl:=λj b o hj hp=>by
    obtain⟨i,h1,h2⟩:=dx j hj;rw[kL i j h1]at hp;exact hφ.bl i b o h2 hp
   le:=hφ.le}
theorem Wie(h:Rel w0 F nt G0 G ν st a w){r:Nat}{ix:Option Nat}(hg:WhU st r ix=some (true,ac)):∃ν',Rel w0 F nt G0 G ν' ac a w:=by
 unfold WhU at hg;split at hg
 .rename_i c i jJ;obtain⟨s,hs,hg⟩:=Xs.1 hg;simp only[Prod.mk.injEq]at hg;obtain⟨rfl,rfl⟩:=hg;have ad:∃(e:Ty) (xs:List e.den),Wj st.objs r=some (.arr e xs)/\i<xs.length:=by
   unfold Wrg at jJ;split at jJ
   .split at jJ
    .rename_i e xs ho;simp only[Option.some.injEq,Prod.mk.injEq]at jJ;obtain⟨h1,rfl⟩:=jJ;obtain⟨h2,h3⟩:=Wc2 h1;exact⟨e,xs,ho,by omega⟩
    .cases jJ
   .split at jJ
    .rename_i e xs n ho hn;simp only[Option.some.injEq,Prod.mk.injEq]at jJ;obtain⟨h1,rfl⟩:=jJ;obtain⟨h2,h3⟩:=Wc2 h1;exact⟨e,xs,ho,by omega⟩
    .cases jJ
  obtain⟨e,xs,ho,ad⟩:=ad;obtain⟨ν',b,h1,_⟩:=Wh4 h ho ad hs;exact⟨ν',h1⟩
 .cases hg
theorem Whv{g:Ghost}(dX:(∀x v,¬nt.ex x v)\/g.quiet=true)(h:Rel w0 F nt G0 G ν st a w)(hg:WcW g st=some (true,ac)):∃G' ν',Rel w0 F nt G0 G' ν' ac a w:=by
 cases g with
 |canon slots=>
  simp only[WcW]at hg;injection hg with hg;injection hg with _ hg;subst hg;obtain⟨ν',h'⟩:=Wpy slots (dX.resolve_right (by simp[Ghost.quiet])) h;exact⟨G,ν',h'⟩
 |adopt slot e=>
  simp only[WcW]at hg;split at hg
  .rename_i hs;injection hg with hg;injection hg with _ hg;subst hg;obtain⟨v,hv,hr⟩:=h.env _ _ hs;have lB:v= .slice none 0 0:=hr.1;subst lB;have h2:=h.on (λ_ _ _ hh=>hh) (Weg ν st.nx _) (Xcw _) (h.h.adopt e) h.gx;exact⟨G,_,h2.rebind hv ⟨Wih e,rfl⟩⟩
  .injection hg with hg;injection hg with _ hg;subst hg;exact⟨G,ν,h⟩
  .cases hg
 |freeze slot=>
  simp only[WcW]at hg;split at hg
  .rename_i id hs;split at hg
   .rename_i e xs ho;injection hg with hg;injection hg with _ hg;subst hg;obtain⟨G1,h1,h2,h3,h4⟩:=h.h.freezeL h.gx [id];obtain⟨v,hv,hr⟩:=h.env _ _ hs;have lB:v=(ν id).hdr:=hr.1.2;have h5:=h.on h1 (λ_ _=>rfl) (Xm _) h2 h3;exact⟨G1,ν,h5.rebind hv ⟨⟨v,rfl,lB▸h4 id (by simp) e xs ho⟩,hr.2⟩⟩
   .cases hg
  .cases hg
 |adoptC slot off e=>
  simp only[WcW]at hg;split at hg
  .rename_i id hs;split at hg
   .rename_i cs ho;split at hg
    .rename_i hc;injection hg with hg;injection hg with _ hg;subst hg;have bZ:st.nx≠id:=λe=>by
      obtain⟨φ,hφ⟩:=h.h;have:=hφ.lt id ⟨_,ho,by simp⟩;omega
     have h2:=h.h.adopt e;have iT:Wj ((st.nx,Ob.arr e [])::st.objs) id=some (.box cs):=by rw[Wv,Wc bZ];exact ho
     have h3:=h2.mk_box iT (bY:=cs.set off (.own st.nx)) (by simp) (λvs ee=>ee.set λv hv=>by
      have:v= .slice none 0 0:=(ee.2 off _ v hc hv).1;subst this;exact Wih e)
     exact⟨G,_,h.on (λ_ _ _ hh=>hh) (Weg ν st.nx _) (Xcw _) h3 h.gx⟩
    .injection hg with hg;injection hg with _ hg;subst hg;exact⟨G,ν,h⟩
    .cases hg
   .cases hg
  .cases hg
 |freezeC slot off=>
  simp only[WcW]at hg;split at hg
  .rename_i id hs;split at hg
   .rename_i cs ho;split at hg
    .rename_i j hc;split at hg
     .rename_i e xs kM;injection hg with hg;injection hg with _ hg;subst hg;obtain⟨G1,h1,h2,h3,h4⟩:=h.h.freezeL h.gx [j];have bZ:j≠id:=λe=>by subst e;rw[ho]at kM;cases kM
      have iT:Wj ((j,Ob.dead)::st.objs) id=some (.box cs):=by rw[Wv,Wc bZ];exact ho
      have h5:HRel w0 F G1 ν ((id,.box (cs.set off (.val (.slice e.ro) (WbQ e xs))))::(j,.dead)::st.objs) st.nx w:=by
       refine HRel.mk_box h2 iT (by simp) (λvs ee=>ee.set λv hv=>?_);have lB:v=(ν j).hdr:=(ee.2 off _ v hc hv).1.2;exact⟨v,rfl,lB▸h4 j (by simp) e xs kM⟩
      exact⟨G1,ν,h.on h1 (λ_ _=>rfl) (Xm _) h5 h3⟩
     .cases hg
    .injection hg with hg;injection hg with _ hg;subst hg;exact⟨G,ν,h⟩
    .injection hg with hg;injection hg with _ hg;subst hg;exact⟨G,ν,h⟩
    .cases hg
   .cases hg
  .cases hg
 |nest d e=>injection hg with hg;injection hg with _ hg;subst hg;exact⟨G,ν,h⟩
 |view d=>injection hg with hg;injection hg with _ hg;subst hg;exact⟨G,ν,h⟩
 |opn d=>injection hg with hg;injection hg with _ hg;subst hg;exact⟨G,ν,h⟩
 |shutD d off=>injection hg with hg;injection hg with _ hg;subst hg;exact⟨G,ν,h⟩
 |empt slot e=>
  simp only[WcW]at hg;split at hg
  .split at hg
   .rename_i e' ho;split at hg
    .rename_i hc;injection hg with hg;injection hg with _ hg;subst hg;exact⟨G,ν,h.on (λ_ _ _ hh=>hh) (λ_ _=>rfl) (Xm _) (h.h.empt ho hc.1) h.gx⟩
    .cases hg
   .cases hg
  .cases hg
 |unfE slot=>
  simp only[WcW]at hg;split at hg
  .rename_i r i hs;obtain⟨s,cu,hg⟩:=Xs.1 hg;injection hg with _ hg;subst hg;obtain⟨v,hv,hr⟩:=h.env _ _ hs;have fh:∃(e:Ty) (xs:List e.den),Wj st.objs r=some (.arr e xs):=by
    unfold Wiv at cu;split at cu
    .rename_i e xs ho;exact⟨e,xs,ho⟩
    .cases cu
   obtain⟨e,xs,ho⟩:=fh;obtain⟨⟨_,ad,b,hb,rfl⟩,_⟩:=hr;obtain⟨S,az⟩:=h.h.obj ho;obtain⟨ν',b',h1,h2,h3,h4,h5⟩:=Wh4 h ho (by rw[az.1];exact ad) cu;rw[hb]at h3;injection h3 with h3;subst h3;refine⟨G,ν',h1.rebind hv ⟨⟨h2,b,by rw[h4];rfl,?_⟩,rfl⟩⟩;rw[h4];rfl
  .cases hg
 |unfS slot ix=>
  simp only[WcW]at hg;split at hg
  .obtain⟨ν',h'⟩:=Wie h hg;exact⟨G,ν',h'⟩
  .cases hg
 |unfC slot off ix=>
  simp only[WcW]at hg;split at hg
  .split at hg
   .split at hg
    .obtain⟨ν',h'⟩:=Wie h hg;exact⟨G,ν',h'⟩
    .cases hg
   .cases hg
  .cases hg
 |refold slot=>
  simp only[WcW]at hg;split at hg
  .obtain⟨s,cu,hg⟩:=Xs.1 hg;injection hg with _ hg;subst hg;exact⟨G,ν,Wgr h cu⟩
  .cases hg
 |shut slot off=>
  simp only[WcW]at hg;split at hg
  .split at hg
   .split at hg
    .split at hg
     .obtain⟨s,cu,hg⟩:=Xs.1 hg;injection hg with _ hg;subst hg;exact⟨G,ν,Wgr h cu⟩
     .injection hg with hg;injection hg with _ hg;subst hg;exact⟨G,ν,h⟩
     .cases hg
    .cases hg
   .cases hg
  .cases hg
 |solo slot=>
  simp only[WcW]at hg;split at hg
  .rename_i id lo hi hs;split at hg
   .rename_i e xs ho;injection hg with hg;injection hg with _ hg;subst hg;obtain⟨v,hv,hr⟩:=h.env _ _ hs;obtain⟨⟨_,g1,g2,g3,rfl⟩,_⟩:=hr;have h2:=h.on (λ_ _ _ hh=>hh) (Weg ν st.nx _) (Xcw _) (h.h.solo ho g1 g2) h.gx;exact⟨G,_,h2.rebind hv ⟨WkQ,Wmx _ _ _⟩⟩
   .cases hg
  .injection hg with hg;injection hg with _ hg;subst hg;exact⟨G,ν,h⟩
  .cases hg
 |soloC slot off=>
  simp only[WcW]at hg;split at hg
  .rename_i id o hs;split at hg
   .rename_i cs ho;split at hg
    .rename_i j lo hi hc;split at hg
     .rename_i e xs kM;injection hg with hg;injection hg with _ hg;subst hg;have bZ:j≠id:=λe=>by subst e;rw[ho]at kM;cases kM
      have qC:st.nx≠id:=λe=>by
       obtain⟨φ,hφ⟩:=h.h;have:=hφ.lt id ⟨_,ho,by simp⟩;omega
      have ba:lo<=hi/\hi<=(ν j).len:=by
       obtain⟨S,b,vs,k1,k2,k3,k4,k5⟩:=h.h.obj ho;have ad:o+off<vs.length:=by rw[k4.1];exact(Xz.1 hc).1
       obtain⟨⟨_,g1,g2,_⟩,_⟩:=k4.2 _ _ _ hc (Xp ad);exact⟨g1,g2⟩
      have h2:=h.h.solo kM ba.1 ba.2;have iT:Wj ((st.nx,Ob.arr e ((xs.take hi).drop lo))::(j,Ob.dead)::st.objs) id=some (.box cs):=by rw[Wv,Wc qC,Wv,Wc bZ];exact ho
      have pQ:j<st.nx:=by
       obtain⟨φ,hφ⟩:=h.h;exact hφ.lt j ⟨_,kM,by simp⟩
      have h3:=h2.mk_box iT (bY:=cs.set (o+off) (.own st.nx)) (by simp) (λvs ee=>ee.set λv hv=>by
       obtain⟨_,_,_,_,so⟩:=(ee.2 _ _ v hc hv).1;rw[Weg ν st.nx _ j pQ]at so;rw[so];exact WkQ)
      exact⟨G,_,h.on (λ_ _ _ hh=>hh) (Weg ν st.nx _) (Xcw _) h3 h.gx⟩
     .cases hg
    .injection hg with hg;injection hg with _ hg;subst hg;exact⟨G,ν,h⟩
    .cases hg
   .cases hg
  .cases hg
theorem WcE:∀(l:List Ghost) (st ac:St) (G:GH) (ν:Nat->Nu),((∀x v,¬nt.ex x v)\/l.all Ghost.quiet=true)->Rel w0 F nt G0 G ν st a w->Wbl l st=some (true,ac)->∃G' ν',Rel w0 F nt G0 G' ν' ac a w
 | [],st,ac,G,ν,dX,h,hg=>by injection hg with hg;injection hg with _ hg;subst hg;exact⟨G,ν,h⟩
 |g::l,st,ac,G,ν,dX,h,hg=>by
  simp only[Xbk,Xg]at dX;simp only[Wbl]at hg;split at hg
  .rename_i c s tL;split at hg
   .rename_i c' s' hl;simp only[Option.some.injEq,Prod.mk.injEq,Xg]at hg;obtain⟨⟨rfl,rfl⟩,rfl⟩:=hg;obtain⟨G1,ν1,h1⟩:=Whv (dX.imp_right (·.1)) h tL;exact WcE l s s' G1 ν1 (dX.imp_right (·.2)) h1 hl
   .cases hg
  .cases hg
end
end Go.Sx
namespace Go.Sx
set_option linter.unusedVariables false
set_option linter.unusedSimpArgs false
section
variable{T:Tab}{Γ:Ctx}{env tM:List (Nat×AVal)}{objs objs':WZ}{nx af:Nat}
theorem WbW{st st2:St}:∀(l:List (Nat×Operand)),(∀p∈l,ev st2 p.2=ev st p.2)->WbP st2 l=WbP st l
 | [],_=>rfl
 |(i,x)::l,h=>by
  have h1:ev st2 x=ev st x:=h (i,x) (Xh ..);simp only[WbP,h1,WbW l λp hp=>h p (Xe _ hp)]
theorem Wkr{st st2:St}:∀(l:List Operand),(∀x∈l,ev st2 x=ev st x)->evs st2 l=evs st l
 | [],_=>rfl
 |x::l,h=>by simp only[evs,h x (Xh ..),Wkr l λp hp=>h p (Xe _ hp)]
theorem WfJ{st st2:St}:∀(l:List Operand),(∀x∈l,ev st2 x=ev st x)->WeR st2 l=WeR st l
 | [],_=>rfl
 |x::l,h=>by simp only[WeR,h x (Xh ..),WfJ l λp hp=>h p (Xe _ hp)]
theorem Wiy{st st2:St}(x:Option Operand)(h:∀y∈x.toList,ev st2 y=ev st y):WjQ st2 x=WjQ st x:=by
 cases x with
 |none=>rfl
 |some y=>simp only[WjQ,h y (by simp)]
def Wc7(st st2:St)(v:AVal):Prop:=∀id∈Wav v,Wj st2.objs id=Wj st.objs id
theorem Wly{st st2:St}{t:TypeId}{v:AVal}(h:Wc7 st st2 v):WfN T st2 t v=WfN T st t v:=by
 unfold WfN;cases v with
 |tup xs=>rfl
 |s x=>
  cases x with
  |agg cs=>rfl
  |one c=>
   cases c with
   |ptr id off=>have:=h id (by simp[Wav,Wd4,WaH]);simp only[this]
   |eptr id i off=>have:=h id (by simp[Wav,Wd4,WaH]);simp only[this]
   |_=>rfl
theorem WjY{st st2:St}{t:TypeId}{v:AVal}(h:Wc7 st st2 v):Wez T st2 t v=Wez T st t v:=by
 unfold Wez;cases v with
 |tup xs=>rfl
 |s x=>
  cases x with
  |agg cs=>rfl
  |one c=>
   cases c with
   |aptr id=>have:=h id (by simp[Wav,Wd4,WaH]);simp only[this]
   |_=>rfl
theorem WkF{st:St}{t:TypeId}{id:Nat}:WhL T st t (.s (.one (.own id)))=match Wj T t with
  |some ⟨_,false,.slice _⟩=>obL (Wj st.objs id)
  |_=>none:=by
 unfold WhL;generalize Wj T t=q;rcases q with _|⟨ty,agg,shape⟩
 .rfl
 .cases ty<;>cases agg<;>cases shape<;>rfl
theorem Wlu{st st2:St}{t:TypeId}{v:AVal}(h:∀id,v≠ .s (.one (.own id))):WhL T st2 t v=WhL T st t v:=by
 unfold WhL;generalize Wj T t=q;rcases q with _|⟨ty,agg,shape⟩
 .cases v<;>rfl
 .cases v with
  |tup xs=>cases ty<;>cases agg<;>cases shape<;>rfl
  |s x=>
   cases x with
   |agg cs=>cases ty<;>cases agg<;>cases shape<;>rfl
   |one c=>
    cases c with
    |own id=>exact Ww rfl (h id)
    |val t' d=>cases ty<;>cases agg<;>cases shape<;>cases t'<;>rfl
    |_=>cases ty<;>cases agg<;>cases shape<;>rfl
theorem Wrr(v:AVal):(∃id,v= .s (.one (.own id)))\/∀id,v≠ .s (.one (.own id)):=by
 rcases v with x|xs
 .rcases x with c|cs
  .cases c with
   |own id=>exact .inl ⟨id,rfl⟩
   |_=>exact .inr λid h=>by injection h with h;injection h with h;cases h
  .exact .inr λid h=>by injection h with h;cases h
 .exact .inr λid h=>by cases h
theorem Wnz{st st2:St}{t:TypeId}{v:AVal}(h:Wc7 st st2 v):WhL T st2 t v=WhL T st t v:=by
 rcases Wrr v with⟨id,rfl⟩|hv
 .rw[WkF,WkF,h id (by simp[Wav,Wd4,WaH])]
 .exact Wlu hv
theorem Wf7{st st2:St}{t:TypeId}{v:AVal}{f:Nat}(h:Wc7 st st2 v):Wbv T st2 t v f=Wbv T st t v f:=by
 unfold Wbv;generalize Wff T t f=q;rcases q with _|⟨off,te⟩
 .cases v<;>rfl
 .cases v with
  |tup xs=>rfl
  |s x=>
   cases x with
   |agg cs=>rfl
   |one c=>
    cases c with
    |ptr id o=>
     have:=h id (by simp[Wav,Wd4,WaH]);show(λq:Option Ob=>match q with|some (.box _)=>some (true,AVal.s (.one (.ptr id (o+off))))|_=>none) (Wj st2.objs id)=(λq:Option Ob=>match q with|some (.box _)=>some (true,AVal.s (.one (.ptr id (o+off))))|_=>none) (Wj st.objs id);rw[this]
    |eptr id i o=>
     have:=h id (by simp[Wav,Wd4,WaH]);show(λq:Option Ob=>match q with|some (.arr _ _)=>some (true,AVal.s (.one (.eptr id i (o+off))))|_=>none) (Wj st2.objs id)=(λq:Option Ob=>match q with|some (.arr _ _)=>some (true,AVal.s (.one (.eptr id i (o+off))))|_=>none) (Wj st.objs id);rw[this]
    |_=>rfl
theorem Wf6{st st2:St}{t:TypeId}{v i:AVal}(h:Wc7 st st2 v):Wbn T st2 t v i=Wbn T st t v i:=by
 unfold Wbn;generalize Wj T t=q;generalize asI i=z;rcases q with _|⟨ty,agg,shape⟩
 .rfl
 rcases z with _|n
 .cases shape<;>rfl
 cases shape with
 |slice et=>
  show(match Wj T et with|some te=>_|none=>_)=(match Wj T et with|some te=>_|none=>_);generalize Wj T et=q;rcases q with _|te
  .rfl
  .show(if te.plain=true then _ else _)=(if te.plain=true then _ else _);by_cases hp:te.plain=true
   .rw[We hp,We hp];cases v with
    |tup xs=>rfl
    |s x=>
     cases x with
     |agg cs=>rfl
     |one c=>
      cases c with
      |own id=>
       have:=h id (by simp[Wav,Wd4,WaH]);show obI te n id (Wj st2.objs id)=obI te n id (Wj st.objs id);rw[this]
      |vw id lo hi=>
       have:=h id (by simp[Wav,Wd4,WaH]);show WsP te n id lo hi (Wj st2.objs id)=WsP te n id lo hi (Wj st.objs id);rw[this]
      |val t' d=>cases t'<;>rfl
      |_=>rfl
   .rw[Wc hp,Wc hp]
 |arr k et=>
  show(match Wj T et with|some te=>_|none=>_)=(match Wj T et with|some te=>_|none=>_);generalize Wj T et=q;rcases q with _|te
  .rfl
  .show(if te.plain=true then _ else _)=(if te.plain=true then _ else _);by_cases hp:te.plain=true
   .rw[We hp,We hp];cases v with
    |tup xs=>rfl
    |s x=>
     cases x with
     |agg cs=>rfl
     |one c=>
      cases c with
      |aptr id=>
       have:=h id (by simp[Wav,Wd4,WaH]);show WsJ te n k id (Wj st2.objs id)=WsJ te n k id (Wj st.objs id);rw[this]
      |_=>rfl
   .rw[Wc hp,Wc hp]
 |_=>rfl
theorem Wnv{st st2:St}{v:AVal}(h:Wc7 st st2 v):WqC st2 v=WqC st v:=by
 rcases Wrr v with⟨id,rfl⟩|hv
 .exact h id (by simp[Wav,Wd4,WaH])
 .unfold WqC;split
  .rename_i id;exact Ww rfl (hv id)
  .rfl
theorem Wl7{st st2:St}{s d:TypeId}{v:AVal}(h:Wc7 st st2 v):Wiq T st2 s d v=Wiq T st s d v:=by
 unfold Wiq;rw[Wnv h]
theorem Wnj{st st2:St}{v:AVal}(h:Wc7 st st2 v):Wnh st2 v=Wnh st v:=by
 unfold Wnh;cases v with
 |tup xs=>rfl
 |s x=>
  cases x with
  |agg cs=>rfl
  |one c=>
   cases c with
   |ptr id off=>have:=h id (by simp[Wav,Wd4,WaH]);simp only[this]
   |eptr id i off=>have:=h id (by simp[Wav,Wd4,WaH]);simp only[this]
   |aptr id=>have:=h id (by simp[Wav,Wd4,WaH]);simp only[this]
   |_=>rfl
theorem Wnx{st st2:St}{op:BinOp}{t:TypeId}{v z:AVal}(h:Wc7 st st2 v):Wn9 T st2 op t v z=Wn9 T st op t v z:=by
 unfold Wn9;split
 .rename_i id;rw[h id (by simp[Wav,Wd4,WaH])]
 .rfl
theorem Wbq{α β:Type}{x:Option α}{f g:α->Option β}(h:∀v,x=some v->f v=g v):x.bind f=x.bind g:=by
 cases x with
 |none=>rfl
 |some v=>exact h v rfl
theorem WfX{st st2:St}(op:Op)(hm:∀t x l h m,op≠ .slice t x l h m)(he:∀x∈W0 op,ev st2 x=ev st x)(hl:WrO op=true->∀x∈W0 op,∀v,ev st x=some v->Wc7 st st2 v):W1 T st2 op=W1 T st op:=by
 cases op with
 |move x=>simp only[W1,he x (by simp[W0])]
 |assign x=>simp only[W1,he x (by simp[W0])]
 |pick c a b=>simp only[W1,he c (by simp[W0]),he a (by simp[W0]),he b (by simp[W0])]
 |load t a=>
  simp only[W1,he a (by simp[W0])];exact Wbq λv hv=>by rw[Wly (hl rfl a (by simp[W0]) v hv),WjY (hl rfl a (by simp[W0]) v hv)]
 |nilCheck x=>
  simp only[W1,he x (by simp[W0])];exact Wbq λv hv=>Wnj (hl rfl x (by simp[W0]) v hv)
 |binOp op t x y z=>
  simp only[W1,he x (by simp[W0]),he y (by simp[W0])];split
  .rename_i a b h1 h2;rw[Wnx (hl rfl x (by simp[W0]) _ h1)]
  .rfl
 |unOp op t x=>simp only[W1,he x (by simp[W0])]
 |convert s d x=>
  simp only[W1,he x (by simp[W0])];exact Wbq λv hv=>Wl7 (hl rfl x (by simp[W0]) v hv)
 |slice t x l h m=>exact Ww rfl (hm t x l h m)
 |fieldAddr s x f=>
  simp only[W1,he x (by simp[W0])];exact Wbq λv hv=>Wf7 (hl rfl x (by simp[W0]) v hv)
 |field t x f=>simp only[W1,he x (by simp[W0])]
 |indexAddr t x i=>
  simp only[W1,he x (by simp[W0]),he i (by simp[W0])];split
  .rename_i a b h1 h2;exact Wf6 (hl rfl x (by simp[W0]) _ h1)
  .rfl
 |index t x i=>simp only[W1,he x (by simp[W0]),he i (by simp[W0])]
 |extract t ix=>simp only[W1,he t (by simp[W0])]
 |makeFunc f first captured=>
  cases f with
  |func f=>simp only[W1,WfJ (st:=st) (st2:=st2) captured.toList λx hx=>he x (by simp[W0];right;simpa using hx)]
  |_=>rfl
 |call c=>
  have au:∀x∈c.args.toList,ev st2 x=ev st x:=λx hx=>he x (Xf _ hx);have lC:∀x∈c.args.toList,∀v,ev st x=some v->Wc7 st st2 v:=λx hx=>hl rfl x (Xf _ hx);simp only[W1];split
  .rename_i x t _ ha _;rw[au x (by rw[ha];simp)];exact Wbq λv hv=>Wnz (lC x (by rw[ha];simp) v hv)
  .rename_i x y _ _ _ ha _;rw[au x (by rw[ha];simp),au y (by rw[ha];simp)]
  .rename_i x y _ _ _ ha _;rw[au x (by rw[ha];simp),au y (by rw[ha];simp)]
  .rfl
 |_=>rfl
end
end Go.Sx
