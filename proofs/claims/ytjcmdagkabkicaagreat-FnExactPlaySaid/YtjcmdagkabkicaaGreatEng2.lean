/- The abstract machine, part 2: a reflective interpreter of the program's code over data, with its soundness over the model. -/
import Derived.Test.YtjcmdagkabkicaaGreatEng1
open Bool renaming and_eq_true→Xi,not_eq_true'→Xai,false_eq_true→Xap
open List renaming nodup_cons→Xac,getElem?_append_left→Xcj,getElem?_append_right→Xbv,ext_getElem?→Xdl,getElem?_eq_none→Xbp,replicate→Xp,prefix_refl→Xft,nil_prefix→Xhe,prefix_append_right_inj→Xew,length_replicate→Xgk,append_nil→Xcp,getElem?_toArray→Xek,append_assoc→Xbf,getElem?_append→Xar,getElem?_take→Xbo,getElem?_drop→Xbn,getElem?_eq_some_iff→Xab,drop_drop→Xdq,take_append_drop→Xdp,length_take→Xbj,mem_cons_self→Xj,mem_cons_of_mem→Xf,mem_map_of_mem→Xam,pairwise_cons→Xy,mem_append_left→Xn,mem_append_right→Xg,length_append→Xaa,map_append→Xz,pairwise_append→Xah,mem_append→Xo,mem_map→Xw,mem_cons→Xs,getElem?_of_mem→Xdu,getElem?_eq_getElem→Xq,eq_nil_of_length_eq_zero→Xx,map_toArray→Xdv,map_cons→Xaf,map_nil→Xcg,append→Xh,take_length→Xdf,mem_singleton→Xag,length→Xb,append_inj→Xfz,length_map→Xu,mem_of_mem_take→Xco,mem_of_mem_drop→Xes,nodup_append→Xae,all_eq_true→Xad,nodup_nil→Xdd,length_drop→Xdw,sublist_append_right→Xfm,getElem?_map→Xaj,all_cons→Xcc,mem_of_getElem?→Xas
open Array renaming range→Xch,foldl_toList→Xfb,length_toList→Xaq
open Nat renaming succ_mul→Xbr,mul_le_mul_right→Xax,add_zero→Xbe,le_trans→Xak,zero_mul→Xeq,le_refl→Xm,min_eq_left→Xcd,add_assoc→Xba,lt_succ_self→Xbt,add_mul→Xcs,eq_of_beq_eq_true→Xck,add_sub_cancel_left→Xbu,le_succ→Xdc
open Int renaming mul_le_mul_of_nonneg_right→Xep
open Option renaming map_eq_some_iff→Xt,map_some→Xbx,bind_eq_some_iff→Xau,bind_some→Xd
namespace Go.Sx
set_option linter.unusedVariables false
set_option linter.unusedSimpArgs false
theorem Wdb:∀l:List Nat,Wbw l=true↔l.Nodup
 | []=>by simp[Wbw]
 |i::l=>by
  have h:=Wg9 i l;simp only[Wbw,Xi,Xai,Xac,Wdb l]
  grind
theorem WsQ{α:Type}(l:List α)(d:α):∀(n i:Nat),i<n*l.length->(rep l n)[i]?=some (l.getD (i%l.length) d)
 |0,i,h=>by simp at h
 |n+1,i,h=>by
  rw[rep];by_cases hi:i<l.length
  .grind [Xcj,Nat.mod_eq_of_lt,List.getD]
  .have dq:l.length<=i:=by omega
   rw[Xbv dq,WsQ l d n (i-l.length) (by grind)];rw[Nat.mod_eq_sub_mod dq]
theorem Wgo(z:Array Value)(n:Nat):((Xch (n*z.size)).map λi=>z[i%z.size]!).toList=rep z.toList n:=by
 apply Xdl;intro i;by_cases hi:i<n*z.size
 .rw[WsQ z.toList default n i (by omega)]
  grind
 grind [Xbp,Wl2]
section
variable{w0:World}{F:CS}{nt:Slots}{G0 G:GH}{ν:Nat->Nu}{objs:Wab}{nx:Nat}{st af:St}{a:Act}{w w':World}{P:Program}{T:Tab}
theorem WiB(hh:HRel w0 F G ν objs nx w){e:Ty}(he:e.data=true):
  ∀(l:List (Nat×AVal)) (ps:List (Nat×Value)) (xs ys:List e.den) (vs:Array Value),Wef (Enc G e) xs vs.toList->ps.length=l.length->
   (∀(j:Nat) (p:Nat×AVal) (q:Nat×Value),l[j]?=some p->ps[j]?=some q->p.1=q.1/\AValRel G ν nx p.2 q.2)->WqY e objs l xs=some ys->
   ∃au,Instr.fill (λi=>some (i*e.size,e.size)) vs ps=some au/\Wef (Enc G e) ys au.toList/\ys.length=xs.length
 | [],[],xs,ys,vs,hc,_,_,h=>by simp[WqY]at h;subst h;exact⟨vs,rfl,hc,rfl⟩
 |(i,x)::l,[],_,_,_,_,hl,_,_=>by simp at hl
 | [],_::_,_,_,_,_,hl,_,_=>by simp at hl
 |(i,x)::l,(i',v)::ps,xs,ys,vs,hc,hl,hp,h=>by
  obtain⟨hi,hx⟩:=hp 0 _ _ rfl rfl;simp only at hi hx;subst hi;simp only[WqY]at h;split at h
  .rename_i ds gR;split at h
   .rename_i d hf;split at h
    .rename_i ac;obtain⟨h1,_⟩:=WdQ hx gR;have ga:=WmQ hh h1 he hf;have ad:v.cells.toList.length=e.size:=W5 _ _ _ ga;have fO:vs.toList.length=xs.length*e.size:=Wd1 (λx c hc=>W5 e x c hc) _ _ hc;have cw:i*e.size+e.size<=xs.length*e.size:=by rw[←Xbr];exact Xax _ ac
     have ey:=Wja v.cells.toList (i*e.size) 0 vs (by simp_all);simp only[Xbe]at ey;have gd:=WlK (λx c hc=>W5 e x c hc) xs vs.toList i d v.cells.toList hc ac ga;obtain⟨au,h4,h5,h6⟩:=WiB hh he l ps (xs.set i d) ys _ (by rw[ey,ad];exact gd) (by simp_all) (λj p q hj hq=>hp (j+1) p q (by simp_all) (by simp_all)) h;refine⟨au,?_,h5,by grind⟩;simp only[Instr.fill];rw[Wc (by simp_all)];rw[←h4];congr 1;rw[←Xfb];simp
    grind
   grind
  grind
theorem Wi0(hT:Wai P T)(hr:Rel w0 F nt G0 G ν st a w){o:Oper}(hd:∀d,o.dst=some d->nt.Ok d){t:TypeId}{n:Nat}{parts:Array (Nat×Operand)}(ho:o.op= .buildSlice t n parts)
  {ty:Ty} {et:TypeId} {te:TE} {ps:List (Nat×AVal)} {xs:List te.ty.den} (hl:Wn T t=some ⟨ty,false,.slice et⟩) (bd:Wn T et=some te)
  (h1:ps.length=parts.toList.length) (h2:∀(j:Nat) (p:Nat×AVal) (q:Nat×Operand),ps[j]?=some p->parts.toList[j]?=some q->p.1=q.1/\AValRel G ν st.nx p.2 (a.eval q.2))
  (hf:WqY te.ty st.objs ps (Xp n te.ty.dflt)=some xs) (cj:n*te.ty.size<=16777216) (bn:te.ty.data=true) (hp:te.plain=true):
  Done P w0 F nt G0 o a w (st.new o.dst (.arr te.ty xs) (.s (.one (.own st.nx)))):=by
 have hu:=(hT _ _ hl).und.2.1;obtain⟨z,hz,dY⟩:=Wfa (w:=w) (hT _ _ bd);rw[WbF hp]at dY;have hY:z.cells.size=te.ty.size:=by rw[←Xaq,dY,Wbq]
 have eA:=Wgo z.cells n;rw[hY,dY]at eA;obtain⟨au,h3,h4,h5⟩:=WiB hr.h bn ps (parts.toList.map λp=>(p.1,a.eval p.2)) _ xs ((Xch (n*te.ty.size)).map λi=>z.cells[i%te.ty.size]!) (by grind [Wg5]) (by simp[h1]) (λj p q hp hq=>by
   grind) hf
 have gS:xs.length=n:=by grind
 have fL:=WbW te.ty;have hn:n<=16777216:=Xak (Nat.le_mul_of_pos_right n fL) cj;have qb:au.size=n*te.ty.size:=by
  rw[←Xaq,Wd1 (λx c hc=>W5 te.ty x c hc) _ _ h4,gS]
 obtain⟨⟨ν',h6⟩,_⟩:=Woe (t:=et) (vs:=au) hr hd (e:=te.ty) bn (xs:=xs) (cap:=n) (cs:=au.toList) (by omega) (by unfold maxLen;omega) qb h4 (Xft _) w rfl rfl rfl rfl;rw[gS]at h6;refine⟨_,_,_,G,ν',?_,.inl rfl,h6⟩;have hZ:(parts.map λx=>match x with|(i,x)=>(i,a.eval x)).toList=parts.toList.map λp=>(p.1,a.eval p.2):=by simp
 simp only[execOp,ho,Instr.buildSlice,Sem.run_bind,Wl hu,Result.andThen_ok,(hT _ _ bd).sizeOf,WY hp,Wc (show¬n*te.ty.size>2^24 by omega),Sem.run_pure];by_cases h0:n*te.ty.size=0
 .have qc:n=0:=by rcases Nat.mul_eq_zero.1 h0 with h|h<;>omega
  have e1:((Xch (n*te.ty.size)).map λi=>z.cells[i%te.ty.size]!)= #[]:=by grind
  rw[e1]at h3;have e2:∀zz:Array Value,((Xch (n*te.ty.size)).map λi=>zz[i%zz.size]!)= #[]:=λzz=>by grind
  simp only[Wf h0,Sem.run_pure,Result.andThen_ok,e2,hZ,h3,WcZ];rfl
 simp_all [Wc,Sem.run_bind,Result.andThen_ok,Sem.run_pure,WcZ]
theorem WjV(hT:Wai P T)(hr:Rel w0 F nt G0 G ν st a w){o:Oper}(hd:∀d,o.dst=some d->nt.Ok d){t:TypeId}{n c:Operand}(ho:o.op= .makeSlice t n c)
  {ty:Ty} {et:TypeId} {te:TE} {n' c':Int} {k k':IntKind} (hl:Wn T t=some ⟨ty,false,.slice et⟩) (bd:Wn T et=some te) (hn:a.eval n= .int k n') (hc:a.eval c= .int k' c')
  (h0:0<=n') (h1:n'<=c') (h2:Wz c'.toNat=true) (bn:te.ty.data=true) (hp:te.plain=true):
  Done P w0 F nt G0 o a w (st.new o.dst (.arr te.ty (Xp n'.toNat te.ty.dflt)) (.s (.one (.own st.nx)))):=by
 have hu:=(hT _ _ hl).und.2.1;obtain⟨i,z,hi,hs,hz,dY,mt⟩:=(hT _ _ bd).info;rw[WbF hp]at dY;rw[WY hp]at hs;have hY:z.cells.size=te.ty.size:=by rw[←Xaq,dY,Wbq]
 have ax:c'.toNat<=1073741824:=by simpa [Wz]using h2
 have eA:=Wgo z.cells c'.toNat;rw[hY,dY]at eA;have q7:rep (WbD te.ty) n'.toNat<+:rep (WbD te.ty) c'.toNat:=by
  have:∀(l:List Value) (p q:Nat),rep l p<+:rep l (p+q):=λl p q=>by
   induction p with
   |zero=>exact Xhe
   |succ p ih=>grind [Nat.succ_add,rep,Xew]
  have h:=this (WbD te.ty) n'.toNat (c'.toNat-n'.toNat)
  rwa [show n'.toNat+(c'.toNat-n'.toNat)=c'.toNat by omega]at h
 have hb:(i.bytes:Int)*c'<=281474976710656:=by
  have h3:(i.bytes:Int)*c'<=4096*c':=Xep (by omega) (by omega);omega
 have hm:madeCells z.cells (c'.toNat*i.size)=(Xch (c'.toNat*te.ty.size)).map λi=>z.cells[i%te.ty.size]!:=by
  rw[hs,←hY];rfl
 obtain⟨⟨ν',h6⟩,_⟩:=Woe (t:=et) (vs:=(Xch (c'.toNat*te.ty.size)).map λi=>z.cells[i%te.ty.size]!) hr hd (e:=te.ty) bn (xs:=Xp n'.toNat te.ty.dflt) (cap:=c'.toNat) (cs:=rep (WbD te.ty) n'.toNat) (by simp;omega) (by unfold maxLen;omega)
  (by simp) (Wg5 bn _) (by simp_all) w rfl rfl rfl rfl
 rw[Xgk]at h6;refine⟨_,_,_,G,ν',?_,.inl rfl,h6⟩
 grind [execOp,Sem.run_bind,run_make,Result.andThen_ok,Sem.run_pure]
theorem Wi3(hT:Wai P T)(hr:Rel w0 F nt G0 G ν st a w){o:Oper}(hd:∀d,o.dst=some d->nt.Ok d){t:TypeId}{n c:Operand}(ho:o.op= .makeSlice t n c)
  {ty:Ty} {et:TypeId} {te:TE} {e:Ty} {n' c':Int} {k k':IntKind} (hl:Wn T t=some ⟨ty,false,.slice et⟩) (bd:Wn T et=some te) (hn:a.eval n= .int k n') (hc:a.eval c= .int k' c')
  (h0:0<=n') (h1:n'<=c') (h2:Wz c'.toNat=true) (he:e.ro=te.ty) (hp:te.plain=true):
  Done P w0 F nt G0 o a w (st.new o.dst (.arr e (Xp n'.toNat e.dflt)) (.s (.one (.own st.nx)))):=by
 have hu:=(hT _ _ hl).und.2.1;obtain⟨i,z,hi,hs,hz,dY,mt⟩:=(hT _ _ bd).info;rw[WbF hp]at dY;rw[WY hp]at hs;have od:te.ty.size=e.size:=by rw[←he,WbC]
 have hY:z.cells.size=te.ty.size:=by rw[←Xaq,dY,Wbq]
 have ax:c'.toNat<=1073741824:=by simpa [Wz]using h2
 have eA:=Wgo z.cells c'.toNat;rw[hY,dY]at eA;have q7:rep (WbD te.ty) n'.toNat<+:rep (WbD te.ty) c'.toNat:=by
  have:∀(l:List Value) (p q:Nat),rep l p<+:rep l (p+q):=λl p q=>by
   induction p with
   |zero=>exact Xhe
   |succ p ih=>grind [Nat.succ_add,rep,Xew]
  have h:=this (WbD te.ty) n'.toNat (c'.toNat-n'.toNat)
  rwa [show n'.toNat+(c'.toNat-n'.toNat)=c'.toNat by omega]at h
 have hb:(i.bytes:Int)*c'<=281474976710656:=by
  have h3:(i.bytes:Int)*c'<=4096*c':=Xep (by omega) (by omega);omega
 have hm:madeCells z.cells (c'.toNat*i.size)=(Xch (c'.toNat*te.ty.size)).map λi=>z.cells[i%te.ty.size]!:=by
  rw[hs,←hY];rfl
 obtain⟨⟨ν',h6⟩,_⟩:=Wia (t:=et) (vs:=(Xch (c'.toNat*te.ty.size)).map λi=>z.cells[i%te.ty.size]!) hr hd [] (e:=e) (xs:=Xp n'.toNat e.dflt) (cap:=c'.toNat) (cs:=rep (WbD te.ty) n'.toNat) (by simp;omega) (by unfold maxLen;omega)
  (by simp[od]) (λφ _=>by
   obtain⟨ps,g1,g2⟩:=WuV (G:=G) (w:=w) e n'.toNat;rw[he]at g1;exact⟨ps,g1,WnR ps g2,λp hp b o hh=>by simp_all⟩) (by simp_all) w rfl rfl rfl rfl
 rw[Xgk]at h6;refine⟨_,_,_,G,ν',?_,.inl rfl,h6⟩
 grind [execOp,Sem.run_bind,run_make,Result.andThen_ok,Sem.run_pure]
theorem WmK(hT:Wai P T)(hr:Rel w0 F nt G0 G ν st a w){o:Oper}(hd:∀d,o.dst=some d->nt.Ok d){t:TypeId}{parts:Array (Nat×Operand)}{x:Operand}(ho:o.op= .buildSlice t 1 parts)(co:parts.toList= [(0,x)])
  {ty:Ty} {et:TypeId} {te:TE} {e:Ty} {xv:AVal} {ds:List Cell} {d:e.den} {m:List Nat} (hl:Wn T t=some ⟨ty,false,.slice et⟩) (bd:Wn T et=some te) (hx:AValRel G ν st.nx xv (a.eval x)) (gR:Wg1 xv=some ds)
  (hf:Wax e ds st.objs=some (d,m,[])) (hm:m.Nodup) (he:e.ro=te.ty) (hp:te.plain=true) (cj:te.ty.size<=16777216):
  Done P w0 F nt G0 o a w (({env:=st.env,objs:=(st.nx,.arr e [d])::kill st.objs m,nx:=st.nx+1}:St).put o.dst (.s (.one (.own st.nx)))):=by
 have hu:=(hT _ _ hl).und.2.1;obtain⟨z,hz,dY⟩:=Wfa (w:=w) (hT _ _ bd);rw[WbF hp]at dY;have od:te.ty.size=e.size:=by rw[←he,WbC]
 have hY:z.cells.size=te.ty.size:=by rw[←Xaq,dY,Wbq]
 have eA:=Wgo z.cells 1;rw[hY,dY]at eA;simp only[rep,Xcp,Nat.one_mul]at eA;obtain⟨h1,h2⟩:=WdQ hx gR;have ey:∀φ,HR w0 F G ν φ st.objs st.nx w->∃ps,Wfh (Wy G w e) [d] (a.eval x).cells.toList ps/\Sep (ps.map Pc.fp)/\∀p∈ps,CS.le p.fp (FromL φ st.objs m):=λφ hφ=>by
  obtain⟨ns,g1,g2,g3,_⟩:=Wae (G':=G) hφ (λ_ _ _ hh=>hh) e ds _ d m [] h1 (λi hi=>by simp at hi) hm hf;exact⟨ns,Wpy.2 g1,g2,g3⟩
 have ad:(a.eval x).cells.size=e.size:=by
  obtain⟨φ,hφ⟩:=hr.h;obtain⟨ps,g1,_⟩:=ey φ hφ;have:=WH _ _ _ _ (Wpy.1 g1);simpa using this
 have vR:((Xch te.ty.size).map λi=>z.cells[i%te.ty.size]!).size=te.ty.size:=by simp
 have gd:=Wja (a.eval x).cells.toList 0 0 ((Xch te.ty.size).map λi=>z.cells[i%te.ty.size]!) (by simp;omega);have oe:((Xch te.ty.size).map λi=>z.cells[i%te.ty.size]!).toList.length=e.size:=by simp[od]
 have fO:((a.eval x).cells.toList.zipIdx.foldl (λcs (c,j)=>cs.setIfInBounds (0+j) c) ((Xch te.ty.size).map λi=>z.cells[i%te.ty.size]!)).toList=(a.eval x).cells.toList:=by
  rw[gd];simp only[Nat.zero_add,List.take_zero,List.nil_append];rw[List.drop_eq_nil_of_le (by rw[oe];simp;omega),Xcp]
 generalize hV:(a.eval x).cells.toList.zipIdx.foldl (λcs (c,j)=>cs.setIfInBounds (0+j) c) ((Xch te.ty.size).map λi=>z.cells[i%te.ty.size]!)=V at fO;have hVs:V.size=1*e.size:=by rw[←Xaq,fO];simp[ad]
 obtain⟨⟨ν',h6⟩,_⟩:=Wia (t:=et) (vs:=V) hr hd m (e:=e) (xs:=[d]) (cap:=1) (cs:=(a.eval x).cells.toList) (by simp) (by unfold maxLen;omega) hVs ey (by rw[fO];exact Xft _) w rfl rfl rfl rfl;refine⟨_,_,_,G,ν',?_,.inl rfl,h6⟩;have og:Instr.fill (λi=>some (i*te.ty.size,te.ty.size)) ((Xch te.ty.size).map λi=>z.cells[i%te.ty.size]!) [(0,a.eval x)]=some V:=by
  simp only[Instr.fill,Xeq];rw[Wc (by simp;omega),←hV];congr 1;rw[←Xfb];simp
 have hZ:(parts.map λx=>match x with|(i,x)=>(i,a.eval x)).toList= [(0,a.eval x)]:=by simp[co]
 have fL:=WbW te.ty;simp only[execOp,ho,Instr.buildSlice,Sem.run_bind,Wl hu,Result.andThen_ok,(hT _ _ bd).sizeOf,WY hp,Nat.one_mul,Wc (show¬te.ty.size>2^24 by omega),Wc (show¬te.ty.size=0 by omega),Sem.run_pure,hz,hY,hZ,og,WcZ];rfl
theorem WeA{t:TypeId}{te:TE}(bQ:TEok P T t te){b off:Nat}{v:Value}{cur:Array Value}{TT:TypeId}(hg:w.heap[b]?=some (.cells cur TT (0,0)))(cj:te.size=v.cells.size)(cw:off+v.cells.size<=cur.size)(h1:∀u∈v.cells.toList,u.oneCell'=true):
  (storeVar t ⟨b,off,none⟩ v).run P w= .ok () (w.setRow b (cur.toList.take off++v.cells.toList++cur.toList.drop (off+v.cells.size)).toArray):=by
 have h:=run_storeCells_at P b off TT v.cells.toList 0 cur w hg (by simpa using cw) h1;simp only[Xbe,Xaq]at h;simp[storeVar,bQ.sizeOf,cj,h]
theorem Wc3{b k:Nat}{vs:Array Value}{T:TypeId}{news:List Value}(h:w.heap[b]?=some (Obj.cells vs T (0,0)))(cw:k+news.length<=vs.size):
  WLe (rng b k news.length) w (w.setRow b (vs.toList.take k++news++vs.toList.drop (k+news.length)).toArray)/\Mem (w.setRow b (vs.toList.take k++news++vs.toList.drop (k+news.length)).toArray) b k news:=by
 have hk:(vs.toList.take k).length=k:=by simp;omega
 constructor
 .refine WLe.setRow h (by simp;omega) (λo hn=>?_);have qd:¬(k<=o/\o<k+news.length):=λ⟨h1,h2⟩=>hn ⟨rfl,h1,h2⟩;simp only[Xek,Xbf];rw[Xar,hk];split
  .rename_i ac;rw[Xbo,Wf ac];simp
  .rw[Xar];split
   .omega
   .rw[Xbn,show k+news.length+(o-k-news.length)=o by omega];simp
 .intro j v hj;rw[cell_of_row _ b _ _ T (0,0) (setRow_heap w b vs _ T (0,0) h)];have ac:j<news.length:=(Xab.1 hj).1;simp only[Xek,Xbf];rw[Xbv (by omega),hk,Xcj (by omega),show k+j-k=j by omega];exact hj
theorem Wfc{b o k:Nat}{vs us:List Value}(hm:Mem w b o vs)(hw:WLe (rng b (o+k) us.length) w w')(hu:Mem w' b (o+k) us)(hk:k+us.length<=vs.length):Mem w' b o (vs.take k++us++vs.drop (k+us.length)):=λj v hj=>by
 have gF:∀v',vs[j]?=some v'->¬(k<=j/\j<k+us.length)->w'.cell? ⟨b,o+j,none⟩=some v':=λv' hv hn=>by
  have h1:=hm j v' hv;rw[hw.cell b (o+j) (block_lt_of_cell h1) (λ⟨_,h2,h3⟩=>hn ⟨by omega,by omega⟩)];exact h1
 have jn:(vs.take k).length=k:=by simp;omega
 rw[Xbf,Xar,jn]at hj;split at hj
 .rename_i ac;rw[Xbo,Wf ac]at hj;exact gF v hj (by omega)
 .rw[Xar]at hj;split at hj
  .have:=hu (j-k) v hj;rw[show o+j=o+k+(j-k) by omega];exact this
  .rw[Xbn,show k+us.length+(j-k-us.length)=j by omega]at hj;exact gF v hj (by omega)
theorem HR.turn{φ:Nat->CS}(h:HR w0 F G ν φ objs nx w){id:Nat}{ob cY:Ob}{m:List Nat}(ho:Wn objs id=some ob)(hd:ob≠ .dead){S:CS}(hw:WLe S w w')(hs:CS.le S (φ id))
  (cX:WcM G ν nx w' id (λb o=>φ id b o\/FromL φ objs m b o) cY):HRel w0 F G ν ((id,cY)::kill objs m) nx w':=by
 have hl:Live objs id:=⟨ob,ho,hd⟩;exact⟨_,h.put (ν':=ν) (λ_ _=>rfl) (Xm _) (h.lt id hl) (hw.mono λb o hh=>⟨id,.inl rfl,hl,hs b o hh⟩) (λb o hh=>by
  rcases hh with hh|⟨i,hi,h1,h2⟩
  .exact .inl ⟨id,.inl rfl,hl,hh⟩
  .exact .inl ⟨i,.inr hi,h1,h2⟩) (λ_=>cX)⟩
theorem Wqu(hT:Wai P T)(hr:Rel w0 F nt G0 G ν st a w){o:Oper}{t:TypeId}{x y:Operand}(ho:o.op= .store t x y)(iX:o.dst=none){p v:AVal}(hx:AValRel G ν st.nx p (a.eval x))(hy:AValRel G ν st.nx v (a.eval y))
  (h:Wc4 T st t p v=some af):Done P w0 F nt G0 o a w af:=by
 unfold Wc4 at h;split at h
 .rename_i te id off ds hl gR;obtain⟨ia,lq⟩:=WdQ hy gR;split at h
  .rename_i cs aG;split at h
   .rename_i bE;simp only[Xi,Wi]at bE;obtain⟨⟨hs,eU⟩,cw⟩:=bE;injection h with h;subst h;obtain⟨⟨_,b,hb,iY⟩,_⟩:=hx;obtain⟨φ,hφ⟩:=hr.h;obtain⟨b',vs,cA,⟨row,TT,ge,bf⟩,aM,bN,fG⟩:=hφ.ob _ _ aG;rw[hb]at cA;injection cA with cA;subst cA;have ad:(a.eval y).cells.size=ds.length:=by have:=ia.1;simpa using this
    have bh:=WeA (w:=w) (hT _ _ hl) (b:=b) (off:=(ν id).off+off) (v:=a.eval y) ge (by rw[WY eU,ad];exact hs) (by omega) lq;obtain⟨hw,hm⟩:=Wc3 (k:=(ν id).off+off) (news:=(a.eval y).cells.toList) ge (by simp;omega);simp only[Xaq]at hw hm;generalize w.setRow b (row.toList.take ((ν id).off+off)++(a.eval y).cells.toList++row.toList.drop ((ν id).off+off+(a.eval y).cells.size)).toArray=W at bh hw hm;have cX:HRel w0 F G ν ((id,.box (Wes cs off ds))::st.objs) st.nx W:=by
     refine hφ.turn (m:=[]) aG (by simp) hw (λb' o ⟨e,h1,h2⟩=>fG b' o ⟨e,by omega,by omega⟩) ?_;refine⟨b,_,hb,by rw[We9 cw];exact hw.rows.row _ _ ⟨row,TT,ge,bf⟩,Wfc aM (us:=(a.eval y).cells.toList) (by rw[Xaq];exact hw) hm (by rw[bN.1];simp;omega),Wfi bN ia,λb o hh=>.inl (fG b o (by rw[We9 cw]at hh;exact hh))⟩
    refine⟨.skip,undef,W,G,ν,?_,.inr ⟨rfl,rfl⟩,?_⟩
    .simp only[execOp,ho,iY,Instr.storeAt,Instr.sureAddr,Sem.run_bind,Sem.run_pure,Result.andThen_ok,bh]
    .rw[iX];exact hr.on (λ_ _ _ hh=>hh) (λ_ _=>rfl) (Xm _) cX hr.gx
   .simp at h
  .simp at h
 .rename_i te id i off ds hl gR;obtain⟨ia,lq⟩:=WdQ hy gR;split at h
  .rename_i e xs aG;split at h
   .rename_i bE;simp only[Xi,Wi]at bE;obtain⟨⟨⟨hs,eU⟩,cw⟩,bn⟩:=bE;split at h
    .rename_i d hf;injection h with h;subst h;obtain⟨⟨_,q8,b,hb,iY⟩,_⟩:=hx;obtain⟨φ,hφ⟩:=hr.h;have aR:WbN w (Wy G w e) e.size (ν id) xs (φ id):=hφ.ob _ _ aG;obtain⟨gS,h4,h5,jZ,cs,h7,h8,h9⟩:=WdP bn aR hb;obtain⟨row,TT,ge,bf⟩:=jZ;have cu:=aR.2.1;have ac:i<xs.length:=by omega
     have ad:(a.eval y).cells.toList.length=ds.length:=ia.1;have dH:(a.eval y).cells.size=ds.length:=by simpa using ad
     have cP:cs.length=xs.length*e.size:=Wd1 (λx c hc=>W5 e x c hc) _ _ h7;have vS:i*e.size+e.size<=xs.length*e.size:=by rw[←Xbr];exact Xax _ ac
     have vT:xs.length*e.size<=(ν id).cap*e.size:=Xax _ h4;have oh:=WnC (λx c hc=>W5 e x c hc) xs cs i e.dflt h7 ac;have q9:=Wfi (off:=off) (WaM (G:=G) (ν:=ν) (nx:=st.nx) e _ _ oh) ia;have ga:=WmQ hr.h q9 bn hf;have gd:=WlK (λx c hc=>W5 e x c hc) xs cs i d _ h7 ac ga;have bh:=WeA (w:=w) (hT _ _ hl) (b:=b) (off:=(ν id).off+(i*e.size+off)) (v:=a.eval y) ge (by rw[WY eU];omega) (by omega) lq;obtain⟨hw,hm⟩:=Wc3 (k:=(ν id).off+(i*e.size+off)) (news:=(a.eval y).cells.toList) ge (by omega);simp only[Xaq]at hw hm;generalize w.setRow b (row.toList.take ((ν id).off+(i*e.size+off))++(a.eval y).cells.toList++row.toList.drop ((ν id).off+(i*e.size+off)+(a.eval y).cells.size)).toArray=W at bh hw hm;have mw:cs.take (i*e.size+off)++(a.eval y).cells.toList++cs.drop (i*e.size+off+(a.eval y).cells.toList.length)=
       cs.take (i*e.size)++(((cs.drop (i*e.size)).take e.size).take off++(a.eval y).cells.toList++((cs.drop (i*e.size)).take e.size).drop (off+(a.eval y).cells.toList.length))++cs.drop (i*e.size+e.size):=by
      rw[ad];have e1:cs.take (i*e.size+off)=cs.take (i*e.size)++((cs.drop (i*e.size)).take e.size).take off:=by
       rw[List.take_take,Xcd (by omega),←List.take_add]
      have e2:cs.drop (i*e.size+off+ds.length)=((cs.drop (i*e.size)).take e.size).drop (off+ds.length)++cs.drop (i*e.size+e.size):=by
       rw[List.drop_take,Xdq];have:cs.drop (i*e.size+e.size)=(cs.drop (i*e.size+(off+ds.length))).drop (e.size-(off+ds.length)):=by rw[Xdq];congr 1;omega
       rw[this,Xdp];congr 1;omega
      rw[e1,e2];simp
     have cX:HRel w0 F G ν ((id,.arr e (xs.set i d))::st.objs) st.nx W:=by
      refine hφ.turn (m:=[]) aG (by simp) hw (λb' o ⟨e',h1,h2⟩=>h9 b' o ⟨e',by omega,by omega⟩) ?_;refine WmH bn hb (by simpa using gS) cu (by simpa using h4) h5 (hw.rows.row _ _ ⟨row,TT,ge,bf⟩) gd ?_ (λb o hh=>.inl (h9 b o hh));rw[←mw];exact Wfc h8 (us:=(a.eval y).cells.toList) (by rw[Xaq];exact hw) hm (by omega)
     refine⟨.skip,undef,W,G,ν,?_,.inr ⟨rfl,rfl⟩,?_⟩
     .simp only[execOp,ho,iY,cu,Instr.storeAt,Instr.sureAddr,Sem.run_bind,Sem.run_pure,Result.andThen_ok,bh]
     .rw[iX];exact hr.on (λ_ _ _ hh=>hh) (λ_ _=>rfl) (Xm _) cX hr.gx
    .simp at h
   .split at h
    .rename_i bE;simp only[Xi,Wi]at bE;obtain⟨⟨⟨hs,eU⟩,ra⟩,vU⟩:=bE;subst ra;split at h
     .rename_i d m hf;split at h
      .rename_i be;injection h with h;subst h;have be:(id::m).Nodup:=(Wdb _).1 be;obtain⟨qe,vW⟩:=Xac.1 be;obtain⟨⟨_,q8,b,hb,iY⟩,_⟩:=hx;obtain⟨φ,hφ⟩:=hr.h;have aR:WbN w (Wy G w e) e.size (ν id) xs (φ id):=hφ.ob _ _ aG;have aQ:Live st.objs id:=⟨_,aG,by simp⟩;obtain⟨gS,cu,h3⟩:=aR;simp only[hb]at h3;obtain⟨h4,h5,jZ,cs,ps,h7,h8,h9,cJ⟩:=h3;obtain⟨row,TT,ge,bf⟩:=jZ;have ac:i<xs.length:=by omega
       have ad:(a.eval y).cells.toList.length=ds.length:=ia.1;have dH:(a.eval y).cells.size=ds.length:=by simpa using ad
       have vS:i*e.size+e.size<=xs.length*e.size:=by rw[←Xbr];exact Xax _ ac
       have vT:xs.length*e.size<=(ν id).cap*e.size:=Xax _ h4;obtain⟨c1,c,c2,p1,pc,p2,g1,g2,g3,g4,g5⟩:=Wpc h7 e.dflt ac;have l1:=Wa4 (λx c q hx=>WH e x c q hx) _ _ _ g3;rw[Xbj,Xcd (by omega)]at l1;have lc:=WH _ _ _ _ g4;obtain⟨ns,t1,t2,t3,t4,_⟩:=Wae (G':=G) hφ (λ_ _ _ hh=>hh) e ds _ d m [] ia (λi hi=>by simp at hi) vW hf;have bh:=WeA (w:=w) (hT _ _ hl) (b:=b) (off:=(ν id).off+(i*e.size+0)) (v:=a.eval y) ge (by rw[WY eU];omega) (by omega) lq;obtain⟨hw,hm⟩:=Wc3 (k:=(ν id).off+(i*e.size+0)) (news:=(a.eval y).cells.toList) ge (by omega);simp only[Xaq]at hw hm;generalize w.setRow b (row.toList.take ((ν id).off+(i*e.size+0))++(a.eval y).cells.toList++row.toList.drop ((ν id).off+(i*e.size+0)+(a.eval y).cells.size)).toArray=W at bh hw hm;have ib:CS.le (rng b ((ν id).off+(i*e.size+0)) (a.eval y).cells.size) (rng b (ν id).off ((ν id).cap*e.size)):=λb' o ⟨e',k1,k2⟩=>⟨e',by omega,by omega⟩;have gG:=cJ _ (Xj ..);have gD:∀p∈p1++(pc++p2),∀b o,p.fp b o->b<w.heap.size:=λp hp b o hh=>hφ.bl id b o aQ (cJ p.fp (Xf _ (Xam (by rw[g2];exact hp))) b o hh);obtain⟨q1,q2⟩:=Xy.1 h9;have iD:∀p∈p1++(pc++p2),Same p.fp w W:=λp hp=>hw.same ((q1 p.fp (Xam (by rw[g2];exact hp))).mono ib (λ_ _ hh=>hh)) (gD p hp);have j7:∀p∈ns,Same p.fp w W:=λp hp=>hw.same (λb o k1 k2=>by
        obtain⟨j,hj,k3,k4⟩:=t3 p hp b o k2;have:=hφ.inj id j b o aQ k3 (gG b o (ib b o k1)) k4;subst this;exact qe hj) (λb o hh=>by
        obtain⟨j,hj,k3,k4⟩:=t3 p hp b o hh;exact hφ.bl j b o k3 k4)
       have hEnc:Wfh (Wy G W e) (xs.set i d) (c1++((a.eval y).cells.toList++c2)) (p1++(ns++p2)):=by
        refine Wp6 ac ?_ (WaE (λ_ _ _ hh=>hh) e _ _ _ j7 t1) ?_
        .exact WbQ (Q:=λq=>Same q.fp w W) (λx c q hq hx=>WaE (λ_ _ _ hh=>hh) e x c q hq hx) _ _ _ (λq hq=>iD q (Xn _ hq)) g3
        .exact WbQ (Q:=λq=>Same q.fp w W) (λx c q hq hx=>WaE (λ_ _ _ hh=>hh) e x c q hq hx) _ _ _ (λq hq=>iD q (Xg _ (Xg _ hq))) g5
       have hMem:Mem W b (ν id).off (c1++((a.eval y).cells.toList++c2)):=by
        have:=Wfc h8 (k:=i*e.size+0) (us:=(a.eval y).cells.toList) (by rw[Xaq];exact hw) hm (by rw[g1];simp;omega);rw[g1,Xbe,List.take_append_of_le_length (by omega),List.take_of_length_le (by omega)]at this;have oi:(c1++(c++c2)).drop (i*e.size+(a.eval y).cells.toList.length)=c2:=by
         rw[←Xbf,show i*e.size+(a.eval y).cells.toList.length=(c1++c).length by rw[Xaa];omega,List.drop_left]
        rw[oi,Xbf]at this;exact this
       have cX:HRel w0 F G ν ((id,.arr e (xs.set i d))::kill st.objs m) st.nx W:=by
        refine hφ.turn aG (by simp) hw (λb' o hh=>gG b' o (ib b' o hh)) ?_;refine⟨by simpa using gS,cu,?_⟩;simp only[hb];rw[g2,Xz,Xz]at q2 q1;have qA:=Xah.1 q2;have qB:=Xah.1 qA.2.1;have rb:∀p∈ns,∀s,CS.le s (φ id)->CS.disj p.fp s:=λp hp s hs b o k1 k2=>by
         obtain⟨j,hj,k3,k4⟩:=t3 p hp b o k1;have:=hφ.inj id j b o aQ k3 (hs b o k2) k4;subst this;exact qe hj
        have co:∀p∈p1++(pc++p2),CS.le p.fp (φ id):=λp hp=>cJ p.fp (Xf _ (Xam (by rw[g2];exact hp)));refine⟨by simpa using h4,h5,hw.rows.row _ _ ⟨row,TT,ge,bf⟩,_,p1++(ns++p2),hEnc,hMem,Xy.2 ⟨λs hs=>?_,?_⟩,λs hs=>?_⟩
        .simp only[Xz,Xo]at hs;rcases hs with hs|hs|hs
         .exact q1 s (Xn _ hs)
         .obtain⟨p,hp,rfl⟩:=Xw.1 hs;exact(rb p hp _ gG).symm
         .exact q1 s (Xg _ (Xg _ hs))
        .rw[Xz,Xz];refine WmT (Xah.2 ⟨qA.1,qB.2.1,λs hs t ht=>qA.2.2 s hs t (Xg _ ht)⟩) t2 (λs hs t ht=>?_);obtain⟨p,hp,rfl⟩:=Xw.1 hs;rcases Xo.1 ht with ht|ht
         .obtain⟨q,hq,rfl⟩:=Xw.1 ht;exact rb p hp _ (co q (Xn _ hq))
         .obtain⟨q,hq,rfl⟩:=Xw.1 ht;exact rb p hp _ (co q (Xg _ (Xg _ hq)))
        .intro b o hh;rcases Xs.1 hs with rfl|hs
         .exact .inl (gG b o hh)
         .simp only[Xz,Xo]at hs;rcases hs with hs|hs|hs
          .obtain⟨q,hq,rfl⟩:=Xw.1 hs;exact .inl (co q (Xn _ hq) b o hh)
          .obtain⟨q,hq,rfl⟩:=Xw.1 hs;exact .inr (t3 q hq b o hh)
          .obtain⟨q,hq,rfl⟩:=Xw.1 hs;exact .inl (co q (Xg _ (Xg _ hq)) b o hh)
       refine⟨.skip,undef,W,G,ν,?_,.inr ⟨rfl,rfl⟩,?_⟩
       .simp only[execOp,ho,iY,cu,Instr.storeAt,Instr.sureAddr,Sem.run_bind,Sem.run_pure,Result.andThen_ok,bh]
       .rw[iX];exact hr.on (λ_ _ _ hh=>hh) (λ_ _=>rfl) (Xm _) cX hr.gx
      .simp at h
     .simp at h
    .simp at h
  .simp at h
 .simp at h
end
end Go.Sx
namespace Go.Sx
set_option linter.unusedVariables false
set_option linter.unusedSimpArgs false
theorem WvL{G:GH}(t:Ty)(d:t.den)(cs:List Value)(h:Enc G t d cs):∀u∈cs,u.oneCell'=true:=λu hu=>by
 obtain⟨j,hj⟩:=Xdu hu;have hc:=WaM (ν:=λ_=>⟨none,0,0,0,0⟩) (nx:=0) t d cs h;have ac:j<(split t d).length:=by rw[←hc.1];grind
 exact(hc.2 j _ u (Xq ac) hj).2
theorem WpZ{G:GH}{t:Ty}:∀(l:List t.den) (cs:List Value),Wef (Enc G t) l cs->∀u∈cs,u.oneCell'=true
 | [],cs,h,u,hu=>by grind [Wef]
 |x::l,cs,⟨c1,c2,he,h1,h2⟩,u,hu=>by
  subst he;rcases Xo.1 hu with hu|hu
  .grind [WvL]
  .exact WpZ l c2 h2 u hu
theorem Wsx{G:GH}{w:World}(t:Ty)(d:t.den)(cs:List Value)(ps:List Pc)(h:Wy G w t d cs ps):∀u∈cs,u.oneCell'=true:=λu hu=>by
 obtain⟨j,hj⟩:=Xdu hu;have hc:=Wib (ν:=λ_=>⟨none,0,0,0,0⟩) (nx:=0) t d cs ps h;have ac:j<(split t d).length:=by rw[←hc.1];grind
 exact(hc.2 j _ u (Xq ac) hj).2
theorem WnS{G:GH}{w:World}{t:Ty}:∀(l:List t.den) (cs:List Value) (ps:List Pc),Wfh (Wy G w t) l cs ps->∀u∈cs,u.oneCell'=true
 | [],cs,ps,h,u,hu=>by rw[h.1]at hu;simp at hu
 |x::l,cs,ps,⟨c1,c2,p1,p2,he,hp,h1,h2⟩,u,hu=>by
  subst he;rcases Xo.1 hu with hu|hu
  .grind [Wsx]
  .exact WnS l c2 p2 h2 u hu
section
variable{w0:World}{F:CS}{nt:Slots}{G0 G:GH}{ν:Nat->Nu}{φ:Nat->CS}{objs:Wab}{nx:Nat}{st af:St}{a:Act}{w w':World}{P:Program}{T:Tab}
structure Src(w0:World)(F:CS)(G:GH)(ν:Nat->Nu)(st:St)(w:World)(e:Ty)(l:List e.den)(m:List Nat)(v:Value)(news:List Value):Prop where
 enc:∀φ,HR w0 F G ν φ st.objs st.nx w->∃ps,Wfh (Wy G w e) l news ps/\Sep (ps.map Pc.fp)/\∀p∈ps,CS.le p.fp (FromL φ st.objs m)
 rd:(v= .slice none 0 0/\l= [])\/∃(p:Addr) (c:Nat),v= .slice (some p) l.length c/\∀(j:Nat) (u:Value),news[j]?=some u->w.cell? (p.add j)=some u
theorem WcW{e:Ty}(he:e.data=true){l:List e.den}{m:List Nat}{v:Value}{news:List Value}(h:Wef (Enc G e) l news)
  (rd:(v= .slice none 0 0/\l= [])\/∃(p:Addr) (c:Nat),v= .slice (some p) l.length c/\∀(j:Nat) (u:Value),news[j]?=some u->w.cell? (p.add j)=some u):Src w0 F G ν st w e l m v news:=
 ⟨λφ _=>⟨[],(WcC he l news []).2 ⟨h,rfl⟩,List.Pairwise.nil,by simp⟩,rd⟩
theorem WjB(hr:Rel w0 F nt G0 G ν st a w){e:Ty}(he:e.data=true){x:AVal}{u:Value}{l:List e.den}(m:List Nat)(hx:AValRel G ν st.nx x u)(h:Wvq st e x=some l):∃news,Src w0 F G ν st w e l m u news:=by
 unfold Wvq at h;split at h
 .rename_i e' d';obtain⟨lr,hd⟩:=Waw h;subst lr;simp only at hd;subst hd;obtain⟨⟨v,hv,hs⟩,_⟩:=hx;simp at hv;subst hv;rcases hs with⟨rfl,hn⟩|⟨b,off,cap,cs,rfl,h1,h2,h3,h4⟩|⟨a',cap,rfl,hn⟩
  rotate_left 2
  .exact⟨[],WcW he (by rw[hn];rfl) (.inr ⟨a',cap,by grind,λj u hj=>by simp at hj⟩)⟩
  .exact⟨[],WcW he (by rw[hn];rfl) (.inl ⟨rfl,hn⟩)⟩
  .exact⟨cs,WcW he h3 (.inr ⟨⟨b,off,none⟩,cap,rfl,λj u hj=>by rw[Wa5];exact hr.h.g (h4 j u hj)⟩)⟩
 .injection h with h;subst h;obtain⟨hv,_⟩:=hx;simp only[CellRel]at hv;subst hv;exact⟨[],WcW he rfl (.inl ⟨rfl,rfl⟩)⟩
 .rename_i id;split at h
  .rename_i e' xs ho;obtain⟨lr,hd⟩:=Waw h;subst lr;simp only at hd;subst hd;obtain⟨⟨_,hv⟩,_⟩:=hx;subst hv;obtain⟨S,aG⟩:=hr.h.obj ho;unfold Nu.hdr;cases hb:(ν id).blk with
   |none=>have:=Wcr aG hb;exact⟨[],WcW he (by rw[this];rfl) (.inl ⟨rfl,this⟩)⟩
   |some b=>
    obtain⟨h1,h2,h3,h4,cs,h5,h6,h7⟩:=WdP he aG hb;exact⟨cs,WcW he h5 (.inr ⟨⟨b,(ν id).off,none⟩,(ν id).cap,by rw[h1],λj u hj=>by rw[Wa5];exact h6 j u hj⟩)⟩
  grind
 .rename_i id lo hi;split at h
  .rename_i e' xs ho;obtain⟨ys,hc,h⟩:=Xt.1 h;subst h;obtain⟨lr,hd⟩:=Waw hc;subst lr;simp only at hd;subst hd;obtain⟨⟨_,g1,g2,g3,hv⟩,_⟩:=hx;subst hv;obtain⟨S,aG⟩:=hr.h.obj ho;have cu:=aG.2.1;have tW:=aG.1;unfold Nu.vhdr;cases hb:(ν id).blk with
   |none=>
    have:=Wcr aG hb;subst this;exact⟨[],WcW he (by simp;rfl) (.inl ⟨rfl,by simp⟩)⟩
   |some b=>
    obtain⟨h1,h2,h3,h4,cs,h5,h6,h7⟩:=WdP he aG hb;have hl:((xs.take hi).drop lo).length=hi-lo:=by simp;omega
    by_cases rc:(ν id).cap=lo
    .have h0:(xs.take hi).drop lo= []:=Xx (by omega);exact⟨[],WcW he (by rw[h0];rfl) (.inr ⟨_,_,by rw[hl],λj u hj=>by simp at hj⟩)⟩
    .refine⟨(cs.take (hi*e'.size)).drop (lo*e'.size),WcW he (WeH (λx c hc=>W5 e' x c hc) _ _ lo (WeQ (λx c hc=>W5 e' x c hc) _ _ hi h5)) (.inr ⟨_,_,by rw[hl,Wc rc],λj u hj=>?_⟩)⟩;rw[Xbn,Xbo]at hj;rw[Wa5,cu,Xba];split at hj
     .exact h6 _ u hj
     grind
  grind
 grind
theorem Ws2(hr:Rel w0 F nt G0 G ν st a w){dst:Option Tmp}(hd:∀d,dst=some d->nt.Ok d)(e:Ty)(m:List Nat):
  ∃ν',Rel w0 F nt G0 G ν' (({env:=st.env,objs:=(st.nx,.arr e [])::kill st.objs m,nx:=st.nx+1}:St).put dst (.s (.one (.own st.nx)))) (a.put dst (.slice none 0 0)) w:=by
 refine⟨upd ν st.nx ⟨none,0,0,0,e.size⟩,hr.fresh hd m (.arr e []) _ (λ_ _ _=>False) _ _ (λφ _=>WLe.refl _ w) (λφ _ b o hh=>hh.elim) (λφ _=>?_) ⟨⟨Xbt _,by rw[Wbt];rfl⟩,rfl⟩⟩;show WbN _ _ _ (upd ν st.nx ⟨none,0,0,0,e.size⟩ st.nx) _ _;rw[Wbt];exact⟨rfl,rfl,rfl⟩
theorem Wil(t ty e TT:TypeId)(i:TypeInfo)(ht:P.underlying t=some (.slice e))(hi:P.info? e=some i)
  (g off sLen sCap:Nat) (cur:Array Value) (hg:w.heap[g]?=some (.cells cur TT (0,0)))
  (p:Addr) (m c:Nat) (news:List Value) (hl:news.length=m*i.size) (oj:∀j u,news[j]?=some u->w.cell? (p.add j)=some u) (h1:∀u∈news,u.oneCell'=true)
  (ax:sLen+m<=sCap) (cw:off+sLen*i.size+news.length<=cur.size):
  (Builtin.append_ #[t,t] ty #[.slice (some ⟨g,off,none⟩) sLen sCap,.slice (some p) m c]).run P w=
   .ok (.slice (some ⟨g,off,none⟩) (sLen+m) sCap) (w.setRow g (cur.toList.take (off+sLen*i.size)++news++cur.toList.drop (off+sLen*i.size+news.length)).toArray):=by
 have hf:=run_firstCells_some (P:=P) w i.size m p m c news hl oj;have bt:=run_storeCells_at P g (off+sLen*i.size) TT news 0 cur w hg (by omega) h1;simp only[Xbe]at bt;simp[Builtin.append_,Wl ht,sizeOf,typeInfo,hi,Builtin.lenOf,ax,hf,Wa5,bt]
theorem WeV(t ty e:TypeId)(i:TypeInfo)(ht:P.underlying t=some (.slice e))(hi:P.info? e=some i)(base:Option Addr)(n cap:Nat)(h:n<=cap):
  (Builtin.append_ #[t,t] ty #[.slice base n cap,.slice none 0 0]).run P w= .ok (.slice base n cap) w:=by
 cases base<;>simp[Builtin.append_,Wl ht,sizeOf,typeInfo,hi,Builtin.lenOf,h,Builtin.firstCells,storeCells]
theorem WiN(t ty e:TypeId)(i:TypeInfo)(ht:P.underlying t=some (.slice e))(hi:P.info? e=some i)(p:Addr)(c:Nat):
  (Builtin.append_ #[t,t] ty #[.slice none 0 0,.slice (some p) 0 c]).run P w= .ok (.slice none 0 0) w:=by
 simp[Builtin.append_,Wl ht,sizeOf,typeInfo,hi,Builtin.lenOf,Builtin.firstCells,loadCells,loadCellsFrom]
theorem Wb9{o:Oper}{c:Call}(ho:o.op= .call c){s x:Operand}{t:TypeId}(hc:c.callee= .builtin .append)(ha:c.args.toList= [s,x])(dC:c.argTypes.toList= [t,t]){v:Value}
  (bh:(Builtin.append_ #[t,t] o.type #[a.eval s,a.eval x]).run P w= .ok v w'):(execOp a.eval o).run P w= .ok (.value v) w':=by
 obtain⟨callee,args,argTypes⟩:=c;obtain⟨args⟩:=args;obtain⟨argTypes⟩:=argTypes;simp only at hc ha dC;subst hc ha dC;simp only[execOp,ho,resolve,invoke,builtin,Sem.run_bind,Sem.run_pure,Result.andThen_ok,Xdv,Xaf,Xcg,bh]
theorem WuI(w:World)(need old:Nat)(e:TypeId)(h:Wz need=true):need<=grownCap w need old e/\grownCap w need old e<=maxLen:=
 ⟨grownCap_ge w need old e,grownCap_le_maxLen w need old e (by grind [Wz,maxLen])⟩
theorem WkQ(hr:Rel w0 F nt G0 G ν st a w){dst:Option Tmp}(hd:∀d,dst=some d->nt.Ok d)(m:List Nat){e:Ty}{xs:List e.den}{cs:List Value}(hl:cs.length=xs.length*e.size)
  (hc:∀φ,HR w0 F G ν φ st.objs st.nx w->∃ps,Wfh (Wy G w e) xs cs ps/\Sep (ps.map Pc.fp)/\∀p∈ps,CS.le p.fp (FromL φ st.objs m)) {cap:Nat} (hI:xs.length<=cap) (iZ:cap<=maxLen) (z:Array Value) (hz:z.size=e.size) (t:TypeId):
  ∃ν',Rel w0 F nt G0 G ν' (({env:=st.env,objs:=(st.nx,.arr e xs)::kill st.objs m,nx:=st.nx+1}:St).put dst (.s (.one (.own st.nx)))) (a.put dst (.slice (some ⟨w.heap.size,0,none⟩) xs.length cap)) (w.drew.alloc (.cells (cs.toArray++Builtin.zeroCells z (cap-xs.length)) t)):=by
 refine(Wia hr hd m (e:=e) (xs:=xs) (cap:=cap) (cs:=cs) (vs:=cs.toArray++Builtin.zeroCells z (cap-xs.length)) (t:=t) hI iZ ?_ hc ?_ w.drew rfl rfl rfl rfl).1
 .simp only[Array.size_append,List.size_toArray,size_zeroCells,hz,hl,←Xcs];simp_all
 .simp
structure ElT(P:Program)(t et:TypeId)(e:Ty):Prop where
 u:P.underlying t=some (.slice et)
 i:∃i z,P.info? et=some i/\i.size=e.size/\i.zero=some z/\z.cells.size=e.size/\i.bytes<=4096
theorem elT(hT:Wai P T){t et:TypeId}{ty:Ty}{ag:Bool}{te:TE}{e:Ty}(hl:Wn T t=some ⟨ty,ag,.slice et⟩)(bd:Wn T et=some te)(hp:te.plain=true)(he:te.ty.size=e.size):ElT P t et e:=by
 obtain⟨i,z,hi,cj,hz,dY,mt⟩:=(hT _ _ bd).info;rw[WY hp]at cj;rw[WbF hp]at dY;exact⟨(hT _ _ hl).und.2.1,i,z,hi,by rw[cj,he],hz,by rw[←Xaq,dY,Wbq,he],mt⟩
theorem Wbo(hr:Rel w0 F nt G0 G ν st a w){o:Oper}(hd:∀d,o.dst=some d->nt.Ok d){c:Call}{s x:Operand}{t et:TypeId}{e:Ty}(hE:ElT P t et e)
  (ho:o.op= .call c) (hc:c.callee= .builtin .append) (ha:c.args.toList= [s,x]) (dC:c.argTypes.toList= [t,t]) (dI:a.eval s= .slice none 0 0)
  {l:List e.den} {m m':List Nat} {news:List Value} (hx:Src w0 F G ν st w e l m (a.eval x) news) (hm:∀i∈m,i∈m') (ax:Wz l.length=true):
  Done P w0 F nt G0 o a w (({env:=st.env,objs:=(st.nx,.arr e l)::kill st.objs m',nx:=st.nx+1}:St).put o.dst (.s (.one (.own st.nx)))):=by
 obtain⟨hu,i,z,hi,cj,hz,hY,mt⟩:=hE;have re:l.length<=1073741824:=by grind [Wz]
 have fL:=WbW e;rcases hx.rd with⟨aN,bJ⟩|⟨pa,cc,aN,bz⟩
 .subst bJ;obtain⟨ν',hh⟩:=Ws2 hr hd e m';exact⟨_,_,_,G,ν',Wb9 ho hc ha dC (by simp_all [WeV,Xm]),.inl rfl,hh⟩
 .by_cases h0:l.length=0
  .have bJ:l= []:=Xx h0;subst bJ;obtain⟨ν',hh⟩:=Ws2 hr hd e m';exact⟨_,_,_,G,ν',Wb9 ho hc ha dC (by grind [WiN]),.inl rfl,hh⟩
  .obtain⟨φ,hφ⟩:=hr.h;obtain⟨vX,e0,_⟩:=hx.enc φ hφ;have jo:news.length=l.length*e.size:=Wa4 (λx c q hx=>WH e x c q hx) _ _ _ e0;obtain⟨qa,ln⟩:=WuI w l.length 0 et ax;obtain⟨ν',hh⟩:=WkQ hr hd m' jo (λφ hφ=>by
    obtain⟨ps,k1,k2,k3⟩:=hx.enc φ hφ;exact⟨ps,k1,k2,λp hp b o hh=>FromL.mono hm b o (k3 p hp b o hh)⟩) qa ln z.cells hY et
   have tX:l.length*i.bytes<=281474976710656:=by
    have:=Nat.mul_le_mul re mt;omega
   refine⟨_,_,_,G,ν',Wb9 ho hc ha dC ?_,.inl rfl,hh⟩
   grind [run_append_nil]
theorem WdR{e:Ty}{nu:Nu}{xs:List e.den}{S:CS}{b k:Nat}(h:WbN w (Wy G w e) e.size nu xs S)(hb:nu.blk=some b)(hk:k<=xs.length):
  ∃c1 p1,Wfh (Wy G w e) (xs.take k) c1 p1/\c1.length=k*e.size/\Mem w b nu.off c1/\Sep (rng b nu.off (nu.cap*e.size)::p1.map Pc.fp)/\(∀s∈rng b nu.off (nu.cap*e.size)::p1.map Pc.fp,CS.le s S):=by
 obtain⟨h1,h2,h3⟩:=h;simp only[hb]at h3;obtain⟨h4,h5,h6,cs,ps,h7,h8,h9,cJ⟩:=h3;obtain⟨c1,c2,p1,p2,g1,g2,g3,g4⟩:=WeO xs cs ps k h7;have hl:=Wa4 (λx c q hx=>WH e x c q hx) _ _ _ g3;rw[Xbj,Xcd hk]at hl;obtain⟨q1,q2⟩:=Xy.1 h9;rw[g2,Xz]at q1 q2 cJ;refine⟨c1,p1,g3,hl,by rw[g1]at h8;exact h8.left,Xy.2 ⟨λs hs=>q1 s (Xn _ hs),(Xah.1 q2).1⟩,λs hs=>?_⟩
 grind
theorem WdA(hr:Rel w0 F nt G0 G ν st a w){o:Oper}(hd:∀d,o.dst=some d->nt.Ok d){c:Call}{s x:Operand}{t et:TypeId}{e:Ty}(hE:ElT P t et e)
  (ho:o.op= .call c) (hc:c.callee= .builtin .append) (ha:c.args.toList= [s,x]) (dC:c.argTypes.toList= [t,t])
  {id g k:Nat} {xs:List e.den} (aG:Wn st.objs id=some (.arr e xs)) (bu:(ν id).blk=some g) (hk:k<=xs.length) (dI:a.eval s= .slice (some ⟨g,(ν id).off,none⟩) k (ν id).cap)
  {l:List e.den} {m:List Nat} {news:List Value} (hx:Src w0 F G ν st w e l m (a.eval x) news) (hm:id∉m) (ax:Wz (k+l.length)=true):
  Done P w0 F nt G0 o a w (({env:=st.env,objs:=(st.nx,.arr e (Xh (xs.take k) l))::kill st.objs (id::m),nx:=st.nx+1}:St).put o.dst (.s (.one (.own st.nx)))):=by
 obtain⟨hu,i,z,hi,cj,hz,hY,mt⟩:=hE;have re:k+l.length<=1073741824:=by grind [Wz]
 have fL:=WbW e;have ad:(Xh (xs.take k) l).length=k+l.length:=by show(xs.take k++l).length=_;rw[Xaa,Xbj,Xcd hk]
 obtain⟨φ0,hφ0⟩:=hr.h;have iE:WbN w (Wy G w e) e.size (ν id) xs (φ0 id):=hφ0.ob _ _ aG;have lS:=iE.2.2;simp only[bu]at lS;obtain⟨hxc,iZ,⟨row,TT,ge,bf⟩,_⟩:=lS;obtain⟨c1,rf,_,ol,om,_,_⟩:=WdR iE bu hk;obtain⟨vX,e0,_⟩:=hx.enc φ0 hφ0;have jo:news.length=l.length*e.size:=Wa4 (λx c q hx=>WH e x c q hx) _ _ _ e0;have aQ:Live st.objs id:=⟨_,aG,by simp⟩;have oo:∀{c2:List Value},c2.length=k*e.size->Mem w g (ν id).off c2->c2=c1:=λ{c2} h1 h2=>Xdl λj=>by
  by_cases hj:j<k*e.size
  .have lT:j<c2.length:=by omega
   have qf:j<c1.length:=by omega
   have a1:=h2 j _ (Xq lT);have a2:=om j _ (Xq qf);simp_all
  simp_all
 have inplace:∀(W:World),WLe (rng g ((ν id).off+k*e.size) (l.length*e.size)) w W->Mem W g ((ν id).off+k*e.size) news->k+l.length<=(ν id).cap->
   ∃ν',Rel w0 F nt G0 G ν' (({env:=st.env,objs:=(st.nx,.arr e (Xh (xs.take k) l))::kill st.objs (id::m),nx:=st.nx+1}:St).put o.dst (.s (.one (.own st.nx)))) (a.put o.dst (.slice (some ⟨g,(ν id).off,none⟩) (k+l.length) (ν id).cap)) W:=by
  intro W hW hM cw;have jX:(k+l.length)*e.size<=(ν id).cap*e.size:=Xax _ cw;rw[Xcs]at jX;have ib:CS.le (rng g ((ν id).off+k*e.size) (l.length*e.size)) (rng g (ν id).off ((ν id).cap*e.size)):=λb o ⟨k0,k1,k2⟩=>⟨k0,by omega,by omega⟩;refine⟨upd ν st.nx ⟨some g,(ν id).off,k+l.length,(ν id).cap,e.size⟩,hr.fresh hd (id::m) (.arr e (Xh (xs.take k) l)) _ (λφ b o=>φ id b o\/FromL φ st.objs m b o) _ _ (λφ hφ=>?_) (λφ hφ b o hh=>?_) (λφ hφ=>?_) ⟨⟨Xbt _,by rw[Wbt];rfl⟩,rfl⟩⟩
  .have aR:WbN w (Wy G w e) e.size (ν id) xs (φ id):=hφ.ob _ _ aG;obtain⟨_,_,_,_,_,_,bd⟩:=WdR aR bu hk;exact hW.mono λb o hh=>⟨id,.inr (Xj ..),aQ,bd _ (Xj ..) b o (ib b o hh)⟩
  .rcases hh with hh|⟨j,hj,h1,h2⟩
   .exact .inl ⟨id,.inr (Xj ..),aQ,hh⟩
   .exact .inl ⟨j,.inr (Xf _ hj),h1,h2⟩
  .have aR:WbN w (Wy G w e) e.size (ν id) xs (φ id):=hφ.ob _ _ aG;obtain⟨nB,p1,g3,g4,g5,g6,g7⟩:=WdR aR bu hk;obtain⟨ps,k1,k2,k3⟩:=hx.enc φ hφ;obtain⟨q1,q2⟩:=Xy.1 g6;have gG:=g7 _ (Xj ..);have lU:∀p∈p1,CS.le p.fp (φ id):=λp hp=>g7 _ (Xf _ (Xam hp));have oq:∀p∈ps,∀S,CS.le S (φ id)->CS.disj S p.fp:=λp hp S hS b o h1 h2=>by
    obtain⟨j,hj,h3,h4⟩:=k3 p hp b o h2;have:=hφ.inj id j b o aQ h3 (hS b o h1) h4;simp_all
   have iD:∀p∈p1,Same p.fp w W:=λp hp=>hW.same ((q1 p.fp (Xam hp)).mono ib (λ_ _ hh=>hh)) (λb o hh=>hφ.bl id b o aQ (lU p hp b o hh));have j7:∀p∈ps,Same p.fp w W:=λp hp=>hW.same (oq p hp _ (λb o hh=>gG b o (ib b o hh))) (λb o hh=>by
    obtain⟨j,hj,h3,h4⟩:=k3 p hp b o hh;exact hφ.bl j b o h3 h4)
   show WbN W (Wy G W e) e.size (upd ν st.nx ⟨some g,(ν id).off,k+l.length,(ν id).cap,e.size⟩ st.nx) _ _;rw[Wbt];refine⟨ad,rfl,by simp_all,iZ,hW.rows.row _ _ ⟨row,TT,ge,bf⟩,nB++news,p1++ps,WdY _ _ _ _ _ _ ?_ ?_,?_,Xy.2 ⟨λs hs=>?_,?_⟩,λs hs b o hh=>?_⟩
   .exact WbQ (Q:=λq=>Same q.fp w W) (λx c q hq hx=>WaE (λ_ _ _ hh=>hh) e x c q hq hx) _ _ _ iD g3
   .exact WbQ (Q:=λq=>Same q.fp w W) (λx c q hq hx=>WaE (λ_ _ _ hh=>hh) e x c q hq hx) _ _ _ j7 k1
   .refine Mem.app (n:=k*e.size) (λj v hj=>?_) hM g4;have h1:=g5 j v hj;have eF:j<nB.length:=(Xab.1 hj).1;rw[hW.cell g ((ν id).off+j) (block_lt_of_cell h1) (λ⟨_,h2,_⟩=>by omega)];exact h1
   .grind
   .rw[Xz];refine Xah.2 ⟨q2,k2,λs hs t ht=>?_⟩
    grind
   .rcases Xs.1 hs with rfl|hs
    .exact .inl (gG b o hh)
    .rw[Xz]at hs;rcases Xo.1 hs with hs|hs
     .obtain⟨p,hp,rfl⟩:=Xw.1 hs;exact .inl (lU p hp b o hh)
     .obtain⟨q,hq,rfl⟩:=Xw.1 hs;exact .inr (k3 q hq b o hh)
 rcases hx.rd with⟨aN,bJ⟩|⟨pa,cc,aN,bz⟩
 .have nA:l.length=0:=by simp_all
  have qc:news= []:=Xx (by simp_all);obtain⟨ν',hh⟩:=inplace w (WLe.refl _ w) (by rw[qc];exactλj v hj=>by simp at hj) (by omega);refine⟨_,_,_,G,ν',Wb9 ho hc ha dC ?_,.inl rfl,hh⟩
  grind [WeV]
 .by_cases cw:k+l.length<=(ν id).cap
  .have rh:(k+l.length)*e.size<=(ν id).cap*e.size:=Xax _ cw;rw[Xcs]at rh;have bh:=Wil (P:=P) (w:=w) t o.type et TT i hu hi g (ν id).off k (ν id).cap row ge pa l.length cc news (by rw[cj];exact jo) (λj v hj=>bz j v hj) (WnS _ _ _ e0) cw (by rw[cj,jo];omega);obtain⟨hw,ls⟩:=Wc3 (k:=(ν id).off+k*i.size) (news:=news) ge (by rw[cj,jo];omega);generalize w.setRow g (row.toList.take ((ν id).off+k*i.size)++news++row.toList.drop ((ν id).off+k*i.size+news.length)).toArray=W at bh hw ls;rw[cj]at hw ls;rw[jo]at hw;obtain⟨ν',hh⟩:=inplace W hw ls cw;exact⟨_,_,_,G,ν',Wb9 ho hc ha dC (by rw[dI,aN,bh]),.inl rfl,hh⟩
  .obtain⟨qa,ln⟩:=WuI w (k+l.length) (ν id).cap et ax;have cP:(c1++news).length=(Xh (xs.take k) l).length*e.size:=by rw[Xaa,ol,jo,ad,Xcs]
   obtain⟨ν',hh⟩:=WkQ hr hd (id::m) (xs:=Xh (xs.take k) l) cP (λφ hφ=>by
    have aR:WbN w (Wy G w e) e.size (ν id) xs (φ id):=hφ.ob _ _ aG;obtain⟨nB,p1,g3,g4,g5,g6,g7⟩:=WdR aR bu hk;obtain⟨ps,k1,k2,k3⟩:=hx.enc φ hφ;have:=oo g4 g5;subst this;obtain⟨q1,q2⟩:=Xy.1 g6;have lU:∀p∈p1,CS.le p.fp (φ id):=λp hp=>g7 _ (Xf _ (Xam hp));refine⟨p1++ps,WdY _ _ _ _ _ _ g3 k1,?_,λp hp b o hh=>?_⟩
    .rw[Xz];refine Xah.2 ⟨q2,k2,λs hs t ht=>?_⟩;obtain⟨p,hp,rfl⟩:=Xw.1 hs;obtain⟨q,hq,rfl⟩:=Xw.1 ht;intro b o h1 h2;obtain⟨j,hj,h3,h4⟩:=k3 q hq b o h2;have:=hφ.inj id j b o aQ h3 (lU p hp b o h1) h4;subst this;exact hm hj
    .rcases Xo.1 hp with hp|hp
     .exact⟨id,Xj ..,aQ,lU p hp b o hh⟩
     .exact FromL.mono (λi hi=>Xf _ hi) b o (k3 p hp b o hh)) (by rw[ad];exact qa) ln z.cells hY et
   have tX:(k+l.length)*i.bytes<=140737488355328:=by
    have:=Nat.mul_le_mul re mt;omega
   have bh:=run_append_grow (P:=P) w t o.type et i z hu hi hz ⟨g,(ν id).off,none⟩ k (ν id).cap c1 (by rw[cj];exact ol) (λj v hj=>by rw[Wa5];exact om j v hj) pa l.length cc news (by rw[cj];exact jo) (λj v hj=>bz j v hj) (by omega) (by omega) (growslice_fits (by omega) tX);refine⟨_,_,_,G,ν',Wb9 ho hc ha dC ?_,.inl rfl,hh⟩;rw[dI,aN,bh,ad];simp
theorem Wlo{id:Nat}{e:Ty}{xs:List e.den}(hh:HRel w0 F G ν objs nx w)(aG:Wn objs id=some (.arr e xs)):
  ((ν id).blk=none/\xs= []/\(ν id).hdr= .slice none 0 0)\/∃g,(ν id).blk=some g/\(ν id).hdr= .slice (some ⟨g,(ν id).off,none⟩) xs.length (ν id).cap:=by
 obtain⟨S,ho⟩:=hh.obj aG;unfold Nu.hdr;cases hb:(ν id).blk with
 |none=>exact .inl ⟨rfl,Wcr ho hb,rfl⟩
 |some g=>exact .inr ⟨g,rfl,by rw[ho.1]⟩
theorem WmG(hT:Wai P T)(hr:Rel w0 F nt G0 G ν st a w){o:Oper}(hd:∀d,o.dst=some d->nt.Ok d){c:Call}{s x:Operand}{t et:TypeId}{ty:Ty}{te:TE}{sv xv:AVal}{R:Type}{k:St->Option R}{r:R}
  (hl:Wn T t=some ⟨ty,false,.slice et⟩) (bd:Wn T et=some te) (hp:te.plain=true)
  (ho:o.op= .call c) (hc:c.callee= .builtin .append) (ha:c.args.toList= [s,x]) (dC:c.argTypes.toList= [t,t]) (hs:ev st s=some sv) (hx:ev st x=some xv)
  (h:WeJ st te.ty sv xv (λx objs nx=>k (({env:=st.env,objs:=objs,nx:=nx}:St).put o.dst x))=some r):∃af,k af=some r/\Done P w0 F nt G0 o a w af:=by
 have move:∀(e:Ty) (l:List e.den) (m:List Nat),Wt3 st e xv=some (l,m)->∃news,Src w0 F G ν st w e l m (a.eval x) news:=λe l m gH=>by
  unfold Wt3 at gH;split at gH
  .simp only[Option.some.injEq,Prod.mk.injEq]at gH;obtain⟨rfl,rfl⟩:=gH;obtain⟨hv,_⟩:=WK hr x _ hx;exact⟨[],λφ _=>⟨[],⟨rfl,rfl⟩,List.Pairwise.nil,by simp⟩,.inl ⟨hv,rfl⟩⟩
  .rename_i id;split at gH
   .rename_i e' xs aG;obtain⟨ys,bF,gH⟩:=Xt.1 gH;have h2:=Prod.mk.inj gH;obtain⟨h3,h4⟩:=h2;subst h3 h4;obtain⟨lr,tY⟩:=Waw bF;subst lr;simp only at tY;subst tY;obtain⟨⟨_,hv⟩,_⟩:=WK hr x _ hx;have aQ:Live st.objs id:=⟨_,aG,by simp⟩;rcases Wlo hr.h aG with⟨hb,bJ,hh⟩|⟨g,hb,hh⟩
    .subst bJ;exact⟨[],λφ _=>⟨[],⟨rfl,rfl⟩,List.Pairwise.nil,by simp⟩,.inl ⟨by rw[hv,hh],rfl⟩⟩
    .obtain⟨φ0,hφ0⟩:=hr.h;have iE:WbN w (Wy G w e') e'.size (ν id) xs (φ0 id):=hφ0.ob _ _ aG;obtain⟨c1,p1,g1,g2,g3,g4,g5⟩:=WdR iE hb (Xm _);refine⟨c1,λφ hφ=>?_,.inr ⟨⟨g,(ν id).off,none⟩,(ν id).cap,by rw[hv,hh],λj u hj=>by rw[Wa5];exact g3 j u hj⟩⟩;have aR:WbN w (Wy G w e') e'.size (ν id) xs (φ id):=hφ.ob _ _ aG;obtain⟨nB,vY,k1,k2,k3,k4,k5⟩:=WdR aR hb (Xm _);have:nB=c1:=Xdl λj=>by
      by_cases hj:j<xs.length*e'.size
      .have lT:j<nB.length:=by omega
       have qf:j<c1.length:=by omega
       have a1:=k3 j _ (Xq lT);have a2:=g3 j _ (Xq qf);rw[a1]at a2;rw[Xq lT,Xq qf];exact a2
      .rw[Xbp (by omega),Xbp (by omega)]
     subst this;rw[Xdf]at k1;exact⟨vY,k1,(Xy.1 k4).2,λp hp b o hh=>⟨id,Xag.2 rfl,aQ,k5 _ (Xf _ (Xam hp)) b o hh⟩⟩
   .simp at gH
  .simp at gH
 unfold WeJ at h;split at h
 .split at h
  .rename_i e ot;split at h
   .rename_i he;split at h
    .rename_i l m gH;obtain⟨news,dA⟩:=move e l m gH;cases ax:Wz l.length with
     |false=>simp[ax]at h
     |true=>
      simp[ax]at h;obtain⟨dI,_⟩:=WK hr s _ hs;exact⟨_,h,Wbo hr hd (elT hT hl bd hp (by rw[←he,WbC])) ho hc ha dC dI dA (λi hi=>hi) ax⟩
    .simp at h
   .simp at h
  .simp at h
 .rename_i id;split at h
  .rename_i e xs aG;split at h
   .rename_i he;split at h
    .rename_i l m gH;obtain⟨news,dA⟩:=move e l m gH;split at h
     .rename_i be;have be:=(Xac.1 ((Wdb _).1 be)).1;cases ax:Wz (xs.length+l.length)with
      |false=>simp[ax]at h
      |true=>
       simp[ax]at h;refine⟨_,h,?_⟩;have hE:ElT P t et e:=elT hT hl bd hp (by rw[←he,WbC]);obtain⟨⟨_,dI⟩,_⟩:=WK hr s _ hs;rcases Wlo hr.h aG with⟨hb,bJ,hh⟩|⟨g,hb,hh⟩
       .subst bJ;exact Wbo hr hd hE ho hc ha dC (by rw[dI,hh]) dA (λi hi=>Xf _ hi) (by simpa [Wz]using ax)
       .have:=WdA hr hd hE ho hc ha dC aG hb (Xm _) (by rw[dI,hh]) dA be ax;rw[Xdf]at this;exact this
     .simp at h
    .simp at h
   .simp at h
  .simp at h
 .simp at h
theorem Woo(hT:Wai P T)(hr:Rel w0 F nt G0 G ν st a w){o:Oper}(hd:∀d,o.dst=some d->nt.Ok d){c:Call}{s x:Operand}{t t2:TypeId}{sv xv:AVal}{R:Type}{k:St->Option R}{r:R}
  (ho:o.op= .call c) (hc:c.callee= .builtin .append) (ha:c.args.toList= [s,x]) (dC:c.argTypes.toList= [t,t2]) (hs:ev st s=some sv) (hx:ev st x=some xv)
  (h:Wea T st t t2 sv xv (λx objs nx=>k (({env:=st.env,objs:=objs,nx:=nx}:St).put o.dst x))=some r):∃af,k af=some r/\Done P w0 F nt G0 o a w af:=by
 unfold Wea at h;split at h
 .rename_i ty et _ hl _;split at h
  .rename_i te bd;split at h
   .rename_i bE;obtain⟨rfl,hp,bn⟩:=bE;have hE:ElT P t et te.ty:=elT hT hl bd hp rfl;cases gT:Wuw st sv xv with
    |false=>
     simp only[gT,Bool.not_false,Wb]at h;exact WmG hT hr hd hl bd hp ho hc ha dC hs hx h
    |true=>
    simp only[gT,Bool.not_true,Wa]at h;split at h
    .rename_i l dH;cases ax:Wz l.length with
     |false=>simp[ax]at h
     |true=>
      simp[ax]at h;obtain⟨dI,_⟩:=WK hr s _ hs;obtain⟨news,dA⟩:=WjB hr bn [] (WK hr x _ hx) dH;exact⟨_,h,Wbo (m':=[]) hr hd hE ho hc ha dC dI dA (λi hi=>hi) ax⟩
    .rename_i id l dH;split at h
     .rename_i e0 xs aG;split at h
      .rename_i ys bF;obtain⟨he,hy⟩:=WfR bF;injection he with he;subst he;simp only at hy;subst hy;cases ax:Wz (Xb xs+l.length)with
       |false=>simp[ax]at h
       |true=>
        simp[ax]at h;refine⟨_,h,?_⟩;obtain⟨⟨_,dI⟩,_⟩:=WK hr s _ hs;obtain⟨news,dA⟩:=WjB hr bn [] (WK hr x _ hx) dH;rcases Wlo hr.h aG with⟨hb,bJ,hh⟩|⟨g,hb,hh⟩
        .subst bJ;exact Wbo (m':=[id]) hr hd hE ho hc ha dC (by rw[dI,hh]) dA (λi hi=>by simp at hi) (by simpa [Wz]using ax)
        .have:=WdA hr hd hE ho hc ha dC aG hb (Xm _) (by rw[dI,hh]) dA (by simp) ax;rw[Xdf]at this;exact this
      .simp at h
     .simp at h
    .rename_i id hi l dH;split at h
     .rename_i e0 xs aG;split at h
      .rename_i ys bF;obtain⟨he,hy⟩:=WfR bF;injection he with he;subst he;simp only at hy;subst hy;cases ax:Wz (hi+l.length)with
       |false=>simp[ax]at h
       |true=>
        simp[ax]at h;refine⟨_,h,?_⟩;obtain⟨⟨_,g1,g2,g3,dI⟩,_⟩:=WK hr s _ hs;obtain⟨news,dA⟩:=WjB hr bn [] (WK hr x _ hx) dH;obtain⟨S,aR⟩:=hr.h.obj aG;unfold Nu.vhdr at dI;cases hb:(ν id).blk with
        |none=>
         have bJ:=Wcr aR hb;simp only[hb]at dI;have h0:=g3 hb;subst h0;show Done P w0 F nt G0 o a w (({env:=st.env,objs:=(st.nx,.arr te.ty l)::(id,.dead)::st.objs,nx:=st.nx+1}:St).put o.dst (.s (.one (.own st.nx))));exact Wbo (m':=[id]) hr hd hE ho hc ha dC dI dA (λi hi=>by simp at hi) (by simpa [Wz]using ax)
        |some g=>
         simp only[hb,Nat.sub_zero,Xeq,Xbe,ite_self]at dI;exact WdA hr hd hE ho hc ha dC aG hb (by rw[aR.1];exact g2) dI dA (by simp) ax
      .simp at h
     .simp at h
    .simp at h
   .simp at h
  .simp at h
 .simp at h
end
end Go.Sx
namespace Go.Sx
set_option linter.unusedVariables false
set_option linter.unusedSimpArgs false
section
variable{w0:World}{F:CS}{nt:Slots}{G0 G:GH}{ν:Nat->Nu}{φ:Nat->CS}{objs:Wab}{nx:Nat}{st af:St}{a:Act}{w w':World}{P:Program}{T:Tab}
theorem WiQ{t et:TypeId}{te:TE}{nu:Nu}{n:Nat}{lo hi:Option Int}{vl vh:Option Value}(hu:P.underlying t=some (.slice et))(bQ:TEok P T et te)(hp:te.plain=true)(cu:nu.esz=te.ty.size)
  (hc:n<=nu.cap) (hn:n=nu.len) (bu:nu.blk=none->n=0) (hl:BRel lo vl) (hh:BRel hi vh) (hb:(WcY n lo hi).1=true):
  (Instr.sliceAt t nu.hdr vl vh none).run P w= .ok (nu.vhdr (WcY n lo hi).2.1 (WcY n lo hi).2.2) w/\(WcY n lo hi).2.1<=(WcY n lo hi).2.2/\(WcY n lo hi).2.2<=n:=by
 unfold Nu.hdr Nu.vhdr;cases hk:nu.blk with
 |none=>
  have h0:=bu hk;subst h0;obtain⟨hr,h3,h4⟩:=Wc2 (P:=P) (w:=w) (isSlice:=true) (cap:=0) hl hh (Xm _) hb;have e1:(WcY 0 lo hi).2.2=0:=by omega
  have e2:(WcY 0 lo hi).2.1=0:=by omega
  rw[e1,e2]at hr⊢;refine⟨?_,Xm _,Xm _⟩;simp[Instr.sliceAt,Instr.slice,Wl hu,hr,bQ.sizeOf]
 |some b=>
  obtain⟨hr,h7,h8⟩:=Wc2 (P:=P) (w:=w) (isSlice:=true) (cap:=nu.cap) hl hh hc hb;refine⟨?_,h7,h8⟩;rw[←hn];generalize (WcY n lo hi).2.1=p at*;generalize (WcY n lo hi).2.2=q at*;have cj:te.size=nu.esz:=by rw[WY hp,cu]
  simp only[Instr.sliceAt,Instr.slice,Sem.run_bind,Wl hu,Result.andThen_ok,hr,bQ.sizeOf,Sem.run_pure,cj,Xbx,Wa5];split<;>rfl
theorem WsS{id:Nat}{e:Ty}{xs:List e.den}{S:CS}(h:WcM G ν nx w id S (.arr e xs)):((ν id).blk=none->xs.length=0)/\((ν id).blk≠none->xs.length<=(ν id).cap):=by
 refine⟨λhb=>by rw[Wcr h hb];rfl,λhb=>?_⟩;obtain⟨_,_,h3⟩:=h
 grind
theorem WnD{t et:TypeId}{te:TE}{id:Nat}{e:Ty}{xs:List e.den}{S:CS}(ho:WcM G ν nx w id S (.arr e xs)){lo hi:Option Int}{vl vh:Option Value}(hu:P.underlying t=some (.slice et))(bQ:TEok P T et te)(hp:te.plain=true)(he:te.ty.size=e.size)
  (hl:BRel lo vl) (hh:BRel hi vh) (hb:(WcY xs.length lo hi).1=true):
  (Instr.sliceAt t (ν id).hdr vl vh none).run P w= .ok ((ν id).vhdr (WcY xs.length lo hi).2.1 (WcY xs.length lo hi).2.2) w/\(WcY xs.length lo hi).2.1<=(WcY xs.length lo hi).2.2/\(WcY xs.length lo hi).2.2<=xs.length:=by
 obtain⟨h1,h2⟩:=WsS ho;have ad:=ho.1;have cu:=ho.2.1;cases hk:(ν id).blk with
 |some b=>grind [WiQ]
 |none=>
  have h0:=h1 hk;have bJ:xs= []:=Xx h0;have e0:(ν id).hdr=(⟨none,(ν id).off,(ν id).len,0,(ν id).esz⟩:Nu).hdr:=by grind [Nu.hdr]
  have e1:∀p q,(ν id).vhdr p q=(⟨none,(ν id).off,(ν id).len,0,(ν id).esz⟩:Nu).vhdr p q:=λp q=>by grind [Nu.vhdr]
  rw[e0,e1];exact WiQ hu bQ hp (by show(ν id).esz=_;rw[cu,he]) (by omega) ad (λ_=>h0) hl hh hb
theorem WgY{o:Oper}{t:TypeId}{x:Operand}{lo hi:Option Operand}{v:Value}(ho:o.op= .slice t x lo hi none)(h:(Instr.sliceAt t (a.eval x) (lo.map a.eval) (hi.map a.eval) none).run P w= .ok v w):(execOp a.eval o).run P w= .ok (.value v) w:=by
 grind [execOp,Sem.run_bind,Result.andThen_ok,Sem.run_pure]
theorem Wsv(hT:Wai P T)(hr:Rel w0 F nt G0 G ν st a w){o:Oper}(hd:∀d,o.dst=some d->nt.Ok d){t et:TypeId}{ty:Ty}{te:TE}{x:Operand}{lo hi:Option Operand}(ho:o.op= .slice t x lo hi none)
  {id:Nat} {l h:Option Int} {R:Type} {k:St->Option R} {r:R} (hx:ev st x=some (.s (.one (.own id)))) (hl:Wn T t=some ⟨ty,false,.slice et⟩) (bd:Wn T et=some te) (hp:te.plain=true) (h1:Wmy st lo=some l) (h2:Wmy st hi=some h)
  (hk:WfH st te.ty id l h (λx objs nx=>k (({env:=st.env,objs:=objs,nx:=nx}:St).put o.dst x))=some r):∃af,k af=some r/\Done P w0 F nt G0 o a w af:=by
 unfold WfH at hk;split at hk
 .rename_i e xs aG;split at hk
  case isFalse=>simp at hk
  rename_i od;cases hb:(WcY (Xb xs) l h).1 with
  |false=>simp_all
  |true=>
   simp only[hb,Wb]at hk;refine⟨_,hk,?_⟩;obtain⟨⟨bM,dI⟩,_⟩:=WK hr x _ hx;obtain⟨S,aR⟩:=hr.h.obj aG;have gD:=Wdg hr lo _ h1;have ou:=Wdg hr hi _ h2;obtain⟨g1,g2,g3⟩:=WnD (w:=w) aR (hT _ _ hl).und.2.1 (hT _ _ bd) hp (by rw[od,WbC]) gD ou hb;refine⟨_,_,w,G,ν,WgY ho (by simp_all),.inl rfl,hr.put hd ⟨⟨bM,g2,by rw[←aR.1];exact g3,λqg=>?_,rfl⟩,WpF _ _ _⟩⟩
   grind [WsS]
 grind
theorem Wue(n:Nu)(h:Nat):n.part 0 h=⟨n.blk,n.off,h,n.cap,n.esz⟩:=by
 unfold Nu.part;simp
theorem WwK(n:Nu)(h:Nat):n.vhdr 0 h=(⟨n.blk,n.off,h,n.cap,n.esz⟩:Nu).hdr:=by
 rw[←Wue,Wlu]
theorem Wqs(hT:Wai P T)(hr:Rel w0 F nt G0 G ν st a w){o:Oper}(hd:∀d,o.dst=some d->nt.Ok d){t et:TypeId}{ty:Ty}{x:Operand}{lo hi:Option Operand}(ho:o.op= .slice t x lo hi none)
  {id:Nat} {e:Ty} {xs:List e.den} {te:TE} {h:Int} (hx:ev st x=some (.s (.one (.own id)))) (hl:Wn T t=some ⟨ty,false,.slice et⟩) (bd:Wn T et=some te) (hp:te.plain=true) (he:te.ty=e.ro) (aG:Wn st.objs id=some (.arr e xs)) (br:Wmy st lo=some none) (hh:Wmy st hi=some (some h))
  (h0:0<=h) (h1:h<=(xs.length:Int)):Done P w0 F nt G0 o a w (({env:=st.env,objs:=(st.nx,.arr e (xs.take h.toNat))::kill st.objs [id],nx:=st.nx+1}:St).put o.dst (.s (.one (.own st.nx)))):=by
 obtain⟨⟨bM,dI⟩,_⟩:=WK hr x _ hx;obtain⟨S,aR⟩:=hr.h.obj aG;have gD:=Wdg hr lo _ br;have ou:=Wdg hr hi _ hh;have hb:(WcY xs.length none (some h)).1=true:=by simp[WcY,h0,h1]
 obtain⟨g1,g2,g3⟩:=WnD (w:=w) aR (hT _ _ hl).und.2.1 (hT _ _ bd) hp (by rw[he,WbC]) gD ou hb;have e1:(WcY xs.length none (some h)).2.1=0:=rfl;have e2:(WcY xs.length none (some h)).2.2=h.toNat:=rfl;rw[e1,e2,WwK]at g1;refine⟨_,_,w,G,upd ν st.nx ((ν id).part 0 h.toNat),WgY ho (by rw[dI];exact g1),.inl rfl,?_⟩;have aQ:Live st.objs id:=⟨_,aG,by simp⟩;refine hr.fresh hd [id] (.arr e (xs.take h.toNat)) _ (λφ=>φ id) _ _ (λφ _=>WLe.refl _ w) (λφ _ b o hh=>.inl ⟨id,.inr (Xag.2 rfl),aQ,hh⟩) (λφ hφ=>?_) ⟨⟨Xbt _,by rw[Wbt,Wue]⟩,Wje _⟩;show WbN w (Wy G w e) e.size (upd ν st.nx ((ν id).part 0 h.toNat) st.nx) (xs.take h.toNat) (φ id);rw[Wbt];have fQ:WbN w (Wy G w e) e.size (ν id) xs (φ id):=hφ.ob _ _ aG;have:=WpK (lo:=0) (hi:=h.toNat) fQ (Nat.zero_le _) (by rw[←fQ.1];omega);simp_all
theorem Wj9(hT:Wai P T)(hr:Rel w0 F nt G0 G ν st a w){o:Oper}(hd:∀d,o.dst=some d->nt.Ok d){t et:TypeId}{ty:Ty}{x:Operand}{lo hi:Option Operand}(ho:o.op= .slice t x lo hi none)
  {id i p:Nat} {e:Ty} {xs:List e.den} {te:TE} {h:Int} (hx:ev st x=some (.s (.one (.own id)))) (hl:Wn T t=some ⟨ty,false,.slice et⟩) (bd:Wn T et=some te) (hp:te.plain=true) (he:te.ty=e.ro) (aG:Wn st.objs id=some (.hole e xs i p)) (ri:Wsa (Wn st.objs p) e.size=true) (br:Wmy st lo=some none) (hh:Wmy st hi=some (some h))
  (h0:0<=h) (h1:h<=(xs.length:Int)) (h2:h<=(i:Int)):Done P w0 F nt G0 o a w (({env:=st.env,objs:=(st.nx,.arr e (xs.take h.toNat))::kill st.objs [id,p],nx:=st.nx+1}:St).put o.dst (.s (.one (.own st.nx)))):=by
 obtain⟨⟨bM,dI⟩,_⟩:=WK hr x _ hx;obtain⟨S,ll,hole⟩:=hr.h.obj aG;have fZ:∃cs,Wn st.objs p=some (.box cs)/\cs.length=e.size:=by
  unfold Wsa at ri
  grind [Xck]
 obtain⟨pcs,fZ,eU⟩:=fZ;have gD:=Wdg hr lo _ br;have ou:=Wdg hr hi _ hh;have hb:(WcY xs.length none (some h)).1=true:=by simp[WcY,h0,h1]
 obtain⟨k1,k2,k3,b,k4,k5,k6,k7,k8,k9,_⟩:=hole;obtain⟨g1,g2,g3⟩:=WiQ (w:=w) (nu:=ν id) (hT _ _ hl).und.2.1 (hT _ _ bd) hp (by rw[k2,he,WbC]) k7 k1 (λhn=>by simp_all) gD ou hb;have e1:(WcY xs.length none (some h)).2.1=0:=rfl;have e2:(WcY xs.length none (some h)).2.2=h.toNat:=rfl;rw[e1,e2,WwK]at g1;refine⟨_,_,w,G,upd ν st.nx ((ν id).part 0 h.toNat),WgY ho (by rw[dI];exact g1),.inl rfl,?_⟩;have aQ:Live st.objs id:=⟨_,aG,by simp⟩;have eZ:Live st.objs p:=⟨_,fZ,by simp⟩;refine hr.fresh hd [id,p] (.arr e (xs.take h.toNat)) _ (λφ b o=>φ id b o\/φ p b o) _ _ (λφ _=>WLe.refl _ w) (λφ _ b o hh=>?_) (λφ hφ=>?_) ⟨⟨Xbt _,by rw[Wbt,Wue]⟩,Wje _⟩
 .rcases hh with hh|hh
  .exact .inl ⟨id,.inr (by simp),aQ,hh⟩
  .exact .inl ⟨p,.inr (by simp),eZ,hh⟩
 .show WbN w (Wy G w e) e.size (upd ν st.nx ((ν id).part 0 h.toNat) st.nx) (xs.take h.toNat) _;rw[Wbt,Wue];obtain⟨ll,hole⟩:p<st.nx/\Wh4 w (Wy G w e) e.size (ν id) (ν p) xs i (φ id):=hφ.ob _ _ aG;obtain⟨_,_,_,b',qh,k5',_,_,_,_,c1,c2,p1,p2,j1,j2,j3,j4,j5,j6⟩:=hole;rw[k4]at qh;injection qh with qh;subst qh;obtain⟨b2,vs,q1,q2,q3,q4,q5⟩:WcM G ν st.nx w p (φ p) (.box pcs):=hφ.ob _ _ fZ;rw[k5]at q1;injection q1 with q1;subst q1;rw[eU,k6]at q5;obtain⟨d1,d2,r1,r2,t1,t2,t3,t4⟩:=WeO _ _ _ h.toNat j1;rw[List.take_take,Xcd (by omega)]at t3;have gA:=j6 _ (Xj ..);have gC:=j6 _ (Xf _ (Xj ..));obtain⟨s1,s2⟩:=Xy.1 j5;obtain⟨s3,s4⟩:=Xy.1 s2;have eE:∀s∈r1.map Pc.fp,s∈(p1++p2).map Pc.fp:=λs hs=>by simp_all
  have gp:∀s∈r1.map Pc.fp,CS.le s (φ id):=λs hs=>j6 s (Xf _ (Xf _ (eE s hs)));have rj:∀b o,φ id b o->φ p b o->False:=λb o x1 x2=>by
   have:=hφ.inj id p b o aQ eZ x1 x2;simp_all
  refine⟨by simp;omega,k2,?_⟩;simp only[k4];refine⟨by simp;omega,k8,k9,d1,r1,t3,by rw[t1]at j3;exact j3.left,Xy.2 ⟨λs hs=>?_,?_⟩,λs hs=>?_⟩
  .exactλb' o jm iW=>(Wgr (show i<(ν id).cap by omega) (S:=λb o=>¬s b o) (λb o hh iW=>s1 s (Xf _ (eE s hs)) b o hh iW) (λb o hh iW=>rj b o (gp s hs b o iW) (q5 b o hh)) (λb o hh iW=>s3 s (eE s hs) b o hh iW) b' o jm) iW
  .grind
  .rcases Xs.1 hs with rfl|hs
   .exact Wgr (show i<(ν id).cap by omega) (λb o hh=>.inl (gA b o hh)) (λb o hh=>.inr (q5 b o hh)) (λb o hh=>.inl (gC b o hh))
   .exactλb o hh=>.inl (gp s hs b o hh)
theorem WqR(hT:Wai P T)(hr:Rel w0 F nt G0 G ν st a w){o:Oper}(hd:∀d,o.dst=some d->nt.Ok d){c:Call}{x:Operand}{t et:TypeId}{ty:Ty}{te:TE}{e:Ty}{xs:List e.den}{id lo hi:Nat}
  (ho:o.op= .call c) (hc:c.callee= .builtin .clear) (ha:c.args.toList= [x]) (dC:c.argTypes.toList= [t]) (hx:ev st x=some (.s (.one (.vw id lo hi)))) (hl:Wn T t=some ⟨ty,false,.slice et⟩) (bd:Wn T et=some te)
  (aG:Wn st.objs id=some (.arr e xs)) (he:te.ty=e) (hp:te.plain=true) (bn:e.data=true):
  Done P w0 F nt G0 o a w (({env:=st.env,objs:=(id,.arr e (xs.take lo++Xp (hi-lo) e.dflt++xs.drop hi))::st.objs,nx:=st.nx}:St).put o.dst (.tup [])):=by
 have hu:=(hT _ _ hl).und.2.1;obtain⟨⟨bM,g1,g2,g3,hv⟩,_⟩:=WK hr x _ hx;obtain⟨φ,hφ⟩:=hr.h;have aR:WbN w (Wy G w e) e.size (ν id) xs (φ id):=hφ.ob _ _ aG;have aQ:Live st.objs id:=⟨_,aG,by simp⟩;have ov:∀W,(Builtin.clear_ #[t] o.type #[a.eval x]).run P w= .ok (.tuple #[]) W->(execOp a.eval o).run P w= .ok (.value (.tuple #[])) W:=λW bh=>by
  obtain⟨callee,args,argTypes⟩:=c;obtain⟨args⟩:=args;obtain⟨argTypes⟩:=argTypes;simp only at hc ha dC;subst hc ha dC;simp only[execOp,ho,resolve,invoke,builtin,Sem.run_bind,Sem.run_pure,Result.andThen_ok,Xdv,Xaf,Xcg,bh]
 have fR:∀W,(Builtin.clear_ #[t] o.type #[a.eval x]).run P w= .ok (.tuple #[]) W->HRel w0 F G ν ((id,.arr e (xs.take lo++Xp (hi-lo) e.dflt++xs.drop hi))::st.objs) st.nx W->
   Done P w0 F nt G0 o a w (({env:=st.env,objs:=(id,.arr e (xs.take lo++Xp (hi-lo) e.dflt++xs.drop hi))::st.objs,nx:=st.nx}:St).put o.dst (.tup [])):=λW bh hH=>
  ⟨_,_,W,G,ν,ov W bh,.inl rfl,(hr.on (λ_ _ _ hh=>hh) (λ_ _=>rfl) (Xm _) hH hr.gx).put hd ⟨[],rfl,rfl,λj x v hj=>by simp at hj⟩⟩
 by_cases h0:hi-lo=0
 .have nC:hi=lo:=by omega
  have e1:xs.take lo++Xp (hi-lo) e.dflt++xs.drop hi=xs:=by
   simp_all
  refine fR w ?_ ?_
  .rw[hv];unfold Nu.vhdr;rw[h0];cases(ν id).blk<;>simp[Builtin.clear_,Wl hu]
  .rw[e1];exact⟨_,hφ.put (m:=[]) (ν':=ν) (λ_ _=>rfl) (Xm _) (hφ.lt id aQ) (WLe.refl _ w) (λb o hh=>.inl ⟨id,.inl rfl,aQ,hh⟩) (λ_=>aR)⟩
 .cases bu:(ν id).blk with
  |none=>simp_all
  |some b=>
   obtain⟨gS,h4,h5,⟨row,TT,ge,bf⟩,cs,h7,h8,h9⟩:=WdP bn aR bu;obtain⟨z,hz,dY⟩:=Wfa (w:=w) (hT _ _ bd);rw[WbF hp,he]at dY;have hY:z.cells.size=e.size:=by rw[←Xaq,dY,Wbq]
   have cu:=aR.2.1;have cP:cs.length=xs.length*e.size:=Wd1 (λx c hc=>W5 e x c hc) _ _ h7;have tZ:(Builtin.zeroCells z.cells (hi-lo)).toList=rep (WbD e) (hi-lo):=by rw[←dY];exact Wgo z.cells (hi-lo)
   have ct:(rep (WbD e) (hi-lo)).length=(hi-lo)*e.size:=by rw[Wl2,Wbq]
   have rk:lo*e.size+(hi-lo)*e.size=hi*e.size:=by rw[←Xcs];congr 1;omega
   have qi:hi*e.size<=xs.length*e.size:=Xax _ (by omega);have ua:xs.length*e.size<=(ν id).cap*e.size:=Xax _ h4;have eG:∀u∈rep (WbD e) (hi-lo),u.oneCell'=true:=WpZ (G:=G) _ _ (Wg5 bn (hi-lo));have bt:=run_storeCells_at P b ((ν id).off+lo*e.size) TT (rep (WbD e) (hi-lo)) 0 row w ge (by rw[ct];omega) eG;simp only[Xbe]at bt;obtain⟨hw,hm⟩:=Wc3 (k:=(ν id).off+lo*e.size) (news:=rep (WbD e) (hi-lo)) ge (by rw[ct];omega);have bh:(Builtin.clear_ #[t] o.type #[a.eval x]).run P w= .ok (.tuple #[]) (w.setRow b (row.toList.take ((ν id).off+lo*e.size)++rep (WbD e) (hi-lo)++row.toList.drop ((ν id).off+lo*e.size+(rep (WbD e) (hi-lo)).length)).toArray):=by
    rw[hv];unfold Nu.vhdr;simp only[bu,cu];rw[Wc (by omega)];obtain⟨n,hn⟩:∃n,hi-lo=n+1:=⟨hi-lo-1,by omega⟩;simp only[Builtin.clear_,Sem.run_bind,Wl hu,Result.andThen_ok,Xek,List.getElem?_cons_zero];rw[hn]at bt tZ⊢;simp only[Sem.run_bind,hz,Result.andThen_ok,tZ,bt,Sem.run_pure]
   generalize w.setRow b (row.toList.take ((ν id).off+lo*e.size)++rep (WbD e) (hi-lo)++row.toList.drop ((ν id).off+lo*e.size+(rep (WbD e) (hi-lo)).length)).toArray=W at bh hw hm;refine fR W bh (hφ.turn (m:=[]) aG (by simp) hw (λb' o ⟨k0,k1,k2⟩=>h9 b' o ⟨k0,by omega,by omega⟩) ?_);have lV:(xs.take lo++Xp (hi-lo) e.dflt++xs.drop hi).length=xs.length:=by simp;omega
   have ga:Wef (Enc G e) (xs.take lo++Xp (hi-lo) e.dflt++xs.drop hi) (cs.take (lo*e.size)++rep (WbD e) (hi-lo)++cs.drop (hi*e.size)):=
    Wel _ _ _ _ (Wel _ _ _ _ (WeQ (λx c hc=>W5 e x c hc) _ _ lo h7) (Wg5 bn _)) (WeH (λx c hc=>W5 e x c hc) _ _ hi h7)
   refine WmH bn bu (by rw[lV];exact gS) cu (by rw[lV];exact h4) h5 (hw.rows.row _ _ ⟨row,TT,ge,bf⟩) ga ?_ (λb o hh=>.inl (h9 b o hh));have:=Wfc h8 hw hm (by rw[ct];omega);rw[ct,rk]at this;exact this
end
end Go.Sx
namespace Go.Sx
set_option linter.unusedVariables false
set_option linter.unusedSimpArgs false
def WjL(G:GH)(w:World)(t:Ty)(agg:Bool)(d:t.den)(v:Value)(ns:List Pc):Prop:=
 if agg then∃us:List Value,v= .agg us.toArray/\Wy G w t d us ns else Wy G w t d [v] ns
def Wci(b o:Nat):Nu:=⟨some b,o,0,0,0⟩
def WfN(G:GH)(w:World)(t:Ty)(d:t.den)(b o:Nat)(ns:List Pc):Prop:=∃us,Row w b (o+t.size)/\Mem w b o us/\Wy G w t d us ns
def fps(ns:List Pc):List CS:=ns.map Pc.fp
def nus(ns:List Pc):List Nu:=ns.map Pc.nu
def Wbn(G:GH)(w:World):(ps:List PTy)->WfE ps->List Value->List Pc->List Nu->Prop
 | [],_,vs,ns,ks=>vs= []/\ns= []/\ks= []
 | .v t agg::ps,d,vs,ns,ks=>∃v au n1 n2,vs=v::au/\ns=n1++n2/\WjL G w t agg d.1 v n1/\Wbn G w ps d.2 au n2 ks
 | .box t::ps,d,vs,ns,ks=>∃b o au n1 n2 aC,vs= .pointer (some ⟨b,o,none⟩)::au/\ns=⟨Wci b o,rng b o t.size⟩::(n1++n2)/\ks=Wci b o::aC/\WfN G w t d.1 b o n1/\Wbn G w ps d.2 au n2 aC
 | .mut e::ps,d,vs,ns,ks=>∃pc au n2 aC,vs=pc.nu.hdr::au/\ns=pc::n2/\ks=pc.nu::aC/\WbN w (Wy G w e) e.size pc.nu d.1 pc.fp/\Wbn G w ps d.2 au n2 aC
 | .clos g n::ps,d,vs,ns,ks=>∃cvs au:List Value,vs= .func (.func g) #[] cvs.toArray::au/\cvs.length=n/\(∀u∈cvs,u.oneCell'=true)/\Wbn G w ps d (cvs++au) ns ks
 | .kv t agg::ps,d,vs,ns,ks=>∃v au n1 n2 aC,vs=v::au/\ns=n1++n2/\ks=nus n1++aC/\WjL G w t agg d.1 v n1/\Wbn G w ps d.2 au n2 aC
 | .rp t::ps,d,vs,ns,ks=>∃b o us au,vs= .pointer (some ⟨b,o,none⟩)::au/\Enc G t d.1 us/\WfF G b o us/\Wbn G w ps d.2 au ns ks
 | .vj _::_,_,_,_,_=>False
 | .boxal t lf::ps,d,vs,ns,ks=>∃b o b' pc au n1 n2 aC,vs= .pointer (some ⟨b,o,none⟩):: .pointer (some ⟨b',pc.nu.off+(d.2.1*pc.nu.esz+0),none⟩)::au/\ns=⟨Wci b o,rng b o t.size⟩::(n1++n2)/\ks=Wci b o::aC/\
   WfN G w t d.1 b o n1/\n1[lf]?=some pc/\pc.nu.blk=some b'/\d.2.1<pc.nu.len/\Wbn G w ps d.2.2 au n2 aC
def WbE(G:GH)(w:World):(ps:List PTy)->Wgb ps->List Nu->List CS->List Pc->Prop
 | [],_,ks,kf,ns=>ks= []/\kf= []/\ns= []
 | .v _ _::ps,o,ks,kf,ns=>WbE G w ps o ks kf ns
 | .box t::ps,o,ks,kf,ns=>∃b off aC dt n1 n2,ks=Wci b off::aC/\kf=rng b off t.size::dt/\ns=n1++n2/\WfN G w t o.1 b off n1/\WbE G w ps o.2 aC dt n2
 | .mut e::ps,o,ks,kf,ns=>∃pc:Pc,∃aC dt,ks=pc.nu::aC/\kf=pc.fp::dt/\WbN w (Wy G w e) e.size pc.nu o.1 pc.fp/\WbE G w ps o.2 aC dt ns
 | .clos _ _::ps,o,ks,kf,ns=>WbE G w ps o ks kf ns
 | .kv t _::ps,o,ks,kf,ns=>∃n1 aC dt us,ks=nus n1++aC/\kf=fps n1++dt/\Wy G w t o.1 us n1/\WbE G w ps o.2 aC dt ns
 | .rp _::ps,o,ks,kf,ns=>WbE G w ps o ks kf ns
 | .vj _::_,_,_,_,_=>False
 | .boxal t _::ps,o,ks,kf,ns=>∃b off aC dt n1 n2,ks=Wci b off::aC/\kf=rng b off t.size::dt/\ns=n1++n2/\WfN G w t o.1 b off n1/\WbE G w ps o.2 aC dt n2
def WgH(G:GH)(w:World):(rs:List PTy)->WgX rs->List Value->List Pc->Prop
 | [],_,vs,ns=>vs= []/\ns= []
 | .v t agg::rs,d,vs,ns=>∃v au n1 n2,vs=v::au/\ns=n1++n2/\WjL G w t agg d.1 v n1/\WgH G w rs d.2 au n2
 | .box t::rs,d,vs,ns=>∃b o au n1 n2,vs= .pointer (some ⟨b,o,none⟩)::au/\ns=⟨Wci b o,rng b o t.size⟩::(n1++n2)/\WfN G w t d.1 b o n1/\WgH G w rs d.2 au n2
 | .mut _::_,_,_,_=>False
 | .clos _ _::_,_,_,_=>False
 | .kv _ _::_,_,_,_=>False
 | .rp _::_,_,_,_=>False
 | .vj t::rs,d,vs,ns=>∃us u au n1 n2,vs= .agg (us++ [u]).toArray::au/\u.oneCell'=true/\ns=n1++n2/\Wy G w t d.1 us n1/\WgH G w rs d.2 au n2
 | .boxal _ _::_,_,_,_=>False
def Wjq:List Value->Value
 | [v]=>v
 |vs=>.tuple vs.toArray
def Of(ns:List Pc):CS:=λb o=>∃q∈ns,q.fp b o
structure After(sg:Sig)(o:Wgb sg.ps×WgX sg.rs)(G:GH)(w:World)(ns:List Pc)(ks:List Nu)(rv:List Value)(kf:List CS)(ms cZ:List Pc)(G':GH)(w':World):Prop where
 res:WgH G' w' sg.rs o.2 rv cZ
 outs:WbE G' w' sg.ps o.1 ks kf ms
 sep:Sep (kf++fps (ms++cZ))
 own:∀S∈kf++fps (ms++cZ),∀b off,S b off->G' b off=none/\(Of ns b off\/w.heap.size<=b)/\b<w'.heap.size
 gx:GExt w.heap.size (Of ns) G G'
 g:∀b o v,G' b o=some v->w'.cell? ⟨b,o,none⟩=some v
 le:WLe (Of ns) w w'
def Wwi(P:Program)(k:FuncId)(sg:Sig):Prop:=
 ∀(d:WfE sg.ps) (o:Wgb sg.ps×WgX sg.rs),sg.run d=some o->∀(G:GH) (w:World) (vs:List Value) (ns:List Pc) (ks:List Nu),Wbn G w sg.ps d vs ns ks->Sep (fps ns)->
  (∀q∈ns,∀b off,q.fp b off->G b off=none/\b<w.heap.size)->(∀b o v,G b o=some v->w.cell? ⟨b,o,none⟩=some v)->
  Calls P k vs.toArray w λe w'=>∃rv kf ms cZ G',e= .returned (Wjq rv)/\After sg o G w ns ks rv kf ms cZ G' w'
def WgS(P:Program)(k:FuncId):Prop:=∃fn,P.funcs[k]?=some fn∧fn.body.isNone=false∧(fn.name== "runtime.NumGoroutine")=false
def WwC(P:Program)(k:FuncId)(i:Inl):Prop:=
 ∀(st:St) (vs:List Value) (out:Out),i.fn Out st Wby=some out->vs.length<=st.env.length->∀(w0:World) (F:CS) (G0 G:GH) (ν:Nat->Nu) (ex:AVal->Value->Prop) (w:World),
  (∀j x,Wn st.env j=some x->∃v,vs[j]?=some v/\AValRel G ν st.nx x v)->HRel w0 F G ν st.objs st.nx w->GExt w0.heap.size F G0 G->(∀x v,ex x v->AValRel G ν st.nx x v)->
  Calls P k vs.toArray w λe w'=>∃rv G' ν',e= .returned rv/\AValRel G' ν' out.2.2 out.1 rv/\HRel w0 F G' ν' out.2.1 out.2.2 w'/\GExt w0.heap.size F G0 G'/\∀x v,ex x v->AValRel G' ν' out.2.2 x v
def WoJ(P:Program)(k:FuncId)(sg:Sig):Prop:=match sg.inl with
 |none=>Wwi P k sg
 |some i=>WwC P k i
def WdJ(P:Program)(Γ:Ctx):Prop:=∀k sg,Wn Γ k=some sg->WoJ P k sg/\WgS P k
section
variable{w0:World}{F:CS}{nt:Slots}{G0 G G':GH}{ν:Nat->Nu}{φ:Nat->CS}{objs:Wab}{nx:Nat}{st af:St}{a:Act}{w w':World}{P:Program}{T:Tab}
theorem WaS:∀(t:Ty) (d:t.den) (nx:Nat),(unfold t d nx).2.2=nx+t.owns
 | .prod a b,d,nx=>by simp only[unfold,WaS a,WaS b,Ty.owns,Xba]
 | .own _,_,_=>rfl
 | .int _,_,_| .bool,_,_| .str,_,_| .slice _,_,_=>rfl
theorem WM{α:Type}{l m:List (Nat×α)}{i:Nat}{x:α}(h:Wn (l++m) i=some x):Wn l i=some x\/Wn m i=some x:=by
 rw[WbI]at h
 grind
def At(ν:Nat->Nu)(φ:Nat->CS)(nx:Nat)(ns:List Pc):Prop:=∀(j:Nat) (pc:Pc),ns[j]?=some pc->ν (nx+j)=pc.nu/\φ (nx+j)=pc.fp
theorem At.left{n1 n2:List Pc}(h:At ν φ nx (n1++n2)):At ν φ nx n1:=λj pc hj=>h j pc (by grind)
theorem At.right{n1 n2:List Pc}{k:Nat}(h:At ν φ nx (n1++n2))(hk:n1.length=k):At ν φ (nx+k) n2:=λj pc hj=>by
 have:=h (k+j) pc (by grind)
 grind
def Wrq(G:GH)(ν:Nat->Nu)(φ:Nat->CS)(w:World)(id:Nat)(ob:Ob):Prop:=∃(e:Ty) (xs:List e.den),ob= .arr e xs/\WbN w (Wy G w e) e.size (ν id) xs (φ id)
theorem Wav:∀(t:Ty) (d:t.den) (nx:Nat) (vs:List Value) (ns:List Pc),Wy G w t d vs ns->At ν φ nx ns->
  (∀(am:Nat),nx+t.owns<=am->CellsRel G ν am (unfold t d nx).1 vs)/\
  (∀id ob,Wn (unfold t d nx).2.1 id=some ob->nx<=id/\id<nx+t.owns/\Wrq G ν φ w id ob)
 | .own e,d,nx,vs,ns,⟨pc,h1,h2,h3⟩,hν=>by
  obtain⟨hn,hp⟩:ν nx=pc.nu/\φ nx=pc.fp:=by have:=hν 0 pc (by grind);omega
  refine⟨λam hx=>?_,λid ob hl=>?_⟩
  .rw[h2];refine CellsRel.one ⟨by grind [Ty.owns],by rw[hn]⟩ (Wje _)
  .simp only[unfold]at hl;rw[WG]at hl;split at hl
   .rename_i e1;subst e1;injection hl with hl;subst hl;exact⟨Xm _,by simp[Ty.owns],e,d,rfl,by simp_all⟩
   .simp[Wn]at hl
 | .prod p q,d,nx,vs,ns,⟨v1,v2,n1,n2,h1,h2,h3,h4⟩,hν=>by
  subst h2;have bK:=W4 p _ _ _ h3;obtain⟨c1,o1⟩:=Wav p d.1 nx v1 n1 h3 hν.left;obtain⟨c2,o2⟩:=Wav q d.2 (nx+p.owns) v2 n2 h4 (hν.right bK);refine⟨λam hx=>?_,λid ob hl=>?_⟩
  .simp only[Ty.owns]at hx;simp only[unfold,WaS];rw[h1];exact(c1 am (by omega)).append (c2 am (by omega))
  .simp only[unfold,WaS]at hl
   grind [Ty.owns,WM]
 | .int k,d,nx,vs,ns,h,_=>⟨λam _=>WaM (.int k) d vs h.2,λid ob hl=>by simp[unfold,Wn]at hl⟩
 | .bool,d,nx,vs,ns,h,_=>⟨λam _=>WaM .bool d vs h.2,λid ob hl=>by simp[unfold,Wn]at hl⟩
 | .str,d,nx,vs,ns,h,_=>⟨λam _=>WaM .str d vs h.2,λid ob hl=>by simp[unfold,Wn]at hl⟩
 | .slice e,d,nx,vs,ns,h,_=>⟨λam _=>WaM (.slice e) d vs h.2,λid ob hl=>by simp[unfold,Wn]at hl⟩
theorem Wce:∀(t:Ty) (d:t.den) (nx:Nat),(unfold t d nx).1.length=t.size
 | .prod a b,d,nx=>by simp only[unfold,Xaa,Wce a,Wce b,Ty.size]
 | .own _,_,_| .int _,_,_| .bool,_,_| .str,_,_| .slice _,_,_=>rfl
theorem Wla{t:Ty}{agg:Bool}{d:t.den}{v:Value}{ns:List Pc}{nx am:Nat}(h:WjL G w t agg d v ns)(hν:At ν φ nx ns)(hx:nx+t.owns<=am):
  AvRel G ν am (WwN agg (unfold t d nx).1) v:=by
 unfold WjL at h;unfold WwN;cases agg with
 |true=>
  simp only[W8]at h⊢;obtain⟨us,rfl,h⟩:=h;exact⟨us,rfl,(Wav t d nx us ns h hν).1 am hx⟩
 |false=>
  simp only[Xap,Wat]at h⊢;have hc:=(Wav t d nx [v] ns h hν).1 am hx;have hl:=hc.1;generalize (unfold t d nx).1=cs at*
  match cs,hl with
  | [c],_=>exact hc.2 0 c v rfl rfl
theorem Wo8{t:Ty}{agg:Bool}{d:t.den}{v:Value}{ns:List Pc}(h:WjL G w t agg d v ns):∃us,Wy G w t d us ns:=by
 grind [WjL]
def Wii(objs:Wab):Ty->List Nat->Prop
 | .own e,ids=>∃(id:Nat) (ys:List e.den),ids= [id]/\Wn objs id=some (.arr e ys)
 | .prod a b,ids=>∃i1 i2,ids=i1++i2/\Wii objs a i1/\Wii objs b i2
 | .int _,ids=>ids= []
 | .bool,ids=>ids= []
 | .str,ids=>ids= []
 | .slice _,ids=>ids= []
theorem We7{objs:Wab}:∀(t:Ty) (ids:List Nat),Wii objs t ids->ids.length=t.owns
 | .own e,ids,⟨id,ys,h,_⟩=>by rw[h];rfl
 | .prod a b,ids,⟨i1,i2,h,h1,h2⟩=>by rw[h,Xaa,We7 a _ h1,We7 b _ h2];rfl
 | .int _,ids,h=>by have:ids= []:=h;rw[this];rfl
 | .bool,ids,h=>by have:ids= []:=h;rw[this];rfl
 | .str,ids,h=>by have:ids= []:=h;rw[this];rfl
 | .slice _,ids,h=>by have:ids= []:=h;rw[this];rfl
def KeptBox(objs:Wab)(ν:Nat->Nu)(bx:List (Nat×CS))(t:Ty)(k:Kp)(nu:Nu):Prop:=
 ∃cs b,Wn objs k.id=some (.box cs)/\k.off+t.size<=cs.length/\(ν k.id).blk=some b/\nu=Wci b ((ν k.id).off+k.off)/\(k.id,rng b ((ν k.id).off+k.off) t.size)∈bx
def KeptOk(objs:Wab)(ν:Nat->Nu)(bx:List (Nat×CS)):List PTy->List Kp->List Nu->Prop
 | [],ids,ks=>ids= []/\ks= []
 | .v _ _::ps,ids,ks=>KeptOk objs ν bx ps ids ks
 | .box t::ps,ids,ks=>∃k bv nu aC,ids=k::bv/\ks=nu::aC/\KeptBox objs ν bx t k nu/\KeptOk objs ν bx ps bv aC
 | .mut e::ps,ids,ks=>∃(id:Nat) (bv:List Kp) (aC:List Nu) (ys:List e.den),ids=⟨id,0⟩::bv/\ks=ν id::aC/\Wn objs id=some (.arr e ys)/\KeptOk objs ν bx ps bv aC
 | .clos _ _::ps,ids,ks=>KeptOk objs ν bx ps ids ks
 | .kv t _::ps,ids,ks=>∃i1 i2 aC,ids=kp0 i1++i2/\ks=i1.map ν++aC/\Wii objs t i1/\KeptOk objs ν bx ps i2 aC
 | .rp _::ps,ids,ks=>KeptOk objs ν bx ps ids ks
 | .vj _::_,_,_=>False
 | .boxal t _::ps,ids,ks=>∃k bv nu aC,ids=k::bv/\ks=nu::aC/\KeptBox objs ν bx t k nu/\KeptOk objs ν bx ps bv aC
theorem KeptBox.mono{bx lW:List (Nat×CS)}{t:Ty}{k:Kp}{nu:Nu}(hb:∀p∈bx,p∈lW)(h:KeptBox objs ν bx t k nu):KeptBox objs ν lW t k nu:=by
 obtain⟨cs,b,h1,h2,h3,h4,h5⟩:=h;exact⟨cs,b,h1,h2,h3,h4,hb _ h5⟩
theorem KeptOk.mono{bx lW:List (Nat×CS)}(hb:∀p∈bx,p∈lW):∀(ps:List PTy) (ids:List Kp) (ks:List Nu),KeptOk objs ν bx ps ids ks->KeptOk objs ν lW ps ids ks
 | [],_,_,h=>h
 | .v _ _::ps,ids,ks,h=>KeptOk.mono hb ps ids ks h
 | .box t::ps,ids,ks,⟨k,bv,nu,aC,h1,h2,h3,h4⟩=>⟨k,bv,nu,aC,h1,h2,h3.mono hb,KeptOk.mono hb ps bv aC h4⟩
 | .mut e::ps,ids,ks,⟨id,bv,aC,ys,h1,h2,h3,h4⟩=>⟨id,bv,aC,ys,h1,h2,h3,KeptOk.mono hb ps bv aC h4⟩
 | .clos _ _::ps,ids,ks,h=>KeptOk.mono hb ps ids ks h
 | .kv t _::ps,ids,ks,⟨i1,i2,aC,h1,h2,h3,h4⟩=>⟨i1,i2,aC,h1,h2,h3,KeptOk.mono hb ps i2 aC h4⟩
 | .rp _::ps,ids,ks,h=>KeptOk.mono hb ps ids ks h
 | .vj _::_,_,_,h=>h.elim
 | .boxal t _::ps,ids,ks,⟨k,bv,nu,aC,h1,h2,h3,h4⟩=>⟨k,bv,nu,aC,h1,h2,h3.mono hb,KeptOk.mono hb ps bv aC h4⟩
def Wnq(G:GH)(ν:Nat->Nu)(w:World)(aU:Wab)(bx:List (Nat×CS))(am:Nat)(id:Nat)(S:CS)(ob:Ob):Prop:=
 (∃kR off ds b us,Wn aU id=some (.box kR)/\ob= .box (Wes kR off ds)/\off+ds.length<=kR.length/\(ν id).blk=some b/\Mem w b ((ν id).off+off) us/\CellsRel G ν am ds us/\
  S=rng b ((ν id).off+off) ds.length/\(id,rng b ((ν id).off+off) ds.length)∈bx)\/
 (∃(e:Ty) (ys xs:List e.den),Wn aU id=some (.arr e ys)/\ob= .arr e xs/\WbN w (Wy G w e) e.size (ν id) xs S)
theorem Wg4(aU:Wab){bx:List (Nat×CS)}{am:Nat}:∀(t:Ty) (d:t.den) (us:List Value) (ns:List Pc) (ids:List Nat),Wy G w t d us ns->nus ns=ids.map ν->Wii aU t ids->
  (∀id ob,Wn (WcG t d ids) id=some ob->∃(j:Nat) (S:CS),ids[j]?=some id/\(fps ns)[j]?=some S/\Wnq G ν w aU bx am id S ob)/\∀id∈ids,∃ob,Wn (WcG t d ids) id=some ob
 | .own e,d,us,ns,ids,⟨pc,h1,h2,h3⟩,hn,⟨id,ys,h,br⟩=>by
  subst h h1;simp only[nus,Xaf,Xcg,List.cons.injEq,and_true]at hn;refine⟨λi ob hl=>?_,λi hi=>?_⟩
  .simp only[WcG,WG]at hl;split at hl
   .rename_i e3;subst e3;injection hl with hl;subst hl;exact⟨0,pc.fp,rfl,rfl,.inr ⟨e,ys,d,br,rfl,by simp_all⟩⟩
   .simp[Wn]at hl
  simp_all [Xag,WcG,Wn]
 | .prod a b,d,us,ns,ids,⟨u1,u2,n1,n2,h1,h2,h3,h4⟩,hn,⟨i1,i2,h,qj,j8⟩=>by
  subst h h2;have bK:=W4 a _ _ _ h3;have lQ:=We7 a _ qj;simp only[nus,Xz]at hn;obtain⟨e1,e2⟩:=Xfz hn (by rw[Xu,Xu,bK,lQ]);have t1:(i1++i2).take a.owns=i1:=by simp_all
  have t2:(i1++i2).drop a.owns=i2:=by simp_all
  obtain⟨a1,a2⟩:=Wg4 aU (bx:=bx) (am:=am) a d.1 _ n1 i1 h3 e1 qj;obtain⟨b1,b2⟩:=Wg4 aU (bx:=bx) (am:=am) b d.2 _ n2 i2 h4 e2 j8;simp only[WcG,t1,t2];refine⟨λi ob hl=>?_,λi hi=>?_⟩
  .rcases WM hl with hl|hl
   .grind [fps,Xcj,Xab]
   grind [fps,Xbv,Xbu,Xu]
  .rcases Xo.1 hi with hi|hi
   .grind [WbI]
   .obtain⟨ob,ho⟩:=b2 i hi;rw[WbI]
    grind
 | .int _,d,us,ns,ids,hr,_,h=>by have:ids= []:=h;grind [WcG,Wn]
 | .bool,d,us,ns,ids,hr,_,h=>by have:ids= []:=h;grind [WcG,Wn]
 | .str,d,us,ns,ids,hr,_,h=>by have:ids= []:=h;grind [WcG,Wn]
 | .slice _,d,us,ns,ids,hr,_,h=>by have:ids= []:=h;grind [WcG,Wn]
theorem Wjt:∀(t:Ty) (d:t.den) (ids:List Nat) (id:Nat) (ob:Ob),Wn (WcG t d ids) id=some ob->id∈ids
 | .own e,d,ids,id,ob,h=>by
  cases ids with
  |nil=>simp[WcG,Wn]at h
  |cons i l=>
   grind [WcG,WG,Xj,Wn]
 | .prod a b,d,ids,id,ob,h=>by
  simp only[WcG]at h;rcases WM h with h|h
  .exact Xco (Wjt a d.1 _ id ob h)
  .exact Xes (Wjt b d.2 _ id ob h)
 | .int _,_,_,_,_,h=>by simp[WcG,Wn]at h
 | .bool,_,_,_,_,h=>by simp[WcG,Wn]at h
 | .str,_,_,_,_,h=>by simp[WcG,Wn]at h
 | .slice _,_,_,_,_,h=>by simp[WcG,Wn]at h
def kids(l:List Kp):List Nat:=l.map Kp.id
theorem Wh9(l:List Nat):kids (kp0 l)=l:=by simp[kids,kp0,Function.comp_def]
theorem WaW(aU:Wab){bx:List (Nat×CS)}:∀(ps:List PTy) (o:Wgb ps) (ids:List Kp) (ks:List Nu) (kf:List CS) (ms:List Pc) (objs:Wab) (nx am:Nat),WbE G w ps o ks kf ms->KeptOk aU ν bx ps ids ks->At ν φ nx ms->
  (kids ids).Nodup->(∀k∈ids,k.id<nx/\Wn objs k.id=Wn aU k.id)->nx+ms.length<=am->
  (Wad ps o ids objs nx).2=nx+ms.length/\kf.length=ids.length/\
  ∀id ob,Wn (Wad ps o ids objs nx).1 id=some ob->(nx<=id/\id<nx+ms.length/\Wrq G ν φ w id ob)\/(∃(j:Nat) (S:CS),(kids ids)[j]?=some id/\kf[j]?=some S/\Wnq G ν w aU bx am id S ob)\/(Wn objs id=some ob/\id∉kids ids)
 | [],o,ids,ks,kf,ms,objs,nx,am,⟨_,h1,h2⟩,hk,_,_,_,_=>by subst h1 h2;obtain⟨hk,_⟩:=hk;subst hk;exact⟨rfl,rfl,λid ob hl=>.inr (.inr ⟨hl,by simp[kids]⟩)⟩
 | .v _ _::ps,o,ids,ks,kf,ms,objs,nx,am,h,hk,hν,hn,hi,hx=>WaW aU ps o ids ks kf ms objs nx am h hk hν hn hi hx
 | .box t::ps,o,ids,ks,kf,ms,objs,nx,am,⟨b,off,aC,dt,n1,n2,h1,h2,h3,hb,h5⟩,hk,hν,hn,hi,hx=>putOuts_box aU t ps o.1 o.2 ids ks kf ms objs nx am (λids ks kf ms objs nx am=>WaW aU ps o.2 ids ks kf ms objs nx am) ⟨b,off,aC,dt,n1,n2,h1,h2,h3,hb,h5⟩ hk hν hn hi hx
 | .vj _::_,_,_,_,_,_,_,_,_,h,_,_,_,_,_=>h.elim
 | .boxal t _::ps,o,ids,ks,kf,ms,objs,nx,am,⟨b,off,aC,dt,n1,n2,h1,h2,h3,hb,h5⟩,hk,hν,hn,hi,hx=>putOuts_box aU t ps o.1 o.2 ids ks kf ms objs nx am (λids ks kf ms objs nx am=>WaW aU ps o.2 ids ks kf ms objs nx am) ⟨b,off,aC,dt,n1,n2,h1,h2,h3,hb,h5⟩ hk hν hn hi hx
 | .mut e::ps,o,ids,ks,kf,ms,objs,nx,am,⟨pc,aC,dt,h1,h2,h3,h4⟩,hk,hν,hn,hi,hx=>by
  obtain⟨id,bv,ub,ys,rfl,ja,br,jn⟩:=hk;rw[h1]at ja;simp only[List.cons.injEq]at ja;obtain⟨hνid,rfl⟩:=ja;subst h2;have be:=Xac.1 hn;obtain⟨e1,el,e2⟩:=WaW aU ps o.2 bv aC dt ms ((id,.arr e o.1)::objs) nx am h4 jn hν be.2 (λk mx=>by
   obtain⟨g1,g2⟩:=hi k (Xf _ mx);have bI:id≠k.id:=λe=>be.1 (by grind);simp_all [WG,Wc]) hx
  simp only[Wad];refine⟨e1,by simp[el],λi ob hl=>?_⟩;rcases e2 i ob hl with g|⟨j,S,g1,g2,g3⟩|⟨g,gn⟩
  .grind
  .exact .inr (.inl ⟨j+1,S,g1,g2,g3⟩)
  .rw[WG]at g;split at g
   .rename_i e3;subst e3;injection g with g;subst g;exact .inr (.inl ⟨0,pc.fp,rfl,rfl,.inr ⟨e,ys,o.1,br,rfl,by simp_all⟩⟩)
   .rename_i bI;exact .inr (.inr ⟨g,λhm=>by rcases Xs.1 hm with hm|hm;exact bI hm.symm;exact gn hm⟩)
 | .clos _ _::ps,o,ids,ks,kf,ms,objs,nx,am,h,hk,hν,hn,hi,hx=>WaW aU ps o ids ks kf ms objs nx am h hk hν hn hi hx
 | .rp _::ps,o,ids,ks,kf,ms,objs,nx,am,h,hk,hν,hn,hi,hx=>WaW aU ps o ids ks kf ms objs nx am h hk hν hn hi hx
 | .kv t agg::ps,o,ids,ks,kf,ms,objs,nx,am,⟨n1,aC,dt,us,h1,h2,h3,h4⟩,⟨i1,i2,ub,bM,ow,ho,jn⟩,hν,hn,hi,hx=>by
  subst bM h2;have bK:=W4 t _ _ _ h3;have lQ:=We7 t _ ho;rw[h1]at ow;obtain⟨q1,q2⟩:=Xfz ow (by simp[nus,bK,lQ]);subst q2;have qk:(kp0 i1).length=t.owns:=by simp[kp0,lQ]
  have t1:((kp0 i1++i2).take t.owns).map Kp.id=i1:=by rw[←qk];simp;exact Wh9 i1
  have t2:(kp0 i1++i2).drop t.owns=i2:=by simp_all
  obtain⟨r1,r2⟩:=Wg4 (bx:=bx) (am:=am) aU t o.1 us n1 i1 h3 q1 ho;have iF:kids (kp0 i1++i2)=i1++kids i2:=by grind [kids,Wh9]
  rw[iF]at hn;obtain⟨m1,m2,m3⟩:=Xae.1 hn;obtain⟨e1,el,e2⟩:=WaW aU ps o.2 i2 aC dt ms (WcG t o.1 i1++objs) nx am h4 jn hν m2 (λk mx=>by
   obtain⟨g1,g2⟩:=hi k (Xg _ mx);refine⟨g1,?_⟩;rw[WbI];cases hq:Wn (WcG t o.1 i1) k.id with
   |none=>exact g2
   |some ob=>exact WD rfl (m3 _ (Wjt t o.1 i1 _ ob hq) _ (Xam mx))) hx
  simp only[Wad,t1,t2];have gT:(fps n1).length=i1.length:=by simp[fps,bK,lQ]
  refine⟨e1,by simp_all,λi ob hl=>?_⟩;rw[iF];rcases e2 i ob hl with g|⟨j,S,g1,g2,g3⟩|⟨g,gn⟩
  .grind
  .refine .inr (.inl ⟨i1.length+j,S,?_,?_,g3⟩)
   .grind
   grind
  .rw[WbI]at g;cases hq:Wn (WcG t o.1 i1) i with
   |some cY=>
    rw[hq]at g;injection g with g;subst g;obtain⟨j,S,g1,g2,g3⟩:=r1 i _ hq;refine .inr (.inl ⟨j,S,?_,?_,g3⟩)
    .grind
    grind
   |none=>
    grind
where
 putOuts_box (aU:Wab) {bx:List (Nat×CS)} (t:Ty) (ps:List PTy) (o1:t.den) (o2:Wgb ps) (ids:List Kp) (ks:List Nu) (kf:List CS) (ms:List Pc) (objs:Wab) (nx am:Nat)
   (ih:∀(ids:List Kp) (ks:List Nu) (kf:List CS) (ms:List Pc) (objs:Wab) (nx am:Nat),WbE G w ps o2 ks kf ms->KeptOk aU ν bx ps ids ks->At ν φ nx ms->
    (kids ids).Nodup->(∀k∈ids,k.id<nx/\Wn objs k.id=Wn aU k.id)->nx+ms.length<=am->
    (Wad ps o2 ids objs nx).2=nx+ms.length/\kf.length=ids.length/\
    ∀id ob,Wn (Wad ps o2 ids objs nx).1 id=some ob->(nx<=id/\id<nx+ms.length/\Wrq G ν φ w id ob)\/(∃(j:Nat) (S:CS),(kids ids)[j]?=some id/\kf[j]?=some S/\Wnq G ν w aU bx am id S ob)\/(Wn objs id=some ob/\id∉kids ids))
   (h:∃b off aC dt n1 n2,ks=Wci b off::aC/\kf=rng b off t.size::dt/\ms=n1++n2/\WfN G w t o1 b off n1/\WbE G w ps o2 aC dt n2)
   (hk:∃k bv nu aC,ids=k::bv/\ks=nu::aC/\KeptBox aU ν bx t k nu/\KeptOk aU ν bx ps bv aC) (hν:At ν φ nx ms)
   (hn:(kids ids).Nodup) (hi:∀k∈ids,k.id<nx/\Wn objs k.id=Wn aU k.id) (hx:nx+ms.length<=am):
   (Wad (.box t::ps) (o1,o2) ids objs nx).2=nx+ms.length/\kf.length=ids.length/\
   ∀id ob,Wn (Wad (.box t::ps) (o1,o2) ids objs nx).1 id=some ob->(nx<=id/\id<nx+ms.length/\Wrq G ν φ w id ob)\/(∃(j:Nat) (S:CS),(kids ids)[j]?=some id/\kf[j]?=some S/\Wnq G ν w aU bx am id S ob)\/(Wn objs id=some ob/\id∉kids ids):=by
  obtain⟨b,off,aC,dt,n1,n2,h1,h2,h3,⟨us,_,aM,gU⟩,h5⟩:=h;obtain⟨k,bv,nu,ub,rfl,ja,⟨kR,b0,br,cw,bu,kS,rn⟩,jn⟩:=hk;rw[h1]at ja;simp only[List.cons.injEq]at ja;obtain⟨qg,rfl⟩:=ja;rw[kS]at qg;unfold Wci at qg;injection qg with rq vZ;injection rq with rq;subst rq vZ h2 h3;have bK:=W4 t _ _ _ gU;have ad:(n1++n2).length=t.owns+n2.length:=by rw[Xaa,bK]
  obtain⟨c1,ql⟩:=Wav t o1 nx us n1 gU hν.left;have be:=Xac.1 hn;obtain⟨rr,lu⟩:=hi k (Xj ..);have dr:=Wce t o1 nx;have fX:WhI (Wn objs k.id) k.off (unfold t o1 nx).1= .box (Wes kR k.off (unfold t o1 nx).1):=by rw[lu,br];rfl
  obtain⟨e1,el,e2⟩:=ih bv aC dt n2 ((k.id,WhI (Wn objs k.id) k.off (unfold t o1 nx).1)::((unfold t o1 nx).2.1++objs)) (nx+t.owns) am h5 jn (hν.right bK) be.2 (λk' mx=>by
   obtain⟨g1,g2⟩:=hi k' (Xf _ mx);refine⟨by omega,?_⟩;rw[WG,Wc (λe=>be.1 (by rw[e];exact Xam mx)),WbI];cases hq:Wn (unfold t o1 nx).2.1 k'.id with
   |none=>exact g2
   |some ob=>have:=(ql _ ob hq).1;omega) (by omega)
  simp only[Wad,WaS];refine⟨by rw[e1,ad];omega,by simp[el],λi ob hl=>?_⟩;rcases e2 i ob hl with⟨g1,g2,g3⟩|⟨j,S,g1,g2,g3⟩|⟨g,gn⟩
  .exact .inl ⟨by omega,by omega,g3⟩
  .exact .inr (.inl ⟨j+1,S,g1,g2,g3⟩)
  .rw[WG]at g;split at g
   .rename_i e3;subst e3;injection g with g;rw[fX]at g;subst g;refine .inr (.inl ⟨0,_,rfl,rfl,.inl ⟨kR,k.off,_,_,us,br,rfl,by rw[dr];exact cw,bu,aM,c1 am (by omega),by rw[dr],by rw[dr];exact rn⟩⟩)
   .rename_i bI;rcases WM g with g|g
    .obtain⟨g1,g2,g3⟩:=ql i ob g;exact .inl ⟨g1,by omega,g3⟩
    .exact .inr (.inr ⟨g,λhm=>by rcases Xs.1 hm with hm|hm;exact bI hm.symm;exact gn hm⟩)
def WwS(G:GH)(ν:Nat->Nu)(φ:Nat->CS)(w:World)(am:Nat)(id:Nat)(ob:Ob):Prop:=
 Wrq G ν φ w id ob\/∃cs b us,ob= .box cs/\(ν id).blk=some b/\Row w b ((ν id).off+cs.length)/\Mem w b (ν id).off us/\CellsRel G ν am cs us/\CS.le (rng b (ν id).off cs.length) (φ id)
theorem Wd4:∀(rs:List PTy) (d:WgX rs) (vs:List Value) (ns:List Pc) (objs:Wab) (nx am:Nat),WgH G w rs d vs ns->At ν φ nx ns->nx+ns.length<=am->
  (Wbp rs d objs nx).2.2=nx+ns.length/\
  (∀id ob,Wn (Wbp rs d objs nx).2.1 id=some ob->(nx<=id/\id<nx+ns.length/\WwS G ν φ w am id ob)\/Wn objs id=some ob)/\
  WsY G ν am (Wbp rs d objs nx).1 vs
 | [],d,vs,ns,objs,nx,am,⟨h1,h2⟩,_,_=>by subst h1 h2;exact⟨rfl,λid ob hl=>.inr hl,rfl,λj x v hj=>by simp[Wbp]at hj⟩
 | .v t agg::rs,d,vs,ns,objs,nx,am,⟨v,au,n1,n2,h1,h2,h3,h4⟩,hν,hx=>by
  subst h2;obtain⟨us,jj⟩:=Wo8 h3;have bK:=W4 _ _ _ _ jj;have ad:(n1++n2).length=t.owns+n2.length:=by rw[Xaa,bK]
  obtain⟨_,o1⟩:=Wav t d.1 nx us n1 jj hν.left;obtain⟨e1,e2,e4,e5⟩:=Wd4 rs d.2 au n2 ((unfold t d.1 nx).2.1++objs) (nx+t.owns) am h4 (hν.right bK) (by omega);simp only[Wbp,WaS];refine⟨by rw[e1,ad];omega,λi ob hl=>?_,?_⟩
  .rcases e2 i ob hl with⟨g1,g2,g3⟩|g
   .exact .inl ⟨by omega,by omega,g3⟩
   .rcases WM g with g|g
    .obtain⟨g1,g2,g3⟩:=o1 i ob g;exact .inl ⟨g1,by omega,.inl g3⟩
    .exact .inr g
  .rw[h1];refine⟨by simp[e4],λj x u hj hu=>?_⟩;cases j with
   |zero=>simp at hj hu;subst hj hu;exact Wla h3 hν.left (by omega)
   |succ j=>exact e5 j x u (by simpa using hj) (by simpa using hu)
 | .box t::rs,d,vs,ns,objs,nx,am,⟨b,o,au,n1,n2,h1,h2,⟨us,bf,aM,gU⟩,h5⟩,hν,hx=>by
  subst h2;have bK:=W4 _ _ _ _ gU;have ad:((⟨Wci b o,rng b o t.size⟩:Pc)::(n1++n2)).length=1+t.owns+n2.length:=by rw[List.length_cons,Xaa,bK];omega
  obtain⟨hν0,hφ0⟩:ν nx=Wci b o/\φ nx=rng b o t.size:=by have:=hν 0 _ rfl;simpa using this
  have hν1:At ν φ (nx+1) (n1++n2):=hν.right (n1:=[⟨Wci b o,rng b o t.size⟩]) rfl;obtain⟨c1,o1⟩:=Wav t d.1 (nx+1) us n1 gU hν1.left;obtain⟨e1,e2,e4,e5⟩:=Wd4 rs d.2 au n2 ((nx,.box (unfold t d.1 (nx+1)).1)::((unfold t d.1 (nx+1)).2.1++objs)) (nx+1+t.owns) am h5 (hν1.right bK) (by omega);have dr:=Wce t d.1 (nx+1);simp only[Wbp,WaS];refine⟨by rw[e1,ad];omega,λid ob hl=>?_,?_⟩
  .rcases e2 id ob hl with⟨g1,g2,g3⟩|g
   .exact .inl ⟨by omega,by omega,g3⟩
   .rw[WG]at g;split at g
    .rename_i e;subst e;injection g with g;subst g;refine .inl ⟨Xm _,by omega,.inr ⟨_,b,us,rfl,by rw[hν0];rfl,?_,?_,c1 am (by omega),?_⟩⟩
     .rw[hν0,dr];exact bf
     .rw[hν0];exact aM
     .rw[hν0,dr,hφ0];exactλ_ _ hh=>hh
    .rcases WM g with g|g
     .obtain⟨g1,g2,g3⟩:=o1 id ob g;exact .inl ⟨by omega,by omega,.inl g3⟩
     .exact .inr g
  .rw[h1];refine⟨by simp[e4],λj x u hj hu=>?_⟩;cases j with
   |zero=>
    simp at hj hu;subst hj hu;exact⟨⟨by omega,b,by rw[hν0];rfl,by rw[hν0];rfl⟩,rfl⟩
   |succ j=>exact e5 j x u (by simpa using hj) (by simpa using hu)
 | .mut _::_,_,_,_,_,_,_,h,_,_=>h.elim
 | .clos _ _::_,_,_,_,_,_,_,h,_,_=>h.elim
 | .kv _ _::_,_,_,_,_,_,_,h,_,_=>h.elim
 | .rp _::_,_,_,_,_,_,_,h,_,_=>h.elim
 | .vj t::rs,d,vs,ns,objs,nx,am,⟨us,u,au,n1,n2,h1,h0,h2,h3,h4⟩,hν,hx=>by
  subst h2;have bK:=W4 _ _ _ _ h3;have ad:(n1++n2).length=t.owns+n2.length:=by rw[Xaa,bK]
  obtain⟨c1,o1⟩:=Wav t d.1 nx us n1 h3 hν.left;obtain⟨e1,e2,e4,e5⟩:=Wd4 rs d.2 au n2 ((unfold t d.1 nx).2.1++objs) (nx+t.owns) am h4 (hν.right bK) (by omega);simp only[Wbp,WaS];refine⟨by rw[e1,ad];omega,λi ob hl=>?_,?_⟩
  .rcases e2 i ob hl with⟨g1,g2,g3⟩|g
   .exact .inl ⟨by omega,by omega,g3⟩
   .rcases WM g with g|g
    .obtain⟨g1,g2,g3⟩:=o1 i ob g;exact .inl ⟨g1,by omega,.inl g3⟩
    .exact .inr g
  .rw[h1];refine⟨by simp[e4],λj x v hj hv=>?_⟩;cases j with
   |zero=>simp at hj hv;subst hj hv;exact⟨us++ [u],rfl,(c1 am (by omega)).append (CellsRel.one trivial h0)⟩
   |succ j=>exact e5 j x v (by simpa using hj) (by simpa using hv)
 | .boxal _ _::_,_,_,_,_,_,_,h,_,_=>h.elim
theorem WsM{xs:List AV}{vs:List Value}(h:WsY G ν nx xs vs):AValRel G ν nx (WwL xs) (Wjq vs):=by
 obtain⟨h1,h2⟩:=h
 match xs,vs,h1 with
 | [],[],_=>exact⟨[],rfl,rfl,λj x v hj=>by simp at hj⟩
 | [x],[v],_=>exact h2 0 x v rfl rfl
 |x::y::xs,v::u::vs,h1=>exact⟨v::u::vs,rfl,h1,h2⟩
end
end Go.Sx
namespace Go.Sx
set_option linter.unusedVariables false
set_option linter.unusedSimpArgs false
theorem WaR(i:Nat):∀l:List Nat,WcB i l=true↔i∈l
 | []=>by simp[WcB]
 |j::l=>by
  simp only[WcB,Bool.or_eq_true,WaR i l,Xs];rw[show(Nat.beq i j=true)=(i=j)from by simp]
theorem Wfs:∀l:List Nat,Wbw l=true↔l.Nodup
 | []=>by simp[Wbw]
 |i::l=>by
  have h:=WaR i l;simp only[Wbw,Xi,Xai,Xac,Wfs l]
  grind
theorem Wni{l m:List Nat}(h:Wf2 l m=true):∀i∈l,i∉m:=λi hi hm=>by
 grind [Wf2,Xad,WaR]
section
variable{w0:World}{F:CS}{nt:Slots}{G0 G G':GH}{ν:Nat->Nu}{φ:Nat->CS}{objs:Wab}{nx:Nat}{st af:St}{a:Act}{w w':World}{P:Program}{T:Tab}
theorem WlQ(h:HR w0 F G ν φ objs nx w){t:Ty}{agg:Bool}{x:AVal}{v:Value}{cs:List Cell}{d:t.den}{m l:List Nat}(hg:GLe G G')(hx:AValRel G ν nx x v)(hl:Lent G' w φ objs l)(hm:m.Nodup)
  (hc:cellsOf agg x=some cs) (hf:Wax t cs objs=some (d,m,l)):∃ns,WjL G' w t agg d v ns/\Sep (fps ns)/\(∀p∈ns,CS.le p.fp (FromL φ objs m))/\(∀i∈m,Live objs i)/\(∀i∈l,Live objs i):=by
 unfold cellsOf at hc;split at hc
 .split at hc
  .cases hc
  .rename_i c ha;injection hc with hc;subst hc;obtain⟨ns,h1,h2,h3,h4,h5,_⟩:=Wae h hg t [c] [v] d m l (CellsRel.one hx.1 hx.2) hl hm hf;refine⟨ns,?_,h2,h3,h4,h5⟩;simp_all [WjL,Wc]
 .split at hc
  .rename_i ds ha;injection hc with hc;subst hc;obtain⟨us,rfl,bN⟩:=hx;obtain⟨ns,h1,h2,h3,h4,h5,_⟩:=Wae h hg t ds us d m l bN hl hm hf;refine⟨ns,?_,h2,h3,h4,h5⟩;unfold WjL;simp_all
  .cases hc
 .cases hc
def Wwv(objs:Wab)(m:List Nat):Prop:=∀i∈m,∃(e:Ty) (xs:List e.den),Wn objs i=some (.arr e xs)
theorem Wh5:∀(t:Ty) (cs:List Cell) (d:t.den) (m l:List Nat),Wwv objs m->Wax t cs objs=some (d,m,l)->m.length<=t.owns
 | .prod a b,cs,d,m,l,ha,h=>by
  simp only[Wax]at h;split at h
  .rename_i x m1 l1 y m2 l2 h1 h2;simp only[Option.some.injEq,Prod.mk.injEq]at h;obtain⟨rfl,rfl,rfl⟩:=h;have:=Wh5 a _ _ _ _ (λi hi=>ha i (Xn _ hi)) h1;have:=Wh5 b _ _ _ _ (λi hi=>ha i (Xg _ hi)) h2;rw[Xaa];show _<=a.owns+b.owns;omega
  grind
 | .own e,cs,d,m,l,ha,h=>by
  simp only[Wax]at h;split at h
  .rename_i id;obtain⟨⟨ys,m'⟩,ho,hf⟩:=Xt.1 h;simp only[Prod.mk.injEq]at hf;obtain⟨rfl,rfl,rfl⟩:=hf;unfold Wtl at ho;split at ho
   .obtain⟨zs,_,ho⟩:=Xt.1 ho;obtain⟨_,rfl⟩:=Prod.mk.inj ho;exact Xm 1
   .rename_i e' xs i p br;split at ho
    .split at ho
     .simp only[Option.some.injEq,Prod.mk.injEq]at ho;obtain⟨_,rfl⟩:=ho;obtain⟨e2,v6,h2⟩:=ha id (Xj ..);simp_all
     grind
    grind
   grind
  .split at h
   .obtain⟨zs,_,h⟩:=Xt.1 h;have h2:=(Prod.mk.inj (Prod.mk.inj h).2).1;subst h2;exact Xm 1
   grind
  .grind
  grind
 | .slice e,cs,d,m,l,_,h=>by
  have hm:m= []:=by
   simp only[Wax]at h
   grind [Xt,Prod.mk.inj]
  simp_all
 | .int k,cs,d,m,l,_,h=>by
  simp only[Wax]at h;split at h
  .obtain⟨q,hq,h⟩:=Xt.1 h;simp_all
  grind
 | .bool,cs,d,m,l,_,h=>by
  simp only[Wax]at h;split at h
  .obtain⟨q,hq,h⟩:=Xt.1 h;simp_all
  grind
 | .str,cs,d,m,l,_,h=>by
  simp only[Wax]at h;split at h
  .obtain⟨q,hq,h⟩:=Xt.1 h;simp_all
  grind
theorem Wfn(h:HR w0 F G ν φ objs nx w)(hg:GLe G G'){t:Ty}(ht:t.owns=0){cs:List Cell}{vs:List Value}{d:t.den}{m l:List Nat}(hc:CellsRel G ν nx cs vs)(hl:Lent G' w φ objs l)(hf:Wax t cs objs=some (d,m,l))(hm:m= []):Wy G' w t d vs []:=by
 subst hm;obtain⟨ns,h1,_⟩:=Wae h hg t cs vs d [] l hc hl Xdd hf;have:=W4 _ _ _ _ h1;simp_all
def pcs(ν:Nat->Nu)(φ:Nat->CS)(m:List Nat):List Pc:=m.map λi=>⟨ν i,φ i⟩
theorem Wu7(m:List Nat):nus (pcs ν φ m)=m.map ν:=by simp[nus,pcs,Function.comp_def]
theorem WoZ(m:List Nat):fps (pcs ν φ m)=m.map φ:=by simp[fps,pcs,Function.comp_def]
theorem Wfg(h:HR w0 F G ν φ objs nx w)(hg:GLe G G'):∀(t:Ty) (cs:List Cell) (vs:List Value) (d:t.den) (m l:List Nat),CellsRel G ν nx cs vs->Lent G' w φ objs l->(∀c∈cs,WsI c=true)->Wwv objs m->
  Wax t cs objs=some (d,m,l)->m.length=t.owns->Wy G' w t d vs (pcs ν φ m)/\Wii objs t m
 | .prod a b,cs,vs,d,m,l,hc,hl,hw,ha,hf,hm=>by
  have hf0:=hf;simp only[Wax]at hf;split at hf
  .rename_i x m1 l1 y m2 l2 h1 h2;simp only[Option.some.injEq,Prod.mk.injEq]at hf;obtain⟨rfl,rfl,rfl⟩:=hf;have ud:Wwv objs m1:=λi hi=>ha i (Xn _ hi);have ue:Wwv objs m2:=λi hi=>ha i (Xg _ hi);have q1:=Wh5 a _ _ _ _ ud h1;have q2:=Wh5 b _ _ _ _ ue h2;rw[Xaa]at hm;have eB:m1.length+m2.length=a.owns+b.owns:=hm;obtain⟨g1,g2⟩:=Wfg h hg a _ (vs.take a.size) x m1 l1 (hc.take _) (hl.mono (by simp_all)) (λc hc=>hw c (Xco hc)) ud h1 (by omega);obtain⟨g3,g4⟩:=Wfg h hg b _ (vs.drop a.size) y m2 l2 (hc.drop _) (hl.mono (by simp_all)) (λc hc=>hw c (Xes hc)) ue h2 (by omega);exact⟨⟨_,_,pcs ν φ m1,pcs ν φ m2,(Xdp a.size vs).symm,by simp[pcs],g1,g3⟩,m1,m2,rfl,g2,g4⟩
  grind
 | .own e,cs,vs,d,m,l,hc,hl,hw,ha,hf,hm=>by
  simp only[Wax]at hf;split at hf
  .rename_i id;obtain⟨v,rfl,⟨_,hv⟩,_⟩:=hc.single;subst hv;obtain⟨⟨ys,m'⟩,ho,hf⟩:=Xt.1 hf;simp only[Prod.mk.injEq]at hf;obtain⟨rfl,rfl,rfl⟩:=hf;unfold Wtl at ho;split at ho
   .rename_i e' xs br;obtain⟨zs,bF,ho⟩:=Xt.1 ho;obtain⟨rfl,rfl⟩:=Prod.mk.inj ho;obtain⟨he,hy⟩:=Waw bF;subst he;simp only at hy;subst hy;have aG:WbN w (Wy G w e') e'.size (ν id) xs (φ id):=h.ob _ _ br;exact⟨⟨⟨ν id,φ id⟩,rfl,rfl,Wdd hg (Same.refl _ w) (λ_ _ hh=>hh) aG⟩,id,xs,rfl,br⟩
   .rename_i e' xs i p br;split at ho
    .split at ho
     .simp only[Option.some.injEq,Prod.mk.injEq]at ho;obtain⟨_,rfl⟩:=ho;obtain⟨e2,v6,h2⟩:=ha id (Xj ..);simp_all
     grind
    grind
   grind
  .have:=hw _ (Xag.2 rfl);cases this
  .simp only[Option.some.injEq,Prod.mk.injEq]at hf;obtain⟨rfl,rfl,rfl⟩:=hf;exact WD hm (by show¬(0=1);omega)
  grind
 | .slice e,cs,vs,d,m,l,hc,hl,hw,ha,hf,hm=>by
  have j9:m= []:=Xx hm;have:=Wfn h hg (t:=.slice e) rfl hc hl hf j9;subst j9;exact⟨this,rfl⟩
 | .int k,cs,vs,d,m,l,hc,hl,hw,ha,hf,hm=>by
  have j9:m= []:=Xx hm;have:=Wfn h hg (t:=.int k) rfl hc hl hf j9;subst j9;exact⟨this,rfl⟩
 | .bool,cs,vs,d,m,l,hc,hl,hw,ha,hf,hm=>by
  have j9:m= []:=Xx hm;have:=Wfn h hg (t:=.bool) rfl hc hl hf j9;subst j9;exact⟨this,rfl⟩
 | .str,cs,vs,d,m,l,hc,hl,hw,ha,hf,hm=>by
  have j9:m= []:=Xx hm;have:=Wfn h hg (t:=.str) rfl hc hl hf j9;subst j9;exact⟨this,rfl⟩
theorem Wro{t:Ty}{m:List Nat}{x:AVal}(h:Wm9 objs t m x=true):m.length=t.owns/\WuJ x=true/\Wwv objs m:=by
 unfold Wm9 at h;simp only[Xi,Wi,Xad]at h;obtain⟨⟨h1,h2⟩,h3⟩:=h;refine⟨h1,h2,λi hi=>?_⟩
 grind
theorem Wnh(h:HR w0 F G ν φ objs nx w){t:Ty}{agg:Bool}{x:AVal}{v:Value}{cs:List Cell}{d:t.den}{m l:List Nat}(hg:GLe G G')(hx:AValRel G ν nx x v)(hl:Lent G' w φ objs l)
  (hc:cellsOf agg x=some cs) (hf:Wax t cs objs=some (d,m,l)) (ha:Wm9 objs t m x=true):WjL G' w t agg d v (pcs ν φ m)/\Wii objs t m:=by
 obtain⟨hm,hw,gI⟩:=Wro ha;unfold cellsOf at hc;split at hc
 .split at hc
  .cases hc
  .rename_i c ny;injection hc with hc;subst hc;obtain⟨h1,h2⟩:=Wfg h hg t [c] [v] d m l (CellsRel.one hx.1 hx.2) hl (λc' fY=>by rw[Xag.1 fY];exact hw) gI hf hm;simp_all [WjL,Wc]
 .split at hc
  .rename_i ds ny;injection hc with hc;subst hc;obtain⟨us,rfl,bN⟩:=hx;obtain⟨h1,h2⟩:=Wfg h hg t ds us d m l bN hl (λc' fY=>Xad.1 hw c' fY) gI hf hm;refine⟨?_,h2⟩;unfold WjL;simp_all
  .cases hc
 .cases hc
def Tk(φ:Nat->CS)(objs:Wab)(bx:List (Nat×CS))(l:List Nat):CS:=λb o=>∃i∈l,Live objs i/\φ i b o/\∀p∈bx,p.1=i->p.2 b o
structure AOk(G':GH)(ν:Nat->Nu)(φ:Nat->CS)(objs:Wab)(w:World)(ps:List PTy)(A:Args ps)(vs:List Value)(ns:List Pc)(ks:List Nu)(bx:List (Nat×CS)):Prop where
 args:Wbn G' w ps A.d vs ns ks
 kept:KeptOk objs ν bx ps A.kept ks
 sep:Sep (fps ns)
 tk:∀q∈ns,CS.le q.fp (Tk φ objs bx A.all)
 bx:∀p∈bx,p.1∈A.all
 live:∀i∈A.all,Live objs i
 lent:∀i∈A.lent,Live objs i
 mv:∀i∈A.moved,i∈A.all
 mvk:∀i∈A.all,i∈A.moved\/i∈kids A.kept
 sub:(kids A.kept).Sublist A.all
 dis:∀i∈kids A.kept,i∉A.moved
theorem Wju{bx:List (Nat×CS)}{l:List Nat}:CS.le (Tk φ objs bx l) (FromL φ objs l):=λb o ⟨i,hi,h1,h2,_⟩=>⟨i,hi,h1,h2⟩
theorem WlY{bx lW:List (Nat×CS)}{l l':List Nat}(hl:∀i∈l,i∈l')(hb:∀p∈lW,p∈bx\/p.1∉l):CS.le (Tk φ objs bx l) (Tk φ objs lW l'):=λb o ⟨i,hi,h1,h2,h3⟩=>
 ⟨i,hl i hi,h1,h2,λp hp e=>by
  grind⟩
theorem WoL{bx:List (Nat×CS)}{m l:List Nat}(hm:∀i∈m,i∈l)(hb:∀p∈bx,p.1∉m):CS.le (FromL φ objs m) (Tk φ objs bx l):=λb o ⟨i,hi,h1,h2⟩=>
 ⟨i,hm i hi,h1,h2,λp hp e=>WD (by simp_all) (hb p hp)⟩
theorem Wcl(h:HR w0 F G ν φ objs nx w){n1 n2:List Pc}{m l:List Nat}(h1:Sep (fps n1))(h2:Sep (fps n2))(g1:∀q∈n1,CS.le q.fp (FromL φ objs m))(g2:∀q∈n2,CS.le q.fp (FromL φ objs l))(hd:∀i∈m,i∉l):Sep (fps (n1++n2)):=by
 unfold fps;rw[Xz];refine Woh h1 h2 (A:=FromL φ objs m) (B:=FromL φ objs l) (λs hs=>?_) (λs hs=>?_) (FromL.disj h hd)
 .grind
 grind
theorem WpB(h:HR w0 F G ν φ objs nx w)(hg:GLe G G'){t:Ty}{ps:List PTy}{id off:Nat}{cs:List Cell}{d:t.den}{m:List Nat}{A:Args ps}{vs:List Value}{ns:List Pc}{ks:List Nu}{bx:List (Nat×CS)}{v:Value}
  (hv:CellRel G ν nx (.ptr id off) v) (br:Wn objs id=some (.box cs)) (hf:Wax t ((cs.drop off).take t.size) objs=some (d,m,[])) (be:(id::(m++A.all)).Nodup) (hA:AOk G' ν φ objs w ps A vs ns ks bx):
  ∃b n1,v= .pointer (some ⟨b,(ν id).off+off,none⟩)/\(ν id).blk=some b/\WfN G' w t d b ((ν id).off+off) n1/\Leaf ν t ((cs.drop off).take t.size) n1/\
   KeptBox objs ν ((id,rng b ((ν id).off+off) t.size)::bx) t ⟨id,off⟩ (Wci b ((ν id).off+off))/\KeptOk objs ν ((id,rng b ((ν id).off+off) t.size)::bx) ps A.kept ks/\
   Sep (fps (⟨Wci b ((ν id).off+off),rng b ((ν id).off+off) t.size⟩::(n1++ns)))/\
   (∀q∈(⟨Wci b ((ν id).off+off),rng b ((ν id).off+off) t.size⟩:Pc)::(n1++ns),CS.le q.fp (Tk φ objs ((id,rng b ((ν id).off+off) t.size)::bx) (id::(m++A.all))))/\
   (∀p∈(id,rng b ((ν id).off+off) t.size)::bx,p.1∈id::(m++A.all))/\(∀i∈id::(m++A.all),Live objs i)/\
   (∀i∈m++A.moved,i∈id::(m++A.all))/\(∀i∈id::(m++A.all),i∈m++A.moved\/i∈id::kids A.kept)/\(id::kids A.kept).Sublist (id::(m++A.all))/\(∀i∈id::kids A.kept,i∉m++A.moved):=by
 obtain⟨bM,b,bu,rfl⟩:=hv;obtain⟨n1,n2⟩:=Xac.1 be;obtain⟨n3,n4,n5⟩:=Xae.1 n2;have aQ:Live objs id:=⟨_,br,by simp⟩;obtain⟨b',us,cA,bf,aM,bN,fG⟩:WcM G ν nx w id (φ id) (.box cs):=h.ob _ _ br;rw[bu]at cA;injection cA with cA;subst cA;obtain⟨q1,t1,t2,t3,t4,_,t5⟩:=Wae h hg t _ ((us.drop off).take t.size) d m [] ((bN.drop off).take _) (λi hi=>by simp at hi) n3 hf;have ad:=WH _ _ _ _ t1;have cw:off+t.size<=cs.length:=by
  have:=bN.1
  grind [Xbj,Xdw,WbW]
 have gG:CS.le (rng b ((ν id).off+off) t.size) (φ id):=λb' o ⟨k0,k1,k2⟩=>fG b' o ⟨k0,by omega,by omega⟩;refine⟨b,q1,rfl,bu,⟨_,?_,?_,t1⟩,t5,⟨cs,b,br,cw,bu,rfl,Xj ..⟩,KeptOk.mono (λp hp=>Xf _ hp) _ _ _ hA.kept,?_,?_,?_,?_,?_,?_,?_,?_⟩
 .obtain⟨row,TT,r1,r2⟩:=bf;exact⟨row,TT,r1,by omega⟩
 .intro j v hj;rw[Xbo]at hj;split at hj
  .rw[Xbn]at hj;rw[Xba];exact aM _ v hj
  grind
 .have s1:=Wcl h t2 hA.sep t3 (λq hq b o hh=>Wju b o (hA.tk q hq b o hh)) (λi hi hj=>n5 i hi i hj rfl);refine Xy.2 ⟨λs hs=>?_,s1⟩;obtain⟨p,hp,rfl⟩:=Xw.1 hs;refine CS.disj.mono (FromL.disj h (m:=[id]) (m':=m++A.all) (λi hi hj=>n1 (by simp_all))) (λb o hh=>⟨id,by simp,aQ,gG b o hh⟩) (λb o hh=>?_);rcases Xo.1 hp with hp|hp
  .exact FromL.mono (λi hi=>Xn _ hi) b o (t3 p hp b o hh)
  .exact FromL.mono (λi hi=>Xg _ hi) b o (Wju b o (hA.tk p hp b o hh))
 .intro q hq;rcases Xs.1 hq with rfl|hq
  .exactλb o hh=>⟨id,Xj ..,aQ,gG b o hh,λp hp e=>by
    rcases Xs.1 hp with rfl|hp
    .exact hh
    .exact WD (Xg _ (by rw[←e];exact hA.bx p hp)) n1⟩
  .rcases Xo.1 hq with hq|hq
   .refineλb o hh=>WoL (m:=m) (λi hi=>Xf _ (Xn _ hi)) (λp hp hm=>?_) b o (t3 q hq b o hh)
    rcases Xs.1 hp with rfl|hp
    .simp_all
    .exact n5 _ hm _ (hA.bx p hp) rfl
   .refineλb o hh=>WlY (λi hi=>Xf _ (Xg _ hi)) (λp hp=>?_) b o (hA.tk q hq b o hh)
    grind
 .intro p hp;rcases Xs.1 hp with rfl|hp
  .simp_all
  .exact Xf _ (Xg _ (hA.bx p hp))
 .intro i hi;rcases Xs.1 hi with rfl|hi
  .exact aQ
  .rcases Xo.1 hi with hi|hi
   .grind
   .exact hA.live i hi
 .intro i hi;rcases Xo.1 hi with hi|hi
  .exact Xf _ (Xn _ hi)
  .exact Xf _ (Xg _ (hA.mv i hi))
 .intro i hi;rcases Xs.1 hi with rfl|hi
  .exact .inr (Xj ..)
  .rcases Xo.1 hi with hi|hi
   .exact .inl (Xn _ hi)
   .rcases hA.mvk i hi with hi|hi
    .exact .inl (Xg _ hi)
    .exact .inr (Xf _ hi)
 .exact List.Sublist.cons_cons _ (List.Sublist.trans hA.sub (Xfm _ _))
 .intro i hi hm;rcases Xs.1 hi with rfl|hi
  .rcases Xo.1 hm with hm|hm
   .exact n1 (Xn _ hm)
   .exact n1 (Xg _ (hA.mv _ hm))
  .rcases Xo.1 hm with hm|hm
   .exact n5 _ hm _ (hA.sub.subset hi) rfl
   .exact hA.dis i hi hm
theorem Wq0(h:HR w0 F G ν φ objs nx w){c:Cell}{y:AVal}{i:Nat}{u:Value}(hy:AValRel G ν nx y u)(he:WrD objs c y=some i):
  ∃r b,c= .own r/\(ν r).blk=some b/\i<(ν r).len/\u= .pointer (some ⟨b,(ν r).off+(i*(ν r).esz+0),none⟩):=by
 unfold WrD at he;split at he
 .rename_i r p off;split at he
  .rename_i e xs j p' br;split at he
   .rename_i hp;injection he with he;subst he;have hp:=Xck hp;subst hp;obtain⟨ll,k1,k2,k3,b,k4,k5,k6,_⟩:p<nx/\Wh4 w (Wy G w e) e.size (ν r) (ν p) xs j (φ r):=h.ob _ _ br;obtain⟨⟨_,b',cA,rfl⟩,_⟩:=hy;rw[k5]at cA;injection cA with cA;subst cA;exact⟨r,b,rfl,k4,by omega,by rw[k6,k2,Xbe,Xbe]⟩
   .simp at he
  .simp at he
 .rename_i r r' j off;split at he
  .rename_i e xs br;split at he
   .rename_i hp;injection he with he;subst he;have hp:=Xck hp;subst hp;obtain⟨⟨_,ac,b,hb,rfl⟩,_⟩:=hy;exact⟨r,b,rfl,hb,ac,rfl⟩
   .simp at he
  .simp at he
 .simp at he
theorem WaN(h:HR w0 F G ν φ objs nx w)(hg:GLe G G'):∀(ps:List PTy) (xs:List AVal) (vs:List Value) (A:Args ps),vs.length=xs.length->
  (∀(j:Nat) (x:AVal) (v:Value),xs[j]?=some x->vs[j]?=some v->AValRel G ν nx x v)->Lent G' w φ objs A.lent->A.all.Nodup->Waa ps xs objs=some A->
  ∃ns ks bx,AOk G' ν φ objs w ps A vs ns ks bx
 | [],xs,vs,A,ad,hx,hl,be,hf=>by
  simp only[Waa]at hf;split at hf
  .injection hf with hf;subst hf;have fO:vs= []:=Xx (by simpa using ad);exact⟨[],[],[],⟨fO,rfl,rfl⟩,⟨rfl,rfl⟩,List.Pairwise.nil,by simp,by simp,by simp,by simp,by simp,by simp,List.Sublist.refl _,by simp[kids]⟩
  .cases hf
 | .v t agg::ps,xs,vs,A,ad,hx,hl,be,hf=>by
  simp only[Waa]at hf;split at hf
  .rename_i x xs;split at hf
   .rename_i d m r A' h1 h2;injection hf with hf;subst hf
    match vs,ad with
    |v::vs,ad=>
     cases hc:cellsOf agg x with
     |none=>simp[hc]at h1
     |some cs=>
      simp[hc]at h1;obtain⟨n1,n2,n3⟩:=Xae.1 be;obtain⟨q1,g1,g2,g3,g4,g5⟩:=WlQ h hg (hx 0 x v rfl rfl) (hl.mono (λi hi=>Xn _ hi)) n1 hc h1;obtain⟨ns,ks,bx,hA⟩:=WaN h hg ps xs vs A' (by simpa using ad) (λj y u hj hu=>hx (j+1) y u (by simpa using hj) (by simpa using hu)) (hl.mono (λi hi=>Xg _ hi)) n2 h2;refine⟨q1++ns,ks,bx,⟨v,vs,q1,ns,rfl,rfl,g1,hA.args⟩,hA.kept,Wcl h g2 hA.sep g3 (λq hq b o hh=>Wju b o (hA.tk q hq b o hh)) (λi hi hj=>n3 i hi i hj rfl),λq hq=>?_,λp hp=>Xg _ (hA.bx p hp),λi hi=>?_,λi hi=>?_,λi hi=>?_,λi hi=>?_,List.Sublist.trans hA.sub (Xfm _ _),λi hi hm=>?_⟩
      .rcases Xo.1 hq with hq|hq
       .exactλb o hh=>WoL (λi hi=>Xn _ hi) (λp hp hm=>n3 _ hm _ (hA.bx p hp) rfl) b o (g3 q hq b o hh)
       .exactλb o hh=>WlY (λi hi=>Xg _ hi) (λp hp=>.inl hp) b o (hA.tk q hq b o hh)
      .rcases Xo.1 hi with hi|hi
       .exact g4 i hi
       .exact hA.live i hi
      .rcases Xo.1 hi with hi|hi
       .exact g5 i hi
       .exact hA.lent i hi
      .rcases Xo.1 hi with hi|hi
       .exact Xn _ hi
       .exact Xg _ (hA.mv i hi)
      .rcases Xo.1 hi with hi|hi
       .exact .inl (Xn _ hi)
       .rcases hA.mvk i hi with hi|hi
        .exact .inl (Xg _ hi)
        .exact .inr hi
      .rcases Xo.1 hm with hm|hm
       .exact n3 _ hm _ (hA.sub.subset hi) rfl
       .exact hA.dis i hi hm
   .cases hf
  .cases hf
 | .box t::ps,xs,vs,A,ad,hx,hl,be,hf=>by
  simp only[Waa]at hf;split at hf
  .rename_i id off xs;split at hf
   .rename_i cs br;split at hf
    .rename_i d m A' h1 h2;injection hf with hf;subst hf
     match vs,ad with
     |v::vs,ad=>
      obtain⟨n1,n2⟩:=Xac.1 be;obtain⟨ns,ks,bx,hA⟩:=WaN h hg ps xs vs A' (by simpa using ad) (λj y u hj hu=>hx (j+1) y u (by simpa using hj) (by simpa using hu)) hl (Xae.1 n2).2.1 h2;obtain⟨b,q1,rfl,bu,k1,_,k2,k3,k4,k5,k6,k7,k8,k9,k10,jp⟩:=WpB h hg (hx 0 _ v rfl rfl).1 br h1 be hA;exact⟨_,_,_,⟨b,_,vs,q1,ns,ks,rfl,rfl,rfl,k1,hA.args⟩,⟨_,_,_,_,rfl,rfl,k2,k3⟩,k4,k5,k6,k7,hA.lent,k8,k9,k10,jp⟩
    .cases hf
   .cases hf
  .cases hf
 | .vj _::_,_,_,_,_,_,_,_,hf=>by simp only[Waa]at hf;cases hf
 | .boxal t lf::ps,xs,vs,A,ad,hx,hl,be,hf=>by
  simp only[Waa]at hf;split at hf
  .rename_i id off y xs;split at hf
   .rename_i cs br;split at hf
    .rename_i d m A' i h1 h2 h3;injection hf with hf;subst hf
     match vs,ad with
     |v::u::vs,ad=>
      obtain⟨n1,n2⟩:=Xac.1 be;obtain⟨ns,ks,bx,hA⟩:=WaN h hg ps xs vs A' (by simpa using ad) (λj y u hj hu=>hx (j+2) y u (by simpa using hj) (by simpa using hu)) hl (Xae.1 n2).2.1 h2;obtain⟨b,q1,rfl,bu,k1,kl,k2,k3,k4,k5,k6,k7,k8,k9,k10,jp⟩:=WpB h hg (hx 0 _ v rfl rfl).1 br h1 be hA;obtain⟨c,hc,h3⟩:=Xau.1 h3;obtain⟨k,hk,hc⟩:=Xau.1 hc;obtain⟨r,b',rfl,e1,e2,rfl⟩:=Wq0 h (hx 1 y u rfl rfl) h3;obtain⟨pc,e3,e4⟩:=kl lf k r hk hc;exact⟨_,_,_,⟨b,_,b',pc,vs,q1,ns,ks,by rw[e4],rfl,rfl,k1,e3,by rw[e4];exact e1,by rw[e4];exact e2,hA.args⟩,⟨_,_,_,_,rfl,rfl,k2,k3⟩,k4,k5,k6,k7,hA.lent,k8,k9,k10,jp⟩
    .cases hf
   .cases hf
  .cases hf
 | .mut e::ps,xs,vs,A,ad,hx,hl,be,hf=>by
  simp only[Waa]at hf;split at hf
  .rename_i id xs;split at hf
   .rename_i e' ys br;split at hf
    .rename_i d A' h1 h2;injection hf with hf;subst hf;obtain⟨he,hd⟩:=Waw h1;subst he;simp only at hd;subst hd
     match vs,ad with
     |v::vs,ad=>
      obtain⟨⟨_,hv⟩,_⟩:=hx 0 _ v rfl rfl;subst hv;obtain⟨n1,n2⟩:=Xac.1 be;have aQ:Live objs id:=⟨_,br,by simp⟩;have aR:WbN w (Wy G w e') e'.size (ν id) ys (φ id):=h.ob _ _ br;obtain⟨ns,ks,bx,hA⟩:=WaN h hg ps xs vs A' (by simpa using ad) (λj y u hj hu=>hx (j+1) y u (by simpa using hj) (by simpa using hu)) hl n2 h2;refine⟨⟨ν id,φ id⟩::ns,ν id::ks,bx,⟨⟨ν id,φ id⟩,vs,ns,ks,rfl,rfl,rfl,Wdd hg (Same.refl _ w) (λ_ _ hh=>hh) aR,hA.args⟩,⟨id,_,ks,ys,rfl,rfl,br,hA.kept⟩,?_,λq hq=>?_,λp hp=>Xf _ (hA.bx p hp),λi hi=>?_,hA.lent,λi hi=>Xf _ (hA.mv i hi),λi hi=>?_,List.Sublist.cons_cons _ hA.sub,λi hi hm=>?_⟩
      .refine Wcl h (n1:=[⟨ν id,φ id⟩]) (m:=[id]) (List.pairwise_singleton _ _) hA.sep (λq hq=>?_) (λq hq b o hh=>Wju b o (hA.tk q hq b o hh)) (λi hi hj=>n1 (by rw[←Xag.1 hi];exact hj));rw[Xag.1 hq];exact FromL.one (by simp) aQ
      .rcases Xs.1 hq with rfl|hq
       .exactλb o hh=>⟨id,Xj ..,aQ,hh,λp hp e=>WD (by rw[←e];exact hA.bx p hp) n1⟩
       .exactλb o hh=>WlY (λi hi=>Xf _ hi) (λp hp=>.inl hp) b o (hA.tk q hq b o hh)
      .rcases Xs.1 hi with rfl|hi
       .exact aQ
       .exact hA.live i hi
      .rcases Xs.1 hi with rfl|hi
       .exact .inr (Xj ..)
       .rcases hA.mvk i hi with hi|hi
        .exact .inl hi
        .exact .inr (Xf _ hi)
      .rcases Xs.1 hi with rfl|hi
       .exact n1 (hA.mv _ hm)
       .exact hA.dis i hi hm
    .cases hf
   .cases hf
  .cases hf
 | .clos g n::ps,xs,vs,A,ad,hx,hl,be,hf=>by
  simp only[Waa]at hf;split at hf
  .rename_i g' caps xs;split at hf
   .rename_i hc;obtain⟨rfl,cP⟩:=hc;cases hA:Waa ps (Whb caps++xs) objs with
    |none=>simp[hA]at hf
    |some A'=>
     simp only[hA,Xbx,Option.some.injEq]at hf;subst hf
     match vs,ad with
     |v::vs,ad=>
      obtain⟨⟨cvs,hv,kT,oz⟩,_⟩:=hx 0 _ v rfl rfl;subst hv;obtain⟨ns,ks,bx,hAk⟩:=WaN h hg ps (Whb caps++xs) (cvs++vs) A' (by simp[Whb,kT];simpa using ad) (λj y u hj hu=>by
       rw[Xar]at hj hu;simp only[Whb,Xu]at hj;rw[kT]at hu;split at hj
       .rename_i ac;rw[Wf ac]at hu;rw[Xaj]at hj;obtain⟨id,bM,rfl⟩:=Xt.1 hj;obtain⟨h1,h3,h2⟩:=oz _ id u bM hu;exact⟨⟨h1,h2⟩,h3⟩
       .rename_i ac;rw[Wc ac]at hu;exact hx (j-caps.length+1) y u (by simpa using hj) (by simpa using hu)) hl be hA
      refine⟨ns,ks,bx,⟨cvs,vs,rfl,by rw[kT];exact cP,λu hu=>?_,hAk.args⟩,hAk.kept,hAk.sep,hAk.tk,hAk.bx,hAk.live,hAk.lent,hAk.mv,hAk.mvk,hAk.sub,hAk.dis⟩;obtain⟨j,hj⟩:=Xdu hu;have ac:j<caps.length:=by rw[←kT];exact(Xab.1 hj).1
      exact(oz j _ u (Xq ac) hj).2.1
   .cases hf
  .cases hf
 | .kv t agg::ps,xs,vs,A,ad,hx,hl,be,hf=>by
  simp only[Waa]at hf;split at hf
  .rename_i x xs;split at hf
   .rename_i d m r A' h1 h2;split at hf
    .rename_i gI;injection hf with hf;subst hf
     match vs,ad with
     |v::vs,ad=>
      cases hc:cellsOf agg x with
      |none=>simp[hc]at h1
      |some cs=>
       simp[hc]at h1;obtain⟨n1,n2,n3⟩:=Xae.1 be;have bK:Lent G' w φ objs r:=hl.mono (λi hi=>Xn _ hi);obtain⟨_,_,_,_,g4,g5⟩:=WlQ h hg (hx 0 x v rfl rfl) bK n1 hc h1;obtain⟨k1,k2⟩:=Wnh h hg (hx 0 x v rfl rfl) bK hc h1 gI;obtain⟨ns,ks,bx,hA⟩:=WaN h hg ps xs vs A' (by simpa using ad) (λj y u hj hu=>hx (j+1) y u (by simpa using hj) (by simpa using hu)) (hl.mono (λi hi=>Xg _ hi)) n2 h2;have iF:kids (kp0 m++A'.kept)=m++kids A'.kept:=by simp only[kids,Xz];congr 1;exact Wh9 m
       have gp:∀q∈pcs ν φ m,CS.le q.fp (FromL φ objs m):=λq hq=>by
        obtain⟨i,hi,rfl⟩:=Xw.1 hq;exact FromL.one hi (g4 i hi)
       have gs:Sep (fps (pcs ν φ m)):=by
        rw[WoZ];refine List.pairwise_map.2 (n1.imp_of_mem λ{i j} hi hj bI=>?_)
        exactλb o h1 h2=>bI (h.inj i j b o (g4 i hi) (g4 j hj) h1 h2)
       refine⟨pcs ν φ m++ns,m.map ν++ks,bx,⟨v,vs,pcs ν φ m,ns,ks,rfl,rfl,by rw[Wu7],k1,hA.args⟩,⟨m,A'.kept,ks,rfl,rfl,k2,hA.kept⟩,Wcl h gs hA.sep gp (λq hq b o hh=>Wju b o (hA.tk q hq b o hh)) (λi hi hj=>n3 i hi i hj rfl),λq hq=>?_,λp hp=>Xg _ (hA.bx p hp),λi hi=>?_,λi hi=>?_,λi hi=>Xg _ (hA.mv i hi),λi hi=>?_,by rw[iF];exact List.Sublist.append (List.Sublist.refl _) hA.sub,λi hi hm=>?_⟩
       .rcases Xo.1 hq with hq|hq
        .exactλb o hh=>WoL (λi hi=>Xn _ hi) (λp hp hm=>n3 _ hm _ (hA.bx p hp) rfl) b o (gp q hq b o hh)
        .exactλb o hh=>WlY (λi hi=>Xg _ hi) (λp hp=>.inl hp) b o (hA.tk q hq b o hh)
       .rcases Xo.1 hi with hi|hi
        .exact g4 i hi
        .exact hA.live i hi
       .rcases Xo.1 hi with hi|hi
        .exact g5 i hi
        .exact hA.lent i hi
       .rw[iF];rcases Xo.1 hi with hi|hi
        .exact .inr (Xn _ hi)
        .rcases hA.mvk i hi with hi|hi
         .exact .inl hi
         .exact .inr (Xg _ hi)
       .rw[iF]at hi;rcases Xo.1 hi with hi|hi
        .exact n3 _ hi _ (hA.mv i hm) rfl
        .exact hA.dis i hi hm
    .cases hf
   .cases hf
  .cases hf
 | .rp t::ps,xs,vs,A,ad,hx,hl,be,hf=>by
  simp only[Waa]at hf;split at hf
  .rename_i id off xs;split at hf
   .rename_i cs br;split at hf
    .rename_i d r A' h1 h2;split at hf
     case isFalse=>cases hf
     rename_i rt;injection hf with hf;subst hf
     match vs,ad with
     |v::vs,ad=>
      obtain⟨ns,ks,bx,hA⟩:=WaN h hg ps xs vs A' (by simpa using ad) (λj y u hj hu=>hx (j+1) y u (by simpa using hj) (by simpa using hu)) (hl.mono (λi hi=>Xf _ (Xg _ hi))) be h2;obtain⟨⟨bM,b,bu,rfl⟩,_⟩:=hx 0 _ v rfl rfl;have aQ:Live objs id:=⟨_,br,by simp⟩;obtain⟨b',us,cA,bf,aM,bN,fG⟩:WcM G ν nx w id (φ id) (.box cs):=h.ob _ _ br;rw[bu]at cA;injection cA with cA;subst cA;obtain⟨q1,t1,t2,t3,t4,t5,_⟩:=Wae h hg t _ ((us.drop off).take t.size) d [] r ((bN.drop off).take _) (hl.mono (λi hi=>Xf _ (Xn _ hi))) Xdd h1;have ru:∀p∈q1,Froz G' w p.fp:=λp hp b o v hh=>by
       obtain⟨i,hi,_⟩:=t3 p hp b o hh;simp at hi
      have ga:Enc G' t.ro (WuX t d) ((us.drop off).take t.size):=WdZ (λ_ _ _ hh=>hh) t d _ q1 ru t1;have ka:=WH _ _ _ _ t1;have cw:off+t.size<=cs.length:=by
       have:=bN.1;rw[Xbj,Xdw]at ka;have:=WbW t;omega
      have bt:WfF G' b ((ν id).off+off) ((us.drop off).take t.size):=λj v hj=>by
       have rx:j<t.size:=by have:=(Xab.1 hj).1;omega
       rw[Xbo,Wf rx,Xbn]at hj;have h3:=aM _ v hj;rw[←Xba]at h3;exact hl id (Xj ..) aQ b _ v (fG b _ ⟨rfl,by omega,by omega⟩) h3
      exact⟨ns,ks,bx,⟨b,(ν id).off+off,(us.drop off).take t.size,vs,rfl,((Wa7 t d _ q1 rt).1 t1).1,bt,hA.args⟩,hA.kept,hA.sep,hA.tk,hA.bx,hA.live,λi hi=>by
       rcases Xs.1 hi with rfl|hi
       .exact aQ
       .rcases Xo.1 hi with hi|hi
        .exact t5 i hi
        .exact hA.lent i hi,hA.mv,hA.mvk,hA.sub,hA.dis⟩
    .cases hf
   .cases hf
  .rename_i t' d' off xs;split at hf
   .rename_i d A' h1 h2;split at hf
    case isFalse=>cases hf
    rename_i rt;injection hf with hf;subst hf
    match vs,ad with
    |v::vs,ad=>
     obtain⟨ns,ks,bx,hA⟩:=WaN h hg ps xs vs A' (by simpa using ad) (λj y u hj hu=>hx (j+1) y u (by simpa using hj) (by simpa using hu)) hl be h2;obtain⟨⟨b,o,cs,rfl,e1,e2⟩,_⟩:=hx 0 _ v rfl rfl;have bN:=WaM (ν:=ν) (nx:=nx) t' d' cs e1;obtain⟨q1,t1,t2,t3,t4,t5,_⟩:=Wae h hg t _ ((cs.drop off).take t.size) d [] [] ((bN.drop off).take _) (λi hi=>by simp at hi) Xdd h1;exact⟨ns,ks,bx,⟨b,o+off,(cs.drop off).take t.size,vs,rfl,((Wa7 t d _ q1 rt).1 t1).1,λj v hj=>by
      rw[Xbo]at hj;split at hj
      .rw[Xbn]at hj;rw[Xba];exact hg _ _ _ (e2 _ v hj)
      .simp at hj,hA.args⟩,hA.kept,hA.sep,hA.tk,hA.bx,hA.live,hA.lent,hA.mv,hA.mvk,hA.sub,hA.dis⟩
   .cases hf
  .cases hf
end
end Go.Sx
namespace Go.Sx
set_option linter.unusedVariables false
set_option linter.unusedSimpArgs false
theorem Wbh{G G':GH}{w:World}:∀(t:Ty) (d:t.den) (vs:List Value) (ns:List Pc),t.noRo=true->Wy G w t d vs ns->Wy G' w t d vs ns
 | .own e,_,_,_,hn,⟨pc,h1,h2,h3⟩=>⟨pc,h1,h2,Wif (λx c q hx=>WH e x c q hx) (Same.refl _ w) (λ_ _ hh=>hh) (λx c q _ hx=>Wbh e x c q hn hx) h3⟩
 | .prod a b,_,_,_,hn,⟨v1,v2,n1,n2,h1,h2,h3,h4⟩=>by
  simp only[Ty.noRo,Xi]at hn;exact⟨v1,v2,n1,n2,h1,h2,Wbh a _ _ _ hn.1 h3,Wbh b _ _ _ hn.2 h4⟩
 | .int _,_,_,_,_,h=>h
 | .bool,_,_,_,_,h=>h
 | .str,_,_,_,_,h=>h
 | .slice _,_,_,_,hn,_=>by simp[Ty.noRo]at hn
theorem WrM{G G':GH}{w:World}{e:Ty}{nu:Nu}{xs:List e.den}{S:CS}(hn:e.noRo=true)(h:WbN w (Wy G w e) e.size nu xs S):WbN w (Wy G' w e) e.size nu xs S:=
 Wif (λx c q hx=>WH e x c q hx) (Same.refl _ w) (λ_ _ hh=>hh) (λx c q _ hx=>Wbh e x c q hn hx) h
theorem WfV{G G':GH}{w:World}{t:Ty}{d:t.den}{b o:Nat}{ns:List Pc}(hn:t.noRo=true)(h:WfN G w t d b o ns):WfN G' w t d b o ns:=by
 obtain⟨us,h1,h2,h3⟩:=h;exact⟨us,h1,h2,Wbh _ _ _ _ hn h3⟩
theorem Wsu{G G':GH}{w:World}{t:Ty}{agg:Bool}{d:t.den}{v:Value}{ns:List Pc}(hn:t.noRo=true)(h:WjL G w t agg d v ns):WjL G' w t agg d v ns:=by
 unfold WjL at h⊢;split
 .rename_i ha;rw[Wf ha]at h;obtain⟨us,h1,h2⟩:=h;exact⟨us,h1,Wbh _ _ _ _ hn h2⟩
 .rename_i ha;rw[Wc ha]at h;exact Wbh _ _ _ _ hn h
theorem Wee{G G':GH}{w:World}:∀(rs:List PTy) (d:WgX rs) (vs:List Value) (ns:List Pc),rs.all PTy.freshR=true->WgH G w rs d vs ns->WgH G' w rs d vs ns
 | [],_,_,_,_,h=>h
 | .v t agg::rs,d,vs,ns,hn,⟨v,au,n1,n2,h1,h2,h3,h4⟩=>by
  simp only[Xcc,Xi]at hn;exact⟨v,au,n1,n2,h1,h2,Wsu hn.1 h3,Wee rs _ _ _ hn.2 h4⟩
 | .box t::rs,d,vs,ns,hn,⟨b,o,au,n1,n2,h1,h2,h3,h5⟩=>by
  simp only[Xcc,Xi]at hn;exact⟨b,o,au,n1,n2,h1,h2,WfV hn.1 h3,Wee rs _ _ _ hn.2 h5⟩
 | .mut _::_,_,_,_,_,h=>h.elim
 | .clos _ _::_,_,_,_,_,h=>h.elim
 | .kv _ _::_,_,_,_,_,h=>h.elim
 | .rp _::_,_,_,_,_,h=>h.elim
 | .vj t::rs,d,vs,ns,hn,⟨us,u,au,n1,n2,h1,h0,h2,h3,h4⟩=>by
  simp only[Xcc,Xi]at hn;exact⟨us,u,au,n1,n2,h1,h0,h2,Wbh _ _ _ _ hn.1 h3,Wee rs _ _ _ hn.2 h4⟩
 | .boxal _ _::_,_,_,_,_,h=>h.elim
theorem WaV{G G':GH}{w:World}:∀(ps:List PTy) (o:Wgb ps) (ks:List Nu) (kf:List CS) (ns:List Pc),ps.all PTy.fresh=true->WbE G w ps o ks kf ns->WbE G' w ps o ks kf ns
 | [],_,_,_,_,_,h=>h
 | .v _ _::ps,o,ks,kf,ns,hn,h=>by
  simp only[Xcc,Xi]at hn;exact WaV ps o ks kf ns hn.2 h
 | .box t::ps,o,ks,kf,ns,hn,⟨b,off,aC,dt,n1,n2,h1,h2,h3,h4,h5⟩=>by
  simp only[Xcc,Xi]at hn;exact⟨b,off,aC,dt,n1,n2,h1,h2,h3,WfV hn.1 h4,WaV ps _ _ _ _ hn.2 h5⟩
 | .mut e::ps,o,ks,kf,ns,hn,⟨pc,aC,dt,h1,h2,h3,h4⟩=>by
  simp only[Xcc,Xi]at hn;exact⟨pc,aC,dt,h1,h2,WrM hn.1 h3,WaV ps _ _ _ _ hn.2 h4⟩
 | .clos _ _::ps,o,ks,kf,ns,hn,h=>by
  simp only[Xcc,Xi]at hn;exact WaV ps o ks kf ns hn.2 h
 | .kv t _::ps,o,ks,kf,ns,hn,⟨n1,aC,dt,us,h1,h2,h3,h4⟩=>by
  simp only[Xcc,Xi]at hn;exact⟨n1,aC,dt,us,h1,h2,Wbh _ _ _ _ hn.1 h3,WaV ps _ _ _ _ hn.2 h4⟩
 | .rp _::ps,o,ks,kf,ns,hn,h=>by
  simp only[Xcc,Xi]at hn;exact WaV ps o ks kf ns hn.2 h
 | .vj _::_,_,_,_,_,_,h=>h.elim
 | .boxal t _::ps,o,ks,kf,ns,hn,⟨b,off,aC,dt,n1,n2,h1,h2,h3,h4,h5⟩=>by
  simp only[Xcc,Xi]at hn;exact⟨b,off,aC,dt,n1,n2,h1,h2,h3,WfV hn.1 h4,WaV ps _ _ _ _ hn.2 h5⟩
theorem WeD{objs:Wab}:∀(l:List Nat) (id:Nat),id∉l->Wn (kill objs l) id=Wn objs id
 | [],id,_=>rfl
 |i::l,id,h=>by
  simp only[kill];rw[WG,Wc (λe=>h (by rw[e];exact Xj ..))];exact WeD l id λhm=>h (Xf _ hm)
theorem Wmg:∀{l:List CS},Sep l->∀{i j:Nat} {A B:CS} {b o:Nat},l[i]?=some A->l[j]?=some B->A b o->B b o->i=j
 | [],_,i,j,A,B,b,o,hi,_,_,_=>by simp at hi
 |C::l,hs,i,j,A,B,b,o,hi,hj,ha,hb=>by
  obtain⟨h1,h2⟩:=Xy.1 hs;cases i with
  |zero=>
   simp at hi;subst hi;cases j with
   |zero=>rfl
   |succ j=>
    simp at hj;exact(h1 B (Xas hj) b o ha hb).elim
  |succ i=>
   simp at hi;cases j with
   |zero=>
    simp at hj;subst hj;exact(h1 A (Xas hi) b o hb ha).elim
   |succ j=>
    simp at hj;rw[Wmg h2 hi hj ha hb]
section
variable{w0:World}{F:CS}{nt:Slots}{G0 G G':GH}{ν:Nat->Nu}{φ:Nat->CS}{objs:Wab}{nx:Nat}{st af:St}{a:Act}{w w':World}{P:Program}{T:Tab}
theorem WqC{f g:Nat->Nu}:∀{l:List Nat},(∀i∈l,g i=f i)->l.map f=l.map g:=λ{l} h=>List.map_congr_left λi hi=>(h i hi).symm
theorem Wcz{ν':Nat->Nu}{bx:List (Nat×CS)}:∀(ps:List PTy) (ids:List Kp) (ks:List Nu),(∀i∈kids ids,ν' i=ν i)->KeptOk objs ν bx ps ids ks->KeptOk objs ν' bx ps ids ks
 | [],_,_,_,h=>h
 | .v _ _::ps,ids,ks,hn,h=>Wcz ps ids ks hn h
 | .box t::ps,ids,ks,hn,⟨k,bv,nu,aC,h1,h2,⟨cs,b,g1,g2,g3,g4,g5⟩,h4⟩=>by
  subst h1;have e:=hn k.id (Xj ..);exact⟨k,bv,nu,aC,rfl,h2,⟨cs,b,g1,g2,by rw[e];exact g3,by rw[e];exact g4,by rw[e];exact g5⟩,Wcz ps bv aC (λi hi=>hn i (Xf _ hi)) h4⟩
 | .mut e::ps,ids,ks,hn,⟨id,bv,aC,ys,h1,h2,h3,h4⟩=>by
  subst h1;exact⟨id,bv,aC,ys,rfl,by rw[hn id (Xj ..)];exact h2,h3,Wcz ps bv aC (λi hi=>hn i (Xf _ hi)) h4⟩
 | .clos _ _::ps,ids,ks,hn,h=>Wcz ps ids ks hn h
 | .kv t _::ps,ids,ks,hn,⟨i1,i2,aC,h1,h2,h3,h4⟩=>by
  subst h1;have iF:kids (kp0 i1++i2)=i1++kids i2:=by simp only[kids,Xz];congr 1;exact Wh9 i1
  rw[iF]at hn;exact⟨i1,i2,aC,rfl,by rw[h2,WqC (λi hi=>hn i (Xn _ hi))],h3,Wcz ps i2 aC (λi hi=>hn i (Xg _ hi)) h4⟩
 | .rp _::ps,ids,ks,hn,h=>Wcz ps ids ks hn h
 | .vj _::_,_,_,_,h=>h.elim
 | .boxal t _::ps,ids,ks,hn,⟨k,bv,nu,aC,h1,h2,⟨cs,b,g1,g2,g3,g4,g5⟩,h4⟩=>by
  subst h1;have e:=hn k.id (Xj ..);exact⟨k,bv,nu,aC,rfl,h2,⟨cs,b,g1,g2,by rw[e];exact g3,by rw[e];exact g4,by rw[e];exact g5⟩,Wcz ps bv aC (λi hi=>hn i (Xf _ hi)) h4⟩
theorem Wo6(hr:Rel w0 F nt G0 G ν st a w):∀(l:List Operand) (xs:List AVal),evs st l=some xs->xs.length=l.length/\
  ∀(j:Nat) (x:AVal) (v:Value),xs[j]?=some x->(l.map a.eval)[j]?=some v->AValRel G ν st.nx x v
 | [],xs,h=>by simp[evs]at h;subst h;exact⟨rfl,λj x v hj=>by simp at hj⟩
 |o::l,xs,h=>by
  simp only[evs]at h;split at h
  .rename_i y ys h1 h2;injection h with h;subst h;obtain⟨h3,h4⟩:=Wo6 hr l ys h2;refine⟨by simp[h3],λj x v hj hv=>?_⟩;cases j with
   |zero=>simp at hj hv;subst hj hv;exact WK hr o _ h1
   |succ j=>exact h4 j x v (by simpa using hj) (by simpa using hv)
  .simp at h
theorem Wqb{o:Oper}{c:Call}{f:Operand}{g:FuncId}{caps:List Value}(ho:o.op= .call c)(hc:c.callee= .value f)(hf:a.eval f= .func (.func g) #[] caps.toArray)(oC:WgS P g):
  (execOp a.eval o).run P w= .ok (.enter g (c.args.toList.map a.eval++caps).toArray) w:=by
 obtain⟨fn,h1,h2,h3⟩:=oC;obtain⟨callee,args,argTypes⟩:=c;simp only at hc;subst hc;have e:(#[]++args.map a.eval++caps.toArray)=(args.toList.map a.eval++caps).toArray:=by
  apply Array.ext';simp
 simp only[execOp,ho,resolve,Deferred.ofValue,hf,Sem.run_bind,Sem.run_pure,Result.andThen_ok,invoke,callFunc,run_program,h1,h2,h3,Xap,Wat,e]
theorem Wun{b o k:Nat}{vs us:List Value}(hm:Mem w b o vs)(hu:Mem w' b (o+k) us)(hk:k+us.length<=vs.length)(cg:∀j,j<vs.length->¬(k<=j/\j<k+us.length)->w'.cell? ⟨b,o+j,none⟩=w.cell? ⟨b,o+j,none⟩):
  Mem w' b o (vs.take k++us++vs.drop (k+us.length)):=λj v hj=>by
 have gF:∀v',vs[j]?=some v'->¬(k<=j/\j<k+us.length)->w'.cell? ⟨b,o+j,none⟩=some v':=λv' hv hn=>by
  rw[cg j (Xab.1 hv).1 hn];exact hm j v' hv
 have jn:(vs.take k).length=k:=by simp;omega
 rw[Xbf,Xar,jn]at hj;split at hj
 .rename_i ac;rw[Xbo,Wf ac]at hj;exact gF v hj (by omega)
 .rw[Xar]at hj;split at hj
  .have:=hu (j-k) v hj;rw[show o+j=o+k+(j-k) by omega];exact this
  .rw[Xbn,show k+us.length+(j-k-us.length)=j by omega]at hj;exact gF v hj (by omega)
theorem Wlp{Γ:Ctx}(hΓ:WdJ P Γ){sg:Sig}(dj:sg.inl=none)(hr:Rel w0 F nt G0 G ν st a w){o:Oper}(hd:∀d,o.dst=some d->nt.Ok d){c:Call}{f:Operand}{g:FuncId}{cvs:List Value}{xs:List AVal}{R:Type}{k:St->Option R}{r:R}
  (ho:o.op= .call c) (hc:c.callee= .value f) (my:a.eval f= .func (.func g) #[] cvs.toArray) (kU:Wn Γ g=some sg) (ad:xs.length=(c.args.toList.map a.eval++cvs).length)
  (aP:∀(j:Nat) (x:AVal) (v:Value),xs[j]?=some x->(c.args.toList.map a.eval++cvs)[j]?=some v->AValRel G ν st.nx x v)
  (h:Wfx sg st xs (λx objs nx=>k (({env:=st.env,objs:=objs,nx:=nx}:St).put o.dst x))=some r) {K:Act->World->Prop} {Q:Exit->Act->World->Prop}
  (hK:∀af a' w' G' ν',Rel w0 F nt G0 G' ν' af a' w'->k af=some r->K a' w'):o.wp P a w K Q:=by
 obtain⟨db,dZ⟩:=hΓ g sg kU;unfold WoJ at db;rw[dj]at db;dsimp only at db;unfold Wfx at h;split at h
 .rename_i A hA;split at h
  .rename_i bE;simp only[Xi]at bE;obtain⟨⟨be,lv⟩,qm⟩:=bE;have be:=(Wfs _).1 be;have lv:=Wni lv;obtain⟨out,bh,hk⟩:=sg.law' A.d _ r h;dsimp only at hk;obtain⟨φ,hφ⟩:=hr.h;have gE:=hφ.addG_le A.lent;have hG1w:=hφ.addG_w A.lent;obtain⟨ns,ks,bx,hO⟩:=WaN hφ gE sg.ps _ (c.args.toList.map a.eval++cvs) A ad.symm aP (λid bM hl=>(Wjl _).mono (FromL.one bM hl)) be hA;have hTk:∀b o,Of ns b o->Tk φ st.objs bx A.all b o:=λb o ⟨q,hq,hh⟩=>hO.tk q hq b o hh;have cR:∀q∈ns,∀b off,q.fp b off->Wrv G w (FromL φ st.objs A.lent) b off=none/\b<w.heap.size:=λq hq b off hh=>by
    obtain⟨i,hi,h1,h2,_⟩:=hO.tk q hq b off hh;refine⟨?_,hφ.bl i b off h1 h2⟩;rw[Wdv (λ⟨j,hj,h3,h4⟩=>by
     have:=hφ.inj i j b off h1 h3 h2 h4;subst this;exact lv _ hj hi)]
    exact hφ.gf i b off h1 h2
   have ic:=db A.d out bh _ w _ ns _ hO.args hO.sep cR hG1w;unfold Oper.wp;rw[Wqb ho hc my dZ,Oper.upon_enter];refine ic.mono λe w' kb=>?_;obtain⟨rv,kf,ms,cZ,G2,rfl,hA2⟩:=kb;simp only;have hG3:∃G3:GH,GLe G G3/\(∀b off v,G3 b off=some v->w'.cell? ⟨b,off,none⟩=some v)/\WgH G3 w' sg.rs out.2 rv cZ/\WbE G3 w' sg.ps out.1 ks kf ms/\
     GExt w0.heap.size F G0 G3/\(∀S∈kf++fps (ms++cZ),∀b off,S b off->G3 b off=none)/\(∀id b off,Live st.objs id->φ id b off->¬Tk φ st.objs bx A.all b off->G3 b off=none):=by
    by_cases bd:A.lent= []
    .have hGG:Wrv G w (FromL φ st.objs A.lent)=G:=by
      rw[bd];funext b off;exact Wdv (λ⟨i,hi,_⟩=>by simp at hi)
     rw[hGG]at hA2;refine⟨G2,hA2.gx.le,hA2.g,hA2.res,hA2.outs,⟨λb o v hv=>hA2.gx.le b o v (hr.gx.le b o v hv),λb o v hv=>?_⟩,λS hS b off hh=>(hA2.own S hS b off hh).1,λid b off hl hp hn=>?_⟩
     .rcases hA2.gx.new b o v hv with h1|h1|h1
      .exact hr.gx.new b o v h1
      .exact .inr (.inl (Xak hφ.le.size h1))
      .obtain⟨i,hi,h2,h3,_⟩:=hTk b o h1;exact .inr (hφ.own i b o h2 h3)
     .cases hv:G2 b off with
      |none=>rfl
      |some v=>
       rcases hA2.gx.new b off v hv with h1|h1|h1
       .rw[hφ.gf id b off hl hp]at h1;cases h1
       .have:=hφ.bl id b off hl hp;omega
       .exact WD (hTk b off h1) hn
    .have gg:sg.fresh=true:=by
      rcases Bool.or_eq_true_iff.1 qm with h1|h1
      .exact h1
      .exact WD (by simpa using h1) bd
     unfold Sig.fresh at gg;simp only[Xi]at gg;refine⟨G,λ_ _ _ hh=>hh,λb o v hv=>hA2.g b o v (hA2.gx.le b o v (gE b o v hv)),Wee _ _ _ _ gg.1 hA2.res,WaV _ _ _ _ _ gg.2 hA2.outs,hr.gx,λS hS b off hh=>?_,λid b off hl hp _=>hφ.gf id b off hl hp⟩;cases hv:G b off with
     |none=>rfl
     |some v=>
      have:=hA2.gx.le b off v (gE b off v hv);rw[(hA2.own S hS b off hh).1]at this;cases this
   obtain⟨G3,ry,rz,ie,oD,rD,rE,rF⟩:=hG3;obtain⟨ν2,hν2⟩:∃ν2:Nat->Nu,ν2= λi=>if i<st.nx then ν i else((nus (ms++cZ))[i-st.nx]?).getD ⟨none,0,0,0,0⟩:=⟨_,rfl⟩;obtain⟨φ2,hφ2⟩:∃φ2:Nat->CS,φ2= λi=>if i<st.nx then(λb o=>(∃(j:Nat) (S:CS),(kids A.kept)[j]?=some i/\kf[j]?=some S/\S b o)\/(φ i b o/\¬Tk φ st.objs bx A.all b o))else((fps (ms++cZ))[i-st.nx]?).getD (λ_ _=>False):=⟨_,rfl⟩;have hνold:WsD st.nx ν ν2:=λi hi=>by rw[hν2];simp[hi]
   have hAt:At ν2 φ2 st.nx (ms++cZ):=λj pc hj=>by
    have e1:(nus (ms++cZ))[j]?=some pc.nu:=by unfold nus;rw[Xaj,hj];rfl
    have e2:(fps (ms++cZ))[j]?=some pc.fp:=by unfold fps;rw[Xaj,hj];rfl
    rw[hν2,hφ2];simp only;rw[Wc (by omega),Wc (by omega),Xbu,e1,e2];exact⟨rfl,rfl⟩
   have lw:∀i∈kids A.kept,i<st.nx:=λi hi=>hφ.lt i (hO.live i (hO.sub.subset hi));have lx:(kids A.kept).Nodup:=be.sublist hO.sub;obtain⟨v7,v8,ly⟩:=WaW (ν:=ν2) (φ:=φ2) (bx:=bx) st.objs sg.ps out.1 A.kept ks kf ms (kill st.objs A.moved) st.nx (st.nx+ms.length+cZ.length) oD (Wcz _ _ _ (λi hi=>hνold i (lw i hi)) hO.kept) hAt.left lx (λq hq=>by
    have kQ:q.id∈kids A.kept:=Xam hq;exact⟨lw _ kQ,WeD _ _ (hO.dis _ kQ)⟩) (by omega)
   generalize hp:Wad sg.ps out.1 A.kept (kill st.objs A.moved) st.nx=p at*;obtain⟨ru,wa,wc⟩:=Wd4 (ν:=ν2) (φ:=φ2) sg.rs out.2 rv cZ p.1 (st.nx+ms.length) (st.nx+ms.length+cZ.length) ie (hAt.right rfl) (by omega);rw[v7]at hk;generalize hq:Wbp sg.rs out.2 p.1 (st.nx+ms.length)=q at*;have ig:∀id ob,Wn q.2.1 id=some ob->ob≠ .dead->
     (st.nx<=id/\id<st.nx+ms.length+cZ.length/\WwS G3 ν2 φ2 w' (st.nx+ms.length+cZ.length) id ob)\/
     (∃(j:Nat) (S:CS),(kids A.kept)[j]?=some id/\kf[j]?=some S/\Wnq G3 ν2 w' st.objs bx (st.nx+ms.length+cZ.length) id S ob)\/(Wn st.objs id=some ob/\id∉A.all):=λid ob hl dc=>by
    rcases wa id ob hl with⟨h1,h2,h3⟩|h1
    .exact .inl ⟨by omega,h2,h3⟩
    .rcases ly id ob h1 with⟨h2,h3,h4⟩|h2|⟨h2,h3⟩
     .exact .inl ⟨h2,by omega,.inl h4⟩
     .exact .inr (.inl h2)
     .obtain⟨h4,h5⟩:=WeB A.moved id ob h2 dc;exact .inr (.inr ⟨h4,λhm=>by rcases hO.mvk id hm with h6|h6;exact h5 h6;exact h3 h6⟩)
   have bz:∀id b off,Live q.2.1 id->φ2 id b off->
     (∃(pos:Nat) (S:CS),(kf++fps (ms++cZ))[pos]?=some S/\S b off/\id=(if pos<kf.length then((kids A.kept)[pos]?).getD 0 else st.nx+(pos-kf.length)))\/
     (Live st.objs id/\φ id b off/\¬Tk φ st.objs bx A.all b off/\id<st.nx):=λid b off ⟨ob,hl,dc⟩ hp=>by
    have mz:id<st.nx->Live st.objs id:=λac=>by
     rcases ig id ob hl dc with⟨h1,_⟩|⟨j,S,h1,_⟩|⟨h1,_⟩
     .omega
     .exact hO.live id (hO.sub.subset (Xas h1))
     .exact⟨ob,h1,dc⟩
    rw[hφ2]at hp
    try simp only at hp
    by_cases ac:id<st.nx
    .rw[Wf ac]at hp;rcases hp with⟨j,S,h1,h2,h3⟩|⟨h1,h2⟩
     .left;have hj:j<kf.length:=(Xab.1 h2).1;refine⟨j,S,by rw[Xcj hj];exact h2,h3,?_⟩;rw[Wf hj,h1];rfl
     .exact .inr ⟨mz ac,h1,h2,ac⟩
    .rw[Wc ac]at hp;left;cases hS:(fps (ms++cZ))[id-st.nx]? with
     |none=>rw[hS]at hp;exact hp.elim
     |some S=>
      rw[hS]at hp;refine⟨kf.length+(id-st.nx),S,by rw[Xbv (by omega),Xbu];exact hS,hp,?_⟩;rw[Wc (by omega)];omega
   have aR:=hA2.own;have iG:∀{pos:Nat} {S:CS},(kf++fps (ms++cZ))[pos]?=some S->S∈kf++fps (ms++cZ):=λh=>Xas h;have hH:HR w0 F G3 ν2 φ2 q.2.1 (st.nx+ms.length+cZ.length) w':={
    g:=rz
    ob:=λid ob hl=>by
     by_cases dc:ob= .dead
     .subst dc;trivial
     .rcases ig id ob hl dc with⟨h1,h2,⟨e,xs,rfl,h3⟩|⟨cs,b,us,rfl,h3,h4,h5,h6,h7⟩⟩|⟨j,S,h1,h2,h3⟩|⟨h1,h2⟩
      .exact h3
      .exact⟨b,us,h3,h4,h5,h6,h7⟩
      .have bM:id∈kids A.kept:=Xas h1;have ac:=lw id bM;have aQ:Live st.objs id:=hO.live id (hO.sub.subset bM);have hSφ:CS.le S (φ2 id):=λb o hh=>by
        rw[hφ2];(try simp only);rw[Wf ac];exact .inl ⟨j,S,h1,h2,hh⟩
       rcases h3 with⟨kR,off,ds,b,us,g1,rfl,g2,g3,g4,g5,rfl,g6⟩|⟨e,ys,xs,g1,rfl,g2⟩
       .rw[hνold id ac]at g3 g4 g6 hSφ;obtain⟨b',vs,e1,e2,e3,e4,e5⟩:WcM G ν st.nx w id (φ id) (.box kR):=hφ.ob _ _ g1;rw[g3]at e1;injection e1 with e1;subst e1;have dr:us.length=ds.length:=g5.1;have qb:vs.length=kR.length:=e4.1;have gJ:∀o,(ν id).off<=o->o<(ν id).off+kR.length->¬((ν id).off+off<=o/\o<(ν id).off+off+ds.length)->φ id b o/\¬Tk φ st.objs bx A.all b o:=λo k1 k2 k3=>by
         have hφo:=e5 b o ⟨rfl,k1,k2⟩;refine⟨hφo,λ⟨i,hi,k4,k5,k6⟩=>?_⟩;have:=hφ.inj i id b o k4 aQ k5 hφo;subst this;obtain⟨_,k7,k8⟩:=k6 _ g6 rfl;exact k3 ⟨k7,k8⟩
        refine⟨b,_,by rw[hνold id ac];exact g3,by rw[hνold id ac,We9 g2];exact hA2.le.rows.row _ _ e2,?_,Wfi (e4.mono ry hνold (by omega)) g5,?_⟩
        .rw[hνold id ac];refine Wun e3 g4 (by omega) (λj hj hn=>?_);obtain⟨k1,k2⟩:=gJ ((ν id).off+j) (by omega) (by omega) (λ⟨k3,k4⟩=>hn ⟨by omega,by omega⟩);exact hA2.le.cell b _ (hφ.bl id b _ aQ k1) (λmA=>k2 (hTk b _ mA))
        .rw[hνold id ac,We9 g2];intro b' o ⟨k0,k1,k2⟩;subst k0;by_cases dj:(ν id).off+off<=o/\o<(ν id).off+off+ds.length
         .exact hSφ b' o ⟨rfl,dj.1,dj.2⟩
         .rw[hφ2];(try simp only);rw[Wf ac];exact .inr (gJ o k1 k2 dj)
       .exact Wdd (λ_ _ _ hh=>hh) (Same.refl _ w') hSφ g2
      .have lm:Live st.objs id:=⟨ob,h1,dc⟩;have ac:=hφ.lt id lm;have uf:∀b o,φ id b o->¬Tk φ st.objs bx A.all b o:=λb o hp ⟨i,hi,k1,k2,_⟩=>by
        have:=hφ.inj i id b o k1 lm k2 hp;subst this;exact h2 hi
       refine WdN ry (hA2.le.same (λb o mA hp=>uf b o hp (hTk b o mA)) (λb o hp=>hφ.bl id b o lm hp)) (λb o hp=>?_) hνold (by omega) ac ob (hφ.ob id ob h1);rw[hφ2];(try simp only);rw[Wf ac];exact .inr ⟨hp,uf b o hp⟩
    gf:=λid b off hl hp=>by
     rcases bz id b off hl hp with⟨pos,S,h1,h2,_⟩|⟨h1,h2,h3,_⟩
     .exact rE S (iG h1) b off h2
     .exact rF id b off h1 h2 h3
    inj:=λid cb b off hl dH hp eV=>by
     have key:∀cb,Live st.objs cb->φ cb b off->¬Tk φ st.objs bx A.all b off->∀(pos:Nat) (S:CS),(kf++fps (ms++cZ))[pos]?=some S->S b off->False:=λcb g1 g2 g3 pos S g4 g5=>by
      rcases(aR S (iG g4) b off g5).2.1 with g6|g6
      .exact g3 (hTk b off g6)
      .have:=hφ.bl cb b off g1 g2;omega
     rcases bz id b off hl hp with⟨pos,S,h1,h2,he⟩|⟨h1,h2,h3,h4⟩<;>rcases bz cb b off dH eV with⟨rG,S',jk,jl,lr⟩|⟨jk,jl,q0,h4'⟩
     .have:=Wmg hA2.sep h1 jk h2 jl;subst this;rw[he,lr]
     .exact(key cb jk jl q0 pos S h1 h2).elim
     .exact(key id h1 h2 h3 rG S' jk jl).elim
     .exact hφ.inj id cb b off h1 jk h2 jl
    own:=λid b off hl hp=>by
     rcases bz id b off hl hp with⟨pos,S,h1,h2,_⟩|⟨h1,h2,h3,_⟩
     .rcases(aR S (iG h1) b off h2).2.1 with h5|h5
      .obtain⟨i,hi,h6,h7,_⟩:=hTk b off h5;exact hφ.own i b off h6 h7
      .exact .inl (Xak hφ.le.size h5)
     .exact hφ.own id b off h1 h2
    lt:=λid ⟨ob,hl,dc⟩=>by
     rcases ig id ob hl dc with⟨_,h2,_⟩|⟨j,S,h1,_⟩|⟨h1,h2⟩
     .exact h2
     .have:=lw id (Xas h1);omega
     .have:=hφ.lt id ⟨ob,h1,dc⟩;omega
    bl:=λid b off hl hp=>by
     rcases bz id b off hl hp with⟨pos,S,h1,h2,_⟩|⟨h1,h2,h3,_⟩
     .exact(aR S (iG h1) b off h2).2.2
     .exact Nat.lt_of_lt_of_le (hφ.bl id b off h1 h2) hA2.le.size
    le:=hφ.le.trans hA2.le (λb off mA=>by
     obtain⟨i,hi,h6,h7,_⟩:=hTk b off mA;exact hφ.own i b off h6 h7)}
   have hR:=hr.on ry hνold (by omega) ⟨φ2,hH⟩ rD;have hR2:=hR.put (dst:=o.dst) hd (WsM wc);rw[ru]at hk;exact hK _ _ _ _ _ hR2 hk
  .cases h
 .cases h
theorem Wv9{Γ:Ctx}(hΓ:WdJ P Γ){sg:Sig}(dj:sg.inl=none)(hr:Rel w0 F nt G0 G ν st a w){o:Oper}(hd:∀d,o.dst=some d->nt.Ok d){c:Call}{f:Operand}{g:FuncId}{caps:List Nat}{xs:List AVal}{R:Type}{k:St->Option R}{r:R}
  (ho:o.op= .call c) (hc:c.callee= .value f) (hf:ev st f=some (.s (.one (.clos g caps)))) (kV:evs st c.args.toList=some xs) (kU:Wn Γ g=some sg)
  (h:Wn1 sg st (xs++Whb caps) (λx objs nx=>k (({env:=st.env,objs:=objs,nx:=nx}:St).put o.dst x))=some r) {K:Act->World->Prop} {Q:Exit->Act->World->Prop}
  (hK:∀af a' w' G' ν',Rel w0 F nt G0 G' ν' af a' w'->k af=some r->K a' w'):o.wp P a w K Q:=by
 obtain⟨⟨cvs,my,cP,kT⟩,_⟩:=WK hr f _ hf;obtain⟨gS,rH⟩:=Wo6 hr _ _ kV;have ad:(xs++Whb caps).length=(c.args.toList.map a.eval++cvs).length:=by simp[gS,Whb,cP]
 have aP:∀(j:Nat) (x:AVal) (v:Value),(xs++Whb caps)[j]?=some x->(c.args.toList.map a.eval++cvs)[j]?=some v->AValRel G ν st.nx x v:=λj x v hj hv=>by
  rw[Xar]at hj hv;rw[Xu,←gS]at hv;split at hj
  .rename_i ac;rw[Wf ac]at hv;exact rH j x v hj hv
  .rename_i ac;rw[Wc ac]at hv;simp only[Whb,Xaj]at hj;cases hcj:caps[j-xs.length]? with
   |none=>simp[hcj]at hj
   |some id=>
    simp[hcj]at hj;subst hj;obtain⟨h1,h3,h2⟩:=kT _ id v hcj hv;exact⟨⟨h1,h2⟩,h3⟩
 unfold Wn1 at h;cases qm:sg.fresh with
 |true=>
  rw[qm]at h;exact Wlp hΓ dj hr hd ho hc my kU ad aP h hK
 |false=>
  rw[qm]at h;simp only[Wa]at h;split at h
  .rename_i A hA;split at h
   .exact Wlp hΓ dj hr hd ho hc my kU ad aP h hK
   .obtain⟨G1,hz⟩:=hr.frz A.lent;refine Wlp hΓ dj hz.rel hd ho hc my kU (by simpa using ad) (λj x v hj hv=>?_) h hK;rw[Xaj]at hj;obtain⟨y,hy,rfl⟩:=Xt.1 hj;exact hz.val y v (aP j y v hy hv)
  .cases h
theorem WkD:∀(xs:List AVal) (k i:Nat) (x:AVal),Wn (Wcg k xs) i=some x->k<=i/\xs[i-k]?=some x
 | [],k,i,x,h=>by simp[Wcg,Wn]at h
 |y::xs,k,i,x,h=>by
  simp only[Wcg]at h;rw[WG]at h;split at h
  .rename_i e;subst e;injection h with h;subst h;simp
  .obtain⟨h1,h2⟩:=WkD xs (k+1) i x h;refine⟨by omega,?_⟩;rw[show i-k=(i-(k+1))+1 by omega];simpa using h2
theorem Wiv:∀(xs:List AVal) (k:Nat),(Wcg k xs).length=xs.length
 | [],_=>rfl
 |_::xs,k=>by simp[Wcg,Wiv xs]
theorem Wup{Γ:Ctx}(hΓ:WdJ P Γ){sg:Sig}{i:Inl}(dj:sg.inl=some i)(hr:Rel w0 F nt G0 G ν st a w){o:Oper}(hd:∀d,o.dst=some d->nt.Ok d){c:Call}{f:Operand}{g:FuncId}{caps:List Nat}{xs:List AVal}{R:Type}{k:St->Option R}{r:R}
  (ho:o.op= .call c) (hc:c.callee= .value f) (hf:ev st f=some (.s (.one (.clos g caps)))) (kV:evs st c.args.toList=some xs) (kU:Wn Γ g=some sg)
  (h:i.fn R {env:=Wcg 0 (xs++Whb caps),objs:=st.objs,nx:=st.nx} (λx objs nx=>k (({env:=st.env,objs:=objs,nx:=nx}:St).put o.dst x))=some r) {K:Act->World->Prop} {Q:Exit->Act->World->Prop}
  (hK:∀af a' w' G' ν',Rel w0 F nt G0 G' ν' af a' w'->k af=some r->K a' w'):o.wp P a w K Q:=by
 obtain⟨⟨cvs,my,cP,kT⟩,_⟩:=WK hr f _ hf;obtain⟨gS,rH⟩:=Wo6 hr _ _ kV;have ad:(xs++Whb caps).length=(c.args.toList.map a.eval++cvs).length:=by simp[gS,Whb,cP]
 have aP:∀(j:Nat) (x:AVal) (v:Value),(xs++Whb caps)[j]?=some x->(c.args.toList.map a.eval++cvs)[j]?=some v->AValRel G ν st.nx x v:=λj x v hj hv=>by
  rw[Xar]at hj hv;rw[Xu,←gS]at hv;split at hj
  .rename_i ac;rw[Wf ac]at hv;exact rH j x v hj hv
  .rename_i ac;rw[Wc ac]at hv;simp only[Whb,Xaj]at hj;cases hcj:caps[j-xs.length]? with
   |none=>simp[hcj]at hj
   |some id=>
    simp[hcj]at hj;subst hj;obtain⟨h1,h3,h2⟩:=kT _ id v hcj hv;exact⟨⟨h1,h2⟩,h3⟩
 obtain⟨db,dZ⟩:=hΓ g sg kU;unfold WoJ at db;rw[dj]at db;dsimp only at db;rw[i.law]at h;obtain⟨out,qj,j8⟩:=Xau.1 h;have ic:=db _ (c.args.toList.map a.eval++cvs) out qj (by simp only[Wiv];omega) w0 F G0 G ν (λx v=>nt.ex x v\/∃j,Wn st.env j=some x/\a.tmps[j]?=some v) w (λj x hj=>by
   obtain⟨_,h2⟩:=WkD _ _ _ _ hj;have h2:(xs++Whb caps)[j]?=some x:=by simpa using h2
   have ac:j<(c.args.toList.map a.eval++cvs).length:=by rw[←ad];exact(Xab.1 h2).1
   exact⟨_,Xq ac,aP j x _ h2 (Xq ac)⟩) hr.h hr.gx (λx v hv=>by
   rcases hv with hv|⟨j,h1,h2⟩
   .exact hr.ex x v hv
   .obtain⟨u,h3,h4⟩:=hr.env j x h1;rw[h2]at h3;injection h3 with h3;subst h3;exact h4)
 unfold Oper.wp;rw[Wqb ho hc my dZ,Oper.upon_enter];refine ic.mono λe w' kb=>?_;obtain⟨rv,G',ν',rfl,h1,h2,h3,h4⟩:=kb;simp only;have hR:Rel w0 F nt G0 G' ν' {env:=st.env,objs:=out.2.1,nx:=out.2.2} a w':=⟨hr.defers,hr.ntm,hr.par,λj x hj=>by
  obtain⟨u,h5,_⟩:=hr.env j x hj;exact⟨u,h5,h4 x u (.inr ⟨j,hj,h5⟩)⟩,h2,h3,λx v hv=>h4 x v (.inl hv)⟩
 exact hK _ _ _ _ _ (hR.put (dst:=o.dst) hd h1) j8
end
end Go.Sx
namespace Go.Sx
set_option linter.unusedVariables false
set_option linter.unusedSimpArgs false
section
variable{w0:World}{F:CS}{nt:Slots}{G0 G G':GH}{ν:Nat->Nu}{objs:Wab}{nx:Nat}{st af:St}{a:Act}{w w':World}{P:Program}{T:Tab}{Γ:Ctx}
theorem Done.wp{o:Oper}{af:St}(h:Done P w0 F nt G0 o a w af){K:Act->World->Prop}{Q:Exit->Act->World->Prop}
  (hK:∀a' w' G' ν',Rel w0 F nt G0 G' ν' af a' w'->K a' w'):o.wp P a w K Q:=by
 obtain⟨n,v,w',G',ν',h1,h2,h3⟩:=h;unfold Oper.wp;rw[h1];rcases h2 with rfl|⟨rfl,rfl⟩
 .exact hK _ _ _ _ h3
 .exact hK _ _ _ _ h3
theorem Wn6{t:TypeId}{x v:AVal}{af:St}(h:Wc4 T st t x v=some af):({env:=st.env,objs:=af.objs,nx:=af.nx}:St)=af:=by
 unfold Wc4 at h;split at h
 .split at h
  .split at h
   .injection h with h;subst h;rfl
   .cases h
  .cases h
 .split at h
  .split at h
   .split at h
    .injection h with h;subst h;rfl
    .cases h
   .split at h
    .split at h
     .split at h
      .injection h with h;subst h;rfl
      .cases h
     .cases h
    .cases h
  .cases h
 .cases h
theorem W3{R:Type}{c:Bool}{x:Option R}{r:R}(h:(bif c then x else none)=some r):c=true/\x=some r:=by
 cases c
 .cases h
 .exact⟨rfl,h⟩
theorem Wb4{R:Type}{c:Prop}[Decidable c]{x:Option R}{r:R}(h:(if c then x else none)=some r):c/\x=some r:=by
 split at h
 .exact⟨by assumption,h⟩
 .cases h
theorem Wng{e:Ty}{ps:List (Nat×AVal)}{R:Type}{k:KV R}{r:R}(h:WdE st e ps k=some r):
  ∃x ds d m,ps= [(0,x)]/\Wg1 (WhD st.objs (Whv e x) x)=some ds/\Wax e ds (Wej st.objs (Whv e x))=some (d,m,[])/\Wbw m=true/\
   k (.s (.one (.own st.nx))) ((st.nx,.arr e [d])::kill (Wej st.objs (Whv e x)) m) (st.nx+1)=some r:=by
 match ps with
 | [p]=>
  simp only[WdE]at h;obtain⟨hp,h⟩:=Wb4 h;split at h
  .rename_i ds gR;split at h
   .rename_i d m hf;obtain⟨be,h⟩:=Wb4 h;exact⟨p.2,ds,d,m,by rw[←hp],gR,hf,be,h⟩
   .cases h
  .cases h
 | []=>cases h
 |_::_::_=>cases h
theorem Wo0(hT:Wai P T)(hr:Rel w0 F nt G0 G ν st a w){o:Oper}(hd:∀d,o.dst=some d->nt.Ok d){R:Type}{k:St->Option R}{r:R}
  (h:(match Waf T st o.op with|some (c,v)=>bif c then k (({env:=st.env,objs:=st.objs,nx:=st.nx}:St).put o.dst v)else none|none=>none)=some r)
  {K:Act->World->Prop} {Q:Exit->Act->World->Prop} (hK:∀af a' w' G' ν',Rel w0 F nt G0 G' ν' af a' w'->k af=some r->K a' w'):o.wp P a w K Q:=by
 split at h
 .rename_i c v hp;obtain⟨rfl,h⟩:=W3 h;exact(Wst hT hr hd hp).wp λa' w' G' ν' ch=>hK _ _ _ _ _ ch h
 .cases h
theorem Wsg(hT:Wai P T)(hΓ:WdJ P Γ)(hr:Rel w0 F nt G0 G ν st a w){o:Oper}(hd:∀d,o.dst=some d->nt.Ok d){A:List (Nat×An)}{R:Type}{k:St->Option R}{r:R}(h:rx1 T Γ A o st k=some r)
  {K:Act->World->Prop} {Q:Exit->Act->World->Prop} (hK:∀af a' w' G' ν',Rel w0 F nt G0 G' ν' af a' w'->k af=some r->K a' w'):o.wp P a w K Q:=by
 unfold rx1 rxe at h;split at h
 .rename_i t ho;split at h
  .rename_i e n et hl;obtain⟨hc,h⟩:=Wb4 h;simp only[Xi]at hc;exact(Wl8 hT hr hd ho hl hc.1 hc.2).wp λa' w' G' ν' ch=>hK _ _ _ _ _ ch h
  .rename_i te _ hl;obtain⟨hc,h⟩:=Wb4 h;exact(Wqv hT hr hd ho hl hc).wp λa' w' G' ν' ch=>hK _ _ _ _ _ ch h
  .cases h
 .rename_i t x ho;split at h
  .rename_i te cs hl hb;cases hv:ev st x with
   |none=>simp[hv]at hb
   |some v=>
    simp only[hv,Xd]at hb;exact(Wtt hr hd ho hv hb).wp λa' w' G' ν' ch=>hK _ _ _ _ _ ch h
  .cases h
 .rename_i t parts ho;split at h
  .rename_i ty fs ps hl co;obtain⟨hc,h⟩:=Wb4 h;split at h
   .rename_i cs hf;refine(Wrf hT hr hd ho hl co hf ?_).wp λa' w' G' ν' ch=>hK _ _ _ _ _ ch h;intro f hf;have:=Xad.1 hc f hf;split at this
    .rename_i te bQ;exact⟨te,bQ,this⟩
    .cases this
   .cases h
  .cases h
 .rename_i t n parts ho;split at h
  .rename_i ty et ps hl co;split at h
   .rename_i te bd;split at h
    .rename_i e _;obtain⟨hc,h1⟩:=Wb4 h;clear h;simp only[Xi,Wi]at hc;obtain⟨⟨⟨hn,he⟩,hp⟩,cj⟩:=hc;obtain⟨x,ds,d,m,rfl,gR,hf,be,h⟩:=Wng h1;clear h1;subst hn;have be:=(Wdb _).1 be;obtain⟨G1,hz⟩:=hr.frz (Whv e x);obtain⟨p1,p2⟩:=Wgd hr _ _ co;have eU:∃y,parts.toList= [(0,y)]/\AValRel G ν st.nx x (a.eval y):=by
      match hJ:parts.toList,p1 with
      | [q],_=>
       rw[hJ]at p2;obtain⟨q1,q2⟩:=p2 0 _ q rfl rfl;refine⟨q.2,?_,q2⟩;have:q=(0,q.2):=Prod.ext q1.symm rfl;rw[←this]
     obtain⟨y,we,wg⟩:=eU;exact(WmK hT hz.rel hd ho we hl bd (hz.val _ _ wg) gR hf be he hp cj).wp λa' w' G' ν' ch=>hK _ _ _ _ _ ch h
    split at h
    .rename_i xs hf;obtain⟨hc,h⟩:=Wb4 h;simp only[Xi,Wi]at hc;obtain⟨G1,hz⟩:=hr.frz (Wmf ps);obtain⟨p1,p2⟩:=Wgd hr _ _ co;exact(Wi0 hT hz.rel hd ho hl bd (by simpa [WlW]using p1) (λj p q hp hq=>by
      simp only[WlW,Xaj]at hp;obtain⟨y,hy,rfl⟩:=Xt.1 hp;exact⟨(p2 j y q hy hq).1,hz.val _ _ (p2 j y q hy hq).2⟩) hf hc.1.1 hc.1.2 hc.2).wp λa' w' G' ν' ch=>hK _ _ _ _ _ ch h
    .cases h
   .cases h
  .cases h
 .rename_i t n c ho;split at h
  .rename_i ty et n' c' hl hn hc;split at h
   .rename_i te bd;obtain⟨k1,rr⟩:∃k,a.eval n= .int k n':=by
     cases hv:ev st n with
     |none=>simp[hv]at hn
     |some v=>simp only[hv,Xd]at hn;exact Wf1 _ _ _ (WK hr n _ hv) hn
    obtain⟨k2,lu⟩:∃k,a.eval c= .int k c':=by
     cases hv:ev st c with
     |none=>simp[hv]at hc
     |some v=>simp only[hv,Xd]at hc;exact Wf1 _ _ _ (WK hr c _ hv) hc
    split at h
    .obtain⟨kc,h⟩:=Wb4 h;obtain⟨hb,h⟩:=W3 h;simp only[Xi,Wi]at hb kc;exact(Wi3 hT hr hd ho hl bd rr lu hb.1.1 hb.1.2 hb.2 kc.1 kc.2).wp λa' w' G' ν' ch=>hK _ _ _ _ _ ch h
    .obtain⟨kc,h⟩:=Wb4 h;obtain⟨hb,h⟩:=W3 h;simp only[Xi,Wi]at hb kc;exact(WjV hT hr hd ho hl bd rr lu hb.1.1 hb.1.2 hb.2 kc.1 kc.2).wp λa' w' G' ν' ch=>hK _ _ _ _ _ ch h
   .cases h
  .cases h
 .rename_i t x y ho;split at h
  .rename_i p v hp hv;split at h
   .rename_i af hs;split at h
    .rename_i iX;have h:k (({env:=st.env,objs:=af.objs,nx:=af.nx}:St).put o.dst (.tup []))=some r:=h;obtain⟨G1,hz⟩:=hr.frz (Wf4 st.objs p v);have cg:=Wn6 hs;simp only at cg;rw[cg,iX]at h;exact(Wqu hT hz.rel ho iX (AValRel.mono hz.le (λ_ _=>rfl) (Xm _) _ _ (WK hr x _ hp)) (hz.val _ _ (WK hr y _ hv)) hs).wp λa' w' G' ν' ch=>hK _ _ _ _ _ ch h
    .cases h
   .cases h
  .cases h
 .rename_i t x lo hi ho;split at h
  .rename_i id hx;split at h
   .rename_i ty et l hh hl br nD;split at h
    .rename_i te bd;split at h
     .obtain⟨hp,h⟩:=Wb4 h;obtain⟨af,hk,fR⟩:=Wsv hT hr hd ho hx hl bd hp br nD h;exact fR.wp λa' w' G' ν' ch=>hK _ _ _ _ _ ch hk
     .split at h
      .rename_i h' e xs _ aG;obtain⟨⟨he,hp⟩,h⟩:=Wb4 h;obtain⟨hb,h⟩:=W3 h;simp only[Xi,Wi]at hb;exact(Wqs hT hr hd ho hx hl bd hp he aG br nD hb.1 hb.2).wp λa' w' G' ν' ch=>hK _ _ _ _ _ ch h
      .rename_i h' e xs i p _ aG;obtain⟨⟨he,hp,rn⟩,h⟩:=Wb4 h;obtain⟨hb,h⟩:=W3 h;simp only[Xi,Wi]at hb;exact(Wj9 hT hr hd ho hx hl bd hp he aG rn br nD hb.1.1 hb.1.2 hb.2).wp λa' w' G' ν' ch=>hK _ _ _ _ _ ch h
      .cases h
    .cases h
   .cases h
  .rename_i hx;exact Wo0 hT hr hd (by rw[ho];rw[ho]at h;exact h) hK
 .rename_i c ho;split at h
  .rename_i s x t t2 hc ha dC;split at h
   .rename_i sv xv hs hx;obtain⟨af,hk,fR⟩:=Woo hT hr hd ho hc ha dC hs hx h;exact fR.wp λa' w' G' ν' ch=>hK _ _ _ _ _ ch hk
   .cases h
  .rename_i x t hc ha dC;split at h
   .rename_i id lo hi hx;split at h
    .rename_i ty et e xs hl aG;split at h
     .rename_i te bd;obtain⟨⟨he,hp,bn⟩,h⟩:=Wb4 h;exact(WqR hT hr hd ho hc ha dC hx hl bd aG he hp bn).wp λa' w' G' ν' ch=>hK _ _ _ _ _ ch h
     .cases h
    .cases h
   .cases h
  .exact Wo0 hT hr hd h hK
  .rename_i f args _ hc;split at h
   .rename_i g caps xs hf kV;split at h
    .rename_i sg kU;split at h
     .rename_i dj;exact Wv9 hΓ dj hr hd ho hc hf kV kU h hK
     .rename_i i dj;exact Wup hΓ dj hr hd ho hc hf kV kU h hK
    .cases h
   .cases h
  .cases h
 .exact Wo0 hT hr hd h hK
end
end Go.Sx
namespace Go.Sx
set_option linter.unusedVariables false
set_option linter.unusedSimpArgs false
section
variable{w0:World}{F:CS}{nt:Slots}{G0 G G':GH}{ν ν':Nat->Nu}{φ φ':Nat->CS}{objs objs':Wab}{nx am:Nat}{st af:St}{a:Act}{w w':World}{P:Program}{T:Tab}{Γ:Ctx}
theorem Rel.rebind(h:Rel w0 F nt G0 G ν st a w){i:Nat}{x:AVal}{v:Value}(hv:a.tmps[i]?=some v)(hx:AValRel G ν st.nx x v):Rel w0 F nt G0 G ν (st.put (some i) x) a w:=
 ⟨h.defers,h.ntm,h.par,λj y hy=>by
  simp only[St.put]at hy;rw[WG]at hy;split at hy
  .rename_i e;subst e;injection hy with hy;subst hy;exact⟨v,hv,hx⟩
  .exact h.env j y hy,h.h,h.gx,h.ex⟩
theorem CellsRel.set{cs:List Cell}{vs:List Value}(h:CellsRel G ν nx cs vs){off:Nat}{c:Cell}(hc:∀v,vs[off]?=some v->CellRel G ν nx c v):CellsRel G ν nx (cs.set off c) vs:=by
 refine⟨by simp[h.1],λj d v hd hv=>?_⟩;rw[List.getElem?_set]at hd;split at hd
 .rename_i e;subst e;split at hd
  .rename_i ac;injection hd with hd;subst hd;exact⟨hc v hv,(h.2 off cs[off] v (Xq ac) hv).2⟩
  .cases hd
 .exact h.2 j d v hd hv
theorem HRel.mk_box(h:HRel w0 F G ν objs nx w){id:Nat}{cs cI:List Cell}(ho:Wn objs id=some (.box cs))(hl:cI.length=cs.length)
  (hc:∀vs,CellsRel G ν nx cs vs->CellsRel G ν nx cI vs):HRel w0 F G ν ((id,.box cI)::objs) nx w:=by
 obtain⟨φ,h⟩:=h;have aQ:Live objs id:=⟨_,ho,by simp⟩;obtain⟨b,vs,h1,h2,h3,h4,h5⟩:WcM G ν nx w id (φ id) (.box cs):=h.ob _ _ ho;exact⟨_,h.put (ν':=ν) (m:=[]) (λ_ _=>rfl) (Xm _) (h.lt id aQ) (WLe.refl _ w) (λb o hh=>.inl ⟨id,.inl rfl,aQ,hh⟩) (λ_=>⟨b,vs,h1,by rw[hl];exact h2,h3,hc _ h4,by rw[hl];exact h5⟩)⟩
theorem HRel.empt(h:HRel w0 F G ν objs nx w){id:Nat}{e e':Ty}(ho:Wn objs id=some (.arr e' []))(hs:e.size=e'.size):HRel w0 F G ν ((id,.arr e [])::objs) nx w:=by
 obtain⟨φ,h⟩:=h;have aQ:Live objs id:=⟨_,ho,by simp⟩;have aG:WcM G ν nx w id (φ id) (.arr e' []):=h.ob _ _ ho;have aG:WbN w (Wy G w e') e'.size (ν id) [] (φ id):=aG;refine⟨_,h.put (ν':=ν) (m:=[]) (λ_ _=>rfl) (Xm _) (h.lt id aQ) (WLe.refl _ w) (λb o hh=>.inl ⟨id,.inl rfl,aQ,hh⟩) (λ_=>?_)⟩;show WbN w (Wy G w e) e.size (ν id) [] (φ id);rw[hs];unfold WbN at*;refine⟨aG.1,aG.2.1,?_⟩;have h3:=aG.2.2;cases hb:(ν id).blk with
 |none=>rfl
 |some b=>
  rw[hb]at h3;obtain⟨a1,a2,a3,cs,ps,a4,a5,a6,a7⟩:=h3;exact⟨a1,a2,a3,cs,ps,by simpa [Wfh]using a4,a5,a6,a7⟩
theorem HRel.adopt(h:HRel w0 F G ν objs nx w)(e:Ty):HRel w0 F G (upd ν nx ⟨none,0,0,0,e.size⟩) ((nx,.arr e [])::objs) (nx+1) w:=by
 obtain⟨φ,h⟩:=h;refine⟨_,h.put (m:=[]) (S:=λ_ _=>False) (WfL ν nx _) (Xdc _) (Xbt _) (WLe.refl _ w) (λb o hh=>hh.elim) (λ_=>?_)⟩;show WbN _ _ _ (upd ν nx ⟨none,0,0,0,e.size⟩ nx) _ _;rw[Wbt];exact⟨rfl,rfl,rfl⟩
theorem Wk8(e:Ty):CellRel G (upd ν nx ⟨none,0,0,0,e.size⟩) (nx+1) (.own nx) (.slice none 0 0):=
 ⟨Xbt _,by rw[Wbt];rfl⟩
theorem HRel.solo(h:HRel w0 F G ν objs nx w){id lo hi:Nat}{e:Ty}{xs:List e.den}(ho:Wn objs id=some (.arr e xs))(h1:lo<=hi)(h2:hi<=(ν id).len):
  HRel w0 F G (upd ν nx ((ν id).part lo hi)) ((nx,.arr e ((xs.take hi).drop lo))::(id,.dead)::objs) (nx+1) w:=by
 obtain⟨φ,h⟩:=h;have aQ:Live objs id:=⟨_,ho,by simp⟩;have aR:WbN w (Wy G w e) e.size (ν id) xs (φ id):=h.ob _ _ ho;refine⟨_,h.put (m:=[id]) (S:=φ id) (WfL ν nx _) (Xdc _) (Xbt _) (WLe.refl _ w) (λb o hh=>.inl ⟨id,.inr (by simp),aQ,hh⟩) (λ_=>?_)⟩;show WbN _ _ _ (upd ν nx ((ν id).part lo hi) nx) _ _;rw[Wbt];exact WnE aR h1 h2
theorem WmE{id lo hi:Nat}:CellRel G (upd ν nx ((ν id).part lo hi)) (nx+1) (.own nx) ((ν id).vhdr lo hi):=
 ⟨Xbt _,by rw[Wbt,Wlu]⟩
theorem Wi7(h:Rel w0 F nt G0 G ν st a w){p:Nat}(hg:Wln st p=some af):Rel w0 F nt G0 G ν af a w:=by
 unfold Wln at hg;split at hg
 .rename_i r _;split at hg
  .rename_i e xs i p' cs br fZ;split at hg
   .rename_i d m hf;split at hg
    .rename_i bE;injection hg with hg;subst hg;simp only[Xi]at bE;obtain⟨hp,be⟩:=bE;have hp:=Xck hp;subst hp;have be:=(Wdb _).1 be;obtain⟨n1,n2⟩:=Xac.1 be;obtain⟨n3,n4⟩:=Xac.1 n2;obtain⟨φ,hφ⟩:=h.h;have aQ:Live st.objs r:=⟨_,br,by simp⟩;have eZ:Live st.objs p:=⟨_,fZ,by simp⟩;obtain⟨ll,hole⟩:p<st.nx/\Wh4 w (Wy G w e) e.size (ν r) (ν p) xs i (φ r):=hφ.ob _ _ br;obtain⟨b,us,hb,bf,aM,bN,fG⟩:WcM G ν st.nx w p (φ p) (.box cs):=hφ.ob _ _ fZ;obtain⟨ns,t1,t2,t3,t4,_⟩:=Wae (G':=G) hφ (λ_ _ _ hh=>hh) e cs us d m [] bN (λi hi=>by simp at hi) n4 hf;have dr:=WH _ _ _ _ t1;rw[←bN.1,dr]at fG;have bI:r≠p:=λe=>n1 (by rw[e];exact Xj ..);refine h.on (λ_ _ _ hh=>hh) (λ_ _=>rfl) (Xm _) ⟨_,hφ.put (ν':=ν) (S:=λb o=>φ r b o\/FromL φ st.objs (p::m) b o) (λ_ _=>rfl) (Xm _) (hφ.lt r aQ) (WLe.refl _ w) (λb o hh=>?_) (λ_=>?_)⟩ h.gx
     .rcases hh with hh|⟨j,hj,h1,h2⟩
      .exact .inl ⟨r,.inl rfl,aQ,hh⟩
      .exact .inl ⟨j,.inr hj,h1,h2⟩
     .refine WpP hole t1 hb aM fG t2 t3 ?_ ?_ ?_ (λb o hh=>.inl hh) (λb o hh=>.inr ⟨p,Xj ..,eZ,hh⟩) (λb o hh=>.inr (FromL.mono (λi hi=>Xf _ hi) b o hh))
      .exactλb o h1 h2=>bI (hφ.inj r p b o aQ eZ h1 h2)
      .exactλb o h1 ⟨j,hj,h2,h3⟩=>by
        have:=hφ.inj r j b o aQ h2 h1 h3;subst this;exact n1 (Xf _ hj)
      .exactλb o h1 ⟨j,hj,h2,h3⟩=>by
        have:=hφ.inj p j b o eZ h2 h1 h3;subst this;exact n3 hj
    .cases hg
   .cases hg
  .cases hg
 .cases hg
theorem WkW(h:Rel w0 F nt G0 G ν st a w){r i:Nat}{e:Ty}{xs:List e.den}(br:Wn st.objs r=some (.arr e xs))(hi:i<xs.length)(hg:WkV st r i=some af):
  ∃ν' b,Rel w0 F nt G0 G ν' af a w/\st.nx<af.nx/\(ν r).blk=some b/\(ν' st.nx)=Wci b ((ν r).off+i*(ν r).esz)/\af.env=st.env:=by
 unfold WkV at hg;rw[br]at hg;simp only[Option.some.injEq]at hg;subst hg;obtain⟨φ,hφ⟩:=h.h;have aQ:Live st.objs r:=⟨_,br,by simp⟩;have aR:WbN w (Wy G w e) e.size (ν r) xs (φ r):=hφ.ob _ _ br;obtain⟨g1,g2,g3⟩:=aR;have rI:=hφ.lt r aQ;cases hb:(ν r).blk with
 |none=>simp only[hb]at g3;rw[g3]at hi;simp at hi
 |some b=>
  simp only[hb]at g3;obtain⟨g4,g5,g6,cs,ps,g7,g8,g9,pZ⟩:=g3;obtain⟨c1,c,c2,p1,pc,p2,k1,k2,k3,k4,k5⟩:=Wpc g7 e.dflt hi;have l1:=Wa4 (λx c q hx=>WH e x c q hx) _ _ _ k3;rw[Xbj,Xcd (by omega)]at l1;have lc:=WH _ _ _ _ k4;have lo:=W4 _ _ _ _ k4;have e1:(i+1)*e.size=i*e.size+e.size:=Xbr i e.size;have e2:((ν r).cap-(i+1))*e.size+(i+1)*e.size=(ν r).cap*e.size:=by rw[←Xcs];congr 1;omega
  have oE:=WaS e (xs.getD i e.dflt) (st.nx+1);have dr:=Wce e (xs.getD i e.dflt) (st.nx+1);rw[k1]at g8;have m1:Mem w b (ν r).off c1:=g8.left;have m2:Mem w b ((ν r).off+i*e.size) c:=(g8.right l1).left;have m3:Mem w b ((ν r).off+(i+1)*e.size) c2:=by
   have:=(g8.right l1).right lc;rw[Xba,←e1]at this;exact this
  obtain⟨q1,q2⟩:=Xy.1 g9;have gG:=pZ _ (Xj ..);have lU:∀p∈p1++(pc++p2),CS.le p.fp (φ r):=λp hp=>pZ _ (Xf _ (Xam (by rw[k2];exact hp)));have nE:∀p∈p1++(pc++p2),CS.disj (rng b (ν r).off ((ν r).cap*e.size)) p.fp:=λp hp=>q1 _ (Xam (by rw[k2];exact hp));rw[k2,Xz,Xz]at q2;obtain⟨s1,s2,s3⟩:=Xah.1 q2;obtain⟨s4,s5,s6⟩:=Xah.1 s2;have rA:CS.le (rng b (ν r).off (i*e.size)) (rng b (ν r).off ((ν r).cap*e.size)):=λb o ⟨x0,x1,x2⟩=>⟨x0,by omega,by omega⟩;have rB:CS.le (rng b ((ν r).off+i*e.size) e.size) (rng b (ν r).off ((ν r).cap*e.size)):=λb o ⟨x0,x1,x2⟩=>⟨x0,by omega,by omega⟩;have rC:CS.le (rng b ((ν r).off+(i+1)*e.size) (((ν r).cap-(i+1))*e.size)) (rng b (ν r).off ((ν r).cap*e.size)):=λb o ⟨x0,x1,x2⟩=>⟨x0,by omega,by omega⟩;obtain⟨SR,hSR⟩:∃SR:CS,SR= λb' o=>rng b (ν r).off (i*e.size) b' o\/rng b ((ν r).off+(i+1)*e.size) (((ν r).cap-(i+1))*e.size) b' o\/∃p∈p1++p2,p.fp b' o:=⟨_,rfl⟩;have hSRφ:CS.le SR (φ r):=λb o hh=>by
   rw[hSR]at hh;rcases hh with hh|hh|⟨p,hp,hh⟩
   .exact gG b o (rA b o hh)
   .exact gG b o (rC b o hh)
   .refine lU p ?_ b o hh;rcases Xo.1 hp with hp|hp
    .exact Xn _ hp
    .exact Xg _ (Xg _ hp)
  obtain⟨ν',hν'⟩:∃ν':Nat->Nu,ν'= λj=>if j<st.nx then ν j else if j=st.nx then Wci b ((ν r).off+i*e.size)else((nus pc)[j-(st.nx+1)]?).getD ⟨none,0,0,0,0⟩:=⟨_,rfl⟩;obtain⟨φ',hφ'⟩:∃φ':Nat->CS,φ'= λj=>if j=r then SR else if j<st.nx then φ j else if j=st.nx then rng b ((ν r).off+i*e.size) e.size else((fps pc)[j-(st.nx+1)]?).getD (λ_ _=>False):=⟨_,rfl⟩;have hνold:WsD st.nx ν ν':=λj hj=>by rw[hν'];simp[hj]
  have hνp:ν' st.nx=Wci b ((ν r).off+i*e.size):=by rw[hν'];simp
  have hφr:φ' r=SR:=by rw[hφ'];simp
  have hφp:φ' st.nx=rng b ((ν r).off+i*e.size) e.size:=by rw[hφ'];simp;omega
  have hφold:∀j,j<st.nx->j≠r->φ' j=φ j:=λj hj hn=>by rw[hφ'];simp[hj,hn]
  have hAt:At ν' φ' (st.nx+1) pc:=λj q hj=>by
   have x1:(nus pc)[j]?=some q.nu:=by unfold nus;rw[Xaj,hj];rfl
   have x2:(fps pc)[j]?=some q.fp:=by unfold fps;rw[Xaj,hj];rfl
   rw[hν',hφ'];constructor
   .show(if st.nx+1+j<st.nx then _ else if st.nx+1+j=st.nx then _ else _)=_;rw[Wc (by omega),Wc (by omega),Xbu,x1];rfl
   .show(if st.nx+1+j=r then _ else if st.nx+1+j<st.nx then _ else if st.nx+1+j=st.nx then _ else _)=_;rw[Wc (by omega),Wc (by omega),Wc (by omega),Xbu,x2];rfl
  obtain⟨uc,uo⟩:=Wav (ν:=ν') (φ:=φ') e (xs.getD i e.dflt) (st.nx+1) c pc k4 hAt;have ig:∀id ob,Wn ((r,Ob.hole e xs i st.nx)::(st.nx,Ob.box (unfold e (xs.getD i e.dflt) (st.nx+1)).1)::((unfold e (xs.getD i e.dflt) (st.nx+1)).2.1++st.objs)) id=some ob->ob≠ .dead->
    (id=r/\ob= .hole e xs i st.nx)\/(id=st.nx/\ob= .box (unfold e (xs.getD i e.dflt) (st.nx+1)).1)\/(st.nx+1<=id/\id<st.nx+1+e.owns/\Wrq G ν' φ' w id ob)\/(id≠r/\id<st.nx/\Wn st.objs id=some ob):=λid ob hl hd=>by
   rw[WG]at hl;split at hl
   .rename_i x;injection hl with hl;exact .inl ⟨x.symm,hl.symm⟩
   .rename_i qe;rw[WG]at hl;split at hl
    .rename_i x;injection hl with hl;exact .inr (.inl ⟨x.symm,hl.symm⟩)
    .rcases WM hl with hl|hl
     .obtain⟨x1,x2,x3⟩:=uo id ob hl;exact .inr (.inr (.inl ⟨x1,x2,x3⟩))
     .exact .inr (.inr (.inr ⟨λx=>qe x.symm,hφ.lt id ⟨ob,hl,hd⟩,hl⟩))
  have fS:∀id b' o,Live ((r,Ob.hole e xs i st.nx)::(st.nx,Ob.box (unfold e (xs.getD i e.dflt) (st.nx+1)).1)::((unfold e (xs.getD i e.dflt) (st.nx+1)).2.1++st.objs)) id->φ' id b' o->
    (id=r/\SR b' o)\/(id=st.nx/\rng b ((ν r).off+i*e.size) e.size b' o)\/(∃(j:Nat) (q:Pc),id=st.nx+1+j/\pc[j]?=some q/\q.fp b' o)\/(id≠r/\id<st.nx/\Live st.objs id/\φ id b' o):=λid b' o ⟨ob,hl,hd⟩ hp=>by
   rcases ig id ob hl hd with⟨rfl,_⟩|⟨rfl,_⟩|⟨x1,x2,_⟩|⟨x1,x2,x3⟩
   .rw[hφr]at hp;exact .inl ⟨rfl,hp⟩
   .rw[hφp]at hp;exact .inr (.inl ⟨rfl,hp⟩)
   .right;right;left;have ac:id-(st.nx+1)<pc.length:=by omega
    refine⟨id-(st.nx+1),pc[id-(st.nx+1)],by omega,Xq ac,?_⟩;have:=(hAt (id-(st.nx+1)) _ (Xq ac)).2;rw[show st.nx+1+(id-(st.nx+1))=id by omega]at this;rw[this]at hp;exact hp
   .rw[hφold id x2 x1]at hp;exact .inr (.inr (.inr ⟨x1,x2,⟨ob,x3,hd⟩,hp⟩))
  have hq:∀(j:Nat) (q:Pc),pc[j]?=some q->q∈p1++(pc++p2):=λj q hj=>Xg _ (Xn _ (Xas hj));have eH:∀id b' o,(id=r/\SR b' o)\/(id=st.nx/\rng b ((ν r).off+i*e.size) e.size b' o)\/(∃(j:Nat) (q:Pc),id=st.nx+1+j/\pc[j]?=some q/\q.fp b' o)->φ r b' o:=λid b' o hh=>by
   rcases hh with⟨_,hh⟩|⟨_,hh⟩|⟨j,q,_,hj,hh⟩
   .exact hSRφ b' o hh
   .exact gG b' o (rB b' o hh)
   .exact lU q (hq j q hj) b' o hh
  have hH:HR w0 F G ν' φ' ((r,Ob.hole e xs i st.nx)::(st.nx,Ob.box (unfold e (xs.getD i e.dflt) (st.nx+1)).1)::((unfold e (xs.getD i e.dflt) (st.nx+1)).2.1++st.objs)) (st.nx+1+e.owns) w:=by
   refine hφ.step (WLe.refl _ w) (λid ob hl hd=>?_) (λid ⟨ob,hl,hd⟩=>?_) (λid b' o jY hp=>?_) (λid b' o jY hp=>?_) (λid cb b' o hl dH hp eV=>?_)
   .rcases ig id ob hl hd with⟨rfl,rfl⟩|⟨rfl,rfl⟩|⟨x1,x2,e',qn,rfl,x3⟩|⟨x1,x2,x3⟩
    .refine⟨by omega,?_⟩;rw[hφr,hνold id rI,hνp];refine⟨g1,g2,hi,b,hb,rfl,rfl,g4,g5,g6,c1,c2,p1,p2,k3,k5,m1,m3,?_,λs hs b' o hh=>?_⟩
     .refine Xy.2 ⟨λs hs=>?_,Xy.2 ⟨λs hs=>?_,?_⟩⟩
      .rcases Xs.1 hs with rfl|hs
       .exact Wut (by omega)
       .obtain⟨p,hp,rfl⟩:=Xw.1 hs;refine(nE p ?_).mono rA (λ_ _ hh=>hh);rcases Xo.1 hp with hp|hp
        .exact Xn _ hp
        .exact Xg _ (Xg _ hp)
      .obtain⟨p,hp,rfl⟩:=Xw.1 hs;refine(nE p ?_).mono rC (λ_ _ hh=>hh);rcases Xo.1 hp with hp|hp
       .exact Xn _ hp
       .exact Xg _ (Xg _ hp)
      .rw[Xz];exact Xah.2 ⟨s1,s5,λs hs t ht=>s3 s hs t (Xg _ ht)⟩
     .rw[hSR];rcases Xs.1 hs with rfl|hs
      .exact .inl hh
      .rcases Xs.1 hs with rfl|hs
       .exact .inr (.inl hh)
       .obtain⟨p,hp,rfl⟩:=Xw.1 hs;exact .inr (.inr ⟨p,hp,hh⟩)
    .refine⟨b,c,by rw[hνp];rfl,?_,by rw[hνp];exact m2,uc _ (Xm _),?_⟩
     .rw[hνp,dr];obtain⟨row,TT,y1,y2⟩:=g6;exact⟨row,TT,y1,by show(ν r).off+i*e.size+e.size<=row.size;omega⟩
     .rw[hνp,dr,hφp];exactλ_ _ hh=>hh
    .exact x3
    .rw[hφold id x2 x1];exact WdN (λ_ _ _ hh=>hh) (Same.refl _ w) (λ_ _ hh=>hh) hνold (by omega) x2 ob (hφ.ob id ob x3)
   .rcases ig id ob hl hd with⟨rfl,_⟩|⟨rfl,_⟩|⟨_,x2,_⟩|⟨_,x2,_⟩<;>omega
   .rcases fS id b' o jY hp with hh|hh|hh|⟨_,_,x3,x4⟩
    .exact .inl ⟨r,aQ,eH id b' o (.inl hh)⟩
    .exact .inl ⟨r,aQ,eH id b' o (.inr (.inl hh))⟩
    .exact .inl ⟨r,aQ,eH id b' o (.inr (.inr hh))⟩
    .exact .inl ⟨id,x3,x4⟩
   .rcases fS id b' o jY hp with hh|hh|hh|⟨_,_,x3,x4⟩
    .exact hφ.bl r b' o aQ (eH id b' o (.inl hh))
    .exact hφ.bl r b' o aQ (eH id b' o (.inr (.inl hh)))
    .exact hφ.bl r b' o aQ (eH id b' o (.inr (.inr hh)))
    .exact hφ.bl id b' o x3 x4
   .have out:∀cb,cb≠r->Live st.objs cb->φ cb b' o->φ r b' o->False:=λcb y1 y2 y3 y4=>y1 (hφ.inj cb r b' o y2 aQ y3 y4);have dSP:SR b' o->∀s,(s=rng b ((ν r).off+i*e.size) e.size\/∃q∈pc,s=q.fp)->s b' o->False:=λy1 s y2 y3=>by
     rw[hSR]at y1;rcases y2 with rfl|⟨q,rJ,rfl⟩
     .rcases y1 with y1|y1|⟨p,hp,y1⟩
      .obtain⟨z0,z1,z2⟩:=y1;obtain⟨z3,z4,z5⟩:=y3;omega
      .obtain⟨z0,z1,z2⟩:=y1;obtain⟨z3,z4,z5⟩:=y3;omega
      .refine nE p ?_ b' o (rB b' o y3) y1;rcases Xo.1 hp with hp|hp
       .exact Xn _ hp
       .exact Xg _ (Xg _ hp)
     .have oF:q∈p1++(pc++p2):=Xg _ (Xn _ rJ);rcases y1 with y1|y1|⟨p,hp,y1⟩
      .exact nE q oF b' o (rA b' o y1) y3
      .exact nE q oF b' o (rC b' o y1) y3
      .rcases Xo.1 hp with hp|hp
       .exact s3 _ (Xam hp) _ (Xn _ (Xam rJ)) b' o y1 y3
       .exact s6 _ (Xam rJ) _ (Xam hp) b' o y3 y1
    have dPQ:∀(j:Nat) (q:Pc),pc[j]?=some q->rng b ((ν r).off+i*e.size) e.size b' o->q.fp b' o->False:=λj q hj y1 y2=>nE q (hq j q hj) b' o (rB b' o y1) y2;rcases fS id b' o hl hp with hh|hh|hh|⟨x1,x2,x3,x4⟩<;>rcases fS cb b' o dH eV with iH|iH|iH|⟨rK,x2',qo,qp⟩
    .rw[hh.1,iH.1]
    .exact(dSP hh.2 _ (.inl rfl) iH.2).elim
    .obtain⟨j,q,_,hj,y⟩:=iH;exact(dSP hh.2 _ (.inr ⟨q,Xas hj,rfl⟩) y).elim
    .exact(out cb rK qo qp (eH id b' o (.inl hh))).elim
    .exact(dSP iH.2 _ (.inl rfl) hh.2).elim
    .rw[hh.1,iH.1]
    .obtain⟨j,q,_,hj,y⟩:=iH;exact(dPQ j q hj hh.2 y).elim
    .exact(out cb rK qo qp (eH id b' o (.inr (.inl hh)))).elim
    .obtain⟨j,q,_,hj,y⟩:=hh;exact(dSP iH.2 _ (.inr ⟨q,Xas hj,rfl⟩) y).elim
    .obtain⟨j,q,_,hj,y⟩:=hh;exact(dPQ j q hj iH.2 y).elim
    .obtain⟨j,q,bM,hj,y⟩:=hh;obtain⟨j',q',rL,eF,y'⟩:=iH;have x1:(fps pc)[j]?=some q.fp:=by unfold fps;rw[Xaj,hj];rfl
     have x2:(fps pc)[j']?=some q'.fp:=by unfold fps;rw[Xaj,eF];rfl
     have:=Wmg (l:=fps pc) s4 x1 x2 y y';rw[bM,rL,this]
    .exact(out cb rK qo qp (eH id b' o (.inr (.inr hh)))).elim
    .exact(out id x1 x3 x4 (eH cb b' o (.inl iH))).elim
    .exact(out id x1 x3 x4 (eH cb b' o (.inr (.inl iH)))).elim
    .exact(out id x1 x3 x4 (eH cb b' o (.inr (.inr iH)))).elim
    .exact hφ.inj id cb b' o x3 qo x4 qp
  refine⟨ν',b,?_,?_,rfl,by rw[hνp,g2],rfl⟩
  .have:=h.on (λ_ _ _ hh=>hh) hνold (by omega) ⟨φ',hH⟩ h.gx;rw[oE];exact this
  .show st.nx<(unfold e (xs.getD i e.dflt) (st.nx+1)).2.2;rw[oE];omega
end
end Go.Sx
namespace Go.Sx
set_option linter.unusedVariables false
set_option linter.unusedSimpArgs false
theorem Wdy:∀(l:List Nat) (i j:Nat),WsR i l=some j->l[j]?=some i
 | [],i,j,h=>by cases h
 |k::l,i,j,h=>by
  simp only[WsR]at h;split at h
  .rename_i hb;injection h with h;subst h;have:i=k:=by simpa using hb
   rw[this];rfl
  .cases hp:WsR i l with
   |none=>simp[hp]at h
   |some n=>
    simp[hp]at h;subst h;exact Wdy l i n hp
theorem WkR{m:List Nat}:∀(l r:List Nat),WnK m l=some r->r.length=l.length/\∀(q j:Nat),r[q]?=some j->∃i,l[q]?=some i/\m[j]?=some i
 | [],r,h=>by simp[WnK]at h;subst h;exact⟨rfl,λq j hq=>by simp at hq⟩
 |i::l,r,h=>by
  simp only[WnK]at h;split at h
  .rename_i j r' h1 h2;injection h with h;subst h;obtain⟨h3,h4⟩:=WkR l r' h2;refine⟨by simp[h3],λq j' hq=>?_⟩;cases q with
   |zero=>simp at hq;subst hq;exact⟨i,rfl,Wdy m i j h1⟩
   |succ q=>exact h4 q j' (by simpa using hq)
  .cases h
theorem Wch:∀(n:Nat) (todo acc:List Nat) (objs:Wab),acc.Nodup->(WlD n todo acc objs).Nodup
 |0,_,_,_,h=>h
 |n+1,[],acc,objs,h=>h
 |n+1,i::l,acc,objs,h=>by
  simp only[WlD];split
  .exact Wch n l acc objs h
  .rename_i hi;have wh:i∉acc:=λhm=>hi ((WaR i acc).2 hm);have h2:(acc++ [i]).Nodup:=by
    rw[Xae];refine⟨h,by simp,λx hx y hy=>?_⟩;simp at hy;subst hy
    exactλe=>wh (e▸hx)
   split
   .exact Wch n _ _ objs h2
   .exact Wch n _ _ objs h2
   .exact Wch n _ _ objs h2
   .exact Wch n _ _ objs h
theorem WhA{m:List Nat}{objs:Wab}:∀(l:List Nat) (j0:Nat) (j:Nat) (ob:Ob),Wn (Wed m objs j0 l) j=some ob->∃i cY,j0<=j/\l[j-j0]?=some i/\Wn objs i=some cY/\ob=WrW m cY
 | [],j0,j,ob,h=>by cases h
 |i::l,j0,j,ob,h=>by
  simp only[Wed]at h;have step:Wn (Wed m objs (j0+1) l) j=some ob->∃i' cY,j0<=j/\(i::l)[j-j0]?=some i'/\Wn objs i'=some cY/\ob=WrW m cY:=λh=>by
   obtain⟨i',cY,h1,h2,h3,h4⟩:=WhA l (j0+1) j ob h;refine⟨i',cY,by omega,?_,h3,h4⟩;rw[show j-j0=(j-(j0+1))+1 by omega];simpa using h2
  split at h
  .rename_i cY ho;rw[WG]at h;split at h
   .rename_i e;subst e;injection h with h;exact⟨i,cY,Xm _,by simp,ho,h.symm⟩
   .exact step h
  .exact step h
theorem Wjh{env:List (Nat×AVal)}{f:AVal->AVal}:∀(l:List Nat) (i:Nat) (x:AVal),Wn ((Wga env l).map λp=>(p.1,f p.2)) i=some x->∃y,Wn env i=some y/\x=f y
 | [],i,x,h=>by cases h
 |j::l,i,x,h=>by
  simp only[Wga]at h;split at h
  .rename_i y hy;simp only[Xaf]at h;rw[WG]at h;split at h
   .rename_i e;subst e;injection h with h;exact⟨y,hy,h.symm⟩
   .exact Wjh l i x h
  .exact Wjh l i x h
section
variable{w0:World}{F:CS}{nt:Slots}{G0 G G':GH}{ν ν':Nat->Nu}{objs objs':Wab}{nx am:Nat}{st af:St}{a:Act}{w w':World}{P:Program}{T:Tab}{Γ:Ctx}
structure Ren(m:List Nat)(ν ν':Nat->Nu)(am:Nat):Prop where
 nx:∀(i j:Nat),m[j]?=some i->j<am
 nu:∀(i j:Nat),m[j]?=some i->ν' j=ν i
theorem CellRel.ren{m:List Nat}(hm:Ren m ν ν' am):∀(c:Cell) (v:Value),CellRel G ν nx c v->CellRel G ν' am (Wda m c) v
 | .val t d,v,h=>h
 | .nils,v,h=>h
 | .rptr t d off,v,h=>h
 | .junk,v,h=>h
 | .own id,v,h=>by
  simp only[Wda];split
  .rename_i j hj;have hj:=Wdy _ _ _ hj;exact⟨hm.nx _ _ hj,by rw[hm.nu _ _ hj];exact h.2⟩
  .trivial
 | .vw id lo hi,v,h=>by
  simp only[Wda];split
  .rename_i j hj;have hj:=Wdy _ _ _ hj;exact⟨hm.nx _ _ hj,by rw[hm.nu _ _ hj];exact h.2⟩
  .trivial
 | .aptr id,v,h=>by
  simp only[Wda];split
  .rename_i j hj;have hj:=Wdy _ _ _ hj;exact⟨hm.nx _ _ hj,by rw[hm.nu _ _ hj];exact h.2⟩
  .trivial
 | .ptr id off,v,h=>by
  simp only[Wda];split
  .rename_i j hj;have hj:=Wdy _ _ _ hj;exact⟨hm.nx _ _ hj,by rw[hm.nu _ _ hj];exact h.2⟩
  .trivial
 | .eptr id i off,v,h=>by
  simp only[Wda];split
  .rename_i j hj;have hj:=Wdy _ _ _ hj;exact⟨hm.nx _ _ hj,by rw[hm.nu _ _ hj];exact h.2⟩
  .trivial
 | .clos f caps,v,h=>by
  simp only[Wda];split
  .rename_i js hj;obtain⟨h1,h2⟩:=WkR _ _ hj;obtain⟨vs,h3,h4,h5⟩:=h;refine⟨vs,h3,h4.trans h1.symm,λq id u hq hu=>?_⟩;obtain⟨i,h6,h7⟩:=h2 q id hq;obtain⟨h8,h9,cJ⟩:=h5 q i u h6 hu;exact⟨hm.nx _ _ h7,h9,by rw[hm.nu _ _ h7];exact cJ⟩
  .trivial
theorem CellsRel.ren{m:List Nat}(hm:Ren m ν ν' am){cs:List Cell}{vs:List Value}(h:CellsRel G ν nx cs vs):CellsRel G ν' am (cs.map (Wda m)) vs:=by
 refine⟨by simp[h.1],λj c v hc hv=>?_⟩;simp only[Xaj]at hc;cases hd:cs[j]? with
 |none=>simp[hd]at hc
 |some d=>
  simp[hd]at hc;subst hc;obtain⟨h1,h2⟩:=h.2 j d v hd hv;exact⟨h1.ren hm,h2⟩
theorem AvRel.ren{m:List Nat}(hm:Ren m ν ν' am):∀(x:AV) (v:Value),AvRel G ν nx x v->AvRel G ν' am (Wvv m x) v
 | .one c,v,h=>⟨h.1.ren hm,h.2⟩
 | .agg cs,v,⟨vs,h1,h2⟩=>⟨vs,h1,h2.ren hm⟩
theorem AValRel.ren{m:List Nat}(hm:Ren m ν ν' am):∀(x:AVal) (v:Value),AValRel G ν nx x v->AValRel G ν' am (Wo3 m x) v
 | .s x,v,h=>AvRel.ren hm x v h
 | .tup xs,v,⟨vs,h1,h2,h3⟩=>⟨vs,h1,by simp[h2],λj x u hx hu=>by
  simp only[Xaj]at hx;cases hd:xs[j]? with
  |none=>simp[hd]at hx
  |some d=>
   simp[hd]at hx;subst hx;exact AvRel.ren hm d u (h3 j d u hd hu)⟩
theorem WrQ(slots:List Nat)(fH:∀x v,¬nt.ex x v)(h:Rel w0 F nt G0 G ν st a w):∃ν',Rel w0 F nt G0 G ν' (canon slots st) a w:=by
 obtain⟨m,hm⟩:∃m,m=WlD 400 ((Wga st.env slots).flatMap λp=>WaZ p.2) [] st.objs:=⟨_,rfl⟩;have be:m.Nodup:=by rw[hm];exact Wch _ _ _ _ (by simp)
 have mB:canon slots st={env:=(Wga st.env slots).map λp=>(p.1,Wo3 m p.2),objs:=Wed m st.objs 0 m,nx:=m.length}:=by rw[hm];rfl
 obtain⟨ν',hν'⟩:∃ν':Nat->Nu,ν'= λj=>ν ((m[j]?).getD 0):=⟨_,rfl⟩;have kS:∀(i j:Nat),m[j]?=some i->ν' j=ν i:=λi j hj=>by rw[hν'];simp[hj]
 have oG:∀(j:Nat) (ob:Ob),Wn (Wed m st.objs 0 m) j=some ob->∃i cY,m[j]?=some i/\Wn st.objs i=some cY/\ob=WrW m cY:=λj ob ho=>by
  obtain⟨i,cY,_,h2,h3,h4⟩:=WhA _ _ _ _ ho;exact⟨i,cY,by simpa using h2,h3,h4⟩
 have oH:Ren m ν ν' m.length:={
  nx:=λi j hj=>(Xab.1 hj).1
  nu:=kS}
 have eC:∀j,Live (Wed m st.objs 0 m) j->∃i,m[j]?=some i/\Live st.objs i:=λj ⟨ob,ho,hd⟩=>by
  obtain⟨i,cY,h1,h2,h3⟩:=oG j ob ho;refine⟨i,h1,cY,h2,λwi=>hd ?_⟩;rw[h3,wi];rfl
 rw[mB];refine⟨ν',h.defers,h.ntm,h.par,λi x hx=>?_,?_,h.gx,λx v hv=>WD hv (fH x v)⟩
 .obtain⟨y,h1,rfl⟩:=Wjh _ _ _ hx;obtain⟨v,h2,h3⟩:=h.env i y h1;exact⟨v,h2,AValRel.ren oH y v h3⟩
 .obtain⟨φ,hφ⟩:=h.h;refine⟨λj=>φ ((m[j]?).getD 0),?_⟩;have lX:∀(i j:Nat),m[j]?=some i->φ ((m[j]?).getD 0)=φ i:=λi j hj=>by simp[hj]
  exact{
   g:=hφ.g
   ob:=λj ob ho=>by
    obtain⟨i,cY,h1,h2,rfl⟩:=oG j ob ho;have:=hφ.ob i cY h2;cases cY with
    |dead=>trivial
    |arr e xs=>
     show WbN w (Wy G w e) e.size (ν' j) xs (φ ((m[j]?).getD 0));rw[kS i j h1,lX i j h1];exact this
    |hole e xs k p=>
     simp only[WrW];split
     .rename_i q hq;have hq:=Wdy _ _ _ hq;obtain⟨g1,g2⟩:=this;show q<m.length/\Wh4 w (Wy G w e) e.size (ν' j) (ν' q) xs k (φ ((m[j]?).getD 0));rw[kS i j h1,lX i j h1,kS p q hq];exact⟨(Xab.1 hq).1,g2⟩
     .trivial
    |box cs=>
     obtain⟨b,vs,h4,h5,h6,h7,h8⟩:=this;refine⟨b,vs,by rw[kS i j h1];exact h4,?_,by rw[kS i j h1];exact h6,h7.ren oH,?_⟩
     .rw[kS i j h1,Xu];exact h5
     .rw[kS i j h1,lX i j h1,Xu];exact h8
   gf:=λj b o hj hp=>by
    obtain⟨i,h1,h2⟩:=eC j hj;rw[lX i j h1]at hp;exact hφ.gf i b o h2 hp
   inj:=λj j' b o hj eF hp eV=>by
    obtain⟨i,h1,h2⟩:=eC j hj;obtain⟨i',jk,jl⟩:=eC j' eF;rw[lX i j h1]at hp;rw[lX i' j' jk]at eV;have:=hφ.inj i i' b o h2 jl hp eV;subst this;have ac:=(Xab.1 h1).1;exact(List.getElem?_inj ac be).1 (h1.trans jk.symm)
   own:=λj b o hj hp=>by
    obtain⟨i,h1,h2⟩:=eC j hj;rw[lX i j h1]at hp;exact hφ.own i b o h2 hp
   lt:=λj hj=>by
    obtain⟨i,h1,h2⟩:=eC j hj;exact(Xab.1 h1).1
   bl:=λj b o hj hp=>by
    obtain⟨i,h1,h2⟩:=eC j hj;rw[lX i j h1]at hp;exact hφ.bl i b o h2 hp
   le:=hφ.le}
theorem Wkv(h:Rel w0 F nt G0 G ν st a w){r:Nat}{ix:Option Nat}(hg:Wkl st r ix=some (true,af)):∃ν',Rel w0 F nt G0 G ν' af a w:=by
 unfold Wkl at hg;split at hg
 .rename_i c i kW;obtain⟨s,hs,hg⟩:=Xt.1 hg;simp only[Prod.mk.injEq]at hg;obtain⟨rfl,rfl⟩:=hg;have ac:∃(e:Ty) (xs:List e.den),Wn st.objs r=some (.arr e xs)/\i<xs.length:=by
   unfold WuN at kW;split at kW
   .split at kW
    .rename_i e xs ho;simp only[Option.some.injEq,Prod.mk.injEq]at kW;obtain⟨h1,rfl⟩:=kW;obtain⟨h2,h3⟩:=Web h1;exact⟨e,xs,ho,by omega⟩
    .cases kW
   .split at kW
    .rename_i e xs n ho hn;simp only[Option.some.injEq,Prod.mk.injEq]at kW;obtain⟨h1,rfl⟩:=kW;obtain⟨h2,h3⟩:=Web h1;exact⟨e,xs,ho,by omega⟩
    .cases kW
  obtain⟨e,xs,ho,ac⟩:=ac;obtain⟨ν',b,h1,_⟩:=WkW h ho ac hs;exact⟨ν',h1⟩
 .cases hg
theorem Wi4{g:Ghost}(fH:(∀x v,¬nt.ex x v)\/g.quiet=true)(h:Rel w0 F nt G0 G ν st a w)(hg:Wen g st=some (true,af)):∃G' ν',Rel w0 F nt G0 G' ν' af a w:=by
 cases g with
 |canon slots=>
  simp only[Wen]at hg;injection hg with hg;injection hg with _ hg;subst hg;obtain⟨ν',h'⟩:=WrQ slots (fH.resolve_right (by simp[Ghost.quiet])) h;exact⟨G,ν',h'⟩
 |adopt slot e=>
  simp only[Wen]at hg;split at hg
  .rename_i hs;injection hg with hg;injection hg with _ hg;subst hg;obtain⟨v,hv,hr⟩:=h.env _ _ hs;have mC:v= .slice none 0 0:=hr.1;subst mC;have h2:=h.on (λ_ _ _ hh=>hh) (WfL ν st.nx _) (Xdc _) (h.h.adopt e) h.gx;exact⟨G,_,h2.rebind hv ⟨Wk8 e,rfl⟩⟩
  .injection hg with hg;injection hg with _ hg;subst hg;exact⟨G,ν,h⟩
  .cases hg
 |freeze slot=>
  simp only[Wen]at hg;split at hg
  .rename_i id hs;split at hg
   .rename_i e xs ho;injection hg with hg;injection hg with _ hg;subst hg;obtain⟨G1,h1,h2,h3,h4⟩:=h.h.freezeL h.gx [id];obtain⟨v,hv,hr⟩:=h.env _ _ hs;have mC:v=(ν id).hdr:=hr.1.2;have h5:=h.on h1 (λ_ _=>rfl) (Xm _) h2 h3;exact⟨G1,ν,h5.rebind hv ⟨⟨v,rfl,mC▸h4 id (by simp) e xs ho⟩,hr.2⟩⟩
   .cases hg
  .cases hg
 |adoptC slot off e=>
  simp only[Wen]at hg;split at hg
  .rename_i id hs;split at hg
   .rename_i cs ho;split at hg
    .rename_i hc;injection hg with hg;injection hg with _ hg;subst hg;have bI:st.nx≠id:=λe=>by
      obtain⟨φ,hφ⟩:=h.h;have:=hφ.lt id ⟨_,ho,by simp⟩;omega
     have h2:=h.h.adopt e;have j8:Wn ((st.nx,Ob.arr e [])::st.objs) id=some (.box cs):=by rw[WG,Wc bI];exact ho
     have h3:=h2.mk_box j8 (cI:=cs.set off (.own st.nx)) (by simp) (λvs fO=>fO.set λv hv=>by
      have:v= .slice none 0 0:=(fO.2 off _ v hc hv).1;subst this;exact Wk8 e)
     exact⟨G,_,h.on (λ_ _ _ hh=>hh) (WfL ν st.nx _) (Xdc _) h3 h.gx⟩
    .injection hg with hg;injection hg with _ hg;subst hg;exact⟨G,ν,h⟩
    .cases hg
   .cases hg
  .cases hg
 |freezeC slot off=>
  simp only[Wen]at hg;split at hg
  .rename_i id hs;split at hg
   .rename_i cs ho;split at hg
    .rename_i j hc;split at hg
     .rename_i e xs lY;injection hg with hg;injection hg with _ hg;subst hg;obtain⟨G1,h1,h2,h3,h4⟩:=h.h.freezeL h.gx [j];have bI:j≠id:=λe=>by subst e;rw[ho]at lY;cases lY
      have j8:Wn ((j,Ob.dead)::st.objs) id=some (.box cs):=by rw[WG,Wc bI];exact ho
      have h5:HRel w0 F G1 ν ((id,.box (cs.set off (.val (.slice e.ro) (WcL e xs))))::(j,.dead)::st.objs) st.nx w:=by
       refine HRel.mk_box h2 j8 (by simp) (λvs fO=>fO.set λv hv=>?_);have mC:v=(ν j).hdr:=(fO.2 off _ v hc hv).1.2;exact⟨v,rfl,mC▸h4 j (by simp) e xs lY⟩
      exact⟨G1,ν,h.on h1 (λ_ _=>rfl) (Xm _) h5 h3⟩
     .cases hg
    .injection hg with hg;injection hg with _ hg;subst hg;exact⟨G,ν,h⟩
    .injection hg with hg;injection hg with _ hg;subst hg;exact⟨G,ν,h⟩
    .cases hg
   .cases hg
  .cases hg
 |nest d e=>injection hg with hg;injection hg with _ hg;subst hg;exact⟨G,ν,h⟩
 |view d=>injection hg with hg;injection hg with _ hg;subst hg;exact⟨G,ν,h⟩
 |opn d=>injection hg with hg;injection hg with _ hg;subst hg;exact⟨G,ν,h⟩
 |shutD d off=>injection hg with hg;injection hg with _ hg;subst hg;exact⟨G,ν,h⟩
 |empt slot e=>
  simp only[Wen]at hg;split at hg
  .split at hg
   .rename_i e' ho;split at hg
    .rename_i hc;injection hg with hg;injection hg with _ hg;subst hg;exact⟨G,ν,h.on (λ_ _ _ hh=>hh) (λ_ _=>rfl) (Xm _) (h.h.empt ho hc.1) h.gx⟩
    .cases hg
   .cases hg
  .cases hg
 |unfE slot=>
  simp only[Wen]at hg;split at hg
  .rename_i r i hs;obtain⟨s,c9,hg⟩:=Xt.1 hg;injection hg with _ hg;subst hg;obtain⟨v,hv,hr⟩:=h.env _ _ hs;have gI:∃(e:Ty) (xs:List e.den),Wn st.objs r=some (.arr e xs):=by
    unfold WkV at c9;split at c9
    .rename_i e xs ho;exact⟨e,xs,ho⟩
    .cases c9
   obtain⟨e,xs,ho⟩:=gI;obtain⟨⟨_,ac,b,hb,rfl⟩,_⟩:=hr;obtain⟨S,aR⟩:=h.h.obj ho;obtain⟨ν',b',h1,h2,h3,h4,h5⟩:=WkW h ho (by rw[aR.1];exact ac) c9;rw[hb]at h3;injection h3 with h3;subst h3;refine⟨G,ν',h1.rebind hv ⟨⟨h2,b,by rw[h4];rfl,?_⟩,rfl⟩⟩;rw[h4];rfl
  .cases hg
 |unfS slot ix=>
  simp only[Wen]at hg;split at hg
  .obtain⟨ν',h'⟩:=Wkv h hg;exact⟨G,ν',h'⟩
  .cases hg
 |unfC slot off ix=>
  simp only[Wen]at hg;split at hg
  .split at hg
   .split at hg
    .obtain⟨ν',h'⟩:=Wkv h hg;exact⟨G,ν',h'⟩
    .cases hg
   .cases hg
  .cases hg
 |refold slot=>
  simp only[Wen]at hg;split at hg
  .obtain⟨s,c9,hg⟩:=Xt.1 hg;injection hg with _ hg;subst hg;exact⟨G,ν,Wi7 h c9⟩
  .cases hg
 |shut slot off=>
  simp only[Wen]at hg;split at hg
  .split at hg
   .split at hg
    .split at hg
     .obtain⟨s,c9,hg⟩:=Xt.1 hg;injection hg with _ hg;subst hg;exact⟨G,ν,Wi7 h c9⟩
     .injection hg with hg;injection hg with _ hg;subst hg;exact⟨G,ν,h⟩
     .cases hg
    .cases hg
   .cases hg
  .cases hg
 |solo slot=>
  simp only[Wen]at hg;split at hg
  .rename_i id lo hi hs;split at hg
   .rename_i e xs ho;injection hg with hg;injection hg with _ hg;subst hg;obtain⟨v,hv,hr⟩:=h.env _ _ hs;obtain⟨⟨_,g1,g2,g3,rfl⟩,_⟩:=hr;have h2:=h.on (λ_ _ _ hh=>hh) (WfL ν st.nx _) (Xdc _) (h.h.solo ho g1 g2) h.gx;exact⟨G,_,h2.rebind hv ⟨WmE,WpF _ _ _⟩⟩
   .cases hg
  .injection hg with hg;injection hg with _ hg;subst hg;exact⟨G,ν,h⟩
  .cases hg
 |soloC slot off=>
  simp only[Wen]at hg;split at hg
  .rename_i id o hs;split at hg
   .rename_i cs ho;split at hg
    .rename_i j lo hi hc;split at hg
     .rename_i e xs lY;injection hg with hg;injection hg with _ hg;subst hg;have bI:j≠id:=λe=>by subst e;rw[ho]at lY;cases lY
      have rM:st.nx≠id:=λe=>by
       obtain⟨φ,hφ⟩:=h.h;have:=hφ.lt id ⟨_,ho,by simp⟩;omega
      have bz:lo<=hi/\hi<=(ν j).len:=by
       obtain⟨S,b,vs,k1,k2,k3,k4,k5⟩:=h.h.obj ho;have ac:o+off<vs.length:=by rw[k4.1];exact(Xab.1 hc).1
       obtain⟨⟨_,g1,g2,_⟩,_⟩:=k4.2 _ _ _ hc (Xq ac);exact⟨g1,g2⟩
      have h2:=h.h.solo lY bz.1 bz.2;have j8:Wn ((st.nx,Ob.arr e ((xs.take hi).drop lo))::(j,Ob.dead)::st.objs) id=some (.box cs):=by rw[WG,Wc rM,WG,Wc bI];exact ho
      have qU:j<st.nx:=by
       obtain⟨φ,hφ⟩:=h.h;exact hφ.lt j ⟨_,lY,by simp⟩
      have h3:=h2.mk_box j8 (cI:=cs.set (o+off) (.own st.nx)) (by simp) (λvs fO=>fO.set λv hv=>by
       obtain⟨_,_,_,_,ug⟩:=(fO.2 _ _ v hc hv).1;rw[WfL ν st.nx _ j qU]at ug;rw[ug];exact WmE)
      exact⟨G,_,h.on (λ_ _ _ hh=>hh) (WfL ν st.nx _) (Xdc _) h3 h.gx⟩
     .cases hg
    .injection hg with hg;injection hg with _ hg;subst hg;exact⟨G,ν,h⟩
    .cases hg
   .cases hg
  .cases hg
theorem WdO:∀(l:List Ghost) (st af:St) (G:GH) (ν:Nat->Nu),((∀x v,¬nt.ex x v)\/l.all Ghost.quiet=true)->Rel w0 F nt G0 G ν st a w->Wb5 l st=some (true,af)->∃G' ν',Rel w0 F nt G0 G' ν' af a w
 | [],st,af,G,ν,fH,h,hg=>by injection hg with hg;injection hg with _ hg;subst hg;exact⟨G,ν,h⟩
 |g::l,st,af,G,ν,fH,h,hg=>by
  simp only[Xcc,Xi]at fH;simp only[Wb5]at hg;split at hg
  .rename_i c s wj;split at hg
   .rename_i c' s' hl;simp only[Option.some.injEq,Prod.mk.injEq,Xi]at hg;obtain⟨⟨rfl,rfl⟩,rfl⟩:=hg;obtain⟨G1,ν1,h1⟩:=Wi4 (fH.imp_right (·.1)) h wj;exact WdO l s s' G1 ν1 (fH.imp_right (·.2)) h1 hl
   .cases hg
  .cases hg
end
end Go.Sx
namespace Go.Sx
set_option linter.unusedVariables false
set_option linter.unusedSimpArgs false
section
variable{T:Tab}{Γ:Ctx}{env wm:List (Nat×AVal)}{objs objs':Wab}{nx am:Nat}
theorem WcX{st an:St}:∀(l:List (Nat×Operand)),(∀p∈l,ev an p.2=ev st p.2)->WcI an l=WcI st l
 | [],_=>rfl
 |(i,x)::l,h=>by
  have h1:ev an x=ev st x:=h (i,x) (Xj ..);simp only[WcI,h1,WcX l λp hp=>h p (Xf _ hp)]
theorem WmO{st an:St}:∀(l:List Operand),(∀x∈l,ev an x=ev st x)->evs an l=evs st l
 | [],_=>rfl
 |x::l,h=>by simp only[evs,h x (Xj ..),WmO l λp hp=>h p (Xf _ hp)]
theorem WhV{st an:St}:∀(l:List Operand),(∀x∈l,ev an x=ev st x)->WgG an l=WgG st l
 | [],_=>rfl
 |x::l,h=>by simp only[WgG,h x (Xj ..),WhV l λp hp=>h p (Xf _ hp)]
theorem Wkh{st an:St}(x:Option Operand)(h:∀y∈x.toList,ev an y=ev st y):Wmy an x=Wmy st x:=by
 cases x with
 |none=>rfl
 |some y=>simp only[Wmy,h y (by simp)]
def Wew(st an:St)(v:AVal):Prop:=∀id∈WaZ v,Wn an.objs id=Wn st.objs id
theorem Wpa{st an:St}{t:TypeId}{v:AVal}(h:Wew st an v):WhN T an t v=WhN T st t v:=by
 unfold WhN;cases v with
 |tup xs=>rfl
 |s x=>
  cases x with
  |agg cs=>rfl
  |one c=>
   cases c with
   |ptr id off=>have:=h id (by simp[WaZ,Wft,Wbd]);simp only[this]
   |eptr id i off=>have:=h id (by simp[WaZ,Wft,Wbd]);simp only[this]
   |_=>rfl
theorem WnY{st an:St}{t:TypeId}{v:AVal}(h:Wew st an v):Wf8 T an t v=Wf8 T st t v:=by
 unfold Wf8;cases v with
 |tup xs=>rfl
 |s x=>
  cases x with
  |agg cs=>rfl
  |one c=>
   cases c with
   |aptr id=>have:=h id (by simp[WaZ,Wft,Wbd]);simp only[this]
   |_=>rfl
theorem WnM{st:St}{t:TypeId}{id:Nat}:Wka T st t (.s (.one (.own id)))=match Wn T t with
  |some ⟨_,false,.slice _⟩=>obL (Wn st.objs id)
  |_=>none:=by
 unfold Wka;generalize Wn T t=q;rcases q with _|⟨ty,agg,shape⟩
 .rfl
 .cases ty<;>cases agg<;>cases shape<;>rfl
theorem WoN{st an:St}{t:TypeId}{v:AVal}(h:∀id,v≠ .s (.one (.own id))):Wka T an t v=Wka T st t v:=by
 unfold Wka;generalize Wn T t=q;rcases q with _|⟨ty,agg,shape⟩
 .cases v<;>rfl
 .cases v with
  |tup xs=>cases ty<;>cases agg<;>cases shape<;>rfl
  |s x=>
   cases x with
   |agg cs=>cases ty<;>cases agg<;>cases shape<;>rfl
   |one c=>
    cases c with
    |own id=>exact WD rfl (h id)
    |val t' d=>cases ty<;>cases agg<;>cases shape<;>cases t'<;>rfl
    |_=>cases ty<;>cases agg<;>cases shape<;>rfl
theorem WuZ(v:AVal):(∃id,v= .s (.one (.own id)))\/∀id,v≠ .s (.one (.own id)):=by
 rcases v with x|xs
 .rcases x with c|cs
  .cases c with
   |own id=>exact .inl ⟨id,rfl⟩
   |_=>exact .inr λid h=>by injection h with h;injection h with h;cases h
  .exact .inr λid h=>by injection h with h;cases h
 .exact .inr λid h=>by cases h
theorem WqO{st an:St}{t:TypeId}{v:AVal}(h:Wew st an v):Wka T an t v=Wka T st t v:=by
 rcases WuZ v with⟨id,rfl⟩|hv
 .rw[WnM,WnM,h id (by simp[WaZ,Wft,Wbd])]
 .exact WoN hv
theorem Wh0{st an:St}{t:TypeId}{v:AVal}{f:Nat}(h:Wew st an v):Wcb T an t v f=Wcb T st t v f:=by
 unfold Wcb;generalize WgP T t f=q;rcases q with _|⟨off,te⟩
 .cases v<;>rfl
 .cases v with
  |tup xs=>rfl
  |s x=>
   cases x with
   |agg cs=>rfl
   |one c=>
    cases c with
    |ptr id o=>
     have:=h id (by simp[WaZ,Wft,Wbd]);show(λq:Option Ob=>match q with|some (.box _)=>some (true,AVal.s (.one (.ptr id (o+off))))|_=>none) (Wn an.objs id)=(λq:Option Ob=>match q with|some (.box _)=>some (true,AVal.s (.one (.ptr id (o+off))))|_=>none) (Wn st.objs id);rw[this]
    |eptr id i o=>
     have:=h id (by simp[WaZ,Wft,Wbd]);show(λq:Option Ob=>match q with|some (.arr _ _)=>some (true,AVal.s (.one (.eptr id i (o+off))))|_=>none) (Wn an.objs id)=(λq:Option Ob=>match q with|some (.arr _ _)=>some (true,AVal.s (.one (.eptr id i (o+off))))|_=>none) (Wn st.objs id);rw[this]
    |_=>rfl
theorem WhY{st an:St}{t:TypeId}{v i:AVal}(h:Wew st an v):Wb8 T an t v i=Wb8 T st t v i:=by
 unfold Wb8;generalize Wn T t=q;generalize asI i=z;rcases q with _|⟨ty,agg,shape⟩
 .rfl
 rcases z with _|n
 .cases shape<;>rfl
 cases shape with
 |slice et=>
  show(match Wn T et with|some te=>_|none=>_)=(match Wn T et with|some te=>_|none=>_);generalize Wn T et=q;rcases q with _|te
  .rfl
  .show(if te.plain=true then _ else _)=(if te.plain=true then _ else _);by_cases hp:te.plain=true
   .rw[Wf hp,Wf hp];cases v with
    |tup xs=>rfl
    |s x=>
     cases x with
     |agg cs=>rfl
     |one c=>
      cases c with
      |own id=>
       have:=h id (by simp[WaZ,Wft,Wbd]);show obI te n id (Wn an.objs id)=obI te n id (Wn st.objs id);rw[this]
      |vw id lo hi=>
       have:=h id (by simp[WaZ,Wft,Wbd]);show Ww1 te n id lo hi (Wn an.objs id)=Ww1 te n id lo hi (Wn st.objs id);rw[this]
      |val t' d=>cases t'<;>rfl
      |_=>rfl
   .rw[Wc hp,Wc hp]
 |arr k et=>
  show(match Wn T et with|some te=>_|none=>_)=(match Wn T et with|some te=>_|none=>_);generalize Wn T et=q;rcases q with _|te
  .rfl
  .show(if te.plain=true then _ else _)=(if te.plain=true then _ else _);by_cases hp:te.plain=true
   .rw[Wf hp,Wf hp];cases v with
    |tup xs=>rfl
    |s x=>
     cases x with
     |agg cs=>rfl
     |one c=>
      cases c with
      |aptr id=>
       have:=h id (by simp[WaZ,Wft,Wbd]);show Wwo te n k id (Wn an.objs id)=Wwo te n k id (Wn st.objs id);rw[this]
      |_=>rfl
   .rw[Wc hp,Wc hp]
 |_=>rfl
theorem Wq9{st an:St}{v:AVal}(h:Wew st an v):WtN an v=WtN st v:=by
 rcases WuZ v with⟨id,rfl⟩|hv
 .exact h id (by simp[WaZ,Wft,Wbd])
 .unfold WtN;split
  .rename_i id;exact WD rfl (hv id)
  .rfl
theorem Wow{st an:St}{s d:TypeId}{v:AVal}(h:Wew st an v):Wku T an s d v=Wku T st s d v:=by
 unfold Wku;rw[Wq9 h]
theorem WqQ{st an:St}{v:AVal}(h:Wew st an v):Wrn an v=Wrn st v:=by
 unfold Wrn;cases v with
 |tup xs=>rfl
 |s x=>
  cases x with
  |agg cs=>rfl
  |one c=>
   cases c with
   |ptr id off=>have:=h id (by simp[WaZ,Wft,Wbd]);simp only[this]
   |eptr id i off=>have:=h id (by simp[WaZ,Wft,Wbd]);simp only[this]
   |aptr id=>have:=h id (by simp[WaZ,Wft,Wbd]);simp only[this]
   |_=>rfl
theorem Wre{st an:St}{op:BinOp}{t:TypeId}{v z:AVal}(h:Wew st an v):WqN T an op t v z=WqN T st op t v z:=by
 unfold WqN;split
 .rename_i id;rw[h id (by simp[WaZ,Wft,Wbd])]
 .rfl
theorem Wcc{α β:Type}{x:Option α}{f g:α->Option β}(h:∀v,x=some v->f v=g v):x.bind f=x.bind g:=by
 cases x with
 |none=>rfl
 |some v=>exact h v rfl
theorem WhP{st an:St}(op:Op)(hm:∀t x l h m,op≠ .slice t x l h m)(he:∀x∈Wac op,ev an x=ev st x)(hl:WvK op=true->∀x∈Wac op,∀v,ev st x=some v->Wew st an v):Waf T an op=Waf T st op:=by
 cases op with
 |move x=>simp only[Waf,he x (by simp[Wac])]
 |assign x=>simp only[Waf,he x (by simp[Wac])]
 |pick c a b=>simp only[Waf,he c (by simp[Wac]),he a (by simp[Wac]),he b (by simp[Wac])]
 |load t a=>
  simp only[Waf,he a (by simp[Wac])];exact Wcc λv hv=>by rw[Wpa (hl rfl a (by simp[Wac]) v hv),WnY (hl rfl a (by simp[Wac]) v hv)]
 |nilCheck x=>
  simp only[Waf,he x (by simp[Wac])];exact Wcc λv hv=>WqQ (hl rfl x (by simp[Wac]) v hv)
 |binOp op t x y z=>
  simp only[Waf,he x (by simp[Wac]),he y (by simp[Wac])];split
  .rename_i a b h1 h2;rw[Wre (hl rfl x (by simp[Wac]) _ h1)]
  .rfl
 |unOp op t x=>simp only[Waf,he x (by simp[Wac])]
 |convert s d x=>
  simp only[Waf,he x (by simp[Wac])];exact Wcc λv hv=>Wow (hl rfl x (by simp[Wac]) v hv)
 |slice t x l h m=>exact WD rfl (hm t x l h m)
 |fieldAddr s x f=>
  simp only[Waf,he x (by simp[Wac])];exact Wcc λv hv=>Wh0 (hl rfl x (by simp[Wac]) v hv)
 |field t x f=>simp only[Waf,he x (by simp[Wac])]
 |indexAddr t x i=>
  simp only[Waf,he x (by simp[Wac]),he i (by simp[Wac])];split
  .rename_i a b h1 h2;exact WhY (hl rfl x (by simp[Wac]) _ h1)
  .rfl
 |index t x i=>simp only[Waf,he x (by simp[Wac]),he i (by simp[Wac])]
 |extract t ix=>simp only[Waf,he t (by simp[Wac])]
 |makeFunc f first captured=>
  cases f with
  |func f=>simp only[Waf,WhV (st:=st) (an:=an) captured.toList λx hx=>he x (by simp[Wac];right;simpa using hx)]
  |_=>rfl
 |call c=>
  have aP:∀x∈c.args.toList,ev an x=ev st x:=λx hx=>he x (Xg _ hx);have mD:∀x∈c.args.toList,∀v,ev st x=some v->Wew st an v:=λx hx=>hl rfl x (Xg _ hx);simp only[Waf];split
  .rename_i x t _ ha _;rw[aP x (by rw[ha];simp)];exact Wcc λv hv=>WqO (mD x (by rw[ha];simp) v hv)
  .rename_i x y _ _ _ ha _;rw[aP x (by rw[ha];simp),aP y (by rw[ha];simp)]
  .rename_i x y _ _ _ ha _;rw[aP x (by rw[ha];simp),aP y (by rw[ha];simp)]
  .rfl
 |_=>rfl
end
end Go.Sx
