/- The abstract machine, part 2: a reflective interpreter of the program's code over data, with its soundness over the model. -/
import Derived.Test.YtjcmdagkabkicaaGreatEng1
open Bool renaming and_eq_true→Xi,not_eq_true'→Xaj,false_eq_true→Xai
open List renaming nodup_cons→Xac,getElem?_append_left→Xcj,getElem?_append_right→Xbx,ext_getElem?→Xdl,getElem?_eq_none→Xbq,replicate→Xp,prefix_refl→Xfp,nil_prefix→Xhe,prefix_append_right_inj→Xew,length_replicate→Xgj,append_nil→Xcq,getElem?_toArray→Xej,append_assoc→Xbf,getElem?_append→Xas,getElem?_take→Xbp,getElem?_drop→Xbo,getElem?_eq_some_iff→Xab,drop_drop→Xdq,take_append_drop→Xdo,length_take→Xbi,mem_cons_self→Xj,mem_cons_of_mem→Xf,mem_map_of_mem→Xan,pairwise_cons→Xy,mem_append_left→Xn,mem_append_right→Xg,length_append→Xaa,map_append→Xz,pairwise_append→Xah,mem_append→Xo,mem_map→Xw,mem_cons→Xs,getElem?_of_mem→Xdw,getElem?_eq_getElem→Xq,eq_nil_of_length_eq_zero→Xx,map_toArray→Xds,map_cons→Xaf,map_nil→Xcg,append→Xh,take_length→Xde,mem_singleton→Xag,length→Xb,append_inj→Xfz,length_map→Xu,mem_of_mem_take→Xco,mem_of_mem_drop→Xer,nodup_append→Xae,all_eq_true→Xad,nodup_nil→Xdd,length_drop→Xdv,sublist_append_right→Xfm,getElem?_map→Xak,all_cons→Xbr,mem_of_getElem?→Xar
open Array renaming range→Xci,foldl_toList→Xfd,length_toList→Xaq
open Nat renaming succ_mul→Xbs,mul_le_mul_right→Xaz,add_zero→Xbb,le_trans→Xal,zero_mul→Xep,le_refl→Xm,min_eq_left→Xce,add_assoc→Xba,lt_succ_self→Xbu,add_mul→Xcs,eq_of_beq_eq_true→Xcl,add_sub_cancel_left→Xbv,le_succ→Xdc
open Int renaming mul_le_mul_of_nonneg_right→Xet
open Option renaming map_eq_some_iff→Xt,map_some→Xca,bind_eq_some_iff→Xav,bind_some→Xd
namespace Go.Sx
set_option linter.unusedVariables false
set_option linter.unusedSimpArgs false
theorem Wdb:∀l:List Nat,Wby l=true↔l.Nodup
 | []=>by simp[Wby]
 |i::l=>by
  have h:=Whx i l;simp only[Wby,Xi,Xaj,Xac,Wdb l]
  grind
theorem Wsy{α:Type}(l:List α)(d:α):∀(n i:Nat),i<n*l.length->(rep l n)[i]?=some (l.getD (i%l.length) d)
 |0,i,h=>by simp at h
 |n+1,i,h=>by
  rw[rep];by_cases hi:i<l.length
  .grind [Xcj,Nat.mod_eq_of_lt,List.getD]
  .have dG:l.length<=i:=by omega
   rw[Xbx dG,Wsy l d n (i-l.length) (by grind)];rw[Nat.mod_eq_sub_mod dG]
theorem WgE(z:Array Value)(n:Nat):((Xci (n*z.size)).map λi=>z[i%z.size]!).toList=rep z.toList n:=by
 apply Xdl;intro i;by_cases hi:i<n*z.size
 .rw[Wsy z.toList default n i (by omega)]
  grind
 grind [Xbq,WmF]
section
variable{w0:World}{F:CS}{nt:Slots}{G0 G:GH}{ν:Nat->Nu}{objs:Waa}{nx:Nat}{st af:St}{a:Act}{w w':World}{P:Program}{T:Tab}
theorem WjJ(hh:HRel w0 F G ν objs nx w){e:Ty}(he:e.data=true):
  ∀(l:List (Nat×AVal)) (ps:List (Nat×Value)) (xs ys:List e.den) (vs:Array Value),Wd2 (Enc G e) xs vs.toList->ps.length=l.length->
   (∀(j:Nat) (p:Nat×AVal) (q:Nat×Value),l[j]?=some p->ps[j]?=some q->p.1=q.1/\AValRel G ν nx p.2 q.2)->Wrs e objs l xs=some ys->
   ∃au,Instr.fill (λi=>some (i*e.size,e.size)) vs ps=some au/\Wd2 (Enc G e) ys au.toList/\ys.length=xs.length
 | [],[],xs,ys,vs,hc,_,_,h=>by simp[Wrs]at h;subst h;exact⟨vs,rfl,hc,rfl⟩
 |(i,x)::l,[],_,_,_,_,hl,_,_=>by simp at hl
 | [],_::_,_,_,_,_,hl,_,_=>by simp at hl
 |(i,x)::l,(i',v)::ps,xs,ys,vs,hc,hl,hp,h=>by
  obtain⟨hi,hx⟩:=hp 0 _ _ rfl rfl;simp only at hi hx;subst hi;simp only[Wrs]at h;split at h
  .rename_i ds ij;split at h
   .rename_i d hf;split at h
    .rename_i ac;obtain⟨h1,_⟩:=WdM hx ij;have gD:=WmO hh h1 he hf;have ad:v.cells.toList.length=e.size:=W6 _ _ _ gD;have gi:vs.toList.length=xs.length*e.size:=Wd5 (λx c hc=>W6 e x c hc) _ _ hc;have cG:i*e.size+e.size<=xs.length*e.size:=by rw[←Xbs];exact Xaz _ ac
     have eU:=Wjl v.cells.toList (i*e.size) 0 vs (by simp_all);simp only[Xbb]at eU;have gE:=Wmq (λx c hc=>W6 e x c hc) xs vs.toList i d v.cells.toList hc ac gD;obtain⟨au,h4,h5,h6⟩:=WjJ hh he l ps (xs.set i d) ys _ (by rw[eU,ad];exact gE) (by simp_all) (λj p q hj hq=>hp (j+1) p q (by simp_all) (by simp_all)) h;refine⟨au,?_,h5,by grind⟩;simp only[Instr.fill];rw[Wc (by simp_all)];rw[←h4];congr 1;rw[←Xfd];simp
    grind
   grind
  grind
theorem WiH(hT:Waj P T)(hr:Rel w0 F nt G0 G ν st a w){o:Oper}(hd:∀d,o.dst=some d->nt.Ok d){t:TypeId}{n:Nat}{parts:Array (Nat×Operand)}(ho:o.op= .buildSlice t n parts)
  {ty:Ty} {et:TypeId} {te:TE} {ps:List (Nat×AVal)} {xs:List te.ty.den} (hl:Wp T t=some ⟨ty,false,.slice et⟩) (bg:Wp T et=some te)
  (h1:ps.length=parts.toList.length) (h2:∀(j:Nat) (p:Nat×AVal) (q:Nat×Operand),ps[j]?=some p->parts.toList[j]?=some q->p.1=q.1/\AValRel G ν st.nx p.2 (a.eval q.2))
  (hf:Wrs te.ty st.objs ps (Xp n te.ty.dflt)=some xs) (ct:n*te.ty.size<=16777216) (bq:te.ty.data=true) (hp:te.plain=true):
  Done P w0 F nt G0 o a w (st.new o.dst (.arr te.ty xs) (.s (.one (.own st.nx)))):=by
 have hu:=(hT _ _ hl).und.2.1;obtain⟨z,hz,eI⟩:=Wfi (w:=w) (hT _ _ bg);rw[WbJ hp]at eI;have iO:z.cells.size=te.ty.size:=by rw[←Xaq,eI,Wbq]
 have eV:=WgE z.cells n;rw[iO,eI]at eV;obtain⟨au,h3,h4,h5⟩:=WjJ hr.h bq ps (parts.toList.map λp=>(p.1,a.eval p.2)) _ xs ((Xci (n*te.ty.size)).map λi=>z.cells[i%te.ty.size]!) (by grind [Wg9]) (by simp[h1]) (λj p q hp hq=>by
   grind) hf
 have ik:xs.length=n:=by grind
 have fZ:=WbV te.ty;have hn:n<=16777216:=Xal (Nat.le_mul_of_pos_right n fZ) ct;have sy:au.size=n*te.ty.size:=by
  rw[←Xaq,Wd5 (λx c hc=>W6 te.ty x c hc) _ _ h4,ik]
 obtain⟨⟨ν',h6⟩,_⟩:=Wo0 (t:=et) (vs:=au) hr hd (e:=te.ty) bq (xs:=xs) (cap:=n) (cs:=au.toList) (by omega) (by unfold maxLen;omega) sy h4 (Xfp _) w rfl rfl rfl rfl;rw[ik]at h6;refine⟨_,_,_,G,ν',?_,.inl rfl,h6⟩;have iP:(parts.map λx=>match x with|(i,x)=>(i,a.eval x)).toList=parts.toList.map λp=>(p.1,a.eval p.2):=by simp
 simp only[execOp,ho,Instr.buildSlice,Sem.run_bind,Wl hu,Result.andThen_ok,(hT _ _ bg).sizeOf,WY hp,Wc (show¬n*te.ty.size>2^24 by omega),Sem.run_pure];by_cases h0:n*te.ty.size=0
 .have sA:n=0:=by rcases Nat.mul_eq_zero.1 h0 with h|h<;>omega
  have e1:((Xci (n*te.ty.size)).map λi=>z.cells[i%te.ty.size]!)= #[]:=by grind
  rw[e1]at h3;have e2:∀zz:Array Value,((Xci (n*te.ty.size)).map λi=>zz[i%zz.size]!)= #[]:=λzz=>by grind
  simp only[Wf h0,Sem.run_pure,Result.andThen_ok,e2,iP,h3,Wc3];rfl
 simp_all [Wc,Sem.run_bind,Result.andThen_ok,Sem.run_pure,Wc3]
theorem Wkb(hT:Waj P T)(hr:Rel w0 F nt G0 G ν st a w){o:Oper}(hd:∀d,o.dst=some d->nt.Ok d){t:TypeId}{n c:Operand}(ho:o.op= .makeSlice t n c)
  {ty:Ty} {et:TypeId} {te:TE} {n' c':Int} {k k':IntKind} (hl:Wp T t=some ⟨ty,false,.slice et⟩) (bg:Wp T et=some te) (hn:a.eval n= .int k n') (hc:a.eval c= .int k' c')
  (h0:0<=n') (h1:n'<=c') (h2:Wz c'.toNat=true) (bq:te.ty.data=true) (hp:te.plain=true):
  Done P w0 F nt G0 o a w (st.new o.dst (.arr te.ty (Xp n'.toNat te.ty.dflt)) (.s (.one (.own st.nx)))):=by
 have hu:=(hT _ _ hl).und.2.1;obtain⟨i,z,hi,hs,hz,eI,n7⟩:=(hT _ _ bg).info;rw[WbJ hp]at eI;rw[WY hp]at hs;have iO:z.cells.size=te.ty.size:=by rw[←Xaq,eI,Wbq]
 have ay:c'.toNat<=1073741824:=by simpa [Wz]using h2
 have eV:=WgE z.cells c'.toNat;rw[iO,eI]at eV;have tI:rep (WbG te.ty) n'.toNat<+:rep (WbG te.ty) c'.toNat:=by
  have:∀(l:List Value) (p q:Nat),rep l p<+:rep l (p+q):=λl p q=>by
   induction p with
   |zero=>exact Xhe
   |succ p ih=>grind [Nat.succ_add,rep,Xew]
  have h:=this (WbG te.ty) n'.toNat (c'.toNat-n'.toNat)
  rwa [show n'.toNat+(c'.toNat-n'.toNat)=c'.toNat by omega]at h
 have hb:(i.bytes:Int)*c'<=281474976710656:=by
  have h3:(i.bytes:Int)*c'<=4096*c':=Xet (by omega) (by omega);omega
 have hm:madeCells z.cells (c'.toNat*i.size)=(Xci (c'.toNat*te.ty.size)).map λi=>z.cells[i%te.ty.size]!:=by
  rw[hs,←iO];rfl
 obtain⟨⟨ν',h6⟩,_⟩:=Wo0 (t:=et) (vs:=(Xci (c'.toNat*te.ty.size)).map λi=>z.cells[i%te.ty.size]!) hr hd (e:=te.ty) bq (xs:=Xp n'.toNat te.ty.dflt) (cap:=c'.toNat) (cs:=rep (WbG te.ty) n'.toNat) (by simp;omega) (by unfold maxLen;omega)
  (by simp) (Wg9 bq _) (by simp_all) w rfl rfl rfl rfl
 rw[Xgj]at h6;refine⟨_,_,_,G,ν',?_,.inl rfl,h6⟩
 grind [execOp,Sem.run_bind,run_make,Result.andThen_ok,Sem.run_pure]
theorem Wis(hT:Waj P T)(hr:Rel w0 F nt G0 G ν st a w){o:Oper}(hd:∀d,o.dst=some d->nt.Ok d){t:TypeId}{n c:Operand}(ho:o.op= .makeSlice t n c)
  {ty:Ty} {et:TypeId} {te:TE} {e:Ty} {n' c':Int} {k k':IntKind} (hl:Wp T t=some ⟨ty,false,.slice et⟩) (bg:Wp T et=some te) (hn:a.eval n= .int k n') (hc:a.eval c= .int k' c')
  (h0:0<=n') (h1:n'<=c') (h2:Wz c'.toNat=true) (he:e.ro=te.ty) (hp:te.plain=true):
  Done P w0 F nt G0 o a w (st.new o.dst (.arr e (Xp n'.toNat e.dflt)) (.s (.one (.own st.nx)))):=by
 have hu:=(hT _ _ hl).und.2.1;obtain⟨i,z,hi,hs,hz,eI,n7⟩:=(hT _ _ bg).info;rw[WbJ hp]at eI;rw[WY hp]at hs;have qp:te.ty.size=e.size:=by rw[←he,WbI]
 have iO:z.cells.size=te.ty.size:=by rw[←Xaq,eI,Wbq]
 have ay:c'.toNat<=1073741824:=by simpa [Wz]using h2
 have eV:=WgE z.cells c'.toNat;rw[iO,eI]at eV;have tI:rep (WbG te.ty) n'.toNat<+:rep (WbG te.ty) c'.toNat:=by
  have:∀(l:List Value) (p q:Nat),rep l p<+:rep l (p+q):=λl p q=>by
   induction p with
   |zero=>exact Xhe
   |succ p ih=>grind [Nat.succ_add,rep,Xew]
  have h:=this (WbG te.ty) n'.toNat (c'.toNat-n'.toNat)
  rwa [show n'.toNat+(c'.toNat-n'.toNat)=c'.toNat by omega]at h
 have hb:(i.bytes:Int)*c'<=281474976710656:=by
  have h3:(i.bytes:Int)*c'<=4096*c':=Xet (by omega) (by omega);omega
 have hm:madeCells z.cells (c'.toNat*i.size)=(Xci (c'.toNat*te.ty.size)).map λi=>z.cells[i%te.ty.size]!:=by
  rw[hs,←iO];rfl
 obtain⟨⟨ν',h6⟩,_⟩:=Wif (t:=et) (vs:=(Xci (c'.toNat*te.ty.size)).map λi=>z.cells[i%te.ty.size]!) hr hd [] (e:=e) (xs:=Xp n'.toNat e.dflt) (cap:=c'.toNat) (cs:=rep (WbG te.ty) n'.toNat) (by simp;omega) (by unfold maxLen;omega)
  (by simp[qp]) (λφ _=>by
   obtain⟨ps,g1,g2⟩:=Wvj (G:=G) (w:=w) e n'.toNat;rw[he]at g1;exact⟨ps,g1,Wnx ps g2,λp hp b o hh=>by simp_all⟩) (by simp_all) w rfl rfl rfl rfl
 rw[Xgj]at h6;refine⟨_,_,_,G,ν',?_,.inl rfl,h6⟩
 grind [execOp,Sem.run_bind,run_make,Result.andThen_ok,Sem.run_pure]
theorem WmK(hT:Waj P T)(hr:Rel w0 F nt G0 G ν st a w){o:Oper}(hd:∀d,o.dst=some d->nt.Ok d){t:TypeId}{parts:Array (Nat×Operand)}{x:Operand}(ho:o.op= .buildSlice t 1 parts)(cy:parts.toList= [(0,x)])
  {ty:Ty} {et:TypeId} {te:TE} {e:Ty} {xv:AVal} {ds:List Cell} {d:e.den} {m:List Nat} (hl:Wp T t=some ⟨ty,false,.slice et⟩) (bg:Wp T et=some te) (hx:AValRel G ν st.nx xv (a.eval x)) (ij:Whe xv=some ds)
  (hf:Waw e ds st.objs=some (d,m,[])) (hm:m.Nodup) (he:e.ro=te.ty) (hp:te.plain=true) (ct:te.ty.size<=16777216):
  Done P w0 F nt G0 o a w (({env:=st.env,objs:=(st.nx,.arr e [d])::kill st.objs m,nx:=st.nx+1}:St).put o.dst (.s (.one (.own st.nx)))):=by
 have hu:=(hT _ _ hl).und.2.1;obtain⟨z,hz,eI⟩:=Wfi (w:=w) (hT _ _ bg);rw[WbJ hp]at eI;have qp:te.ty.size=e.size:=by rw[←he,WbI]
 have iO:z.cells.size=te.ty.size:=by rw[←Xaq,eI,Wbq]
 have eV:=WgE z.cells 1;rw[iO,eI]at eV;simp only[rep,Xcq,Nat.one_mul]at eV;obtain⟨h1,h2⟩:=WdM hx ij;have eU:∀φ,HR w0 F G ν φ st.objs st.nx w->∃ps,Wfa (Wy G w e) [d] (a.eval x).cells.toList ps/\Sep (ps.map Pc.fp)/\∀p∈ps,CS.le p.fp (FromL φ st.objs m):=λφ hφ=>by
  obtain⟨ns,g1,g2,g3,_⟩:=Wag (G':=G) hφ (λ_ _ _ hh=>hh) e ds _ d m [] h1 (λi hi=>by simp at hi) hm hf;exact⟨ns,Wqj.2 g1,g2,g3⟩
 have ad:(a.eval x).cells.size=e.size:=by
  obtain⟨φ,hφ⟩:=hr.h;obtain⟨ps,g1,_⟩:=eU φ hφ;have:=WH _ _ _ _ (Wqj.1 g1);simpa using this
 have yA:((Xci te.ty.size).map λi=>z.cells[i%te.ty.size]!).size=te.ty.size:=by simp
 have gE:=Wjl (a.eval x).cells.toList 0 0 ((Xci te.ty.size).map λi=>z.cells[i%te.ty.size]!) (by simp;omega);have qq:((Xci te.ty.size).map λi=>z.cells[i%te.ty.size]!).toList.length=e.size:=by simp[qp]
 have gi:((a.eval x).cells.toList.zipIdx.foldl (λcs (c,j)=>cs.setIfInBounds (0+j) c) ((Xci te.ty.size).map λi=>z.cells[i%te.ty.size]!)).toList=(a.eval x).cells.toList:=by
  rw[gE];simp only[Nat.zero_add,List.take_zero,List.nil_append];rw[List.drop_eq_nil_of_le (by rw[qq];simp;omega),Xcq]
 generalize hV:(a.eval x).cells.toList.zipIdx.foldl (λcs (c,j)=>cs.setIfInBounds (0+j) c) ((Xci te.ty.size).map λi=>z.cells[i%te.ty.size]!)=V at gi;have hVs:V.size=1*e.size:=by rw[←Xaq,gi];simp[ad]
 obtain⟨⟨ν',h6⟩,_⟩:=Wif (t:=et) (vs:=V) hr hd m (e:=e) (xs:=[d]) (cap:=1) (cs:=(a.eval x).cells.toList) (by simp) (by unfold maxLen;omega) hVs eU (by rw[gi];exact Xfp _) w rfl rfl rfl rfl;refine⟨_,_,_,G,ν',?_,.inl rfl,h6⟩;have qr:Instr.fill (λi=>some (i*te.ty.size,te.ty.size)) ((Xci te.ty.size).map λi=>z.cells[i%te.ty.size]!) [(0,a.eval x)]=some V:=by
  simp only[Instr.fill,Xep];rw[Wc (by simp;omega),←hV];congr 1;rw[←Xfd];simp
 have iP:(parts.map λx=>match x with|(i,x)=>(i,a.eval x)).toList= [(0,a.eval x)]:=by simp[cy]
 have fZ:=WbV te.ty;simp only[execOp,ho,Instr.buildSlice,Sem.run_bind,Wl hu,Result.andThen_ok,(hT _ _ bg).sizeOf,WY hp,Nat.one_mul,Wc (show¬te.ty.size>2^24 by omega),Wc (show¬te.ty.size=0 by omega),Sem.run_pure,hz,iO,iP,qr,Wc3];rfl
theorem WeL{t:TypeId}{te:TE}(bZ:TEok P T t te){b off:Nat}{v:Value}{cur:Array Value}{TT:TypeId}(hg:w.heap[b]?=some (.cells cur TT (0,0)))(ct:te.size=v.cells.size)(cG:off+v.cells.size<=cur.size)(h1:∀u∈v.cells.toList,u.oneCell'=true):
  (storeVar t ⟨b,off,none⟩ v).run P w= .ok () (w.setRow b (cur.toList.take off++v.cells.toList++cur.toList.drop (off+v.cells.size)).toArray):=by
 have h:=run_storeCells_at P b off TT v.cells.toList 0 cur w hg (by simpa using cG) h1;simp only[Xbb,Xaq]at h;simp[storeVar,bZ.sizeOf,ct,h]
theorem Wc8{b k:Nat}{vs:Array Value}{T:TypeId}{news:List Value}(h:w.heap[b]?=some (Obj.cells vs T (0,0)))(cG:k+news.length<=vs.size):
  WLe (rng b k news.length) w (w.setRow b (vs.toList.take k++news++vs.toList.drop (k+news.length)).toArray)/\Mem (w.setRow b (vs.toList.take k++news++vs.toList.drop (k+news.length)).toArray) b k news:=by
 have hk:(vs.toList.take k).length=k:=by simp;omega
 constructor
 .refine WLe.setRow h (by simp;omega) (λo hn=>?_);have sB:¬(k<=o/\o<k+news.length):=λ⟨h1,h2⟩=>hn ⟨rfl,h1,h2⟩;simp only[Xej,Xbf];rw[Xas,hk];split
  .rename_i ac;rw[Xbp,Wf ac];simp
  .rw[Xas];split
   .omega
   .rw[Xbo,show k+news.length+(o-k-news.length)=o by omega];simp
 .intro j v hj;rw[cell_of_row _ b _ _ T (0,0) (setRow_heap w b vs _ T (0,0) h)];have ac:j<news.length:=(Xab.1 hj).1;simp only[Xej,Xbf];rw[Xbx (by omega),hk,Xcj (by omega),show k+j-k=j by omega];exact hj
theorem Wfe{b o k:Nat}{vs us:List Value}(hm:Mem w b o vs)(hw:WLe (rng b (o+k) us.length) w w')(hu:Mem w' b (o+k) us)(hk:k+us.length<=vs.length):Mem w' b o (vs.take k++us++vs.drop (k+us.length)):=λj v hj=>by
 have hD:∀v',vs[j]?=some v'->¬(k<=j/\j<k+us.length)->w'.cell? ⟨b,o+j,none⟩=some v':=λv' hv hn=>by
  have h1:=hm j v' hv;rw[hw.cell b (o+j) (block_lt_of_cell h1) (λ⟨_,h2,h3⟩=>hn ⟨by omega,by omega⟩)];exact h1
 have jZ:(vs.take k).length=k:=by simp;omega
 rw[Xbf,Xas,jZ]at hj;split at hj
 .rename_i ac;rw[Xbp,Wf ac]at hj;exact hD v hj (by omega)
 .rw[Xas]at hj;split at hj
  .have:=hu (j-k) v hj;rw[show o+j=o+k+(j-k) by omega];exact this
  .rw[Xbo,show k+us.length+(j-k-us.length)=j by omega]at hj;exact hD v hj (by omega)
theorem HR.turn{φ:Nat->CS}(h:HR w0 F G ν φ objs nx w){id:Nat}{ob dh:Ob}{m:List Nat}(ho:Wp objs id=some ob)(hd:ob≠ .dead){S:CS}(hw:WLe S w w')(hs:CS.le S (φ id))
  (dg:WcP G ν nx w' id (λb o=>φ id b o\/FromL φ objs m b o) dh):HRel w0 F G ν ((id,dh)::kill objs m) nx w':=by
 have hl:Live objs id:=⟨ob,ho,hd⟩;exact⟨_,h.put (ν':=ν) (λ_ _=>rfl) (Xm _) (h.lt id hl) (hw.mono λb o hh=>⟨id,.inl rfl,hl,hs b o hh⟩) (λb o hh=>by
  rcases hh with hh|⟨i,hi,h1,h2⟩
  .exact .inl ⟨id,.inl rfl,hl,hh⟩
  .exact .inl ⟨i,.inr hi,h1,h2⟩) (λ_=>dg)⟩
theorem WqP(hT:Waj P T)(hr:Rel w0 F nt G0 G ν st a w){o:Oper}{t:TypeId}{x y:Operand}(ho:o.op= .store t x y)(jI:o.dst=none){p v:AVal}(hx:AValRel G ν st.nx p (a.eval x))(hy:AValRel G ν st.nx v (a.eval y))
  (h:Wda T st t p v=some af):Done P w0 F nt G0 o a w af:=by
 unfold Wda at h;split at h
 .rename_i te id off ds hl ij;obtain⟨iQ,mK⟩:=WdM hy ij;split at h
  .rename_i cs aH;split at h
   .rename_i bL;simp only[Xi,Wi]at bL;obtain⟨⟨hs,fy⟩,cG⟩:=bL;injection h with h;subst h;obtain⟨⟨_,b,hb,jJ⟩,_⟩:=hx;obtain⟨φ,hφ⟩:=hr.h;obtain⟨b',vs,cJ,⟨row,TT,gF,bi⟩,aM,bV,fU⟩:=hφ.ob _ _ aH;rw[hb]at cJ;injection cJ with cJ;subst cJ;have ad:(a.eval y).cells.size=ds.length:=by have:=iQ.1;simpa using this
    have bm:=WeL (w:=w) (hT _ _ hl) (b:=b) (off:=(ν id).off+off) (v:=a.eval y) gF (by rw[WY fy,ad];exact hs) (by omega) mK;obtain⟨hw,hm⟩:=Wc8 (k:=(ν id).off+off) (news:=(a.eval y).cells.toList) gF (by simp;omega);simp only[Xaq]at hw hm;generalize w.setRow b (row.toList.take ((ν id).off+off)++(a.eval y).cells.toList++row.toList.drop ((ν id).off+off+(a.eval y).cells.size)).toArray=W at bm hw hm;have dg:HRel w0 F G ν ((id,.box (Weu cs off ds))::st.objs) st.nx W:=by
     refine hφ.turn (m:=[]) aH (by simp) hw (λb' o ⟨e,h1,h2⟩=>fU b' o ⟨e,by omega,by omega⟩) ?_;refine⟨b,_,hb,by rw[Wfq cG];exact hw.rows.row _ _ ⟨row,TT,gF,bi⟩,Wfe aM (us:=(a.eval y).cells.toList) (by rw[Xaq];exact hw) hm (by rw[bV.1];simp;omega),Wfk bV iQ,λb o hh=>.inl (fU b o (by rw[Wfq cG]at hh;exact hh))⟩
    refine⟨.skip,undef,W,G,ν,?_,.inr ⟨rfl,rfl⟩,?_⟩
    .simp only[execOp,ho,jJ,Instr.storeAt,Instr.sureAddr,Sem.run_bind,Sem.run_pure,Result.andThen_ok,bm]
    .rw[jI];exact hr.on (λ_ _ _ hh=>hh) (λ_ _=>rfl) (Xm _) dg hr.gx
   .simp at h
  .simp at h
 .rename_i te id i off ds hl ij;obtain⟨iQ,mK⟩:=WdM hy ij;split at h
  .rename_i e xs aH;split at h
   .rename_i bL;simp only[Xi,Wi]at bL;obtain⟨⟨⟨hs,fy⟩,cG⟩,bq⟩:=bL;split at h
    .rename_i d hf;injection h with h;subst h;obtain⟨⟨_,tJ,b,hb,jJ⟩,_⟩:=hx;obtain⟨φ,hφ⟩:=hr.h;have aT:WbP w (Wy G w e) e.size (ν id) xs (φ id):=hφ.ob _ _ aH;obtain⟨ik,h4,h5,kL,cs,h7,h8,h9⟩:=WdV bq aT hb;obtain⟨row,TT,gF,bi⟩:=kL;have cF:=aT.2.1;have ac:i<xs.length:=by omega
     have ad:(a.eval y).cells.toList.length=ds.length:=iQ.1;have dZ:(a.eval y).cells.size=ds.length:=by simpa using ad
     have c7:cs.length=xs.length*e.size:=Wd5 (λx c hc=>W6 e x c hc) _ _ h7;have yB:i*e.size+e.size<=xs.length*e.size:=by rw[←Xbs];exact Xaz _ ac
     have yC:xs.length*e.size<=(ν id).cap*e.size:=Xaz _ h4;have qs:=Wni (λx c hc=>W6 e x c hc) xs cs i e.dflt h7 ac;have tK:=Wfk (off:=off) (WaO (G:=G) (ν:=ν) (nx:=st.nx) e _ _ qs) iQ;have gD:=WmO hr.h tK bq hf;have gE:=Wmq (λx c hc=>W6 e x c hc) xs cs i d _ h7 ac gD;have bm:=WeL (w:=w) (hT _ _ hl) (b:=b) (off:=(ν id).off+(i*e.size+off)) (v:=a.eval y) gF (by rw[WY fy];omega) (by omega) mK;obtain⟨hw,hm⟩:=Wc8 (k:=(ν id).off+(i*e.size+off)) (news:=(a.eval y).cells.toList) gF (by omega);simp only[Xaq]at hw hm;generalize w.setRow b (row.toList.take ((ν id).off+(i*e.size+off))++(a.eval y).cells.toList++row.toList.drop ((ν id).off+(i*e.size+off)+(a.eval y).cells.size)).toArray=W at bm hw hm;have oa:cs.take (i*e.size+off)++(a.eval y).cells.toList++cs.drop (i*e.size+off+(a.eval y).cells.toList.length)=
       cs.take (i*e.size)++(((cs.drop (i*e.size)).take e.size).take off++(a.eval y).cells.toList++((cs.drop (i*e.size)).take e.size).drop (off+(a.eval y).cells.toList.length))++cs.drop (i*e.size+e.size):=by
      rw[ad];have e1:cs.take (i*e.size+off)=cs.take (i*e.size)++((cs.drop (i*e.size)).take e.size).take off:=by
       rw[List.take_take,Xce (by omega),←List.take_add]
      have e2:cs.drop (i*e.size+off+ds.length)=((cs.drop (i*e.size)).take e.size).drop (off+ds.length)++cs.drop (i*e.size+e.size):=by
       rw[List.drop_take,Xdq];have:cs.drop (i*e.size+e.size)=(cs.drop (i*e.size+(off+ds.length))).drop (e.size-(off+ds.length)):=by rw[Xdq];congr 1;omega
       rw[this,Xdo];congr 1;omega
      rw[e1,e2];simp
     have dg:HRel w0 F G ν ((id,.arr e (xs.set i d))::st.objs) st.nx W:=by
      refine hφ.turn (m:=[]) aH (by simp) hw (λb' o ⟨e',h1,h2⟩=>h9 b' o ⟨e',by omega,by omega⟩) ?_;refine Wof bq hb (by simpa using ik) cF (by simpa using h4) h5 (hw.rows.row _ _ ⟨row,TT,gF,bi⟩) gE ?_ (λb o hh=>.inl (h9 b o hh));rw[←oa];exact Wfe h8 (us:=(a.eval y).cells.toList) (by rw[Xaq];exact hw) hm (by omega)
     refine⟨.skip,undef,W,G,ν,?_,.inr ⟨rfl,rfl⟩,?_⟩
     .simp only[execOp,ho,jJ,cF,Instr.storeAt,Instr.sureAddr,Sem.run_bind,Sem.run_pure,Result.andThen_ok,bm]
     .rw[jI];exact hr.on (λ_ _ _ hh=>hh) (λ_ _=>rfl) (Xm _) dg hr.gx
    .simp at h
   .split at h
    .rename_i bL;simp only[Xi,Wi]at bL;obtain⟨⟨⟨hs,fy⟩,tL⟩,yD⟩:=bL;subst tL;split at h
     .rename_i d m hf;split at h
      .rename_i bh;injection h with h;subst h;have bh:(id::m).Nodup:=(Wdb _).1 bh;obtain⟨sD,yE⟩:=Xac.1 bh;obtain⟨⟨_,tJ,b,hb,jJ⟩,_⟩:=hx;obtain⟨φ,hφ⟩:=hr.h;have aT:WbP w (Wy G w e) e.size (ν id) xs (φ id):=hφ.ob _ _ aH;have aS:Live st.objs id:=⟨_,aH,by simp⟩;obtain⟨ik,cF,h3⟩:=aT;simp only[hb]at h3;obtain⟨h4,h5,kL,cs,ps,h7,h8,h9,cS⟩:=h3;obtain⟨row,TT,gF,bi⟩:=kL;have ac:i<xs.length:=by omega
       have ad:(a.eval y).cells.toList.length=ds.length:=iQ.1;have dZ:(a.eval y).cells.size=ds.length:=by simpa using ad
       have yB:i*e.size+e.size<=xs.length*e.size:=by rw[←Xbs];exact Xaz _ ac
       have yC:xs.length*e.size<=(ν id).cap*e.size:=Xaz _ h4;obtain⟨c1,c,c2,p1,pc,p2,g1,g2,g3,g4,g5⟩:=Wpj h7 e.dflt ac;have l1:=Wa5 (λx c q hx=>WH e x c q hx) _ _ _ g3;rw[Xbi,Xce (by omega)]at l1;have lc:=WH _ _ _ _ g4;obtain⟨ns,t1,t2,t3,t4,_⟩:=Wag (G':=G) hφ (λ_ _ _ hh=>hh) e ds _ d m [] iQ (λi hi=>by simp at hi) yE hf;have bm:=WeL (w:=w) (hT _ _ hl) (b:=b) (off:=(ν id).off+(i*e.size+0)) (v:=a.eval y) gF (by rw[WY fy];omega) (by omega) mK;obtain⟨hw,hm⟩:=Wc8 (k:=(ν id).off+(i*e.size+0)) (news:=(a.eval y).cells.toList) gF (by omega);simp only[Xaq]at hw hm;generalize w.setRow b (row.toList.take ((ν id).off+(i*e.size+0))++(a.eval y).cells.toList++row.toList.drop ((ν id).off+(i*e.size+0)+(a.eval y).cells.size)).toArray=W at bm hw hm;have iS:CS.le (rng b ((ν id).off+(i*e.size+0)) (a.eval y).cells.size) (rng b (ν id).off ((ν id).cap*e.size)):=λb' o ⟨e',k1,k2⟩=>⟨e',by omega,by omega⟩;have hI:=cS _ (Xj ..);have g0:∀p∈p1++(pc++p2),∀b o,p.fp b o->b<w.heap.size:=λp hp b o hh=>hφ.bl id b o aS (cS p.fp (Xf _ (Xan (by rw[g2];exact hp))) b o hh);obtain⟨q1,q2⟩:=Xy.1 h9;have jq:∀p∈p1++(pc++p2),Same p.fp w W:=λp hp=>hw.same ((q1 p.fp (Xan (by rw[g2];exact hp))).mono iS (λ_ _ hh=>hh)) (g0 p hp);have kM:∀p∈ns,Same p.fp w W:=λp hp=>hw.same (λb o k1 k2=>by
        obtain⟨j,hj,k3,k4⟩:=t3 p hp b o k2;have:=hφ.inj id j b o aS k3 (hI b o (iS b o k1)) k4;subst this;exact sD hj) (λb o hh=>by
        obtain⟨j,hj,k3,k4⟩:=t3 p hp b o hh;exact hφ.bl j b o k3 k4)
       have hEnc:Wfa (Wy G W e) (xs.set i d) (c1++((a.eval y).cells.toList++c2)) (p1++(ns++p2)):=by
        refine Wp9 ac ?_ (WaE (λ_ _ _ hh=>hh) e _ _ _ kM t1) ?_
        .exact WbZ (Q:=λq=>Same q.fp w W) (λx c q hq hx=>WaE (λ_ _ _ hh=>hh) e x c q hq hx) _ _ _ (λq hq=>jq q (Xn _ hq)) g3
        .exact WbZ (Q:=λq=>Same q.fp w W) (λx c q hq hx=>WaE (λ_ _ _ hh=>hh) e x c q hq hx) _ _ _ (λq hq=>jq q (Xg _ (Xg _ hq))) g5
       have hMem:Mem W b (ν id).off (c1++((a.eval y).cells.toList++c2)):=by
        have:=Wfe h8 (k:=i*e.size+0) (us:=(a.eval y).cells.toList) (by rw[Xaq];exact hw) hm (by rw[g1];simp;omega);rw[g1,Xbb,List.take_append_of_le_length (by omega),List.take_of_length_le (by omega)]at this;have qu:(c1++(c++c2)).drop (i*e.size+(a.eval y).cells.toList.length)=c2:=by
         rw[←Xbf,show i*e.size+(a.eval y).cells.toList.length=(c1++c).length by rw[Xaa];omega,List.drop_left]
        rw[qu,Xbf]at this;exact this
       have dg:HRel w0 F G ν ((id,.arr e (xs.set i d))::kill st.objs m) st.nx W:=by
        refine hφ.turn aH (by simp) hw (λb' o hh=>hI b' o (iS b' o hh)) ?_;refine⟨by simpa using ik,cF,?_⟩;simp only[hb];rw[g2,Xz,Xz]at q2 q1;have qA:=Xah.1 q2;have qB:=Xah.1 qA.2.1;have tM:∀p∈ns,∀s,CS.le s (φ id)->CS.disj p.fp s:=λp hp s hs b o k1 k2=>by
         obtain⟨j,hj,k3,k4⟩:=t3 p hp b o k1;have:=hφ.inj id j b o aS k3 (hs b o k2) k4;subst this;exact sD hj
        have cy:∀p∈p1++(pc++p2),CS.le p.fp (φ id):=λp hp=>cS p.fp (Xf _ (Xan (by rw[g2];exact hp)));refine⟨by simpa using h4,h5,hw.rows.row _ _ ⟨row,TT,gF,bi⟩,_,p1++(ns++p2),hEnc,hMem,Xy.2 ⟨λs hs=>?_,?_⟩,λs hs=>?_⟩
        .simp only[Xz,Xo]at hs;rcases hs with hs|hs|hs
         .exact q1 s (Xn _ hs)
         .obtain⟨p,hp,rfl⟩:=Xw.1 hs;exact(tM p hp _ hI).symm
         .exact q1 s (Xg _ (Xg _ hs))
        .rw[Xz,Xz];refine WmN (Xah.2 ⟨qA.1,qB.2.1,λs hs t ht=>qA.2.2 s hs t (Xg _ ht)⟩) t2 (λs hs t ht=>?_);obtain⟨p,hp,rfl⟩:=Xw.1 hs;rcases Xo.1 ht with ht|ht
         .obtain⟨q,hq,rfl⟩:=Xw.1 ht;exact tM p hp _ (cy q (Xn _ hq))
         .obtain⟨q,hq,rfl⟩:=Xw.1 ht;exact tM p hp _ (cy q (Xg _ (Xg _ hq)))
        .intro b o hh;rcases Xs.1 hs with rfl|hs
         .exact .inl (hI b o hh)
         .simp only[Xz,Xo]at hs;rcases hs with hs|hs|hs
          .obtain⟨q,hq,rfl⟩:=Xw.1 hs;exact .inl (cy q (Xn _ hq) b o hh)
          .obtain⟨q,hq,rfl⟩:=Xw.1 hs;exact .inr (t3 q hq b o hh)
          .obtain⟨q,hq,rfl⟩:=Xw.1 hs;exact .inl (cy q (Xg _ (Xg _ hq)) b o hh)
       refine⟨.skip,undef,W,G,ν,?_,.inr ⟨rfl,rfl⟩,?_⟩
       .simp only[execOp,ho,jJ,cF,Instr.storeAt,Instr.sureAddr,Sem.run_bind,Sem.run_pure,Result.andThen_ok,bm]
       .rw[jI];exact hr.on (λ_ _ _ hh=>hh) (λ_ _=>rfl) (Xm _) dg hr.gx
      .simp at h
     .simp at h
    .simp at h
  .simp at h
 .simp at h
end
end Go.Sx
namespace Go.Sx
set_option linter.unusedVariables false
set_option linter.unusedSimpArgs false
theorem WvV{G:GH}(t:Ty)(d:t.den)(cs:List Value)(h:Enc G t d cs):∀u∈cs,u.oneCell'=true:=λu hu=>by
 obtain⟨j,hj⟩:=Xdw hu;have hc:=WaO (ν:=λ_=>⟨none,0,0,0,0⟩) (nx:=0) t d cs h;have ac:j<(split t d).length:=by rw[←hc.1];grind
 exact(hc.2 j _ u (Xq ac) hj).2
theorem Wqe{G:GH}{t:Ty}:∀(l:List t.den) (cs:List Value),Wd2 (Enc G t) l cs->∀u∈cs,u.oneCell'=true
 | [],cs,h,u,hu=>by grind [Wd2]
 |x::l,cs,⟨c1,c2,he,h1,h2⟩,u,hu=>by
  subst he;rcases Xo.1 hu with hu|hu
  .grind [WvV]
  .exact Wqe l c2 h2 u hu
theorem Wsc{G:GH}{w:World}(t:Ty)(d:t.den)(cs:List Value)(ps:List Pc)(h:Wy G w t d cs ps):∀u∈cs,u.oneCell'=true:=λu hu=>by
 obtain⟨j,hj⟩:=Xdw hu;have hc:=Wim (ν:=λ_=>⟨none,0,0,0,0⟩) (nx:=0) t d cs ps h;have ac:j<(split t d).length:=by rw[←hc.1];grind
 exact(hc.2 j _ u (Xq ac) hj).2
theorem WnM{G:GH}{w:World}{t:Ty}:∀(l:List t.den) (cs:List Value) (ps:List Pc),Wfa (Wy G w t) l cs ps->∀u∈cs,u.oneCell'=true
 | [],cs,ps,h,u,hu=>by rw[h.1]at hu;simp at hu
 |x::l,cs,ps,⟨c1,c2,p1,p2,he,hp,h1,h2⟩,u,hu=>by
  subst he;rcases Xo.1 hu with hu|hu
  .grind [Wsc]
  .exact WnM l c2 p2 h2 u hu
section
variable{w0:World}{F:CS}{nt:Slots}{G0 G:GH}{ν:Nat->Nu}{φ:Nat->CS}{objs:Waa}{nx:Nat}{st af:St}{a:Act}{w w':World}{P:Program}{T:Tab}
structure Src(w0:World)(F:CS)(G:GH)(ν:Nat->Nu)(st:St)(w:World)(e:Ty)(l:List e.den)(m:List Nat)(v:Value)(news:List Value):Prop where
 enc:∀φ,HR w0 F G ν φ st.objs st.nx w->∃ps,Wfa (Wy G w e) l news ps/\Sep (ps.map Pc.fp)/\∀p∈ps,CS.le p.fp (FromL φ st.objs m)
 rd:(v= .slice none 0 0/\l= [])\/∃(p:Addr) (c:Nat),v= .slice (some p) l.length c/\∀(j:Nat) (u:Value),news[j]?=some u->w.cell? (p.add j)=some u
theorem Wc1{e:Ty}(he:e.data=true){l:List e.den}{m:List Nat}{v:Value}{news:List Value}(h:Wd2 (Enc G e) l news)
  (rd:(v= .slice none 0 0/\l= [])\/∃(p:Addr) (c:Nat),v= .slice (some p) l.length c/\∀(j:Nat) (u:Value),news[j]?=some u->w.cell? (p.add j)=some u):Src w0 F G ν st w e l m v news:=
 ⟨λφ _=>⟨[],(Wcr he l news []).2 ⟨h,rfl⟩,List.Pairwise.nil,by simp⟩,rd⟩
theorem Wjr(hr:Rel w0 F nt G0 G ν st a w){e:Ty}(he:e.data=true){x:AVal}{u:Value}{l:List e.den}(m:List Nat)(hx:AValRel G ν st.nx x u)(h:Wv2 st e x=some l):∃news,Src w0 F G ν st w e l m u news:=by
 unfold Wv2 at h;split at h
 .rename_i e' d';obtain⟨mL,hd⟩:=Way h;subst mL;simp only at hd;subst hd;obtain⟨⟨v,hv,hs⟩,_⟩:=hx;simp at hv;subst hv;rcases hs with⟨rfl,hn⟩|⟨b,off,cap,cs,rfl,h1,h2,h3,h4⟩|⟨a',cap,rfl,hn⟩
  rotate_left 2
  .exact⟨[],Wc1 he (by rw[hn];rfl) (.inr ⟨a',cap,by grind,λj u hj=>by simp at hj⟩)⟩
  .exact⟨[],Wc1 he (by rw[hn];rfl) (.inl ⟨rfl,hn⟩)⟩
  .exact⟨cs,Wc1 he h3 (.inr ⟨⟨b,off,none⟩,cap,rfl,λj u hj=>by rw[Wa1];exact hr.h.g (h4 j u hj)⟩)⟩
 .injection h with h;subst h;obtain⟨hv,_⟩:=hx;simp only[CellRel]at hv;subst hv;exact⟨[],Wc1 he rfl (.inl ⟨rfl,rfl⟩)⟩
 .rename_i id;split at h
  .rename_i e' xs ho;obtain⟨mL,hd⟩:=Way h;subst mL;simp only at hd;subst hd;obtain⟨⟨_,hv⟩,_⟩:=hx;subst hv;obtain⟨S,aH⟩:=hr.h.obj ho;unfold Nu.hdr;cases hb:(ν id).blk with
   |none=>have:=Wcx aH hb;exact⟨[],Wc1 he (by rw[this];rfl) (.inl ⟨rfl,this⟩)⟩
   |some b=>
    obtain⟨h1,h2,h3,h4,cs,h5,h6,h7⟩:=WdV he aH hb;exact⟨cs,Wc1 he h5 (.inr ⟨⟨b,(ν id).off,none⟩,(ν id).cap,by rw[h1],λj u hj=>by rw[Wa1];exact h6 j u hj⟩)⟩
  grind
 .rename_i id lo hi;split at h
  .rename_i e' xs ho;obtain⟨ys,hc,h⟩:=Xt.1 h;subst h;obtain⟨mL,hd⟩:=Way hc;subst mL;simp only at hd;subst hd;obtain⟨⟨_,g1,g2,g3,hv⟩,_⟩:=hx;subst hv;obtain⟨S,aH⟩:=hr.h.obj ho;have cF:=aH.2.1;have wT:=aH.1;unfold Nu.vhdr;cases hb:(ν id).blk with
   |none=>
    have:=Wcx aH hb;subst this;exact⟨[],Wc1 he (by simp;rfl) (.inl ⟨rfl,by simp⟩)⟩
   |some b=>
    obtain⟨h1,h2,h3,h4,cs,h5,h6,h7⟩:=WdV he aH hb;have hl:((xs.take hi).drop lo).length=hi-lo:=by simp;omega
    by_cases tN:(ν id).cap=lo
    .have h0:(xs.take hi).drop lo= []:=Xx (by omega);exact⟨[],Wc1 he (by rw[h0];rfl) (.inr ⟨_,_,by rw[hl],λj u hj=>by simp at hj⟩)⟩
    .refine⟨(cs.take (hi*e'.size)).drop (lo*e'.size),Wc1 he (We7 (λx c hc=>W6 e' x c hc) _ _ lo (We4 (λx c hc=>W6 e' x c hc) _ _ hi h5)) (.inr ⟨_,_,by rw[hl,Wc tN],λj u hj=>?_⟩)⟩;rw[Xbo,Xbp]at hj;rw[Wa1,cF,Xba];split at hj
     .exact h6 _ u hj
     grind
  grind
 grind
theorem WrX(hr:Rel w0 F nt G0 G ν st a w){dst:Option Tmp}(hd:∀d,dst=some d->nt.Ok d)(e:Ty)(m:List Nat):
  ∃ν',Rel w0 F nt G0 G ν' (({env:=st.env,objs:=(st.nx,.arr e [])::kill st.objs m,nx:=st.nx+1}:St).put dst (.s (.one (.own st.nx)))) (a.put dst (.slice none 0 0)) w:=by
 refine⟨upd ν st.nx ⟨none,0,0,0,e.size⟩,hr.fresh hd m (.arr e []) _ (λ_ _ _=>False) _ _ (λφ _=>WLe.refl _ w) (λφ _ b o hh=>hh.elim) (λφ _=>?_) ⟨⟨Xbu _,by rw[Wbx];rfl⟩,rfl⟩⟩;show WbP _ _ _ (upd ν st.nx ⟨none,0,0,0,e.size⟩ st.nx) _ _;rw[Wbx];exact⟨rfl,rfl,rfl⟩
theorem Wiz(t ty e TT:TypeId)(i:TypeInfo)(ht:P.underlying t=some (.slice e))(hi:P.info? e=some i)
  (g off sLen sCap:Nat) (cur:Array Value) (hg:w.heap[g]?=some (.cells cur TT (0,0)))
  (p:Addr) (m c:Nat) (news:List Value) (hl:news.length=m*i.size) (qv:∀j u,news[j]?=some u->w.cell? (p.add j)=some u) (h1:∀u∈news,u.oneCell'=true)
  (ay:sLen+m<=sCap) (cG:off+sLen*i.size+news.length<=cur.size):
  (Builtin.append_ #[t,t] ty #[.slice (some ⟨g,off,none⟩) sLen sCap,.slice (some p) m c]).run P w=
   .ok (.slice (some ⟨g,off,none⟩) (sLen+m) sCap) (w.setRow g (cur.toList.take (off+sLen*i.size)++news++cur.toList.drop (off+sLen*i.size+news.length)).toArray):=by
 have hf:=run_firstCells_some (P:=P) w i.size m p m c news hl qv;have bv:=run_storeCells_at P g (off+sLen*i.size) TT news 0 cur w hg (by omega) h1;simp only[Xbb]at bv;simp[Builtin.append_,Wl ht,sizeOf,typeInfo,hi,Builtin.lenOf,ay,hf,Wa1,bv]
theorem We6(t ty e:TypeId)(i:TypeInfo)(ht:P.underlying t=some (.slice e))(hi:P.info? e=some i)(base:Option Addr)(n cap:Nat)(h:n<=cap):
  (Builtin.append_ #[t,t] ty #[.slice base n cap,.slice none 0 0]).run P w= .ok (.slice base n cap) w:=by
 cases base<;>simp[Builtin.append_,Wl ht,sizeOf,typeInfo,hi,Builtin.lenOf,h,Builtin.firstCells,storeCells]
theorem WiR(t ty e:TypeId)(i:TypeInfo)(ht:P.underlying t=some (.slice e))(hi:P.info? e=some i)(p:Addr)(c:Nat):
  (Builtin.append_ #[t,t] ty #[.slice none 0 0,.slice (some p) 0 c]).run P w= .ok (.slice none 0 0) w:=by
 simp[Builtin.append_,Wl ht,sizeOf,typeInfo,hi,Builtin.lenOf,Builtin.firstCells,loadCells,loadCellsFrom]
theorem Wcf{o:Oper}{c:Call}(ho:o.op= .call c){s x:Operand}{t:TypeId}(hc:c.callee= .builtin .append)(ha:c.args.toList= [s,x])(dV:c.argTypes.toList= [t,t]){v:Value}
  (bm:(Builtin.append_ #[t,t] o.type #[a.eval s,a.eval x]).run P w= .ok v w'):(execOp a.eval o).run P w= .ok (.value v) w':=by
 obtain⟨callee,args,argTypes⟩:=c;obtain⟨args⟩:=args;obtain⟨argTypes⟩:=argTypes;simp only at hc ha dV;subst hc ha dV;simp only[execOp,ho,resolve,invoke,builtin,Sem.run_bind,Sem.run_pure,Result.andThen_ok,Xds,Xaf,Xcg,bm]
theorem Wvr(w:World)(need old:Nat)(e:TypeId)(h:Wz need=true):need<=grownCap w need old e/\grownCap w need old e<=maxLen:=
 ⟨grownCap_ge w need old e,grownCap_le_maxLen w need old e (by grind [Wz,maxLen])⟩
theorem WkB(hr:Rel w0 F nt G0 G ν st a w){dst:Option Tmp}(hd:∀d,dst=some d->nt.Ok d)(m:List Nat){e:Ty}{xs:List e.den}{cs:List Value}(hl:cs.length=xs.length*e.size)
  (hc:∀φ,HR w0 F G ν φ st.objs st.nx w->∃ps,Wfa (Wy G w e) xs cs ps/\Sep (ps.map Pc.fp)/\∀p∈ps,CS.le p.fp (FromL φ st.objs m)) {cap:Nat} (iL:xs.length<=cap) (jK:cap<=maxLen) (z:Array Value) (hz:z.size=e.size) (t:TypeId):
  ∃ν',Rel w0 F nt G0 G ν' (({env:=st.env,objs:=(st.nx,.arr e xs)::kill st.objs m,nx:=st.nx+1}:St).put dst (.s (.one (.own st.nx)))) (a.put dst (.slice (some ⟨w.heap.size,0,none⟩) xs.length cap)) (w.drew.alloc (.cells (cs.toArray++Builtin.zeroCells z (cap-xs.length)) t)):=by
 refine(Wif hr hd m (e:=e) (xs:=xs) (cap:=cap) (cs:=cs) (vs:=cs.toArray++Builtin.zeroCells z (cap-xs.length)) (t:=t) iL jK ?_ hc ?_ w.drew rfl rfl rfl rfl).1
 .simp only[Array.size_append,List.size_toArray,size_zeroCells,hz,hl,←Xcs];simp_all
 .simp
structure ElT(P:Program)(t et:TypeId)(e:Ty):Prop where
 u:P.underlying t=some (.slice et)
 i:∃i z,P.info? et=some i/\i.size=e.size/\i.zero=some z/\z.cells.size=e.size/\i.bytes<=4096
theorem elT(hT:Waj P T){t et:TypeId}{ty:Ty}{ag:Bool}{te:TE}{e:Ty}(hl:Wp T t=some ⟨ty,ag,.slice et⟩)(bg:Wp T et=some te)(hp:te.plain=true)(he:te.ty.size=e.size):ElT P t et e:=by
 obtain⟨i,z,hi,ct,hz,eI,n7⟩:=(hT _ _ bg).info;rw[WY hp]at ct;rw[WbJ hp]at eI;exact⟨(hT _ _ hl).und.2.1,i,z,hi,by rw[ct,he],hz,by rw[←Xaq,eI,Wbq,he],n7⟩
theorem Wbu(hr:Rel w0 F nt G0 G ν st a w){o:Oper}(hd:∀d,o.dst=some d->nt.Ok d){c:Call}{s x:Operand}{t et:TypeId}{e:Ty}(hE:ElT P t et e)
  (ho:o.op= .call c) (hc:c.callee= .builtin .append) (ha:c.args.toList= [s,x]) (dV:c.argTypes.toList= [t,t]) (d6:a.eval s= .slice none 0 0)
  {l:List e.den} {m m':List Nat} {news:List Value} (hx:Src w0 F G ν st w e l m (a.eval x) news) (hm:∀i∈m,i∈m') (ay:Wz l.length=true):
  Done P w0 F nt G0 o a w (({env:=st.env,objs:=(st.nx,.arr e l)::kill st.objs m',nx:=st.nx+1}:St).put o.dst (.s (.one (.own st.nx)))):=by
 obtain⟨hu,i,z,hi,ct,hz,iO,n7⟩:=hE;have tO:l.length<=1073741824:=by grind [Wz]
 have fZ:=WbV e;rcases hx.rd with⟨aN,bR⟩|⟨pa,cc,aN,bE⟩
 .subst bR;obtain⟨ν',hh⟩:=WrX hr hd e m';exact⟨_,_,_,G,ν',Wcf ho hc ha dV (by simp_all [We6,Xm]),.inl rfl,hh⟩
 .by_cases h0:l.length=0
  .have bR:l= []:=Xx h0;subst bR;obtain⟨ν',hh⟩:=WrX hr hd e m';exact⟨_,_,_,G,ν',Wcf ho hc ha dV (by grind [WiR]),.inl rfl,hh⟩
  .obtain⟨φ,hφ⟩:=hr.h;obtain⟨yF,e0,_⟩:=hx.enc φ hφ;have j7:news.length=l.length*e.size:=Wa5 (λx c q hx=>WH e x c q hx) _ _ _ e0;obtain⟨sw,mJ⟩:=Wvr w l.length 0 et ay;obtain⟨ν',hh⟩:=WkB hr hd m' j7 (λφ hφ=>by
    obtain⟨ps,k1,k2,k3⟩:=hx.enc φ hφ;exact⟨ps,k1,k2,λp hp b o hh=>FromL.mono hm b o (k3 p hp b o hh)⟩) sw mJ z.cells iO et
   have wU:l.length*i.bytes<=281474976710656:=by
    have:=Nat.mul_le_mul tO n7;omega
   refine⟨_,_,_,G,ν',Wcf ho hc ha dV ?_,.inl rfl,hh⟩
   grind [run_append_nil]
theorem WdO{e:Ty}{nu:Nu}{xs:List e.den}{S:CS}{b k:Nat}(h:WbP w (Wy G w e) e.size nu xs S)(hb:nu.blk=some b)(hk:k<=xs.length):
  ∃c1 p1,Wfa (Wy G w e) (xs.take k) c1 p1/\c1.length=k*e.size/\Mem w b nu.off c1/\Sep (rng b nu.off (nu.cap*e.size)::p1.map Pc.fp)/\(∀s∈rng b nu.off (nu.cap*e.size)::p1.map Pc.fp,CS.le s S):=by
 obtain⟨h1,h2,h3⟩:=h;simp only[hb]at h3;obtain⟨h4,h5,h6,cs,ps,h7,h8,h9,cS⟩:=h3;obtain⟨c1,c2,p1,p2,g1,g2,g3,g4⟩:=WeG xs cs ps k h7;have hl:=Wa5 (λx c q hx=>WH e x c q hx) _ _ _ g3;rw[Xbi,Xce hk]at hl;obtain⟨q1,q2⟩:=Xy.1 h9;rw[g2,Xz]at q1 q2 cS;refine⟨c1,p1,g3,hl,by rw[g1]at h8;exact h8.left,Xy.2 ⟨λs hs=>q1 s (Xn _ hs),(Xah.1 q2).1⟩,λs hs=>?_⟩
 grind
theorem WdH(hr:Rel w0 F nt G0 G ν st a w){o:Oper}(hd:∀d,o.dst=some d->nt.Ok d){c:Call}{s x:Operand}{t et:TypeId}{e:Ty}(hE:ElT P t et e)
  (ho:o.op= .call c) (hc:c.callee= .builtin .append) (ha:c.args.toList= [s,x]) (dV:c.argTypes.toList= [t,t])
  {id g k:Nat} {xs:List e.den} (aH:Wp st.objs id=some (.arr e xs)) (bw:(ν id).blk=some g) (hk:k<=xs.length) (d6:a.eval s= .slice (some ⟨g,(ν id).off,none⟩) k (ν id).cap)
  {l:List e.den} {m:List Nat} {news:List Value} (hx:Src w0 F G ν st w e l m (a.eval x) news) (hm:id∉m) (ay:Wz (k+l.length)=true):
  Done P w0 F nt G0 o a w (({env:=st.env,objs:=(st.nx,.arr e (Xh (xs.take k) l))::kill st.objs (id::m),nx:=st.nx+1}:St).put o.dst (.s (.one (.own st.nx)))):=by
 obtain⟨hu,i,z,hi,ct,hz,iO,n7⟩:=hE;have tO:k+l.length<=1073741824:=by grind [Wz]
 have fZ:=WbV e;have ad:(Xh (xs.take k) l).length=k+l.length:=by show(xs.take k++l).length=_;rw[Xaa,Xbi,Xce hk]
 obtain⟨φ0,hφ0⟩:=hr.h;have jr:WbP w (Wy G w e) e.size (ν id) xs (φ0 id):=hφ0.ob _ _ aH;have nk:=jr.2.2;simp only[bw]at nk;obtain⟨hxc,jK,⟨row,TT,gF,bi⟩,_⟩:=nk;obtain⟨c1,tP,_,qw,qx,_,_⟩:=WdO jr bw hk;obtain⟨yF,e0,_⟩:=hx.enc φ0 hφ0;have j7:news.length=l.length*e.size:=Wa5 (λx c q hx=>WH e x c q hx) _ _ _ e0;have aS:Live st.objs id:=⟨_,aH,by simp⟩;have qy:∀{c2:List Value},c2.length=k*e.size->Mem w g (ν id).off c2->c2=c1:=λ{c2} h1 h2=>Xdl λj=>by
  by_cases hj:j<k*e.size
  .have nl:j<c2.length:=by omega
   have sE:j<c1.length:=by omega
   have a1:=h2 j _ (Xq nl);have a2:=qx j _ (Xq sE);simp_all
  simp_all
 have inplace:∀(W:World),WLe (rng g ((ν id).off+k*e.size) (l.length*e.size)) w W->Mem W g ((ν id).off+k*e.size) news->k+l.length<=(ν id).cap->
   ∃ν',Rel w0 F nt G0 G ν' (({env:=st.env,objs:=(st.nx,.arr e (Xh (xs.take k) l))::kill st.objs (id::m),nx:=st.nx+1}:St).put o.dst (.s (.one (.own st.nx)))) (a.put o.dst (.slice (some ⟨g,(ν id).off,none⟩) (k+l.length) (ν id).cap)) W:=by
  intro W hW hM cG;have kJ:(k+l.length)*e.size<=(ν id).cap*e.size:=Xaz _ cG;rw[Xcs]at kJ;have iS:CS.le (rng g ((ν id).off+k*e.size) (l.length*e.size)) (rng g (ν id).off ((ν id).cap*e.size)):=λb o ⟨k0,k1,k2⟩=>⟨k0,by omega,by omega⟩;refine⟨upd ν st.nx ⟨some g,(ν id).off,k+l.length,(ν id).cap,e.size⟩,hr.fresh hd (id::m) (.arr e (Xh (xs.take k) l)) _ (λφ b o=>φ id b o\/FromL φ st.objs m b o) _ _ (λφ hφ=>?_) (λφ hφ b o hh=>?_) (λφ hφ=>?_) ⟨⟨Xbu _,by rw[Wbx];rfl⟩,rfl⟩⟩
  .have aT:WbP w (Wy G w e) e.size (ν id) xs (φ id):=hφ.ob _ _ aH;obtain⟨_,_,_,_,_,_,bg⟩:=WdO aT bw hk;exact hW.mono λb o hh=>⟨id,.inr (Xj ..),aS,bg _ (Xj ..) b o (iS b o hh)⟩
  .rcases hh with hh|⟨j,hj,h1,h2⟩
   .exact .inl ⟨id,.inr (Xj ..),aS,hh⟩
   .exact .inl ⟨j,.inr (Xf _ hj),h1,h2⟩
  .have aT:WbP w (Wy G w e) e.size (ν id) xs (φ id):=hφ.ob _ _ aH;obtain⟨pO,p1,g3,g4,g5,g6,g7⟩:=WdO aT bw hk;obtain⟨ps,k1,k2,k3⟩:=hx.enc φ hφ;obtain⟨q1,q2⟩:=Xy.1 g6;have hI:=g7 _ (Xj ..);have nm:∀p∈p1,CS.le p.fp (φ id):=λp hp=>g7 _ (Xf _ (Xan hp));have qz:∀p∈ps,∀S,CS.le S (φ id)->CS.disj S p.fp:=λp hp S hS b o h1 h2=>by
    obtain⟨j,hj,h3,h4⟩:=k3 p hp b o h2;have:=hφ.inj id j b o aS h3 (hS b o h1) h4;simp_all
   have jq:∀p∈p1,Same p.fp w W:=λp hp=>hW.same ((q1 p.fp (Xan hp)).mono iS (λ_ _ hh=>hh)) (λb o hh=>hφ.bl id b o aS (nm p hp b o hh));have kM:∀p∈ps,Same p.fp w W:=λp hp=>hW.same (qz p hp _ (λb o hh=>hI b o (iS b o hh))) (λb o hh=>by
    obtain⟨j,hj,h3,h4⟩:=k3 p hp b o hh;exact hφ.bl j b o h3 h4)
   show WbP W (Wy G W e) e.size (upd ν st.nx ⟨some g,(ν id).off,k+l.length,(ν id).cap,e.size⟩ st.nx) _ _;rw[Wbx];refine⟨ad,rfl,by simp_all,jK,hW.rows.row _ _ ⟨row,TT,gF,bi⟩,pO++news,p1++ps,Weg _ _ _ _ _ _ ?_ ?_,?_,Xy.2 ⟨λs hs=>?_,?_⟩,λs hs b o hh=>?_⟩
   .exact WbZ (Q:=λq=>Same q.fp w W) (λx c q hq hx=>WaE (λ_ _ _ hh=>hh) e x c q hq hx) _ _ _ jq g3
   .exact WbZ (Q:=λq=>Same q.fp w W) (λx c q hq hx=>WaE (λ_ _ _ hh=>hh) e x c q hq hx) _ _ _ kM k1
   .refine Mem.app (n:=k*e.size) (λj v hj=>?_) hM g4;have h1:=g5 j v hj;have fb:j<pO.length:=(Xab.1 hj).1;rw[hW.cell g ((ν id).off+j) (block_lt_of_cell h1) (λ⟨_,h2,_⟩=>by omega)];exact h1
   .grind
   .rw[Xz];refine Xah.2 ⟨q2,k2,λs hs t ht=>?_⟩
    grind
   .rcases Xs.1 hs with rfl|hs
    .exact .inl (hI b o hh)
    .rw[Xz]at hs;rcases Xo.1 hs with hs|hs
     .obtain⟨p,hp,rfl⟩:=Xw.1 hs;exact .inl (nm p hp b o hh)
     .obtain⟨q,hq,rfl⟩:=Xw.1 hs;exact .inr (k3 q hq b o hh)
 rcases hx.rd with⟨aN,bR⟩|⟨pa,cc,aN,bE⟩
 .have pN:l.length=0:=by simp_all
  have sA:news= []:=Xx (by simp_all);obtain⟨ν',hh⟩:=inplace w (WLe.refl _ w) (by rw[sA];exactλj v hj=>by simp at hj) (by omega);refine⟨_,_,_,G,ν',Wcf ho hc ha dV ?_,.inl rfl,hh⟩
  grind [We6]
 .by_cases cG:k+l.length<=(ν id).cap
  .have tQ:(k+l.length)*e.size<=(ν id).cap*e.size:=Xaz _ cG;rw[Xcs]at tQ;have bm:=Wiz (P:=P) (w:=w) t o.type et TT i hu hi g (ν id).off k (ν id).cap row gF pa l.length cc news (by rw[ct];exact j7) (λj v hj=>bE j v hj) (WnM _ _ _ e0) cG (by rw[ct,j7];omega);obtain⟨hw,mM⟩:=Wc8 (k:=(ν id).off+k*i.size) (news:=news) gF (by rw[ct,j7];omega);generalize w.setRow g (row.toList.take ((ν id).off+k*i.size)++news++row.toList.drop ((ν id).off+k*i.size+news.length)).toArray=W at bm hw mM;rw[ct]at hw mM;rw[j7]at hw;obtain⟨ν',hh⟩:=inplace W hw mM cG;exact⟨_,_,_,G,ν',Wcf ho hc ha dV (by rw[d6,aN,bm]),.inl rfl,hh⟩
  .obtain⟨sw,mJ⟩:=Wvr w (k+l.length) (ν id).cap et ay;have c7:(c1++news).length=(Xh (xs.take k) l).length*e.size:=by rw[Xaa,qw,j7,ad,Xcs]
   obtain⟨ν',hh⟩:=WkB hr hd (id::m) (xs:=Xh (xs.take k) l) c7 (λφ hφ=>by
    have aT:WbP w (Wy G w e) e.size (ν id) xs (φ id):=hφ.ob _ _ aH;obtain⟨pO,p1,g3,g4,g5,g6,g7⟩:=WdO aT bw hk;obtain⟨ps,k1,k2,k3⟩:=hx.enc φ hφ;have:=qy g4 g5;subst this;obtain⟨q1,q2⟩:=Xy.1 g6;have nm:∀p∈p1,CS.le p.fp (φ id):=λp hp=>g7 _ (Xf _ (Xan hp));refine⟨p1++ps,Weg _ _ _ _ _ _ g3 k1,?_,λp hp b o hh=>?_⟩
    .rw[Xz];refine Xah.2 ⟨q2,k2,λs hs t ht=>?_⟩;obtain⟨p,hp,rfl⟩:=Xw.1 hs;obtain⟨q,hq,rfl⟩:=Xw.1 ht;intro b o h1 h2;obtain⟨j,hj,h3,h4⟩:=k3 q hq b o h2;have:=hφ.inj id j b o aS h3 (nm p hp b o h1) h4;subst this;exact hm hj
    .rcases Xo.1 hp with hp|hp
     .exact⟨id,Xj ..,aS,nm p hp b o hh⟩
     .exact FromL.mono (λi hi=>Xf _ hi) b o (k3 p hp b o hh)) (by rw[ad];exact sw) mJ z.cells iO et
   have wU:(k+l.length)*i.bytes<=140737488355328:=by
    have:=Nat.mul_le_mul tO n7;omega
   have bm:=run_append_grow (P:=P) w t o.type et i z hu hi hz ⟨g,(ν id).off,none⟩ k (ν id).cap c1 (by rw[ct];exact qw) (λj v hj=>by rw[Wa1];exact qx j v hj) pa l.length cc news (by rw[ct];exact j7) (λj v hj=>bE j v hj) (by omega) (by omega) (growslice_fits (by omega) wU);refine⟨_,_,_,G,ν',Wcf ho hc ha dV ?_,.inl rfl,hh⟩;rw[d6,aN,bm,ad];simp
theorem WlK{id:Nat}{e:Ty}{xs:List e.den}(hh:HRel w0 F G ν objs nx w)(aH:Wp objs id=some (.arr e xs)):
  ((ν id).blk=none/\xs= []/\(ν id).hdr= .slice none 0 0)\/∃g,(ν id).blk=some g/\(ν id).hdr= .slice (some ⟨g,(ν id).off,none⟩) xs.length (ν id).cap:=by
 obtain⟨S,ho⟩:=hh.obj aH;unfold Nu.hdr;cases hb:(ν id).blk with
 |none=>exact .inl ⟨rfl,Wcx ho hb,rfl⟩
 |some g=>exact .inr ⟨g,rfl,by rw[ho.1]⟩
theorem Wm3(hT:Waj P T)(hr:Rel w0 F nt G0 G ν st a w){o:Oper}(hd:∀d,o.dst=some d->nt.Ok d){c:Call}{s x:Operand}{t et:TypeId}{ty:Ty}{te:TE}{sv xv:AVal}{R:Type}{k:St->Option R}{r:R}
  (hl:Wp T t=some ⟨ty,false,.slice et⟩) (bg:Wp T et=some te) (hp:te.plain=true)
  (ho:o.op= .call c) (hc:c.callee= .builtin .append) (ha:c.args.toList= [s,x]) (dV:c.argTypes.toList= [t,t]) (hs:ev st s=some sv) (hx:ev st x=some xv)
  (h:WeT st te.ty sv xv (λx objs nx=>k (({env:=st.env,objs:=objs,nx:=nx}:St).put o.dst x))=some r):∃af,k af=some r/\Done P w0 F nt G0 o a w af:=by
 have move:∀(e:Ty) (l:List e.den) (m:List Nat),Wuy st e xv=some (l,m)->∃news,Src w0 F G ν st w e l m (a.eval x) news:=λe l m hJ=>by
  unfold Wuy at hJ;split at hJ
  .simp only[Option.some.injEq,Prod.mk.injEq]at hJ;obtain⟨rfl,rfl⟩:=hJ;obtain⟨hv,_⟩:=WL hr x _ hx;exact⟨[],λφ _=>⟨[],⟨rfl,rfl⟩,List.Pairwise.nil,by simp⟩,.inl ⟨hv,rfl⟩⟩
  .rename_i id;split at hJ
   .rename_i e' xs aH;obtain⟨ys,bM,hJ⟩:=Xt.1 hJ;have h2:=Prod.mk.inj hJ;obtain⟨h3,h4⟩:=h2;subst h3 h4;obtain⟨mL,wV⟩:=Way bM;subst mL;simp only at wV;subst wV;obtain⟨⟨_,hv⟩,_⟩:=WL hr x _ hx;have aS:Live st.objs id:=⟨_,aH,by simp⟩;rcases WlK hr.h aH with⟨hb,bR,hh⟩|⟨g,hb,hh⟩
    .subst bR;exact⟨[],λφ _=>⟨[],⟨rfl,rfl⟩,List.Pairwise.nil,by simp⟩,.inl ⟨by rw[hv,hh],rfl⟩⟩
    .obtain⟨φ0,hφ0⟩:=hr.h;have jr:WbP w (Wy G w e') e'.size (ν id) xs (φ0 id):=hφ0.ob _ _ aH;obtain⟨c1,p1,g1,g2,g3,g4,g5⟩:=WdO jr hb (Xm _);refine⟨c1,λφ hφ=>?_,.inr ⟨⟨g,(ν id).off,none⟩,(ν id).cap,by rw[hv,hh],λj u hj=>by rw[Wa1];exact g3 j u hj⟩⟩;have aT:WbP w (Wy G w e') e'.size (ν id) xs (φ id):=hφ.ob _ _ aH;obtain⟨pO,yG,k1,k2,k3,k4,k5⟩:=WdO aT hb (Xm _);have:pO=c1:=Xdl λj=>by
      by_cases hj:j<xs.length*e'.size
      .have nl:j<pO.length:=by omega
       have sE:j<c1.length:=by omega
       have a1:=k3 j _ (Xq nl);have a2:=g3 j _ (Xq sE);rw[a1]at a2;rw[Xq nl,Xq sE];exact a2
      .rw[Xbq (by omega),Xbq (by omega)]
     subst this;rw[Xde]at k1;exact⟨yG,k1,(Xy.1 k4).2,λp hp b o hh=>⟨id,Xag.2 rfl,aS,k5 _ (Xf _ (Xan hp)) b o hh⟩⟩
   .simp at hJ
  .simp at hJ
 unfold WeT at h;split at h
 .split at h
  .rename_i e qC;split at h
   .rename_i he;split at h
    .rename_i l m hJ;obtain⟨news,dT⟩:=move e l m hJ;cases ay:Wz l.length with
     |false=>simp[ay]at h
     |true=>
      simp[ay]at h;obtain⟨d6,_⟩:=WL hr s _ hs;exact⟨_,h,Wbu hr hd (elT hT hl bg hp (by rw[←he,WbI])) ho hc ha dV d6 dT (λi hi=>hi) ay⟩
    .simp at h
   .simp at h
  .simp at h
 .rename_i id;split at h
  .rename_i e xs aH;split at h
   .rename_i he;split at h
    .rename_i l m hJ;obtain⟨news,dT⟩:=move e l m hJ;split at h
     .rename_i bh;have bh:=(Xac.1 ((Wdb _).1 bh)).1;cases ay:Wz (xs.length+l.length)with
      |false=>simp[ay]at h
      |true=>
       simp[ay]at h;refine⟨_,h,?_⟩;have hE:ElT P t et e:=elT hT hl bg hp (by rw[←he,WbI]);obtain⟨⟨_,d6⟩,_⟩:=WL hr s _ hs;rcases WlK hr.h aH with⟨hb,bR,hh⟩|⟨g,hb,hh⟩
       .subst bR;exact Wbu hr hd hE ho hc ha dV (by rw[d6,hh]) dT (λi hi=>Xf _ hi) (by simpa [Wz]using ay)
       .have:=WdH hr hd hE ho hc ha dV aH hb (Xm _) (by rw[d6,hh]) dT bh ay;rw[Xde]at this;exact this
     .simp at h
    .simp at h
   .simp at h
  .simp at h
 .simp at h
theorem WoH(hT:Waj P T)(hr:Rel w0 F nt G0 G ν st a w){o:Oper}(hd:∀d,o.dst=some d->nt.Ok d){c:Call}{s x:Operand}{t t2:TypeId}{sv xv:AVal}{R:Type}{k:St->Option R}{r:R}
  (ho:o.op= .call c) (hc:c.callee= .builtin .append) (ha:c.args.toList= [s,x]) (dV:c.argTypes.toList= [t,t2]) (hs:ev st s=some sv) (hx:ev st x=some xv)
  (h:Wem T st t t2 sv xv (λx objs nx=>k (({env:=st.env,objs:=objs,nx:=nx}:St).put o.dst x))=some r):∃af,k af=some r/\Done P w0 F nt G0 o a w af:=by
 unfold Wem at h;split at h
 .rename_i ty et _ hl _;split at h
  .rename_i te bg;split at h
   .rename_i bL;obtain⟨rfl,hp,bq⟩:=bL;have hE:ElT P t et te.ty:=elT hT hl bg hp rfl;cases il:Wt9 st sv xv with
    |false=>
     simp only[il,Bool.not_false,Wb]at h;exact Wm3 hT hr hd hl bg hp ho hc ha dV hs hx h
    |true=>
    simp only[il,Bool.not_true,Wa]at h;split at h
    .rename_i l dZ;cases ay:Wz l.length with
     |false=>simp[ay]at h
     |true=>
      simp[ay]at h;obtain⟨d6,_⟩:=WL hr s _ hs;obtain⟨news,dT⟩:=Wjr hr bq [] (WL hr x _ hx) dZ;exact⟨_,h,Wbu (m':=[]) hr hd hE ho hc ha dV d6 dT (λi hi=>hi) ay⟩
    .rename_i id l dZ;split at h
     .rename_i e0 xs aH;split at h
      .rename_i ys bM;obtain⟨he,hy⟩:=Wgd bM;injection he with he;subst he;simp only at hy;subst hy;cases ay:Wz (Xb xs+l.length)with
       |false=>simp[ay]at h
       |true=>
        simp[ay]at h;refine⟨_,h,?_⟩;obtain⟨⟨_,d6⟩,_⟩:=WL hr s _ hs;obtain⟨news,dT⟩:=Wjr hr bq [] (WL hr x _ hx) dZ;rcases WlK hr.h aH with⟨hb,bR,hh⟩|⟨g,hb,hh⟩
        .subst bR;exact Wbu (m':=[id]) hr hd hE ho hc ha dV (by rw[d6,hh]) dT (λi hi=>by simp at hi) (by simpa [Wz]using ay)
        .have:=WdH hr hd hE ho hc ha dV aH hb (Xm _) (by rw[d6,hh]) dT (by simp) ay;rw[Xde]at this;exact this
      .simp at h
     .simp at h
    .rename_i id hi l dZ;split at h
     .rename_i e0 xs aH;split at h
      .rename_i ys bM;obtain⟨he,hy⟩:=Wgd bM;injection he with he;subst he;simp only at hy;subst hy;cases ay:Wz (hi+l.length)with
       |false=>simp[ay]at h
       |true=>
        simp[ay]at h;refine⟨_,h,?_⟩;obtain⟨⟨_,g1,g2,g3,d6⟩,_⟩:=WL hr s _ hs;obtain⟨news,dT⟩:=Wjr hr bq [] (WL hr x _ hx) dZ;obtain⟨S,aT⟩:=hr.h.obj aH;unfold Nu.vhdr at d6;cases hb:(ν id).blk with
        |none=>
         have bR:=Wcx aT hb;simp only[hb]at d6;have h0:=g3 hb;subst h0;show Done P w0 F nt G0 o a w (({env:=st.env,objs:=(st.nx,.arr te.ty l)::(id,.dead)::st.objs,nx:=st.nx+1}:St).put o.dst (.s (.one (.own st.nx))));exact Wbu (m':=[id]) hr hd hE ho hc ha dV d6 dT (λi hi=>by simp at hi) (by simpa [Wz]using ay)
        |some g=>
         simp only[hb,Nat.sub_zero,Xep,Xbb,ite_self]at d6;exact WdH hr hd hE ho hc ha dV aH hb (by rw[aT.1];exact g2) d6 dT (by simp) ay
      .simp at h
     .simp at h
    .simp at h
   .simp at h
  .simp at h
 .simp at h
end
end Go.Sx
namespace Go.Sx
set_option linter.unusedVariables false
set_option linter.unusedSimpArgs false
section
variable{w0:World}{F:CS}{nt:Slots}{G0 G:GH}{ν:Nat->Nu}{φ:Nat->CS}{objs:Waa}{nx:Nat}{st af:St}{a:Act}{w w':World}{P:Program}{T:Tab}
theorem Wi9{t et:TypeId}{te:TE}{nu:Nu}{n:Nat}{lo hi:Option Int}{vl vh:Option Value}(hu:P.underlying t=some (.slice et))(bZ:TEok P T et te)(hp:te.plain=true)(cF:nu.esz=te.ty.size)
  (hc:n<=nu.cap) (hn:n=nu.len) (bw:nu.blk=none->n=0) (hl:BRel lo vl) (hh:BRel hi vh) (hb:(Wc5 n lo hi).1=true):
  (Instr.sliceAt t nu.hdr vl vh none).run P w= .ok (nu.vhdr (Wc5 n lo hi).2.1 (Wc5 n lo hi).2.2) w/\(Wc5 n lo hi).2.1<=(Wc5 n lo hi).2.2/\(Wc5 n lo hi).2.2<=n:=by
 unfold Nu.hdr Nu.vhdr;cases hk:nu.blk with
 |none=>
  have h0:=bw hk;subst h0;obtain⟨hr,h3,h4⟩:=Wc4 (P:=P) (w:=w) (isSlice:=true) (cap:=0) hl hh (Xm _) hb;have e1:(Wc5 0 lo hi).2.2=0:=by omega
  have e2:(Wc5 0 lo hi).2.1=0:=by omega
  rw[e1,e2]at hr⊢;refine⟨?_,Xm _,Xm _⟩;simp[Instr.sliceAt,Instr.slice,Wl hu,hr,bZ.sizeOf]
 |some b=>
  obtain⟨hr,h7,h8⟩:=Wc4 (P:=P) (w:=w) (isSlice:=true) (cap:=nu.cap) hl hh hc hb;refine⟨?_,h7,h8⟩;rw[←hn];generalize (Wc5 n lo hi).2.1=p at*;generalize (Wc5 n lo hi).2.2=q at*;have ct:te.size=nu.esz:=by rw[WY hp,cF]
  simp only[Instr.sliceAt,Instr.slice,Sem.run_bind,Wl hu,Result.andThen_ok,hr,bZ.sizeOf,Sem.run_pure,ct,Xca,Wa1];split<;>rfl
theorem WsV{id:Nat}{e:Ty}{xs:List e.den}{S:CS}(h:WcP G ν nx w id S (.arr e xs)):((ν id).blk=none->xs.length=0)/\((ν id).blk≠none->xs.length<=(ν id).cap):=by
 refine⟨λhb=>by rw[Wcx h hb];rfl,λhb=>?_⟩;obtain⟨_,_,h3⟩:=h
 grind
theorem Woe{t et:TypeId}{te:TE}{id:Nat}{e:Ty}{xs:List e.den}{S:CS}(ho:WcP G ν nx w id S (.arr e xs)){lo hi:Option Int}{vl vh:Option Value}(hu:P.underlying t=some (.slice et))(bZ:TEok P T et te)(hp:te.plain=true)(he:te.ty.size=e.size)
  (hl:BRel lo vl) (hh:BRel hi vh) (hb:(Wc5 xs.length lo hi).1=true):
  (Instr.sliceAt t (ν id).hdr vl vh none).run P w= .ok ((ν id).vhdr (Wc5 xs.length lo hi).2.1 (Wc5 xs.length lo hi).2.2) w/\(Wc5 xs.length lo hi).2.1<=(Wc5 xs.length lo hi).2.2/\(Wc5 xs.length lo hi).2.2<=xs.length:=by
 obtain⟨h1,h2⟩:=WsV ho;have ad:=ho.1;have cF:=ho.2.1;cases hk:(ν id).blk with
 |some b=>grind [Wi9]
 |none=>
  have h0:=h1 hk;have bR:xs= []:=Xx h0;have e0:(ν id).hdr=(⟨none,(ν id).off,(ν id).len,0,(ν id).esz⟩:Nu).hdr:=by grind [Nu.hdr]
  have e1:∀p q,(ν id).vhdr p q=(⟨none,(ν id).off,(ν id).len,0,(ν id).esz⟩:Nu).vhdr p q:=λp q=>by grind [Nu.vhdr]
  rw[e0,e1];exact Wi9 hu bZ hp (by show(ν id).esz=_;rw[cF,he]) (by omega) ad (λ_=>h0) hl hh hb
theorem Who{o:Oper}{t:TypeId}{x:Operand}{lo hi:Option Operand}{v:Value}(ho:o.op= .slice t x lo hi none)(h:(Instr.sliceAt t (a.eval x) (lo.map a.eval) (hi.map a.eval) none).run P w= .ok v w):(execOp a.eval o).run P w= .ok (.value v) w:=by
 grind [execOp,Sem.run_bind,Result.andThen_ok,Sem.run_pure]
theorem WsG(hT:Waj P T)(hr:Rel w0 F nt G0 G ν st a w){o:Oper}(hd:∀d,o.dst=some d->nt.Ok d){t et:TypeId}{ty:Ty}{te:TE}{x:Operand}{lo hi:Option Operand}(ho:o.op= .slice t x lo hi none)
  {id:Nat} {l h:Option Int} {R:Type} {k:St->Option R} {r:R} (hx:ev st x=some (.s (.one (.own id)))) (hl:Wp T t=some ⟨ty,false,.slice et⟩) (bg:Wp T et=some te) (hp:te.plain=true) (h1:WmI st lo=some l) (h2:WmI st hi=some h)
  (hk:WfT st te.ty id l h (λx objs nx=>k (({env:=st.env,objs:=objs,nx:=nx}:St).put o.dst x))=some r):∃af,k af=some r/\Done P w0 F nt G0 o a w af:=by
 unfold WfT at hk;split at hk
 .rename_i e xs aH;split at hk
  case isFalse=>simp at hk
  rename_i qp;cases hb:(Wc5 (Xb xs) l h).1 with
  |false=>simp_all
  |true=>
   simp only[hb,Wb]at hk;refine⟨_,hk,?_⟩;obtain⟨⟨bU,d6⟩,_⟩:=WL hr x _ hx;obtain⟨S,aT⟩:=hr.h.obj aH;have g0:=Wdl hr lo _ h1;have qD:=Wdl hr hi _ h2;obtain⟨g1,g2,g3⟩:=Woe (w:=w) aT (hT _ _ hl).und.2.1 (hT _ _ bg) hp (by rw[qp,WbI]) g0 qD hb;refine⟨_,_,w,G,ν,Who ho (by simp_all),.inl rfl,hr.put hd ⟨⟨bU,g2,by rw[←aT.1];exact g3,λsF=>?_,rfl⟩,WpF _ _ _⟩⟩
   grind [WsV]
 grind
theorem WtU(n:Nu)(h:Nat):n.part 0 h=⟨n.blk,n.off,h,n.cap,n.esz⟩:=by
 unfold Nu.part;simp
theorem Wxk(n:Nu)(h:Nat):n.vhdr 0 h=(⟨n.blk,n.off,h,n.cap,n.esz⟩:Nu).hdr:=by
 rw[←WtU,Wls]
theorem Wrh(hT:Waj P T)(hr:Rel w0 F nt G0 G ν st a w){o:Oper}(hd:∀d,o.dst=some d->nt.Ok d){t et:TypeId}{ty:Ty}{x:Operand}{lo hi:Option Operand}(ho:o.op= .slice t x lo hi none)
  {id:Nat} {e:Ty} {xs:List e.den} {te:TE} {h:Int} (hx:ev st x=some (.s (.one (.own id)))) (hl:Wp T t=some ⟨ty,false,.slice et⟩) (bg:Wp T et=some te) (hp:te.plain=true) (he:te.ty=e.ro) (aH:Wp st.objs id=some (.arr e xs)) (bt:WmI st lo=some none) (hh:WmI st hi=some (some h))
  (h0:0<=h) (h1:h<=(xs.length:Int)):Done P w0 F nt G0 o a w (({env:=st.env,objs:=(st.nx,.arr e (xs.take h.toNat))::kill st.objs [id],nx:=st.nx+1}:St).put o.dst (.s (.one (.own st.nx)))):=by
 obtain⟨⟨bU,d6⟩,_⟩:=WL hr x _ hx;obtain⟨S,aT⟩:=hr.h.obj aH;have g0:=Wdl hr lo _ bt;have qD:=Wdl hr hi _ hh;have hb:(Wc5 xs.length none (some h)).1=true:=by simp[Wc5,h0,h1]
 obtain⟨g1,g2,g3⟩:=Woe (w:=w) aT (hT _ _ hl).und.2.1 (hT _ _ bg) hp (by rw[he,WbI]) g0 qD hb;have e1:(Wc5 xs.length none (some h)).2.1=0:=rfl;have e2:(Wc5 xs.length none (some h)).2.2=h.toNat:=rfl;rw[e1,e2,Wxk]at g1;refine⟨_,_,w,G,upd ν st.nx ((ν id).part 0 h.toNat),Who ho (by rw[d6];exact g1),.inl rfl,?_⟩;have aS:Live st.objs id:=⟨_,aH,by simp⟩;refine hr.fresh hd [id] (.arr e (xs.take h.toNat)) _ (λφ=>φ id) _ _ (λφ _=>WLe.refl _ w) (λφ _ b o hh=>.inl ⟨id,.inr (Xag.2 rfl),aS,hh⟩) (λφ hφ=>?_) ⟨⟨Xbu _,by rw[Wbx,WtU]⟩,WiW _⟩;show WbP w (Wy G w e) e.size (upd ν st.nx ((ν id).part 0 h.toNat) st.nx) (xs.take h.toNat) (φ id);rw[Wbx];have gk:WbP w (Wy G w e) e.size (ν id) xs (φ id):=hφ.ob _ _ aH;have:=Wqn (lo:=0) (hi:=h.toNat) gk (Nat.zero_le _) (by rw[←gk.1];omega);simp_all
theorem Wka(hT:Waj P T)(hr:Rel w0 F nt G0 G ν st a w){o:Oper}(hd:∀d,o.dst=some d->nt.Ok d){t et:TypeId}{ty:Ty}{x:Operand}{lo hi:Option Operand}(ho:o.op= .slice t x lo hi none)
  {id i p:Nat} {e:Ty} {xs:List e.den} {te:TE} {h:Int} (hx:ev st x=some (.s (.one (.own id)))) (hl:Wp T t=some ⟨ty,false,.slice et⟩) (bg:Wp T et=some te) (hp:te.plain=true) (he:te.ty=e.ro) (aH:Wp st.objs id=some (.hole e xs i p)) (tR:WtF (Wp st.objs p) e.size=true) (bt:WmI st lo=some none) (hh:WmI st hi=some (some h))
  (h0:0<=h) (h1:h<=(xs.length:Int)) (h2:h<=(i:Int)):Done P w0 F nt G0 o a w (({env:=st.env,objs:=(st.nx,.arr e (xs.take h.toNat))::kill st.objs [id,p],nx:=st.nx+1}:St).put o.dst (.s (.one (.own st.nx)))):=by
 obtain⟨⟨bU,d6⟩,_⟩:=WL hr x _ hx;obtain⟨S,mH,hole⟩:=hr.h.obj aH;have fD:∃cs,Wp st.objs p=some (.box cs)/\cs.length=e.size:=by
  unfold WtF at tR
  grind [Xcl]
 obtain⟨pcs,fD,fy⟩:=fD;have g0:=Wdl hr lo _ bt;have qD:=Wdl hr hi _ hh;have hb:(Wc5 xs.length none (some h)).1=true:=by simp[Wc5,h0,h1]
 obtain⟨k1,k2,k3,b,k4,k5,k6,k7,k8,k9,_⟩:=hole;obtain⟨g1,g2,g3⟩:=Wi9 (w:=w) (nu:=ν id) (hT _ _ hl).und.2.1 (hT _ _ bg) hp (by rw[k2,he,WbI]) k7 k1 (λhn=>by simp_all) g0 qD hb;have e1:(Wc5 xs.length none (some h)).2.1=0:=rfl;have e2:(Wc5 xs.length none (some h)).2.2=h.toNat:=rfl;rw[e1,e2,Wxk]at g1;refine⟨_,_,w,G,upd ν st.nx ((ν id).part 0 h.toNat),Who ho (by rw[d6];exact g1),.inl rfl,?_⟩;have aS:Live st.objs id:=⟨_,aH,by simp⟩;have fE:Live st.objs p:=⟨_,fD,by simp⟩;refine hr.fresh hd [id,p] (.arr e (xs.take h.toNat)) _ (λφ b o=>φ id b o\/φ p b o) _ _ (λφ _=>WLe.refl _ w) (λφ _ b o hh=>?_) (λφ hφ=>?_) ⟨⟨Xbu _,by rw[Wbx,WtU]⟩,WiW _⟩
 .rcases hh with hh|hh
  .exact .inl ⟨id,.inr (by simp),aS,hh⟩
  .exact .inl ⟨p,.inr (by simp),fE,hh⟩
 .show WbP w (Wy G w e) e.size (upd ν st.nx ((ν id).part 0 h.toNat) st.nx) (xs.take h.toNat) _;rw[Wbx,WtU];obtain⟨mH,hole⟩:p<st.nx/\Wic w (Wy G w e) e.size (ν id) (ν p) xs i (φ id):=hφ.ob _ _ aH;obtain⟨_,_,_,b',sG,k5',_,_,_,_,c1,c2,p1,p2,j1,j2,j3,j4,j5,j6⟩:=hole;rw[k4]at sG;injection sG with sG;subst sG;obtain⟨b2,vs,q1,q2,q3,q4,q5⟩:WcP G ν st.nx w p (φ p) (.box pcs):=hφ.ob _ _ fD;rw[k5]at q1;injection q1 with q1;subst q1;rw[fy,k6]at q5;obtain⟨d1,d2,r1,r2,t1,t2,t3,t4⟩:=WeG _ _ _ h.toNat j1;rw[List.take_take,Xce (by omega)]at t3;have gA:=j6 _ (Xj ..);have gC:=j6 _ (Xf _ (Xj ..));obtain⟨s1,s2⟩:=Xy.1 j5;obtain⟨s3,s4⟩:=Xy.1 s2;have fa:∀s∈r1.map Pc.fp,s∈(p1++p2).map Pc.fp:=λs hs=>by simp_all
  have gp:∀s∈r1.map Pc.fp,CS.le s (φ id):=λs hs=>j6 s (Xf _ (Xf _ (fa s hs)));have tS:∀b o,φ id b o->φ p b o->False:=λb o x1 x2=>by
   have:=hφ.inj id p b o aS fE x1 x2;simp_all
  refine⟨by simp;omega,k2,?_⟩;simp only[k4];refine⟨by simp;omega,k8,k9,d1,r1,t3,by rw[t1]at j3;exact j3.left,Xy.2 ⟨λs hs=>?_,?_⟩,λs hs=>?_⟩
  .exactλb' o jY jH=>(WgC (show i<(ν id).cap by omega) (S:=λb o=>¬s b o) (λb o hh jH=>s1 s (Xf _ (fa s hs)) b o hh jH) (λb o hh jH=>tS b o (gp s hs b o jH) (q5 b o hh)) (λb o hh jH=>s3 s (fa s hs) b o hh jH) b' o jY) jH
  .grind
  .rcases Xs.1 hs with rfl|hs
   .exact WgC (show i<(ν id).cap by omega) (λb o hh=>.inl (gA b o hh)) (λb o hh=>.inr (q5 b o hh)) (λb o hh=>.inl (gC b o hh))
   .exactλb o hh=>.inl (gp s hs b o hh)
theorem WqS(hT:Waj P T)(hr:Rel w0 F nt G0 G ν st a w){o:Oper}(hd:∀d,o.dst=some d->nt.Ok d){c:Call}{x:Operand}{t et:TypeId}{ty:Ty}{te:TE}{e:Ty}{xs:List e.den}{id lo hi:Nat}
  (ho:o.op= .call c) (hc:c.callee= .builtin .clear) (ha:c.args.toList= [x]) (dV:c.argTypes.toList= [t]) (hx:ev st x=some (.s (.one (.vw id lo hi)))) (hl:Wp T t=some ⟨ty,false,.slice et⟩) (bg:Wp T et=some te)
  (aH:Wp st.objs id=some (.arr e xs)) (he:te.ty=e) (hp:te.plain=true) (bq:e.data=true):
  Done P w0 F nt G0 o a w (({env:=st.env,objs:=(id,.arr e (xs.take lo++Xp (hi-lo) e.dflt++xs.drop hi))::st.objs,nx:=st.nx}:St).put o.dst (.tup [])):=by
 have hu:=(hT _ _ hl).und.2.1;obtain⟨⟨bU,g1,g2,g3,hv⟩,_⟩:=WL hr x _ hx;obtain⟨φ,hφ⟩:=hr.h;have aT:WbP w (Wy G w e) e.size (ν id) xs (φ id):=hφ.ob _ _ aH;have aS:Live st.objs id:=⟨_,aH,by simp⟩;have qE:∀W,(Builtin.clear_ #[t] o.type #[a.eval x]).run P w= .ok (.tuple #[]) W->(execOp a.eval o).run P w= .ok (.value (.tuple #[])) W:=λW bm=>by
  obtain⟨callee,args,argTypes⟩:=c;obtain⟨args⟩:=args;obtain⟨argTypes⟩:=argTypes;simp only at hc ha dV;subst hc ha dV;simp only[execOp,ho,resolve,invoke,builtin,Sem.run_bind,Sem.run_pure,Result.andThen_ok,Xds,Xaf,Xcg,bm]
 have gl:∀W,(Builtin.clear_ #[t] o.type #[a.eval x]).run P w= .ok (.tuple #[]) W->HRel w0 F G ν ((id,.arr e (xs.take lo++Xp (hi-lo) e.dflt++xs.drop hi))::st.objs) st.nx W->
   Done P w0 F nt G0 o a w (({env:=st.env,objs:=(id,.arr e (xs.take lo++Xp (hi-lo) e.dflt++xs.drop hi))::st.objs,nx:=st.nx}:St).put o.dst (.tup [])):=λW bm hH=>
  ⟨_,_,W,G,ν,qE W bm,.inl rfl,(hr.on (λ_ _ _ hh=>hh) (λ_ _=>rfl) (Xm _) hH hr.gx).put hd ⟨[],rfl,rfl,λj x v hj=>by simp at hj⟩⟩
 by_cases h0:hi-lo=0
 .have pP:hi=lo:=by omega
  have e1:xs.take lo++Xp (hi-lo) e.dflt++xs.drop hi=xs:=by
   simp_all
  refine gl w ?_ ?_
  .rw[hv];unfold Nu.vhdr;rw[h0];cases(ν id).blk<;>simp[Builtin.clear_,Wl hu]
  .rw[e1];exact⟨_,hφ.put (m:=[]) (ν':=ν) (λ_ _=>rfl) (Xm _) (hφ.lt id aS) (WLe.refl _ w) (λb o hh=>.inl ⟨id,.inl rfl,aS,hh⟩) (λ_=>aT)⟩
 .cases bw:(ν id).blk with
  |none=>simp_all
  |some b=>
   obtain⟨ik,h4,h5,⟨row,TT,gF,bi⟩,cs,h7,h8,h9⟩:=WdV bq aT bw;obtain⟨z,hz,eI⟩:=Wfi (w:=w) (hT _ _ bg);rw[WbJ hp,he]at eI;have iO:z.cells.size=e.size:=by rw[←Xaq,eI,Wbq]
   have cF:=aT.2.1;have c7:cs.length=xs.length*e.size:=Wd5 (λx c hc=>W6 e x c hc) _ _ h7;have wW:(Builtin.zeroCells z.cells (hi-lo)).toList=rep (WbG e) (hi-lo):=by rw[←eI];exact WgE z.cells (hi-lo)
   have cE:(rep (WbG e) (hi-lo)).length=(hi-lo)*e.size:=by rw[WmF,Wbq]
   have tU:lo*e.size+(hi-lo)*e.size=hi*e.size:=by rw[←Xcs];congr 1;omega
   have sH:hi*e.size<=xs.length*e.size:=Xaz _ (by omega);have wX:xs.length*e.size<=(ν id).cap*e.size:=Xaz _ h4;have fe:∀u∈rep (WbG e) (hi-lo),u.oneCell'=true:=Wqe (G:=G) _ _ (Wg9 bq (hi-lo));have bv:=run_storeCells_at P b ((ν id).off+lo*e.size) TT (rep (WbG e) (hi-lo)) 0 row w gF (by rw[cE];omega) fe;simp only[Xbb]at bv;obtain⟨hw,hm⟩:=Wc8 (k:=(ν id).off+lo*e.size) (news:=rep (WbG e) (hi-lo)) gF (by rw[cE];omega);have bm:(Builtin.clear_ #[t] o.type #[a.eval x]).run P w= .ok (.tuple #[]) (w.setRow b (row.toList.take ((ν id).off+lo*e.size)++rep (WbG e) (hi-lo)++row.toList.drop ((ν id).off+lo*e.size+(rep (WbG e) (hi-lo)).length)).toArray):=by
    rw[hv];unfold Nu.vhdr;simp only[bw,cF];rw[Wc (by omega)];obtain⟨n,hn⟩:∃n,hi-lo=n+1:=⟨hi-lo-1,by omega⟩;simp only[Builtin.clear_,Sem.run_bind,Wl hu,Result.andThen_ok,Xej,List.getElem?_cons_zero];rw[hn]at bv wW⊢;simp only[Sem.run_bind,hz,Result.andThen_ok,wW,bv,Sem.run_pure]
   generalize w.setRow b (row.toList.take ((ν id).off+lo*e.size)++rep (WbG e) (hi-lo)++row.toList.drop ((ν id).off+lo*e.size+(rep (WbG e) (hi-lo)).length)).toArray=W at bm hw hm;refine gl W bm (hφ.turn (m:=[]) aH (by simp) hw (λb' o ⟨k0,k1,k2⟩=>h9 b' o ⟨k0,by omega,by omega⟩) ?_);have no:(xs.take lo++Xp (hi-lo) e.dflt++xs.drop hi).length=xs.length:=by simp;omega
   have gD:Wd2 (Enc G e) (xs.take lo++Xp (hi-lo) e.dflt++xs.drop hi) (cs.take (lo*e.size)++rep (WbG e) (hi-lo)++cs.drop (hi*e.size)):=
    Wd3 _ _ _ _ (Wd3 _ _ _ _ (We4 (λx c hc=>W6 e x c hc) _ _ lo h7) (Wg9 bq _)) (We7 (λx c hc=>W6 e x c hc) _ _ hi h7)
   refine Wof bq bw (by rw[no];exact ik) cF (by rw[no];exact h4) h5 (hw.rows.row _ _ ⟨row,TT,gF,bi⟩) gD ?_ (λb o hh=>.inl (h9 b o hh));have:=Wfe h8 hw hm (by rw[cE];omega);rw[cE,tU]at this;exact this
end
end Go.Sx
namespace Go.Sx
set_option linter.unusedVariables false
set_option linter.unusedSimpArgs false
def Wj3(G:GH)(w:World)(t:Ty)(agg:Bool)(d:t.den)(v:Value)(ns:List Pc):Prop:=
 if agg then∃us:List Value,v= .agg us.toArray/\Wy G w t d us ns else Wy G w t d [v] ns
def Wck(b o:Nat):Nu:=⟨some b,o,0,0,0⟩
def WfP(G:GH)(w:World)(t:Ty)(d:t.den)(b o:Nat)(ns:List Pc):Prop:=∃us,Row w b (o+t.size)/\Mem w b o us/\Wy G w t d us ns
def fps(ns:List Pc):List CS:=ns.map Pc.fp
def nus(ns:List Pc):List Nu:=ns.map Pc.nu
def Wbl(G:GH)(w:World):(ps:List PTy)->WfJ ps->List Value->List Pc->List Nu->Prop
 | [],_,vs,ns,ks=>vs= []/\ns= []/\ks= []
 | .v t agg::ps,d,vs,ns,ks=>∃v au n1 n2,vs=v::au/\ns=n1++n2/\Wj3 G w t agg d.1 v n1/\Wbl G w ps d.2 au n2 ks
 | .box t::ps,d,vs,ns,ks=>∃b o au n1 n2 aC,vs= .pointer (some ⟨b,o,none⟩)::au/\ns=⟨Wck b o,rng b o t.size⟩::(n1++n2)/\ks=Wck b o::aC/\WfP G w t d.1 b o n1/\Wbl G w ps d.2 au n2 aC
 | .mut e::ps,d,vs,ns,ks=>∃pc au n2 aC,vs=pc.nu.hdr::au/\ns=pc::n2/\ks=pc.nu::aC/\WbP w (Wy G w e) e.size pc.nu d.1 pc.fp/\Wbl G w ps d.2 au n2 aC
 | .clos g n::ps,d,vs,ns,ks=>∃cvs au:List Value,vs= .func (.func g) #[] cvs.toArray::au/\cvs.length=n/\(∀u∈cvs,u.oneCell'=true)/\Wbl G w ps d (cvs++au) ns ks
 | .kv t agg::ps,d,vs,ns,ks=>∃v au n1 n2 aC,vs=v::au/\ns=n1++n2/\ks=nus n1++aC/\Wj3 G w t agg d.1 v n1/\Wbl G w ps d.2 au n2 aC
 | .rp t::ps,d,vs,ns,ks=>∃b o us au,vs= .pointer (some ⟨b,o,none⟩)::au/\Enc G t d.1 us/\WfD G b o us/\Wbl G w ps d.2 au ns ks
 | .vj _::_,_,_,_,_=>False
 | .boxal t lf::ps,d,vs,ns,ks=>∃b o b' pc au n1 n2 aC,vs= .pointer (some ⟨b,o,none⟩):: .pointer (some ⟨b',pc.nu.off+(d.2.1*pc.nu.esz+0),none⟩)::au/\ns=⟨Wck b o,rng b o t.size⟩::(n1++n2)/\ks=Wck b o::aC/\
   WfP G w t d.1 b o n1/\n1[lf]?=some pc/\pc.nu.blk=some b'/\d.2.1<pc.nu.len/\Wbl G w ps d.2.2 au n2 aC
def WbD(G:GH)(w:World):(ps:List PTy)->Wgh ps->List Nu->List CS->List Pc->Prop
 | [],_,ks,kf,ns=>ks= []/\kf= []/\ns= []
 | .v _ _::ps,o,ks,kf,ns=>WbD G w ps o ks kf ns
 | .box t::ps,o,ks,kf,ns=>∃b off aC dI n1 n2,ks=Wck b off::aC/\kf=rng b off t.size::dI/\ns=n1++n2/\WfP G w t o.1 b off n1/\WbD G w ps o.2 aC dI n2
 | .mut e::ps,o,ks,kf,ns=>∃pc:Pc,∃aC dI,ks=pc.nu::aC/\kf=pc.fp::dI/\WbP w (Wy G w e) e.size pc.nu o.1 pc.fp/\WbD G w ps o.2 aC dI ns
 | .clos _ _::ps,o,ks,kf,ns=>WbD G w ps o ks kf ns
 | .kv t _::ps,o,ks,kf,ns=>∃n1 aC dI us,ks=nus n1++aC/\kf=fps n1++dI/\Wy G w t o.1 us n1/\WbD G w ps o.2 aC dI ns
 | .rp _::ps,o,ks,kf,ns=>WbD G w ps o ks kf ns
 | .vj _::_,_,_,_,_=>False
 | .boxal t _::ps,o,ks,kf,ns=>∃b off aC dI n1 n2,ks=Wck b off::aC/\kf=rng b off t.size::dI/\ns=n1++n2/\WfP G w t o.1 b off n1/\WbD G w ps o.2 aC dI n2
def WgT(G:GH)(w:World):(rs:List PTy)->Whr rs->List Value->List Pc->Prop
 | [],_,vs,ns=>vs= []/\ns= []
 | .v t agg::rs,d,vs,ns=>∃v au n1 n2,vs=v::au/\ns=n1++n2/\Wj3 G w t agg d.1 v n1/\WgT G w rs d.2 au n2
 | .box t::rs,d,vs,ns=>∃b o au n1 n2,vs= .pointer (some ⟨b,o,none⟩)::au/\ns=⟨Wck b o,rng b o t.size⟩::(n1++n2)/\WfP G w t d.1 b o n1/\WgT G w rs d.2 au n2
 | .mut _::_,_,_,_=>False
 | .clos _ _::_,_,_,_=>False
 | .kv _ _::_,_,_,_=>False
 | .rp _::_,_,_,_=>False
 | .vj t::rs,d,vs,ns=>∃us u au n1 n2,vs= .agg (us++ [u]).toArray::au/\u.oneCell'=true/\ns=n1++n2/\Wy G w t d.1 us n1/\WgT G w rs d.2 au n2
 | .boxal _ _::_,_,_,_=>False
def Wjo:List Value->Value
 | [v]=>v
 |vs=>.tuple vs.toArray
def Of(ns:List Pc):CS:=λb o=>∃q∈ns,q.fp b o
structure After(sg:Sig)(o:Wgh sg.ps×Whr sg.rs)(G:GH)(w:World)(ns:List Pc)(ks:List Nu)(rv:List Value)(kf:List CS)(ms di:List Pc)(G':GH)(w':World):Prop where
 res:WgT G' w' sg.rs o.2 rv di
 outs:WbD G' w' sg.ps o.1 ks kf ms
 sep:Sep (kf++fps (ms++di))
 own:∀S∈kf++fps (ms++di),∀b off,S b off->G' b off=none/\(Of ns b off\/w.heap.size<=b)/\b<w'.heap.size
 gx:GExt w.heap.size (Of ns) G G'
 g:∀b o v,G' b o=some v->w'.cell? ⟨b,o,none⟩=some v
 le:WLe (Of ns) w w'
def WwD(P:Program)(k:FuncId)(sg:Sig):Prop:=
 ∀(d:WfJ sg.ps) (o:Wgh sg.ps×Whr sg.rs),sg.run d=some o->∀(G:GH) (w:World) (vs:List Value) (ns:List Pc) (ks:List Nu),Wbl G w sg.ps d vs ns ks->Sep (fps ns)->
  (∀q∈ns,∀b off,q.fp b off->G b off=none/\b<w.heap.size)->(∀b o v,G b o=some v->w.cell? ⟨b,o,none⟩=some v)->
  Calls P k vs.toArray w λe w'=>∃rv kf ms di G',e= .returned (Wjo rv)/\After sg o G w ns ks rv kf ms di G' w'
def Wg1(P:Program)(k:FuncId):Prop:=∃fn,P.funcs[k]?=some fn∧fn.body.isNone=false∧(fn.name== "runtime.NumGoroutine")=false
def Ww2(P:Program)(k:FuncId)(i:Inl):Prop:=
 ∀(st:St) (vs:List Value) (out:Out),i.fn Out st WbF=some out->vs.length<=st.env.length->∀(w0:World) (F:CS) (G0 G:GH) (ν:Nat->Nu) (ex:AVal->Value->Prop) (w:World),
  (∀j x,Wp st.env j=some x->∃v,vs[j]?=some v/\AValRel G ν st.nx x v)->HRel w0 F G ν st.objs st.nx w->GExt w0.heap.size F G0 G->(∀x v,ex x v->AValRel G ν st.nx x v)->
  Calls P k vs.toArray w λe w'=>∃rv G' ν',e= .returned rv/\AValRel G' ν' out.2.2 out.1 rv/\HRel w0 F G' ν' out.2.1 out.2.2 w'/\GExt w0.heap.size F G0 G'/\∀x v,ex x v->AValRel G' ν' out.2.2 x v
def WoE(P:Program)(k:FuncId)(sg:Sig):Prop:=match sg.inl with
 |none=>WwD P k sg
 |some i=>Ww2 P k i
def WdT(P:Program)(Γ:Ctx):Prop:=∀k sg,Wp Γ k=some sg->WoE P k sg/\Wg1 P k
section
variable{w0:World}{F:CS}{nt:Slots}{G0 G G':GH}{ν:Nat->Nu}{φ:Nat->CS}{objs:Waa}{nx:Nat}{st af:St}{a:Act}{w w':World}{P:Program}{T:Tab}
theorem WaR:∀(t:Ty) (d:t.den) (nx:Nat),(unfold t d nx).2.2=nx+t.owns
 | .prod a b,d,nx=>by simp only[unfold,WaR a,WaR b,Ty.owns,Xba]
 | .own _,_,_=>rfl
 | .int _,_,_| .bool,_,_| .str,_,_| .slice _,_,_=>rfl
theorem WM{α:Type}{l m:List (Nat×α)}{i:Nat}{x:α}(h:Wp (l++m) i=some x):Wp l i=some x\/Wp m i=some x:=by
 rw[WbH]at h
 grind
def At(ν:Nat->Nu)(φ:Nat->CS)(nx:Nat)(ns:List Pc):Prop:=∀(j:Nat) (pc:Pc),ns[j]?=some pc->ν (nx+j)=pc.nu/\φ (nx+j)=pc.fp
theorem At.left{n1 n2:List Pc}(h:At ν φ nx (n1++n2)):At ν φ nx n1:=λj pc hj=>h j pc (by grind)
theorem At.right{n1 n2:List Pc}{k:Nat}(h:At ν φ nx (n1++n2))(hk:n1.length=k):At ν φ (nx+k) n2:=λj pc hj=>by
 have:=h (k+j) pc (by grind)
 grind
def WqH(G:GH)(ν:Nat->Nu)(φ:Nat->CS)(w:World)(id:Nat)(ob:Ob):Prop:=∃(e:Ty) (xs:List e.den),ob= .arr e xs/\WbP w (Wy G w e) e.size (ν id) xs (φ id)
theorem Wax:∀(t:Ty) (d:t.den) (nx:Nat) (vs:List Value) (ns:List Pc),Wy G w t d vs ns->At ν φ nx ns->
  (∀(am:Nat),nx+t.owns<=am->CellsRel G ν am (unfold t d nx).1 vs)/\
  (∀id ob,Wp (unfold t d nx).2.1 id=some ob->nx<=id/\id<nx+t.owns/\WqH G ν φ w id ob)
 | .own e,d,nx,vs,ns,⟨pc,h1,h2,h3⟩,hν=>by
  obtain⟨hn,hp⟩:ν nx=pc.nu/\φ nx=pc.fp:=by have:=hν 0 pc (by grind);omega
  refine⟨λam hx=>?_,λid ob hl=>?_⟩
  .rw[h2];refine CellsRel.one ⟨by grind [Ty.owns],by rw[hn]⟩ (WiW _)
  .simp only[unfold]at hl;rw[WG]at hl;split at hl
   .rename_i e1;subst e1;injection hl with hl;subst hl;exact⟨Xm _,by simp[Ty.owns],e,d,rfl,by simp_all⟩
   .simp[Wp]at hl
 | .prod p q,d,nx,vs,ns,⟨v1,v2,n1,n2,h1,h2,h3,h4⟩,hν=>by
  subst h2;have bS:=W5 p _ _ _ h3;obtain⟨c1,o1⟩:=Wax p d.1 nx v1 n1 h3 hν.left;obtain⟨c2,o2⟩:=Wax q d.2 (nx+p.owns) v2 n2 h4 (hν.right bS);refine⟨λam hx=>?_,λid ob hl=>?_⟩
  .simp only[Ty.owns]at hx;simp only[unfold,WaR];rw[h1];exact(c1 am (by omega)).append (c2 am (by omega))
  .simp only[unfold,WaR]at hl
   grind [Ty.owns,WM]
 | .int k,d,nx,vs,ns,h,_=>⟨λam _=>WaO (.int k) d vs h.2,λid ob hl=>by simp[unfold,Wp]at hl⟩
 | .bool,d,nx,vs,ns,h,_=>⟨λam _=>WaO .bool d vs h.2,λid ob hl=>by simp[unfold,Wp]at hl⟩
 | .str,d,nx,vs,ns,h,_=>⟨λam _=>WaO .str d vs h.2,λid ob hl=>by simp[unfold,Wp]at hl⟩
 | .slice e,d,nx,vs,ns,h,_=>⟨λam _=>WaO (.slice e) d vs h.2,λid ob hl=>by simp[unfold,Wp]at hl⟩
theorem Wcl:∀(t:Ty) (d:t.den) (nx:Nat),(unfold t d nx).1.length=t.size
 | .prod a b,d,nx=>by simp only[unfold,Xaa,Wcl a,Wcl b,Ty.size]
 | .own _,_,_| .int _,_,_| .bool,_,_| .str,_,_| .slice _,_,_=>rfl
theorem WlN{t:Ty}{agg:Bool}{d:t.den}{v:Value}{ns:List Pc}{nx am:Nat}(h:Wj3 G w t agg d v ns)(hν:At ν φ nx ns)(hx:nx+t.owns<=am):
  AvRel G ν am (Wxj agg (unfold t d nx).1) v:=by
 unfold Wj3 at h;unfold Wxj;cases agg with
 |true=>
  simp only[W4]at h⊢;obtain⟨us,rfl,h⟩:=h;exact⟨us,rfl,(Wax t d nx us ns h hν).1 am hx⟩
 |false=>
  simp only[Xai,W7]at h⊢;have hc:=(Wax t d nx [v] ns h hν).1 am hx;have hl:=hc.1;generalize (unfold t d nx).1=cs at*
  match cs,hl with
  | [c],_=>exact hc.2 0 c v rfl rfl
theorem Wov{t:Ty}{agg:Bool}{d:t.den}{v:Value}{ns:List Pc}(h:Wj3 G w t agg d v ns):∃us,Wy G w t d us ns:=by
 grind [Wj3]
def Wit(objs:Waa):Ty->List Nat->Prop
 | .own e,ids=>∃(id:Nat) (ys:List e.den),ids= [id]/\Wp objs id=some (.arr e ys)
 | .prod a b,ids=>∃i1 i2,ids=i1++i2/\Wit objs a i1/\Wit objs b i2
 | .int _,ids=>ids= []
 | .bool,ids=>ids= []
 | .str,ids=>ids= []
 | .slice _,ids=>ids= []
theorem Wfm{objs:Waa}:∀(t:Ty) (ids:List Nat),Wit objs t ids->ids.length=t.owns
 | .own e,ids,⟨id,ys,h,_⟩=>by rw[h];rfl
 | .prod a b,ids,⟨i1,i2,h,h1,h2⟩=>by rw[h,Xaa,Wfm a _ h1,Wfm b _ h2];rfl
 | .int _,ids,h=>by have:ids= []:=h;rw[this];rfl
 | .bool,ids,h=>by have:ids= []:=h;rw[this];rfl
 | .str,ids,h=>by have:ids= []:=h;rw[this];rfl
 | .slice _,ids,h=>by have:ids= []:=h;rw[this];rfl
def KeptBox(objs:Waa)(ν:Nat->Nu)(bx:List (Nat×CS))(t:Ty)(k:Kp)(nu:Nu):Prop:=
 ∃cs b,Wp objs k.id=some (.box cs)/\k.off+t.size<=cs.length/\(ν k.id).blk=some b/\nu=Wck b ((ν k.id).off+k.off)/\(k.id,rng b ((ν k.id).off+k.off) t.size)∈bx
def KeptOk(objs:Waa)(ν:Nat->Nu)(bx:List (Nat×CS)):List PTy->List Kp->List Nu->Prop
 | [],ids,ks=>ids= []/\ks= []
 | .v _ _::ps,ids,ks=>KeptOk objs ν bx ps ids ks
 | .box t::ps,ids,ks=>∃k bz nu aC,ids=k::bz/\ks=nu::aC/\KeptBox objs ν bx t k nu/\KeptOk objs ν bx ps bz aC
 | .mut e::ps,ids,ks=>∃(id:Nat) (bz:List Kp) (aC:List Nu) (ys:List e.den),ids=⟨id,0⟩::bz/\ks=ν id::aC/\Wp objs id=some (.arr e ys)/\KeptOk objs ν bx ps bz aC
 | .clos _ _::ps,ids,ks=>KeptOk objs ν bx ps ids ks
 | .kv t _::ps,ids,ks=>∃i1 i2 aC,ids=kp0 i1++i2/\ks=i1.map ν++aC/\Wit objs t i1/\KeptOk objs ν bx ps i2 aC
 | .rp _::ps,ids,ks=>KeptOk objs ν bx ps ids ks
 | .vj _::_,_,_=>False
 | .boxal t _::ps,ids,ks=>∃k bz nu aC,ids=k::bz/\ks=nu::aC/\KeptBox objs ν bx t k nu/\KeptOk objs ν bx ps bz aC
theorem KeptBox.mono{bx nq:List (Nat×CS)}{t:Ty}{k:Kp}{nu:Nu}(hb:∀p∈bx,p∈nq)(h:KeptBox objs ν bx t k nu):KeptBox objs ν nq t k nu:=by
 obtain⟨cs,b,h1,h2,h3,h4,h5⟩:=h;exact⟨cs,b,h1,h2,h3,h4,hb _ h5⟩
theorem KeptOk.mono{bx nq:List (Nat×CS)}(hb:∀p∈bx,p∈nq):∀(ps:List PTy) (ids:List Kp) (ks:List Nu),KeptOk objs ν bx ps ids ks->KeptOk objs ν nq ps ids ks
 | [],_,_,h=>h
 | .v _ _::ps,ids,ks,h=>KeptOk.mono hb ps ids ks h
 | .box t::ps,ids,ks,⟨k,bz,nu,aC,h1,h2,h3,h4⟩=>⟨k,bz,nu,aC,h1,h2,h3.mono hb,KeptOk.mono hb ps bz aC h4⟩
 | .mut e::ps,ids,ks,⟨id,bz,aC,ys,h1,h2,h3,h4⟩=>⟨id,bz,aC,ys,h1,h2,h3,KeptOk.mono hb ps bz aC h4⟩
 | .clos _ _::ps,ids,ks,h=>KeptOk.mono hb ps ids ks h
 | .kv t _::ps,ids,ks,⟨i1,i2,aC,h1,h2,h3,h4⟩=>⟨i1,i2,aC,h1,h2,h3,KeptOk.mono hb ps i2 aC h4⟩
 | .rp _::ps,ids,ks,h=>KeptOk.mono hb ps ids ks h
 | .vj _::_,_,_,h=>h.elim
 | .boxal t _::ps,ids,ks,⟨k,bz,nu,aC,h1,h2,h3,h4⟩=>⟨k,bz,nu,aC,h1,h2,h3.mono hb,KeptOk.mono hb ps bz aC h4⟩
def Wnb(G:GH)(ν:Nat->Nu)(w:World)(aW:Waa)(bx:List (Nat×CS))(am:Nat)(id:Nat)(S:CS)(ob:Ob):Prop:=
 (∃mn off ds b us,Wp aW id=some (.box mn)/\ob= .box (Weu mn off ds)/\off+ds.length<=mn.length/\(ν id).blk=some b/\Mem w b ((ν id).off+off) us/\CellsRel G ν am ds us/\
  S=rng b ((ν id).off+off) ds.length/\(id,rng b ((ν id).off+off) ds.length)∈bx)\/
 (∃(e:Ty) (ys xs:List e.den),Wp aW id=some (.arr e ys)/\ob= .arr e xs/\WbP w (Wy G w e) e.size (ν id) xs S)
theorem Whk(aW:Waa){bx:List (Nat×CS)}{am:Nat}:∀(t:Ty) (d:t.den) (us:List Value) (ns:List Pc) (ids:List Nat),Wy G w t d us ns->nus ns=ids.map ν->Wit aW t ids->
  (∀id ob,Wp (WcM t d ids) id=some ob->∃(j:Nat) (S:CS),ids[j]?=some id/\(fps ns)[j]?=some S/\Wnb G ν w aW bx am id S ob)/\∀id∈ids,∃ob,Wp (WcM t d ids) id=some ob
 | .own e,d,us,ns,ids,⟨pc,h1,h2,h3⟩,hn,⟨id,ys,h,bt⟩=>by
  subst h h1;simp only[nus,Xaf,Xcg,List.cons.injEq,and_true]at hn;refine⟨λi ob hl=>?_,λi hi=>?_⟩
  .simp only[WcM,WG]at hl;split at hl
   .rename_i e3;subst e3;injection hl with hl;subst hl;exact⟨0,pc.fp,rfl,rfl,.inr ⟨e,ys,d,bt,rfl,by simp_all⟩⟩
   .simp[Wp]at hl
  simp_all [Xag,WcM,Wp]
 | .prod a b,d,us,ns,ids,⟨u1,u2,n1,n2,h1,h2,h3,h4⟩,hn,⟨i1,i2,h,sJ,kN⟩=>by
  subst h h2;have bS:=W5 a _ _ _ h3;have ni:=Wfm a _ sJ;simp only[nus,Xz]at hn;obtain⟨e1,e2⟩:=Xfz hn (by rw[Xu,Xu,bS,ni]);have t1:(i1++i2).take a.owns=i1:=by simp_all
  have t2:(i1++i2).drop a.owns=i2:=by simp_all
  obtain⟨a1,a2⟩:=Whk aW (bx:=bx) (am:=am) a d.1 _ n1 i1 h3 e1 sJ;obtain⟨b1,b2⟩:=Whk aW (bx:=bx) (am:=am) b d.2 _ n2 i2 h4 e2 kN;simp only[WcM,t1,t2];refine⟨λi ob hl=>?_,λi hi=>?_⟩
  .rcases WM hl with hl|hl
   .grind [fps,Xcj,Xab]
   grind [fps,Xbx,Xbv,Xu]
  .rcases Xo.1 hi with hi|hi
   .grind [WbH]
   .obtain⟨ob,ho⟩:=b2 i hi;rw[WbH]
    grind
 | .int _,d,us,ns,ids,hr,_,h=>by have:ids= []:=h;grind [WcM,Wp]
 | .bool,d,us,ns,ids,hr,_,h=>by have:ids= []:=h;grind [WcM,Wp]
 | .str,d,us,ns,ids,hr,_,h=>by have:ids= []:=h;grind [WcM,Wp]
 | .slice _,d,us,ns,ids,hr,_,h=>by have:ids= []:=h;grind [WcM,Wp]
theorem Wiw:∀(t:Ty) (d:t.den) (ids:List Nat) (id:Nat) (ob:Ob),Wp (WcM t d ids) id=some ob->id∈ids
 | .own e,d,ids,id,ob,h=>by
  cases ids with
  |nil=>simp[WcM,Wp]at h
  |cons i l=>
   grind [WcM,WG,Xj,Wp]
 | .prod a b,d,ids,id,ob,h=>by
  simp only[WcM]at h;rcases WM h with h|h
  .exact Xco (Wiw a d.1 _ id ob h)
  .exact Xer (Wiw b d.2 _ id ob h)
 | .int _,_,_,_,_,h=>by simp[WcM,Wp]at h
 | .bool,_,_,_,_,h=>by simp[WcM,Wp]at h
 | .str,_,_,_,_,h=>by simp[WcM,Wp]at h
 | .slice _,_,_,_,_,h=>by simp[WcM,Wp]at h
def kids(l:List Kp):List Nat:=l.map Kp.id
theorem Wie(l:List Nat):kids (kp0 l)=l:=by simp[kids,kp0,Function.comp_def]
theorem WaZ(aW:Waa){bx:List (Nat×CS)}:∀(ps:List PTy) (o:Wgh ps) (ids:List Kp) (ks:List Nu) (kf:List CS) (ms:List Pc) (objs:Waa) (nx am:Nat),WbD G w ps o ks kf ms->KeptOk aW ν bx ps ids ks->At ν φ nx ms->
  (kids ids).Nodup->(∀k∈ids,k.id<nx/\Wp objs k.id=Wp aW k.id)->nx+ms.length<=am->
  (Wah ps o ids objs nx).2=nx+ms.length/\kf.length=ids.length/\
  ∀id ob,Wp (Wah ps o ids objs nx).1 id=some ob->(nx<=id/\id<nx+ms.length/\WqH G ν φ w id ob)\/(∃(j:Nat) (S:CS),(kids ids)[j]?=some id/\kf[j]?=some S/\Wnb G ν w aW bx am id S ob)\/(Wp objs id=some ob/\id∉kids ids)
 | [],o,ids,ks,kf,ms,objs,nx,am,⟨_,h1,h2⟩,hk,_,_,_,_=>by subst h1 h2;obtain⟨hk,_⟩:=hk;subst hk;exact⟨rfl,rfl,λid ob hl=>.inr (.inr ⟨hl,by simp[kids]⟩)⟩
 | .v _ _::ps,o,ids,ks,kf,ms,objs,nx,am,h,hk,hν,hn,hi,hx=>WaZ aW ps o ids ks kf ms objs nx am h hk hν hn hi hx
 | .box t::ps,o,ids,ks,kf,ms,objs,nx,am,⟨b,off,aC,dI,n1,n2,h1,h2,h3,hb,h5⟩,hk,hν,hn,hi,hx=>putOuts_box aW t ps o.1 o.2 ids ks kf ms objs nx am (λids ks kf ms objs nx am=>WaZ aW ps o.2 ids ks kf ms objs nx am) ⟨b,off,aC,dI,n1,n2,h1,h2,h3,hb,h5⟩ hk hν hn hi hx
 | .vj _::_,_,_,_,_,_,_,_,_,h,_,_,_,_,_=>h.elim
 | .boxal t _::ps,o,ids,ks,kf,ms,objs,nx,am,⟨b,off,aC,dI,n1,n2,h1,h2,h3,hb,h5⟩,hk,hν,hn,hi,hx=>putOuts_box aW t ps o.1 o.2 ids ks kf ms objs nx am (λids ks kf ms objs nx am=>WaZ aW ps o.2 ids ks kf ms objs nx am) ⟨b,off,aC,dI,n1,n2,h1,h2,h3,hb,h5⟩ hk hν hn hi hx
 | .mut e::ps,o,ids,ks,kf,ms,objs,nx,am,⟨pc,aC,dI,h1,h2,h3,h4⟩,hk,hν,hn,hi,hx=>by
  obtain⟨id,bz,wY,ys,rfl,jL,bt,jZ⟩:=hk;rw[h1]at jL;simp only[List.cons.injEq]at jL;obtain⟨hνid,rfl⟩:=jL;subst h2;have bh:=Xac.1 hn;obtain⟨e1,el,e2⟩:=WaZ aW ps o.2 bz aC dI ms ((id,.arr e o.1)::objs) nx am h4 jZ hν bh.2 (λk oc=>by
   obtain⟨g1,g2⟩:=hi k (Xf _ oc);have bQ:id≠k.id:=λe=>bh.1 (by grind);simp_all [WG,Wc]) hx
  simp only[Wah];refine⟨e1,by simp[el],λi ob hl=>?_⟩;rcases e2 i ob hl with g|⟨j,S,g1,g2,g3⟩|⟨g,gn⟩
  .grind
  .exact .inr (.inl ⟨j+1,S,g1,g2,g3⟩)
  .rw[WG]at g;split at g
   .rename_i e3;subst e3;injection g with g;subst g;exact .inr (.inl ⟨0,pc.fp,rfl,rfl,.inr ⟨e,ys,o.1,bt,rfl,by simp_all⟩⟩)
   .rename_i bQ;exact .inr (.inr ⟨g,λhm=>by rcases Xs.1 hm with hm|hm;exact bQ hm.symm;exact gn hm⟩)
 | .clos _ _::ps,o,ids,ks,kf,ms,objs,nx,am,h,hk,hν,hn,hi,hx=>WaZ aW ps o ids ks kf ms objs nx am h hk hν hn hi hx
 | .rp _::ps,o,ids,ks,kf,ms,objs,nx,am,h,hk,hν,hn,hi,hx=>WaZ aW ps o ids ks kf ms objs nx am h hk hν hn hi hx
 | .kv t agg::ps,o,ids,ks,kf,ms,objs,nx,am,⟨n1,aC,dI,us,h1,h2,h3,h4⟩,⟨i1,i2,wY,bU,qF,ho,jZ⟩,hν,hn,hi,hx=>by
  subst bU h2;have bS:=W5 t _ _ _ h3;have ni:=Wfm t _ ho;rw[h1]at qF;obtain⟨q1,q2⟩:=Xfz qF (by simp[nus,bS,ni]);subst q2;have sL:(kp0 i1).length=t.owns:=by simp[kp0,ni]
  have t1:((kp0 i1++i2).take t.owns).map Kp.id=i1:=by rw[←sL];simp;exact Wie i1
  have t2:(kp0 i1++i2).drop t.owns=i2:=by simp_all
  obtain⟨r1,r2⟩:=Whk (bx:=bx) (am:=am) aW t o.1 us n1 i1 h3 q1 ho;have jt:kids (kp0 i1++i2)=i1++kids i2:=by grind [kids,Wie]
  rw[jt]at hn;obtain⟨m1,m2,m3⟩:=Xae.1 hn;obtain⟨e1,el,e2⟩:=WaZ aW ps o.2 i2 aC dI ms (WcM t o.1 i1++objs) nx am h4 jZ hν m2 (λk oc=>by
   obtain⟨g1,g2⟩:=hi k (Xg _ oc);refine⟨g1,?_⟩;rw[WbH];cases hq:Wp (WcM t o.1 i1) k.id with
   |none=>exact g2
   |some ob=>exact WE rfl (m3 _ (Wiw t o.1 i1 _ ob hq) _ (Xan oc))) hx
  simp only[Wah,t1,t2];have il:(fps n1).length=i1.length:=by simp[fps,bS,ni]
  refine⟨e1,by simp_all,λi ob hl=>?_⟩;rw[jt];rcases e2 i ob hl with g|⟨j,S,g1,g2,g3⟩|⟨g,gn⟩
  .grind
  .refine .inr (.inl ⟨i1.length+j,S,?_,?_,g3⟩)
   .grind
   grind
  .rw[WbH]at g;cases hq:Wp (WcM t o.1 i1) i with
   |some dh=>
    rw[hq]at g;injection g with g;subst g;obtain⟨j,S,g1,g2,g3⟩:=r1 i _ hq;refine .inr (.inl ⟨j,S,?_,?_,g3⟩)
    .grind
    grind
   |none=>
    grind
where
 putOuts_box (aW:Waa) {bx:List (Nat×CS)} (t:Ty) (ps:List PTy) (o1:t.den) (o2:Wgh ps) (ids:List Kp) (ks:List Nu) (kf:List CS) (ms:List Pc) (objs:Waa) (nx am:Nat)
   (ih:∀(ids:List Kp) (ks:List Nu) (kf:List CS) (ms:List Pc) (objs:Waa) (nx am:Nat),WbD G w ps o2 ks kf ms->KeptOk aW ν bx ps ids ks->At ν φ nx ms->
    (kids ids).Nodup->(∀k∈ids,k.id<nx/\Wp objs k.id=Wp aW k.id)->nx+ms.length<=am->
    (Wah ps o2 ids objs nx).2=nx+ms.length/\kf.length=ids.length/\
    ∀id ob,Wp (Wah ps o2 ids objs nx).1 id=some ob->(nx<=id/\id<nx+ms.length/\WqH G ν φ w id ob)\/(∃(j:Nat) (S:CS),(kids ids)[j]?=some id/\kf[j]?=some S/\Wnb G ν w aW bx am id S ob)\/(Wp objs id=some ob/\id∉kids ids))
   (h:∃b off aC dI n1 n2,ks=Wck b off::aC/\kf=rng b off t.size::dI/\ms=n1++n2/\WfP G w t o1 b off n1/\WbD G w ps o2 aC dI n2)
   (hk:∃k bz nu aC,ids=k::bz/\ks=nu::aC/\KeptBox aW ν bx t k nu/\KeptOk aW ν bx ps bz aC) (hν:At ν φ nx ms)
   (hn:(kids ids).Nodup) (hi:∀k∈ids,k.id<nx/\Wp objs k.id=Wp aW k.id) (hx:nx+ms.length<=am):
   (Wah (.box t::ps) (o1,o2) ids objs nx).2=nx+ms.length/\kf.length=ids.length/\
   ∀id ob,Wp (Wah (.box t::ps) (o1,o2) ids objs nx).1 id=some ob->(nx<=id/\id<nx+ms.length/\WqH G ν φ w id ob)\/(∃(j:Nat) (S:CS),(kids ids)[j]?=some id/\kf[j]?=some S/\Wnb G ν w aW bx am id S ob)\/(Wp objs id=some ob/\id∉kids ids):=by
  obtain⟨b,off,aC,dI,n1,n2,h1,h2,h3,⟨us,_,aM,im⟩,h5⟩:=h;obtain⟨k,bz,nu,wY,rfl,jL,⟨mn,b0,bt,cG,bw,mo,tV⟩,jZ⟩:=hk;rw[h1]at jL;simp only[List.cons.injEq]at jL;obtain⟨sF,rfl⟩:=jL;rw[mo]at sF;unfold Wck at sF;injection sF with tW yH;injection tW with tW;subst tW yH h2 h3;have bS:=W5 t _ _ _ im;have ad:(n1++n2).length=t.owns+n2.length:=by rw[Xaa,bS]
  obtain⟨c1,sN⟩:=Wax t o1 nx us n1 im hν.left;have bh:=Xac.1 hn;obtain⟨tX,mN⟩:=hi k (Xj ..);have dH:=Wcl t o1 nx;have gz:WhU (Wp objs k.id) k.off (unfold t o1 nx).1= .box (Weu mn k.off (unfold t o1 nx).1):=by rw[mN,bt];rfl
  obtain⟨e1,el,e2⟩:=ih bz aC dI n2 ((k.id,WhU (Wp objs k.id) k.off (unfold t o1 nx).1)::((unfold t o1 nx).2.1++objs)) (nx+t.owns) am h5 jZ (hν.right bS) bh.2 (λk' oc=>by
   obtain⟨g1,g2⟩:=hi k' (Xf _ oc);refine⟨by omega,?_⟩;rw[WG,Wc (λe=>bh.1 (by rw[e];exact Xan oc)),WbH];cases hq:Wp (unfold t o1 nx).2.1 k'.id with
   |none=>exact g2
   |some ob=>have:=(sN _ ob hq).1;omega) (by omega)
  simp only[Wah,WaR];refine⟨by rw[e1,ad];omega,by simp[el],λi ob hl=>?_⟩;rcases e2 i ob hl with⟨g1,g2,g3⟩|⟨j,S,g1,g2,g3⟩|⟨g,gn⟩
  .exact .inl ⟨by omega,by omega,g3⟩
  .exact .inr (.inl ⟨j+1,S,g1,g2,g3⟩)
  .rw[WG]at g;split at g
   .rename_i e3;subst e3;injection g with g;rw[gz]at g;subst g;refine .inr (.inl ⟨0,_,rfl,rfl,.inl ⟨mn,k.off,_,_,us,bt,rfl,by rw[dH];exact cG,bw,aM,c1 am (by omega),by rw[dH],by rw[dH];exact tV⟩⟩)
   .rename_i bQ;rcases WM g with g|g
    .obtain⟨g1,g2,g3⟩:=sN i ob g;exact .inl ⟨g1,by omega,g3⟩
    .exact .inr (.inr ⟨g,λhm=>by rcases Xs.1 hm with hm|hm;exact bQ hm.symm;exact gn hm⟩)
def Ww3(G:GH)(ν:Nat->Nu)(φ:Nat->CS)(w:World)(am:Nat)(id:Nat)(ob:Ob):Prop:=
 WqH G ν φ w id ob\/∃cs b us,ob= .box cs/\(ν id).blk=some b/\Row w b ((ν id).off+cs.length)/\Mem w b (ν id).off us/\CellsRel G ν am cs us/\CS.le (rng b (ν id).off cs.length) (φ id)
theorem Wd6:∀(rs:List PTy) (d:Whr rs) (vs:List Value) (ns:List Pc) (objs:Waa) (nx am:Nat),WgT G w rs d vs ns->At ν φ nx ns->nx+ns.length<=am->
  (Wbr rs d objs nx).2.2=nx+ns.length/\
  (∀id ob,Wp (Wbr rs d objs nx).2.1 id=some ob->(nx<=id/\id<nx+ns.length/\Ww3 G ν φ w am id ob)\/Wp objs id=some ob)/\
  Wtx G ν am (Wbr rs d objs nx).1 vs
 | [],d,vs,ns,objs,nx,am,⟨h1,h2⟩,_,_=>by subst h1 h2;exact⟨rfl,λid ob hl=>.inr hl,rfl,λj x v hj=>by simp[Wbr]at hj⟩
 | .v t agg::rs,d,vs,ns,objs,nx,am,⟨v,au,n1,n2,h1,h2,h3,h4⟩,hν,hx=>by
  subst h2;obtain⟨us,jV⟩:=Wov h3;have bS:=W5 _ _ _ _ jV;have ad:(n1++n2).length=t.owns+n2.length:=by rw[Xaa,bS]
  obtain⟨_,o1⟩:=Wax t d.1 nx us n1 jV hν.left;obtain⟨e1,e2,e4,e5⟩:=Wd6 rs d.2 au n2 ((unfold t d.1 nx).2.1++objs) (nx+t.owns) am h4 (hν.right bS) (by omega);simp only[Wbr,WaR];refine⟨by rw[e1,ad];omega,λi ob hl=>?_,?_⟩
  .rcases e2 i ob hl with⟨g1,g2,g3⟩|g
   .exact .inl ⟨by omega,by omega,g3⟩
   .rcases WM g with g|g
    .obtain⟨g1,g2,g3⟩:=o1 i ob g;exact .inl ⟨g1,by omega,.inl g3⟩
    .exact .inr g
  .rw[h1];refine⟨by simp[e4],λj x u hj hu=>?_⟩;cases j with
   |zero=>simp at hj hu;subst hj hu;exact WlN h3 hν.left (by omega)
   |succ j=>exact e5 j x u (by simpa using hj) (by simpa using hu)
 | .box t::rs,d,vs,ns,objs,nx,am,⟨b,o,au,n1,n2,h1,h2,⟨us,bi,aM,im⟩,h5⟩,hν,hx=>by
  subst h2;have bS:=W5 _ _ _ _ im;have ad:((⟨Wck b o,rng b o t.size⟩:Pc)::(n1++n2)).length=1+t.owns+n2.length:=by rw[List.length_cons,Xaa,bS];omega
  obtain⟨hν0,hφ0⟩:ν nx=Wck b o/\φ nx=rng b o t.size:=by have:=hν 0 _ rfl;simpa using this
  have hν1:At ν φ (nx+1) (n1++n2):=hν.right (n1:=[⟨Wck b o,rng b o t.size⟩]) rfl;obtain⟨c1,o1⟩:=Wax t d.1 (nx+1) us n1 im hν1.left;obtain⟨e1,e2,e4,e5⟩:=Wd6 rs d.2 au n2 ((nx,.box (unfold t d.1 (nx+1)).1)::((unfold t d.1 (nx+1)).2.1++objs)) (nx+1+t.owns) am h5 (hν1.right bS) (by omega);have dH:=Wcl t d.1 (nx+1);simp only[Wbr,WaR];refine⟨by rw[e1,ad];omega,λid ob hl=>?_,?_⟩
  .rcases e2 id ob hl with⟨g1,g2,g3⟩|g
   .exact .inl ⟨by omega,by omega,g3⟩
   .rw[WG]at g;split at g
    .rename_i e;subst e;injection g with g;subst g;refine .inl ⟨Xm _,by omega,.inr ⟨_,b,us,rfl,by rw[hν0];rfl,?_,?_,c1 am (by omega),?_⟩⟩
     .rw[hν0,dH];exact bi
     .rw[hν0];exact aM
     .rw[hν0,dH,hφ0];exactλ_ _ hh=>hh
    .rcases WM g with g|g
     .obtain⟨g1,g2,g3⟩:=o1 id ob g;exact .inl ⟨by omega,by omega,.inl g3⟩
     .exact .inr g
  .rw[h1];refine⟨by simp[e4],λj x u hj hu=>?_⟩;cases j with
   |zero=>
    simp at hj hu;subst hj hu;exact⟨⟨by omega,b,by rw[hν0];rfl,by rw[hν0];rfl⟩,rfl⟩
   |succ j=>exact e5 j x u (by simpa using hj) (by simpa using hu)
 | .mut _::_,_,_,_,_,_,_,h,_,_=>h.elim
 | .clos _ _::_,_,_,_,_,_,_,h,_,_=>h.elim
 | .kv _ _::_,_,_,_,_,_,_,h,_,_=>h.elim
 | .rp _::_,_,_,_,_,_,_,h,_,_=>h.elim
 | .vj t::rs,d,vs,ns,objs,nx,am,⟨us,u,au,n1,n2,h1,h0,h2,h3,h4⟩,hν,hx=>by
  subst h2;have bS:=W5 _ _ _ _ h3;have ad:(n1++n2).length=t.owns+n2.length:=by rw[Xaa,bS]
  obtain⟨c1,o1⟩:=Wax t d.1 nx us n1 h3 hν.left;obtain⟨e1,e2,e4,e5⟩:=Wd6 rs d.2 au n2 ((unfold t d.1 nx).2.1++objs) (nx+t.owns) am h4 (hν.right bS) (by omega);simp only[Wbr,WaR];refine⟨by rw[e1,ad];omega,λi ob hl=>?_,?_⟩
  .rcases e2 i ob hl with⟨g1,g2,g3⟩|g
   .exact .inl ⟨by omega,by omega,g3⟩
   .rcases WM g with g|g
    .obtain⟨g1,g2,g3⟩:=o1 i ob g;exact .inl ⟨g1,by omega,.inl g3⟩
    .exact .inr g
  .rw[h1];refine⟨by simp[e4],λj x v hj hv=>?_⟩;cases j with
   |zero=>simp at hj hv;subst hj hv;exact⟨us++ [u],rfl,(c1 am (by omega)).append (CellsRel.one trivial h0)⟩
   |succ j=>exact e5 j x v (by simpa using hj) (by simpa using hv)
 | .boxal _ _::_,_,_,_,_,_,_,h,_,_=>h.elim
theorem Wsb{xs:List AV}{vs:List Value}(h:Wtx G ν nx xs vs):AValRel G ν nx (WwG xs) (Wjo vs):=by
 obtain⟨h1,h2⟩:=h
 match xs,vs,h1 with
 | [],[],_=>exact⟨[],rfl,rfl,λj x v hj=>by simp at hj⟩
 | [x],[v],_=>exact h2 0 x v rfl rfl
 |x::y::xs,v::u::vs,h1=>exact⟨v::u::vs,rfl,h1,h2⟩
end
end Go.Sx
namespace Go.Sx
set_option linter.unusedVariables false
set_option linter.unusedSimpArgs false
theorem WaT(i:Nat):∀l:List Nat,Wcv i l=true↔i∈l
 | []=>by simp[Wcv]
 |j::l=>by
  simp only[Wcv,Bool.or_eq_true,WaT i l,Xs];rw[show(Nat.beq i j=true)=(i=j)from by simp]
theorem Wff:∀l:List Nat,Wby l=true↔l.Nodup
 | []=>by simp[Wby]
 |i::l=>by
  have h:=WaT i l;simp only[Wby,Xi,Xaj,Xac,Wff l]
  grind
theorem Woh{l m:List Nat}(h:Wgg l m=true):∀i∈l,i∉m:=λi hi hm=>by
 grind [Wgg,Xad,WaT]
section
variable{w0:World}{F:CS}{nt:Slots}{G0 G G':GH}{ν:Nat->Nu}{φ:Nat->CS}{objs:Waa}{nx:Nat}{st af:St}{a:Act}{w w':World}{P:Program}{T:Tab}
theorem Wl9(h:HR w0 F G ν φ objs nx w){t:Ty}{agg:Bool}{x:AVal}{v:Value}{cs:List Cell}{d:t.den}{m l:List Nat}(hg:GLe G G')(hx:AValRel G ν nx x v)(hl:Lent G' w φ objs l)(hm:m.Nodup)
  (hc:cellsOf agg x=some cs) (hf:Waw t cs objs=some (d,m,l)):∃ns,Wj3 G' w t agg d v ns/\Sep (fps ns)/\(∀p∈ns,CS.le p.fp (FromL φ objs m))/\(∀i∈m,Live objs i)/\(∀i∈l,Live objs i):=by
 unfold cellsOf at hc;split at hc
 .split at hc
  .cases hc
  .rename_i c ha;injection hc with hc;subst hc;obtain⟨ns,h1,h2,h3,h4,h5,_⟩:=Wag h hg t [c] [v] d m l (CellsRel.one hx.1 hx.2) hl hm hf;refine⟨ns,?_,h2,h3,h4,h5⟩;simp_all [Wj3,Wc]
 .split at hc
  .rename_i ds ha;injection hc with hc;subst hc;obtain⟨us,rfl,bV⟩:=hx;obtain⟨ns,h1,h2,h3,h4,h5,_⟩:=Wag h hg t ds us d m l bV hl hm hf;refine⟨ns,?_,h2,h3,h4,h5⟩;unfold Wj3;simp_all
  .cases hc
 .cases hc
def Ww1(objs:Waa)(m:List Nat):Prop:=∀i∈m,∃(e:Ty) (xs:List e.den),Wp objs i=some (.arr e xs)
theorem Win:∀(t:Ty) (cs:List Cell) (d:t.den) (m l:List Nat),Ww1 objs m->Waw t cs objs=some (d,m,l)->m.length<=t.owns
 | .prod a b,cs,d,m,l,ha,h=>by
  simp only[Waw]at h;split at h
  .rename_i x m1 l1 y m2 l2 h1 h2;simp only[Option.some.injEq,Prod.mk.injEq]at h;obtain⟨rfl,rfl,rfl⟩:=h;have:=Win a _ _ _ _ (λi hi=>ha i (Xn _ hi)) h1;have:=Win b _ _ _ _ (λi hi=>ha i (Xg _ hi)) h2;rw[Xaa];show _<=a.owns+b.owns;omega
  grind
 | .own e,cs,d,m,l,ha,h=>by
  simp only[Waw]at h;split at h
  .rename_i id;obtain⟨⟨ys,m'⟩,ho,hf⟩:=Xt.1 h;simp only[Prod.mk.injEq]at hf;obtain⟨rfl,rfl,rfl⟩:=hf;unfold WuO at ho;split at ho
   .obtain⟨zs,_,ho⟩:=Xt.1 ho;obtain⟨_,rfl⟩:=Prod.mk.inj ho;exact Xm 1
   .rename_i e' xs i p bt;split at ho
    .split at ho
     .simp only[Option.some.injEq,Prod.mk.injEq]at ho;obtain⟨_,rfl⟩:=ho;obtain⟨e2,yI,h2⟩:=ha id (Xj ..);simp_all
     grind
    grind
   grind
  .split at h
   .obtain⟨zs,_,h⟩:=Xt.1 h;have h2:=(Prod.mk.inj (Prod.mk.inj h).2).1;subst h2;exact Xm 1
   grind
  .grind
  grind
 | .slice e,cs,d,m,l,_,h=>by
  have hm:m= []:=by
   simp only[Waw]at h
   grind [Xt,Prod.mk.inj]
  simp_all
 | .int k,cs,d,m,l,_,h=>by
  simp only[Waw]at h;split at h
  .obtain⟨q,hq,h⟩:=Xt.1 h;simp_all
  grind
 | .bool,cs,d,m,l,_,h=>by
  simp only[Waw]at h;split at h
  .obtain⟨q,hq,h⟩:=Xt.1 h;simp_all
  grind
 | .str,cs,d,m,l,_,h=>by
  simp only[Waw]at h;split at h
  .obtain⟨q,hq,h⟩:=Xt.1 h;simp_all
  grind
theorem Wfl(h:HR w0 F G ν φ objs nx w)(hg:GLe G G'){t:Ty}(ht:t.owns=0){cs:List Cell}{vs:List Value}{d:t.den}{m l:List Nat}(hc:CellsRel G ν nx cs vs)(hl:Lent G' w φ objs l)(hf:Waw t cs objs=some (d,m,l))(hm:m= []):Wy G' w t d vs []:=by
 subst hm;obtain⟨ns,h1,_⟩:=Wag h hg t cs vs d [] l hc hl Xdd hf;have:=W5 _ _ _ _ h1;simp_all
def pcs(ν:Nat->Nu)(φ:Nat->CS)(m:List Nat):List Pc:=m.map λi=>⟨ν i,φ i⟩
theorem Wvv(m:List Nat):nus (pcs ν φ m)=m.map ν:=by simp[nus,pcs,Function.comp_def]
theorem WoX(m:List Nat):fps (pcs ν φ m)=m.map φ:=by simp[fps,pcs,Function.comp_def]
theorem Wfu(h:HR w0 F G ν φ objs nx w)(hg:GLe G G'):∀(t:Ty) (cs:List Cell) (vs:List Value) (d:t.den) (m l:List Nat),CellsRel G ν nx cs vs->Lent G' w φ objs l->(∀c∈cs,Wtf c=true)->Ww1 objs m->
  Waw t cs objs=some (d,m,l)->m.length=t.owns->Wy G' w t d vs (pcs ν φ m)/\Wit objs t m
 | .prod a b,cs,vs,d,m,l,hc,hl,hw,ha,hf,hm=>by
  have hf0:=hf;simp only[Waw]at hf;split at hf
  .rename_i x m1 l1 y m2 l2 h1 h2;simp only[Option.some.injEq,Prod.mk.injEq]at hf;obtain⟨rfl,rfl,rfl⟩:=hf;have wZ:Ww1 objs m1:=λi hi=>ha i (Xn _ hi);have w6:Ww1 objs m2:=λi hi=>ha i (Xg _ hi);have q1:=Win a _ _ _ _ wZ h1;have q2:=Win b _ _ _ _ w6 h2;rw[Xaa]at hm;have eW:m1.length+m2.length=a.owns+b.owns:=hm;obtain⟨g1,g2⟩:=Wfu h hg a _ (vs.take a.size) x m1 l1 (hc.take _) (hl.mono (by simp_all)) (λc hc=>hw c (Xco hc)) wZ h1 (by omega);obtain⟨g3,g4⟩:=Wfu h hg b _ (vs.drop a.size) y m2 l2 (hc.drop _) (hl.mono (by simp_all)) (λc hc=>hw c (Xer hc)) w6 h2 (by omega);exact⟨⟨_,_,pcs ν φ m1,pcs ν φ m2,(Xdo a.size vs).symm,by simp[pcs],g1,g3⟩,m1,m2,rfl,g2,g4⟩
  grind
 | .own e,cs,vs,d,m,l,hc,hl,hw,ha,hf,hm=>by
  simp only[Waw]at hf;split at hf
  .rename_i id;obtain⟨v,rfl,⟨_,hv⟩,_⟩:=hc.single;subst hv;obtain⟨⟨ys,m'⟩,ho,hf⟩:=Xt.1 hf;simp only[Prod.mk.injEq]at hf;obtain⟨rfl,rfl,rfl⟩:=hf;unfold WuO at ho;split at ho
   .rename_i e' xs bt;obtain⟨zs,bM,ho⟩:=Xt.1 ho;obtain⟨rfl,rfl⟩:=Prod.mk.inj ho;obtain⟨he,hy⟩:=Way bM;subst he;simp only at hy;subst hy;have aH:WbP w (Wy G w e') e'.size (ν id) xs (φ id):=h.ob _ _ bt;exact⟨⟨⟨ν id,φ id⟩,rfl,rfl,Wc9 hg (Same.refl _ w) (λ_ _ hh=>hh) aH⟩,id,xs,rfl,bt⟩
   .rename_i e' xs i p bt;split at ho
    .split at ho
     .simp only[Option.some.injEq,Prod.mk.injEq]at ho;obtain⟨_,rfl⟩:=ho;obtain⟨e2,yI,h2⟩:=ha id (Xj ..);simp_all
     grind
    grind
   grind
  .have:=hw _ (Xag.2 rfl);cases this
  .simp only[Option.some.injEq,Prod.mk.injEq]at hf;obtain⟨rfl,rfl,rfl⟩:=hf;exact WE hm (by show¬(0=1);omega)
  grind
 | .slice e,cs,vs,d,m,l,hc,hl,hw,ha,hf,hm=>by
  have kO:m= []:=Xx hm;have:=Wfl h hg (t:=.slice e) rfl hc hl hf kO;subst kO;exact⟨this,rfl⟩
 | .int k,cs,vs,d,m,l,hc,hl,hw,ha,hf,hm=>by
  have kO:m= []:=Xx hm;have:=Wfl h hg (t:=.int k) rfl hc hl hf kO;subst kO;exact⟨this,rfl⟩
 | .bool,cs,vs,d,m,l,hc,hl,hw,ha,hf,hm=>by
  have kO:m= []:=Xx hm;have:=Wfl h hg (t:=.bool) rfl hc hl hf kO;subst kO;exact⟨this,rfl⟩
 | .str,cs,vs,d,m,l,hc,hl,hw,ha,hf,hm=>by
  have kO:m= []:=Xx hm;have:=Wfl h hg (t:=.str) rfl hc hl hf kO;subst kO;exact⟨this,rfl⟩
theorem WrA{t:Ty}{m:List Nat}{x:AVal}(h:WnW objs t m x=true):m.length=t.owns/\Wvm x=true/\Ww1 objs m:=by
 unfold WnW at h;simp only[Xi,Wi,Xad]at h;obtain⟨⟨h1,h2⟩,h3⟩:=h;refine⟨h1,h2,λi hi=>?_⟩
 grind
theorem Wn0(h:HR w0 F G ν φ objs nx w){t:Ty}{agg:Bool}{x:AVal}{v:Value}{cs:List Cell}{d:t.den}{m l:List Nat}(hg:GLe G G')(hx:AValRel G ν nx x v)(hl:Lent G' w φ objs l)
  (hc:cellsOf agg x=some cs) (hf:Waw t cs objs=some (d,m,l)) (ha:WnW objs t m x=true):Wj3 G' w t agg d v (pcs ν φ m)/\Wit objs t m:=by
 obtain⟨hm,hw,hQ⟩:=WrA ha;unfold cellsOf at hc;split at hc
 .split at hc
  .cases hc
  .rename_i c pL;injection hc with hc;subst hc;obtain⟨h1,h2⟩:=Wfu h hg t [c] [v] d m l (CellsRel.one hx.1 hx.2) hl (λc' gB=>by rw[Xag.1 gB];exact hw) hQ hf hm;simp_all [Wj3,Wc]
 .split at hc
  .rename_i ds pL;injection hc with hc;subst hc;obtain⟨us,rfl,bV⟩:=hx;obtain⟨h1,h2⟩:=Wfu h hg t ds us d m l bV hl (λc' gB=>Xad.1 hw c' gB) hQ hf hm;refine⟨?_,h2⟩;unfold Wj3;simp_all
  .cases hc
 .cases hc
def Tk(φ:Nat->CS)(objs:Waa)(bx:List (Nat×CS))(l:List Nat):CS:=λb o=>∃i∈l,Live objs i/\φ i b o/\∀p∈bx,p.1=i->p.2 b o
structure AOk(G':GH)(ν:Nat->Nu)(φ:Nat->CS)(objs:Waa)(w:World)(ps:List PTy)(A:Args ps)(vs:List Value)(ns:List Pc)(ks:List Nu)(bx:List (Nat×CS)):Prop where
 args:Wbl G' w ps A.d vs ns ks
 kept:KeptOk objs ν bx ps A.kept ks
 sep:Sep (fps ns)
 tk:∀q∈ns,CS.le q.fp (Tk φ objs bx A.all)
 bx:∀p∈bx,p.1∈A.all
 live:∀i∈A.all,Live objs i
 lent:∀i∈A.lent,Live objs i
 mv:∀i∈A.moved,i∈A.all
 mvk:∀i∈A.all,i∈A.moved\/i∈kids A.kept
 sub:(kids A.kept).Sublist A.all
 dis:∀i∈kids A.kept,i∉A.moved
theorem WiA{bx:List (Nat×CS)}{l:List Nat}:CS.le (Tk φ objs bx l) (FromL φ objs l):=λb o ⟨i,hi,h1,h2,_⟩=>⟨i,hi,h1,h2⟩
theorem WlS{bx nq:List (Nat×CS)}{l l':List Nat}(hl:∀i∈l,i∈l')(hb:∀p∈nq,p∈bx\/p.1∉l):CS.le (Tk φ objs bx l) (Tk φ objs nq l'):=λb o ⟨i,hi,h1,h2,h3⟩=>
 ⟨i,hl i hi,h1,h2,λp hp e=>by
  grind⟩
theorem Wpa{bx:List (Nat×CS)}{m l:List Nat}(hm:∀i∈m,i∈l)(hb:∀p∈bx,p.1∉m):CS.le (FromL φ objs m) (Tk φ objs bx l):=λb o ⟨i,hi,h1,h2⟩=>
 ⟨i,hm i hi,h1,h2,λp hp e=>WE (by simp_all) (hb p hp)⟩
theorem Wcp(h:HR w0 F G ν φ objs nx w){n1 n2:List Pc}{m l:List Nat}(h1:Sep (fps n1))(h2:Sep (fps n2))(g1:∀q∈n1,CS.le q.fp (FromL φ objs m))(g2:∀q∈n2,CS.le q.fp (FromL φ objs l))(hd:∀i∈m,i∉l):Sep (fps (n1++n2)):=by
 unfold fps;rw[Xz];refine WoY h1 h2 (A:=FromL φ objs m) (B:=FromL φ objs l) (λs hs=>?_) (λs hs=>?_) (FromL.disj h hd)
 .grind
 grind
theorem WpV(h:HR w0 F G ν φ objs nx w)(hg:GLe G G'){t:Ty}{ps:List PTy}{id off:Nat}{cs:List Cell}{d:t.den}{m:List Nat}{A:Args ps}{vs:List Value}{ns:List Pc}{ks:List Nu}{bx:List (Nat×CS)}{v:Value}
  (hv:CellRel G ν nx (.ptr id off) v) (bt:Wp objs id=some (.box cs)) (hf:Waw t ((cs.drop off).take t.size) objs=some (d,m,[])) (bh:(id::(m++A.all)).Nodup) (hA:AOk G' ν φ objs w ps A vs ns ks bx):
  ∃b n1,v= .pointer (some ⟨b,(ν id).off+off,none⟩)/\(ν id).blk=some b/\WfP G' w t d b ((ν id).off+off) n1/\Leaf ν t ((cs.drop off).take t.size) n1/\
   KeptBox objs ν ((id,rng b ((ν id).off+off) t.size)::bx) t ⟨id,off⟩ (Wck b ((ν id).off+off))/\KeptOk objs ν ((id,rng b ((ν id).off+off) t.size)::bx) ps A.kept ks/\
   Sep (fps (⟨Wck b ((ν id).off+off),rng b ((ν id).off+off) t.size⟩::(n1++ns)))/\
   (∀q∈(⟨Wck b ((ν id).off+off),rng b ((ν id).off+off) t.size⟩:Pc)::(n1++ns),CS.le q.fp (Tk φ objs ((id,rng b ((ν id).off+off) t.size)::bx) (id::(m++A.all))))/\
   (∀p∈(id,rng b ((ν id).off+off) t.size)::bx,p.1∈id::(m++A.all))/\(∀i∈id::(m++A.all),Live objs i)/\
   (∀i∈m++A.moved,i∈id::(m++A.all))/\(∀i∈id::(m++A.all),i∈m++A.moved\/i∈id::kids A.kept)/\(id::kids A.kept).Sublist (id::(m++A.all))/\(∀i∈id::kids A.kept,i∉m++A.moved):=by
 obtain⟨bU,b,bw,rfl⟩:=hv;obtain⟨n1,n2⟩:=Xac.1 bh;obtain⟨n3,n4,n5⟩:=Xae.1 n2;have aS:Live objs id:=⟨_,bt,by simp⟩;obtain⟨b',us,cJ,bi,aM,bV,fU⟩:WcP G ν nx w id (φ id) (.box cs):=h.ob _ _ bt;rw[bw]at cJ;injection cJ with cJ;subst cJ;obtain⟨q1,t1,t2,t3,t4,_,t5⟩:=Wag h hg t _ ((us.drop off).take t.size) d m [] ((bV.drop off).take _) (λi hi=>by simp at hi) n3 hf;have ad:=WH _ _ _ _ t1;have cG:off+t.size<=cs.length:=by
  have:=bV.1
  grind [Xbi,Xdv,WbV]
 have hI:CS.le (rng b ((ν id).off+off) t.size) (φ id):=λb' o ⟨k0,k1,k2⟩=>fU b' o ⟨k0,by omega,by omega⟩;refine⟨b,q1,rfl,bw,⟨_,?_,?_,t1⟩,t5,⟨cs,b,bt,cG,bw,rfl,Xj ..⟩,KeptOk.mono (λp hp=>Xf _ hp) _ _ _ hA.kept,?_,?_,?_,?_,?_,?_,?_,?_⟩
 .obtain⟨row,TT,r1,r2⟩:=bi;exact⟨row,TT,r1,by omega⟩
 .intro j v hj;rw[Xbp]at hj;split at hj
  .rw[Xbo]at hj;rw[Xba];exact aM _ v hj
  grind
 .have s1:=Wcp h t2 hA.sep t3 (λq hq b o hh=>WiA b o (hA.tk q hq b o hh)) (λi hi hj=>n5 i hi i hj rfl);refine Xy.2 ⟨λs hs=>?_,s1⟩;obtain⟨p,hp,rfl⟩:=Xw.1 hs;refine CS.disj.mono (FromL.disj h (m:=[id]) (m':=m++A.all) (λi hi hj=>n1 (by simp_all))) (λb o hh=>⟨id,by simp,aS,hI b o hh⟩) (λb o hh=>?_);rcases Xo.1 hp with hp|hp
  .exact FromL.mono (λi hi=>Xn _ hi) b o (t3 p hp b o hh)
  .exact FromL.mono (λi hi=>Xg _ hi) b o (WiA b o (hA.tk p hp b o hh))
 .intro q hq;rcases Xs.1 hq with rfl|hq
  .exactλb o hh=>⟨id,Xj ..,aS,hI b o hh,λp hp e=>by
    rcases Xs.1 hp with rfl|hp
    .exact hh
    .exact WE (Xg _ (by rw[←e];exact hA.bx p hp)) n1⟩
  .rcases Xo.1 hq with hq|hq
   .refineλb o hh=>Wpa (m:=m) (λi hi=>Xf _ (Xn _ hi)) (λp hp hm=>?_) b o (t3 q hq b o hh)
    rcases Xs.1 hp with rfl|hp
    .simp_all
    .exact n5 _ hm _ (hA.bx p hp) rfl
   .refineλb o hh=>WlS (λi hi=>Xf _ (Xg _ hi)) (λp hp=>?_) b o (hA.tk q hq b o hh)
    grind
 .intro p hp;rcases Xs.1 hp with rfl|hp
  .simp_all
  .exact Xf _ (Xg _ (hA.bx p hp))
 .intro i hi;rcases Xs.1 hi with rfl|hi
  .exact aS
  .rcases Xo.1 hi with hi|hi
   .grind
   .exact hA.live i hi
 .intro i hi;rcases Xo.1 hi with hi|hi
  .exact Xf _ (Xn _ hi)
  .exact Xf _ (Xg _ (hA.mv i hi))
 .intro i hi;rcases Xs.1 hi with rfl|hi
  .exact .inr (Xj ..)
  .rcases Xo.1 hi with hi|hi
   .exact .inl (Xn _ hi)
   .rcases hA.mvk i hi with hi|hi
    .exact .inl (Xg _ hi)
    .exact .inr (Xf _ hi)
 .exact List.Sublist.cons_cons _ (List.Sublist.trans hA.sub (Xfm _ _))
 .intro i hi hm;rcases Xs.1 hi with rfl|hi
  .rcases Xo.1 hm with hm|hm
   .exact n1 (Xn _ hm)
   .exact n1 (Xg _ (hA.mv _ hm))
  .rcases Xo.1 hm with hm|hm
   .exact n5 _ hm _ (hA.sub.subset hi) rfl
   .exact hA.dis i hi hm
theorem Wrp(h:HR w0 F G ν φ objs nx w){c:Cell}{y:AVal}{i:Nat}{u:Value}(hy:AValRel G ν nx y u)(he:WsZ objs c y=some i):
  ∃r b,c= .own r/\(ν r).blk=some b/\i<(ν r).len/\u= .pointer (some ⟨b,(ν r).off+(i*(ν r).esz+0),none⟩):=by
 unfold WsZ at he;split at he
 .rename_i r p off;split at he
  .rename_i e xs j p' bt;split at he
   .rename_i hp;injection he with he;subst he;have hp:=Xcl hp;subst hp;obtain⟨mH,k1,k2,k3,b,k4,k5,k6,_⟩:p<nx/\Wic w (Wy G w e) e.size (ν r) (ν p) xs j (φ r):=h.ob _ _ bt;obtain⟨⟨_,b',cJ,rfl⟩,_⟩:=hy;rw[k5]at cJ;injection cJ with cJ;subst cJ;exact⟨r,b,rfl,k4,by omega,by rw[k6,k2,Xbb,Xbb]⟩
   .simp at he
  .simp at he
 .rename_i r r' j off;split at he
  .rename_i e xs bt;split at he
   .rename_i hp;injection he with he;subst he;have hp:=Xcl hp;subst hp;obtain⟨⟨_,ac,b,hb,rfl⟩,_⟩:=hy;exact⟨r,b,rfl,hb,ac,rfl⟩
   .simp at he
  .simp at he
 .simp at he
theorem WaN(h:HR w0 F G ν φ objs nx w)(hg:GLe G G'):∀(ps:List PTy) (xs:List AVal) (vs:List Value) (A:Args ps),vs.length=xs.length->
  (∀(j:Nat) (x:AVal) (v:Value),xs[j]?=some x->vs[j]?=some v->AValRel G ν nx x v)->Lent G' w φ objs A.lent->A.all.Nodup->Wad ps xs objs=some A->
  ∃ns ks bx,AOk G' ν φ objs w ps A vs ns ks bx
 | [],xs,vs,A,ad,hx,hl,bh,hf=>by
  simp only[Wad]at hf;split at hf
  .injection hf with hf;subst hf;have gi:vs= []:=Xx (by simpa using ad);exact⟨[],[],[],⟨gi,rfl,rfl⟩,⟨rfl,rfl⟩,List.Pairwise.nil,by simp,by simp,by simp,by simp,by simp,by simp,List.Sublist.refl _,by simp[kids]⟩
  .cases hf
 | .v t agg::ps,xs,vs,A,ad,hx,hl,bh,hf=>by
  simp only[Wad]at hf;split at hf
  .rename_i x xs;split at hf
   .rename_i d m r A' h1 h2;injection hf with hf;subst hf
    match vs,ad with
    |v::vs,ad=>
     cases hc:cellsOf agg x with
     |none=>simp[hc]at h1
     |some cs=>
      simp[hc]at h1;obtain⟨n1,n2,n3⟩:=Xae.1 bh;obtain⟨q1,g1,g2,g3,g4,g5⟩:=Wl9 h hg (hx 0 x v rfl rfl) (hl.mono (λi hi=>Xn _ hi)) n1 hc h1;obtain⟨ns,ks,bx,hA⟩:=WaN h hg ps xs vs A' (by simpa using ad) (λj y u hj hu=>hx (j+1) y u (by simpa using hj) (by simpa using hu)) (hl.mono (λi hi=>Xg _ hi)) n2 h2;refine⟨q1++ns,ks,bx,⟨v,vs,q1,ns,rfl,rfl,g1,hA.args⟩,hA.kept,Wcp h g2 hA.sep g3 (λq hq b o hh=>WiA b o (hA.tk q hq b o hh)) (λi hi hj=>n3 i hi i hj rfl),λq hq=>?_,λp hp=>Xg _ (hA.bx p hp),λi hi=>?_,λi hi=>?_,λi hi=>?_,λi hi=>?_,List.Sublist.trans hA.sub (Xfm _ _),λi hi hm=>?_⟩
      .rcases Xo.1 hq with hq|hq
       .exactλb o hh=>Wpa (λi hi=>Xn _ hi) (λp hp hm=>n3 _ hm _ (hA.bx p hp) rfl) b o (g3 q hq b o hh)
       .exactλb o hh=>WlS (λi hi=>Xg _ hi) (λp hp=>.inl hp) b o (hA.tk q hq b o hh)
      .rcases Xo.1 hi with hi|hi
       .exact g4 i hi
       .exact hA.live i hi
      .rcases Xo.1 hi with hi|hi
       .exact g5 i hi
       .exact hA.lent i hi
      .rcases Xo.1 hi with hi|hi
       .exact Xn _ hi
       .exact Xg _ (hA.mv i hi)
      .rcases Xo.1 hi with hi|hi
       .exact .inl (Xn _ hi)
       .rcases hA.mvk i hi with hi|hi
        .exact .inl (Xg _ hi)
        .exact .inr hi
      .rcases Xo.1 hm with hm|hm
       .exact n3 _ hm _ (hA.sub.subset hi) rfl
       .exact hA.dis i hi hm
   .cases hf
  .cases hf
 | .box t::ps,xs,vs,A,ad,hx,hl,bh,hf=>by
  simp only[Wad]at hf;split at hf
  .rename_i id off xs;split at hf
   .rename_i cs bt;split at hf
    .rename_i d m A' h1 h2;injection hf with hf;subst hf
     match vs,ad with
     |v::vs,ad=>
      obtain⟨n1,n2⟩:=Xac.1 bh;obtain⟨ns,ks,bx,hA⟩:=WaN h hg ps xs vs A' (by simpa using ad) (λj y u hj hu=>hx (j+1) y u (by simpa using hj) (by simpa using hu)) hl (Xae.1 n2).2.1 h2;obtain⟨b,q1,rfl,bw,k1,_,k2,k3,k4,k5,k6,k7,k8,k9,k10,j8⟩:=WpV h hg (hx 0 _ v rfl rfl).1 bt h1 bh hA;exact⟨_,_,_,⟨b,_,vs,q1,ns,ks,rfl,rfl,rfl,k1,hA.args⟩,⟨_,_,_,_,rfl,rfl,k2,k3⟩,k4,k5,k6,k7,hA.lent,k8,k9,k10,j8⟩
    .cases hf
   .cases hf
  .cases hf
 | .vj _::_,_,_,_,_,_,_,_,hf=>by simp only[Wad]at hf;cases hf
 | .boxal t lf::ps,xs,vs,A,ad,hx,hl,bh,hf=>by
  simp only[Wad]at hf;split at hf
  .rename_i id off y xs;split at hf
   .rename_i cs bt;split at hf
    .rename_i d m A' i h1 h2 h3;injection hf with hf;subst hf
     match vs,ad with
     |v::u::vs,ad=>
      obtain⟨n1,n2⟩:=Xac.1 bh;obtain⟨ns,ks,bx,hA⟩:=WaN h hg ps xs vs A' (by simpa using ad) (λj y u hj hu=>hx (j+2) y u (by simpa using hj) (by simpa using hu)) hl (Xae.1 n2).2.1 h2;obtain⟨b,q1,rfl,bw,k1,kl,k2,k3,k4,k5,k6,k7,k8,k9,k10,j8⟩:=WpV h hg (hx 0 _ v rfl rfl).1 bt h1 bh hA;obtain⟨c,hc,h3⟩:=Xav.1 h3;obtain⟨k,hk,hc⟩:=Xav.1 hc;obtain⟨r,b',rfl,e1,e2,rfl⟩:=Wrp h (hx 1 y u rfl rfl) h3;obtain⟨pc,e3,e4⟩:=kl lf k r hk hc;exact⟨_,_,_,⟨b,_,b',pc,vs,q1,ns,ks,by rw[e4],rfl,rfl,k1,e3,by rw[e4];exact e1,by rw[e4];exact e2,hA.args⟩,⟨_,_,_,_,rfl,rfl,k2,k3⟩,k4,k5,k6,k7,hA.lent,k8,k9,k10,j8⟩
    .cases hf
   .cases hf
  .cases hf
 | .mut e::ps,xs,vs,A,ad,hx,hl,bh,hf=>by
  simp only[Wad]at hf;split at hf
  .rename_i id xs;split at hf
   .rename_i e' ys bt;split at hf
    .rename_i d A' h1 h2;injection hf with hf;subst hf;obtain⟨he,hd⟩:=Way h1;subst he;simp only at hd;subst hd
     match vs,ad with
     |v::vs,ad=>
      obtain⟨⟨_,hv⟩,_⟩:=hx 0 _ v rfl rfl;subst hv;obtain⟨n1,n2⟩:=Xac.1 bh;have aS:Live objs id:=⟨_,bt,by simp⟩;have aT:WbP w (Wy G w e') e'.size (ν id) ys (φ id):=h.ob _ _ bt;obtain⟨ns,ks,bx,hA⟩:=WaN h hg ps xs vs A' (by simpa using ad) (λj y u hj hu=>hx (j+1) y u (by simpa using hj) (by simpa using hu)) hl n2 h2;refine⟨⟨ν id,φ id⟩::ns,ν id::ks,bx,⟨⟨ν id,φ id⟩,vs,ns,ks,rfl,rfl,rfl,Wc9 hg (Same.refl _ w) (λ_ _ hh=>hh) aT,hA.args⟩,⟨id,_,ks,ys,rfl,rfl,bt,hA.kept⟩,?_,λq hq=>?_,λp hp=>Xf _ (hA.bx p hp),λi hi=>?_,hA.lent,λi hi=>Xf _ (hA.mv i hi),λi hi=>?_,List.Sublist.cons_cons _ hA.sub,λi hi hm=>?_⟩
      .refine Wcp h (n1:=[⟨ν id,φ id⟩]) (m:=[id]) (List.pairwise_singleton _ _) hA.sep (λq hq=>?_) (λq hq b o hh=>WiA b o (hA.tk q hq b o hh)) (λi hi hj=>n1 (by rw[←Xag.1 hi];exact hj));rw[Xag.1 hq];exact FromL.one (by simp) aS
      .rcases Xs.1 hq with rfl|hq
       .exactλb o hh=>⟨id,Xj ..,aS,hh,λp hp e=>WE (by rw[←e];exact hA.bx p hp) n1⟩
       .exactλb o hh=>WlS (λi hi=>Xf _ hi) (λp hp=>.inl hp) b o (hA.tk q hq b o hh)
      .rcases Xs.1 hi with rfl|hi
       .exact aS
       .exact hA.live i hi
      .rcases Xs.1 hi with rfl|hi
       .exact .inr (Xj ..)
       .rcases hA.mvk i hi with hi|hi
        .exact .inl hi
        .exact .inr (Xf _ hi)
      .rcases Xs.1 hi with rfl|hi
       .exact n1 (hA.mv _ hm)
       .exact hA.dis i hi hm
    .cases hf
   .cases hf
  .cases hf
 | .clos g n::ps,xs,vs,A,ad,hx,hl,bh,hf=>by
  simp only[Wad]at hf;split at hf
  .rename_i g' caps xs;split at hf
   .rename_i hc;obtain⟨rfl,c7⟩:=hc;cases hA:Wad ps (Whd caps++xs) objs with
    |none=>simp[hA]at hf
    |some A'=>
     simp only[hA,Xca,Option.some.injEq]at hf;subst hf
     match vs,ad with
     |v::vs,ad=>
      obtain⟨⟨cvs,hv,mp,qG⟩,_⟩:=hx 0 _ v rfl rfl;subst hv;obtain⟨ns,ks,bx,hAk⟩:=WaN h hg ps (Whd caps++xs) (cvs++vs) A' (by simp[Whd,mp];simpa using ad) (λj y u hj hu=>by
       rw[Xas]at hj hu;simp only[Whd,Xu]at hj;rw[mp]at hu;split at hj
       .rename_i ac;rw[Wf ac]at hu;rw[Xak]at hj;obtain⟨id,bU,rfl⟩:=Xt.1 hj;obtain⟨h1,h3,h2⟩:=qG _ id u bU hu;exact⟨⟨h1,h2⟩,h3⟩
       .rename_i ac;rw[Wc ac]at hu;exact hx (j-caps.length+1) y u (by simpa using hj) (by simpa using hu)) hl bh hA
      refine⟨ns,ks,bx,⟨cvs,vs,rfl,by rw[mp];exact c7,λu hu=>?_,hAk.args⟩,hAk.kept,hAk.sep,hAk.tk,hAk.bx,hAk.live,hAk.lent,hAk.mv,hAk.mvk,hAk.sub,hAk.dis⟩;obtain⟨j,hj⟩:=Xdw hu;have ac:j<caps.length:=by rw[←mp];exact(Xab.1 hj).1
      exact(qG j _ u (Xq ac) hj).2.1
   .cases hf
  .cases hf
 | .kv t agg::ps,xs,vs,A,ad,hx,hl,bh,hf=>by
  simp only[Wad]at hf;split at hf
  .rename_i x xs;split at hf
   .rename_i d m r A' h1 h2;split at hf
    .rename_i hQ;injection hf with hf;subst hf
     match vs,ad with
     |v::vs,ad=>
      cases hc:cellsOf agg x with
      |none=>simp[hc]at h1
      |some cs=>
       simp[hc]at h1;obtain⟨n1,n2,n3⟩:=Xae.1 bh;have bS:Lent G' w φ objs r:=hl.mono (λi hi=>Xn _ hi);obtain⟨_,_,_,_,g4,g5⟩:=Wl9 h hg (hx 0 x v rfl rfl) bS n1 hc h1;obtain⟨k1,k2⟩:=Wn0 h hg (hx 0 x v rfl rfl) bS hc h1 hQ;obtain⟨ns,ks,bx,hA⟩:=WaN h hg ps xs vs A' (by simpa using ad) (λj y u hj hu=>hx (j+1) y u (by simpa using hj) (by simpa using hu)) (hl.mono (λi hi=>Xg _ hi)) n2 h2;have jt:kids (kp0 m++A'.kept)=m++kids A'.kept:=by simp only[kids,Xz];congr 1;exact Wie m
       have gp:∀q∈pcs ν φ m,CS.le q.fp (FromL φ objs m):=λq hq=>by
        obtain⟨i,hi,rfl⟩:=Xw.1 hq;exact FromL.one hi (g4 i hi)
       have gs:Sep (fps (pcs ν φ m)):=by
        rw[WoX];refine List.pairwise_map.2 (n1.imp_of_mem λ{i j} hi hj bQ=>?_)
        exactλb o h1 h2=>bQ (h.inj i j b o (g4 i hi) (g4 j hj) h1 h2)
       refine⟨pcs ν φ m++ns,m.map ν++ks,bx,⟨v,vs,pcs ν φ m,ns,ks,rfl,rfl,by rw[Wvv],k1,hA.args⟩,⟨m,A'.kept,ks,rfl,rfl,k2,hA.kept⟩,Wcp h gs hA.sep gp (λq hq b o hh=>WiA b o (hA.tk q hq b o hh)) (λi hi hj=>n3 i hi i hj rfl),λq hq=>?_,λp hp=>Xg _ (hA.bx p hp),λi hi=>?_,λi hi=>?_,λi hi=>Xg _ (hA.mv i hi),λi hi=>?_,by rw[jt];exact List.Sublist.append (List.Sublist.refl _) hA.sub,λi hi hm=>?_⟩
       .rcases Xo.1 hq with hq|hq
        .exactλb o hh=>Wpa (λi hi=>Xn _ hi) (λp hp hm=>n3 _ hm _ (hA.bx p hp) rfl) b o (gp q hq b o hh)
        .exactλb o hh=>WlS (λi hi=>Xg _ hi) (λp hp=>.inl hp) b o (hA.tk q hq b o hh)
       .rcases Xo.1 hi with hi|hi
        .exact g4 i hi
        .exact hA.live i hi
       .rcases Xo.1 hi with hi|hi
        .exact g5 i hi
        .exact hA.lent i hi
       .rw[jt];rcases Xo.1 hi with hi|hi
        .exact .inr (Xn _ hi)
        .rcases hA.mvk i hi with hi|hi
         .exact .inl hi
         .exact .inr (Xg _ hi)
       .rw[jt]at hi;rcases Xo.1 hi with hi|hi
        .exact n3 _ hi _ (hA.mv i hm) rfl
        .exact hA.dis i hi hm
    .cases hf
   .cases hf
  .cases hf
 | .rp t::ps,xs,vs,A,ad,hx,hl,bh,hf=>by
  simp only[Wad]at hf;split at hf
  .rename_i id off xs;split at hf
   .rename_i cs bt;split at hf
    .rename_i d r A' h1 h2;split at hf
     case isFalse=>cases hf
     rename_i tY;injection hf with hf;subst hf
     match vs,ad with
     |v::vs,ad=>
      obtain⟨ns,ks,bx,hA⟩:=WaN h hg ps xs vs A' (by simpa using ad) (λj y u hj hu=>hx (j+1) y u (by simpa using hj) (by simpa using hu)) (hl.mono (λi hi=>Xf _ (Xg _ hi))) bh h2;obtain⟨⟨bU,b,bw,rfl⟩,_⟩:=hx 0 _ v rfl rfl;have aS:Live objs id:=⟨_,bt,by simp⟩;obtain⟨b',us,cJ,bi,aM,bV,fU⟩:WcP G ν nx w id (φ id) (.box cs):=h.ob _ _ bt;rw[bw]at cJ;injection cJ with cJ;subst cJ;obtain⟨q1,t1,t2,t3,t4,t5,_⟩:=Wag h hg t _ ((us.drop off).take t.size) d [] r ((bV.drop off).take _) (hl.mono (λi hi=>Xf _ (Xn _ hi))) Xdd h1;have tZ:∀p∈q1,Froz G' w p.fp:=λp hp b o v hh=>by
       obtain⟨i,hi,_⟩:=t3 p hp b o hh;simp at hi
      have gD:Enc G' t.ro (Wvh t d) ((us.drop off).take t.size):=Wd1 (λ_ _ _ hh=>hh) t d _ q1 tZ t1;have kP:=WH _ _ _ _ t1;have cG:off+t.size<=cs.length:=by
       have:=bV.1;rw[Xbi,Xdv]at kP;have:=WbV t;omega
      have bv:WfD G' b ((ν id).off+off) ((us.drop off).take t.size):=λj v hj=>by
       have ua:j<t.size:=by have:=(Xab.1 hj).1;omega
       rw[Xbp,Wf ua,Xbo]at hj;have h3:=aM _ v hj;rw[←Xba]at h3;exact hl id (Xj ..) aS b _ v (fU b _ ⟨rfl,by omega,by omega⟩) h3
      exact⟨ns,ks,bx,⟨b,(ν id).off+off,(us.drop off).take t.size,vs,rfl,((Wa8 t d _ q1 tY).1 t1).1,bv,hA.args⟩,hA.kept,hA.sep,hA.tk,hA.bx,hA.live,λi hi=>by
       rcases Xs.1 hi with rfl|hi
       .exact aS
       .rcases Xo.1 hi with hi|hi
        .exact t5 i hi
        .exact hA.lent i hi,hA.mv,hA.mvk,hA.sub,hA.dis⟩
    .cases hf
   .cases hf
  .rename_i t' d' off xs;split at hf
   .rename_i d A' h1 h2;split at hf
    case isFalse=>cases hf
    rename_i tY;injection hf with hf;subst hf
    match vs,ad with
    |v::vs,ad=>
     obtain⟨ns,ks,bx,hA⟩:=WaN h hg ps xs vs A' (by simpa using ad) (λj y u hj hu=>hx (j+1) y u (by simpa using hj) (by simpa using hu)) hl bh h2;obtain⟨⟨b,o,cs,rfl,e1,e2⟩,_⟩:=hx 0 _ v rfl rfl;have bV:=WaO (ν:=ν) (nx:=nx) t' d' cs e1;obtain⟨q1,t1,t2,t3,t4,t5,_⟩:=Wag h hg t _ ((cs.drop off).take t.size) d [] [] ((bV.drop off).take _) (λi hi=>by simp at hi) Xdd h1;exact⟨ns,ks,bx,⟨b,o+off,(cs.drop off).take t.size,vs,rfl,((Wa8 t d _ q1 tY).1 t1).1,λj v hj=>by
      rw[Xbp]at hj;split at hj
      .rw[Xbo]at hj;rw[Xba];exact hg _ _ _ (e2 _ v hj)
      .simp at hj,hA.args⟩,hA.kept,hA.sep,hA.tk,hA.bx,hA.live,hA.lent,hA.mv,hA.mvk,hA.sub,hA.dis⟩
   .cases hf
  .cases hf
end
end Go.Sx
namespace Go.Sx
set_option linter.unusedVariables false
set_option linter.unusedSimpArgs false
theorem Wbh{G G':GH}{w:World}:∀(t:Ty) (d:t.den) (vs:List Value) (ns:List Pc),t.noRo=true->Wy G w t d vs ns->Wy G' w t d vs ns
 | .own e,_,_,_,hn,⟨pc,h1,h2,h3⟩=>⟨pc,h1,h2,Wik (λx c q hx=>WH e x c q hx) (Same.refl _ w) (λ_ _ hh=>hh) (λx c q _ hx=>Wbh e x c q hn hx) h3⟩
 | .prod a b,_,_,_,hn,⟨v1,v2,n1,n2,h1,h2,h3,h4⟩=>by
  simp only[Ty.noRo,Xi]at hn;exact⟨v1,v2,n1,n2,h1,h2,Wbh a _ _ _ hn.1 h3,Wbh b _ _ _ hn.2 h4⟩
 | .int _,_,_,_,_,h=>h
 | .bool,_,_,_,_,h=>h
 | .str,_,_,_,_,h=>h
 | .slice _,_,_,_,hn,_=>by simp[Ty.noRo]at hn
theorem Wr7{G G':GH}{w:World}{e:Ty}{nu:Nu}{xs:List e.den}{S:CS}(hn:e.noRo=true)(h:WbP w (Wy G w e) e.size nu xs S):WbP w (Wy G' w e) e.size nu xs S:=
 Wik (λx c q hx=>WH e x c q hx) (Same.refl _ w) (λ_ _ hh=>hh) (λx c q _ hx=>Wbh e x c q hn hx) h
theorem WfW{G G':GH}{w:World}{t:Ty}{d:t.den}{b o:Nat}{ns:List Pc}(hn:t.noRo=true)(h:WfP G w t d b o ns):WfP G' w t d b o ns:=by
 obtain⟨us,h1,h2,h3⟩:=h;exact⟨us,h1,h2,Wbh _ _ _ _ hn h3⟩
theorem WsK{G G':GH}{w:World}{t:Ty}{agg:Bool}{d:t.den}{v:Value}{ns:List Pc}(hn:t.noRo=true)(h:Wj3 G w t agg d v ns):Wj3 G' w t agg d v ns:=by
 unfold Wj3 at h⊢;split
 .rename_i ha;rw[Wf ha]at h;obtain⟨us,h1,h2⟩:=h;exact⟨us,h1,Wbh _ _ _ _ hn h2⟩
 .rename_i ha;rw[Wc ha]at h;exact Wbh _ _ _ _ hn h
theorem Web{G G':GH}{w:World}:∀(rs:List PTy) (d:Whr rs) (vs:List Value) (ns:List Pc),rs.all PTy.freshR=true->WgT G w rs d vs ns->WgT G' w rs d vs ns
 | [],_,_,_,_,h=>h
 | .v t agg::rs,d,vs,ns,hn,⟨v,au,n1,n2,h1,h2,h3,h4⟩=>by
  simp only[Xbr,Xi]at hn;exact⟨v,au,n1,n2,h1,h2,WsK hn.1 h3,Web rs _ _ _ hn.2 h4⟩
 | .box t::rs,d,vs,ns,hn,⟨b,o,au,n1,n2,h1,h2,h3,h5⟩=>by
  simp only[Xbr,Xi]at hn;exact⟨b,o,au,n1,n2,h1,h2,WfW hn.1 h3,Web rs _ _ _ hn.2 h5⟩
 | .mut _::_,_,_,_,_,h=>h.elim
 | .clos _ _::_,_,_,_,_,h=>h.elim
 | .kv _ _::_,_,_,_,_,h=>h.elim
 | .rp _::_,_,_,_,_,h=>h.elim
 | .vj t::rs,d,vs,ns,hn,⟨us,u,au,n1,n2,h1,h0,h2,h3,h4⟩=>by
  simp only[Xbr,Xi]at hn;exact⟨us,u,au,n1,n2,h1,h0,h2,Wbh _ _ _ _ hn.1 h3,Web rs _ _ _ hn.2 h4⟩
 | .boxal _ _::_,_,_,_,_,h=>h.elim
theorem WaV{G G':GH}{w:World}:∀(ps:List PTy) (o:Wgh ps) (ks:List Nu) (kf:List CS) (ns:List Pc),ps.all PTy.fresh=true->WbD G w ps o ks kf ns->WbD G' w ps o ks kf ns
 | [],_,_,_,_,_,h=>h
 | .v _ _::ps,o,ks,kf,ns,hn,h=>by
  simp only[Xbr,Xi]at hn;exact WaV ps o ks kf ns hn.2 h
 | .box t::ps,o,ks,kf,ns,hn,⟨b,off,aC,dI,n1,n2,h1,h2,h3,h4,h5⟩=>by
  simp only[Xbr,Xi]at hn;exact⟨b,off,aC,dI,n1,n2,h1,h2,h3,WfW hn.1 h4,WaV ps _ _ _ _ hn.2 h5⟩
 | .mut e::ps,o,ks,kf,ns,hn,⟨pc,aC,dI,h1,h2,h3,h4⟩=>by
  simp only[Xbr,Xi]at hn;exact⟨pc,aC,dI,h1,h2,Wr7 hn.1 h3,WaV ps _ _ _ _ hn.2 h4⟩
 | .clos _ _::ps,o,ks,kf,ns,hn,h=>by
  simp only[Xbr,Xi]at hn;exact WaV ps o ks kf ns hn.2 h
 | .kv t _::ps,o,ks,kf,ns,hn,⟨n1,aC,dI,us,h1,h2,h3,h4⟩=>by
  simp only[Xbr,Xi]at hn;exact⟨n1,aC,dI,us,h1,h2,Wbh _ _ _ _ hn.1 h3,WaV ps _ _ _ _ hn.2 h4⟩
 | .rp _::ps,o,ks,kf,ns,hn,h=>by
  simp only[Xbr,Xi]at hn;exact WaV ps o ks kf ns hn.2 h
 | .vj _::_,_,_,_,_,_,h=>h.elim
 | .boxal t _::ps,o,ks,kf,ns,hn,⟨b,off,aC,dI,n1,n2,h1,h2,h3,h4,h5⟩=>by
  simp only[Xbr,Xi]at hn;exact⟨b,off,aC,dI,n1,n2,h1,h2,h3,WfW hn.1 h4,WaV ps _ _ _ _ hn.2 h5⟩
theorem WeD{objs:Waa}:∀(l:List Nat) (id:Nat),id∉l->Wp (kill objs l) id=Wp objs id
 | [],id,_=>rfl
 |i::l,id,h=>by
  simp only[kill];rw[WG,Wc (λe=>h (by rw[e];exact Xj ..))];exact WeD l id λhm=>h (Xf _ hm)
theorem Wlx:∀{l:List CS},Sep l->∀{i j:Nat} {A B:CS} {b o:Nat},l[i]?=some A->l[j]?=some B->A b o->B b o->i=j
 | [],_,i,j,A,B,b,o,hi,_,_,_=>by simp at hi
 |C::l,hs,i,j,A,B,b,o,hi,hj,ha,hb=>by
  obtain⟨h1,h2⟩:=Xy.1 hs;cases i with
  |zero=>
   simp at hi;subst hi;cases j with
   |zero=>rfl
   |succ j=>
    simp at hj;exact(h1 B (Xar hj) b o ha hb).elim
  |succ i=>
   simp at hi;cases j with
   |zero=>
    simp at hj;subst hj;exact(h1 A (Xar hi) b o hb ha).elim
   |succ j=>
    simp at hj;rw[Wlx h2 hi hj ha hb]
section
variable{w0:World}{F:CS}{nt:Slots}{G0 G G':GH}{ν:Nat->Nu}{φ:Nat->CS}{objs:Waa}{nx:Nat}{st af:St}{a:Act}{w w':World}{P:Program}{T:Tab}
theorem Wrk{f g:Nat->Nu}:∀{l:List Nat},(∀i∈l,g i=f i)->l.map f=l.map g:=λ{l} h=>List.map_congr_left λi hi=>(h i hi).symm
theorem Wcw{ν':Nat->Nu}{bx:List (Nat×CS)}:∀(ps:List PTy) (ids:List Kp) (ks:List Nu),(∀i∈kids ids,ν' i=ν i)->KeptOk objs ν bx ps ids ks->KeptOk objs ν' bx ps ids ks
 | [],_,_,_,h=>h
 | .v _ _::ps,ids,ks,hn,h=>Wcw ps ids ks hn h
 | .box t::ps,ids,ks,hn,⟨k,bz,nu,aC,h1,h2,⟨cs,b,g1,g2,g3,g4,g5⟩,h4⟩=>by
  subst h1;have e:=hn k.id (Xj ..);exact⟨k,bz,nu,aC,rfl,h2,⟨cs,b,g1,g2,by rw[e];exact g3,by rw[e];exact g4,by rw[e];exact g5⟩,Wcw ps bz aC (λi hi=>hn i (Xf _ hi)) h4⟩
 | .mut e::ps,ids,ks,hn,⟨id,bz,aC,ys,h1,h2,h3,h4⟩=>by
  subst h1;exact⟨id,bz,aC,ys,rfl,by rw[hn id (Xj ..)];exact h2,h3,Wcw ps bz aC (λi hi=>hn i (Xf _ hi)) h4⟩
 | .clos _ _::ps,ids,ks,hn,h=>Wcw ps ids ks hn h
 | .kv t _::ps,ids,ks,hn,⟨i1,i2,aC,h1,h2,h3,h4⟩=>by
  subst h1;have jt:kids (kp0 i1++i2)=i1++kids i2:=by simp only[kids,Xz];congr 1;exact Wie i1
  rw[jt]at hn;exact⟨i1,i2,aC,rfl,by rw[h2,Wrk (λi hi=>hn i (Xn _ hi))],h3,Wcw ps i2 aC (λi hi=>hn i (Xg _ hi)) h4⟩
 | .rp _::ps,ids,ks,hn,h=>Wcw ps ids ks hn h
 | .vj _::_,_,_,_,h=>h.elim
 | .boxal t _::ps,ids,ks,hn,⟨k,bz,nu,aC,h1,h2,⟨cs,b,g1,g2,g3,g4,g5⟩,h4⟩=>by
  subst h1;have e:=hn k.id (Xj ..);exact⟨k,bz,nu,aC,rfl,h2,⟨cs,b,g1,g2,by rw[e];exact g3,by rw[e];exact g4,by rw[e];exact g5⟩,Wcw ps bz aC (λi hi=>hn i (Xf _ hi)) h4⟩
theorem Wpx(hr:Rel w0 F nt G0 G ν st a w):∀(l:List Operand) (xs:List AVal),evs st l=some xs->xs.length=l.length/\
  ∀(j:Nat) (x:AVal) (v:Value),xs[j]?=some x->(l.map a.eval)[j]?=some v->AValRel G ν st.nx x v
 | [],xs,h=>by simp[evs]at h;subst h;exact⟨rfl,λj x v hj=>by simp at hj⟩
 |o::l,xs,h=>by
  simp only[evs]at h;split at h
  .rename_i y ys h1 h2;injection h with h;subst h;obtain⟨h3,h4⟩:=Wpx hr l ys h2;refine⟨by simp[h3],λj x v hj hv=>?_⟩;cases j with
   |zero=>simp at hj hv;subst hj hv;exact WL hr o _ h1
   |succ j=>exact h4 j x v (by simpa using hj) (by simpa using hv)
  .simp at h
theorem WpI{o:Oper}{c:Call}{f:Operand}{g:FuncId}{caps:List Value}(ho:o.op= .call c)(hc:c.callee= .value f)(hf:a.eval f= .func (.func g) #[] caps.toArray)(qH:Wg1 P g):
  (execOp a.eval o).run P w= .ok (.enter g (c.args.toList.map a.eval++caps).toArray) w:=by
 obtain⟨fn,h1,h2,h3⟩:=qH;obtain⟨callee,args,argTypes⟩:=c;simp only at hc;subst hc;have e:(#[]++args.map a.eval++caps.toArray)=(args.toList.map a.eval++caps).toArray:=by
  apply Array.ext';simp
 simp only[execOp,ho,resolve,Deferred.ofValue,hf,Sem.run_bind,Sem.run_pure,Result.andThen_ok,invoke,callFunc,run_program,h1,h2,h3,Xai,W7,e]
theorem Wt4{b o k:Nat}{vs us:List Value}(hm:Mem w b o vs)(hu:Mem w' b (o+k) us)(hk:k+us.length<=vs.length)(cq:∀j,j<vs.length->¬(k<=j/\j<k+us.length)->w'.cell? ⟨b,o+j,none⟩=w.cell? ⟨b,o+j,none⟩):
  Mem w' b o (vs.take k++us++vs.drop (k+us.length)):=λj v hj=>by
 have hD:∀v',vs[j]?=some v'->¬(k<=j/\j<k+us.length)->w'.cell? ⟨b,o+j,none⟩=some v':=λv' hv hn=>by
  rw[cq j (Xab.1 hv).1 hn];exact hm j v' hv
 have jZ:(vs.take k).length=k:=by simp;omega
 rw[Xbf,Xas,jZ]at hj;split at hj
 .rename_i ac;rw[Xbp,Wf ac]at hj;exact hD v hj (by omega)
 .rw[Xas]at hj;split at hj
  .have:=hu (j-k) v hj;rw[show o+j=o+k+(j-k) by omega];exact this
  .rw[Xbo,show k+us.length+(j-k-us.length)=j by omega]at hj;exact hD v hj (by omega)
theorem Wme{Γ:Ctx}(hΓ:WdT P Γ){sg:Sig}(dB:sg.inl=none)(hr:Rel w0 F nt G0 G ν st a w){o:Oper}(hd:∀d,o.dst=some d->nt.Ok d){c:Call}{f:Operand}{g:FuncId}{cvs:List Value}{xs:List AVal}{R:Type}{k:St->Option R}{r:R}
  (ho:o.op= .call c) (hc:c.callee= .value f) (od:a.eval f= .func (.func g) #[] cvs.toArray) (mq:Wp Γ g=some sg) (ad:xs.length=(c.args.toList.map a.eval++cvs).length)
  (aR:∀(j:Nat) (x:AVal) (v:Value),xs[j]?=some x->(c.args.toList.map a.eval++cvs)[j]?=some v->AValRel G ν st.nx x v)
  (h:WfM sg st xs (λx objs nx=>k (({env:=st.env,objs:=objs,nx:=nx}:St).put o.dst x))=some r) {K:Act->World->Prop} {Q:Exit->Act->World->Prop}
  (hK:∀af a' w' G' ν',Rel w0 F nt G0 G' ν' af a' w'->k af=some r->K a' w'):o.wp P a w K Q:=by
 obtain⟨du,eJ⟩:=hΓ g sg mq;unfold WoE at du;rw[dB]at du;dsimp only at du;unfold WfM at h;split at h
 .rename_i A hA;split at h
  .rename_i bL;simp only[Xi]at bL;obtain⟨⟨bh,mO⟩,sO⟩:=bL;have bh:=(Wff _).1 bh;have mO:=Woh mO;obtain⟨out,bm,hk⟩:=sg.law' A.d _ r h;dsimp only at hk;obtain⟨φ,hφ⟩:=hr.h;have hC:=hφ.addG_le A.lent;have hG1w:=hφ.addG_w A.lent;obtain⟨ns,ks,bx,hO⟩:=WaN hφ hC sg.ps _ (c.args.toList.map a.eval++cvs) A ad.symm aR (λid bU hl=>(Wi5 _).mono (FromL.one bU hl)) bh hA;have hTk:∀b o,Of ns b o->Tk φ st.objs bx A.all b o:=λb o ⟨q,hq,hh⟩=>hO.tk q hq b o hh;have c9:∀q∈ns,∀b off,q.fp b off->WrQ G w (FromL φ st.objs A.lent) b off=none/\b<w.heap.size:=λq hq b off hh=>by
    obtain⟨i,hi,h1,h2,_⟩:=hO.tk q hq b off hh;refine⟨?_,hφ.bl i b off h1 h2⟩;rw[Wdn (λ⟨j,hj,h3,h4⟩=>by
     have:=hφ.inj i j b off h1 h3 h2 h4;subst this;exact mO _ hj hi)]
    exact hφ.gf i b off h1 h2
   have iT:=du A.d out bm _ w _ ns _ hO.args hO.sep c9 hG1w;unfold Oper.wp;rw[WpI ho hc od eJ,Oper.upon_enter];refine iT.mono λe w' kQ=>?_;obtain⟨rv,kf,ms,di,G2,rfl,hA2⟩:=kQ;simp only;have hG3:∃G3:GH,GLe G G3/\(∀b off v,G3 b off=some v->w'.cell? ⟨b,off,none⟩=some v)/\WgT G3 w' sg.rs out.2 rv di/\WbD G3 w' sg.ps out.1 ks kf ms/\
     GExt w0.heap.size F G0 G3/\(∀S∈kf++fps (ms++di),∀b off,S b off->G3 b off=none)/\(∀id b off,Live st.objs id->φ id b off->¬Tk φ st.objs bx A.all b off->G3 b off=none):=by
    by_cases bg:A.lent= []
    .have hGG:WrQ G w (FromL φ st.objs A.lent)=G:=by
      rw[bg];funext b off;exact Wdn (λ⟨i,hi,_⟩=>by simp at hi)
     rw[hGG]at hA2;refine⟨G2,hA2.gx.le,hA2.g,hA2.res,hA2.outs,⟨λb o v hv=>hA2.gx.le b o v (hr.gx.le b o v hv),λb o v hv=>?_⟩,λS hS b off hh=>(hA2.own S hS b off hh).1,λid b off hl hp hn=>?_⟩
     .rcases hA2.gx.new b o v hv with h1|h1|h1
      .exact hr.gx.new b o v h1
      .exact .inr (.inl (Xal hφ.le.size h1))
      .obtain⟨i,hi,h2,h3,_⟩:=hTk b o h1;exact .inr (hφ.own i b o h2 h3)
     .cases hv:G2 b off with
      |none=>rfl
      |some v=>
       rcases hA2.gx.new b off v hv with h1|h1|h1
       .rw[hφ.gf id b off hl hp]at h1;cases h1
       .have:=hφ.bl id b off hl hp;omega
       .exact WE (hTk b off h1) hn
    .have gG:sg.fresh=true:=by
      rcases Bool.or_eq_true_iff.1 sO with h1|h1
      .exact h1
      .exact WE (by simpa using h1) bg
     unfold Sig.fresh at gG;simp only[Xi]at gG;refine⟨G,λ_ _ _ hh=>hh,λb o v hv=>hA2.g b o v (hA2.gx.le b o v (hC b o v hv)),Web _ _ _ _ gG.1 hA2.res,WaV _ _ _ _ _ gG.2 hA2.outs,hr.gx,λS hS b off hh=>?_,λid b off hl hp _=>hφ.gf id b off hl hp⟩;cases hv:G b off with
     |none=>rfl
     |some v=>
      have:=hA2.gx.le b off v (hC b off v hv);rw[(hA2.own S hS b off hh).1]at this;cases this
   obtain⟨G3,ub,ud,iU,qI,ue,uf,ug⟩:=hG3;obtain⟨ν2,hν2⟩:∃ν2:Nat->Nu,ν2= λi=>if i<st.nx then ν i else((nus (ms++di))[i-st.nx]?).getD ⟨none,0,0,0,0⟩:=⟨_,rfl⟩;obtain⟨φ2,hφ2⟩:∃φ2:Nat->CS,φ2= λi=>if i<st.nx then(λb o=>(∃(j:Nat) (S:CS),(kids A.kept)[j]?=some i/\kf[j]?=some S/\S b o)\/(φ i b o/\¬Tk φ st.objs bx A.all b o))else((fps (ms++di))[i-st.nx]?).getD (λ_ _=>False):=⟨_,rfl⟩;have hνold:Wsl st.nx ν ν2:=λi hi=>by rw[hν2];simp[hi]
   have hAt:At ν2 φ2 st.nx (ms++di):=λj pc hj=>by
    have e1:(nus (ms++di))[j]?=some pc.nu:=by unfold nus;rw[Xak,hj];rfl
    have e2:(fps (ms++di))[j]?=some pc.fp:=by unfold fps;rw[Xak,hj];rfl
    rw[hν2,hφ2];simp only;rw[Wc (by omega),Wc (by omega),Xbv,e1,e2];exact⟨rfl,rfl⟩
   have mP:∀i∈kids A.kept,i<st.nx:=λi hi=>hφ.lt i (hO.live i (hO.sub.subset hi));have mQ:(kids A.kept).Nodup:=bh.sublist hO.sub;obtain⟨yJ,yK,mR⟩:=WaZ (ν:=ν2) (φ:=φ2) (bx:=bx) st.objs sg.ps out.1 A.kept ks kf ms (kill st.objs A.moved) st.nx (st.nx+ms.length+di.length) qI (Wcw _ _ _ (λi hi=>hνold i (mP i hi)) hO.kept) hAt.left mQ (λq hq=>by
    have mm:q.id∈kids A.kept:=Xan hq;exact⟨mP _ mm,WeD _ _ (hO.dis _ mm)⟩) (by omega)
   generalize hp:Wah sg.ps out.1 A.kept (kill st.objs A.moved) st.nx=p at*;obtain⟨tZ,yL,yM⟩:=Wd6 (ν:=ν2) (φ:=φ2) sg.rs out.2 rv di p.1 (st.nx+ms.length) (st.nx+ms.length+di.length) iU (hAt.right rfl) (by omega);rw[yJ]at hk;generalize hq:Wbr sg.rs out.2 p.1 (st.nx+ms.length)=q at*;have iW:∀id ob,Wp q.2.1 id=some ob->ob≠ .dead->
     (st.nx<=id/\id<st.nx+ms.length+di.length/\Ww3 G3 ν2 φ2 w' (st.nx+ms.length+di.length) id ob)\/
     (∃(j:Nat) (S:CS),(kids A.kept)[j]?=some id/\kf[j]?=some S/\Wnb G3 ν2 w' st.objs bx (st.nx+ms.length+di.length) id S ob)\/(Wp st.objs id=some ob/\id∉A.all):=λid ob hl dv=>by
    rcases yL id ob hl with⟨h1,h2,h3⟩|h1
    .exact .inl ⟨by omega,h2,h3⟩
    .rcases mR id ob h1 with⟨h2,h3,h4⟩|h2|⟨h2,h3⟩
     .exact .inl ⟨h2,by omega,.inl h4⟩
     .exact .inr (.inl h2)
     .obtain⟨h4,h5⟩:=WeE A.moved id ob h2 dv;exact .inr (.inr ⟨h4,λhm=>by rcases hO.mvk id hm with h6|h6;exact h5 h6;exact h3 h6⟩)
   have bE:∀id b off,Live q.2.1 id->φ2 id b off->
     (∃(pos:Nat) (S:CS),(kf++fps (ms++di))[pos]?=some S/\S b off/\id=(if pos<kf.length then((kids A.kept)[pos]?).getD 0 else st.nx+(pos-kf.length)))\/
     (Live st.objs id/\φ id b off/\¬Tk φ st.objs bx A.all b off/\id<st.nx):=λid b off ⟨ob,hl,dv⟩ hp=>by
    have oe:id<st.nx->Live st.objs id:=λac=>by
     rcases iW id ob hl dv with⟨h1,_⟩|⟨j,S,h1,_⟩|⟨h1,_⟩
     .omega
     .exact hO.live id (hO.sub.subset (Xar h1))
     .exact⟨ob,h1,dv⟩
    rw[hφ2]at hp
    try simp only at hp
    by_cases ac:id<st.nx
    .rw[Wf ac]at hp;rcases hp with⟨j,S,h1,h2,h3⟩|⟨h1,h2⟩
     .left;have hj:j<kf.length:=(Xab.1 h2).1;refine⟨j,S,by rw[Xcj hj];exact h2,h3,?_⟩;rw[Wf hj,h1];rfl
     .exact .inr ⟨oe ac,h1,h2,ac⟩
    .rw[Wc ac]at hp;left;cases hS:(fps (ms++di))[id-st.nx]? with
     |none=>rw[hS]at hp;exact hp.elim
     |some S=>
      rw[hS]at hp;refine⟨kf.length+(id-st.nx),S,by rw[Xbx (by omega),Xbv];exact hS,hp,?_⟩;rw[Wc (by omega)];omega
   have aT:=hA2.own;have ju:∀{pos:Nat} {S:CS},(kf++fps (ms++di))[pos]?=some S->S∈kf++fps (ms++di):=λh=>Xar h;have hH:HR w0 F G3 ν2 φ2 q.2.1 (st.nx+ms.length+di.length) w':={
    g:=ud
    ob:=λid ob hl=>by
     by_cases dv:ob= .dead
     .subst dv;trivial
     .rcases iW id ob hl dv with⟨h1,h2,⟨e,xs,rfl,h3⟩|⟨cs,b,us,rfl,h3,h4,h5,h6,h7⟩⟩|⟨j,S,h1,h2,h3⟩|⟨h1,h2⟩
      .exact h3
      .exact⟨b,us,h3,h4,h5,h6,h7⟩
      .have bU:id∈kids A.kept:=Xar h1;have ac:=mP id bU;have aS:Live st.objs id:=hO.live id (hO.sub.subset bU);have hSφ:CS.le S (φ2 id):=λb o hh=>by
        rw[hφ2];(try simp only);rw[Wf ac];exact .inl ⟨j,S,h1,h2,hh⟩
       rcases h3 with⟨mn,off,ds,b,us,g1,rfl,g2,g3,g4,g5,rfl,g6⟩|⟨e,ys,xs,g1,rfl,g2⟩
       .rw[hνold id ac]at g3 g4 g6 hSφ;obtain⟨b',vs,e1,e2,e3,e4,e5⟩:WcP G ν st.nx w id (φ id) (.box mn):=hφ.ob _ _ g1;rw[g3]at e1;injection e1 with e1;subst e1;have dH:us.length=ds.length:=g5.1;have sy:vs.length=mn.length:=e4.1;have hY:∀o,(ν id).off<=o->o<(ν id).off+mn.length->¬((ν id).off+off<=o/\o<(ν id).off+off+ds.length)->φ id b o/\¬Tk φ st.objs bx A.all b o:=λo k1 k2 k3=>by
         have hφo:=e5 b o ⟨rfl,k1,k2⟩;refine⟨hφo,λ⟨i,hi,k4,k5,k6⟩=>?_⟩;have:=hφ.inj i id b o k4 aS k5 hφo;subst this;obtain⟨_,k7,k8⟩:=k6 _ g6 rfl;exact k3 ⟨k7,k8⟩
        refine⟨b,_,by rw[hνold id ac];exact g3,by rw[hνold id ac,Wfq g2];exact hA2.le.rows.row _ _ e2,?_,Wfk (e4.mono ub hνold (by omega)) g5,?_⟩
        .rw[hνold id ac];refine Wt4 e3 g4 (by omega) (λj hj hn=>?_);obtain⟨k1,k2⟩:=hY ((ν id).off+j) (by omega) (by omega) (λ⟨k3,k4⟩=>hn ⟨by omega,by omega⟩);exact hA2.le.cell b _ (hφ.bl id b _ aS k1) (λog=>k2 (hTk b _ og))
        .rw[hνold id ac,Wfq g2];intro b' o ⟨k0,k1,k2⟩;subst k0;by_cases dB:(ν id).off+off<=o/\o<(ν id).off+off+ds.length
         .exact hSφ b' o ⟨rfl,dB.1,dB.2⟩
         .rw[hφ2];(try simp only);rw[Wf ac];exact .inr (hY o k1 k2 dB)
       .exact Wc9 (λ_ _ _ hh=>hh) (Same.refl _ w') hSφ g2
      .have mI:Live st.objs id:=⟨ob,h1,dv⟩;have ac:=hφ.lt id mI;have w7:∀b o,φ id b o->¬Tk φ st.objs bx A.all b o:=λb o hp ⟨i,hi,k1,k2,_⟩=>by
        have:=hφ.inj i id b o k1 mI k2 hp;subst this;exact h2 hi
       refine WdX ub (hA2.le.same (λb o og hp=>w7 b o hp (hTk b o og)) (λb o hp=>hφ.bl id b o mI hp)) (λb o hp=>?_) hνold (by omega) ac ob (hφ.ob id ob h1);rw[hφ2];(try simp only);rw[Wf ac];exact .inr ⟨hp,w7 b o hp⟩
    gf:=λid b off hl hp=>by
     rcases bE id b off hl hp with⟨pos,S,h1,h2,_⟩|⟨h1,h2,h3,_⟩
     .exact uf S (ju h1) b off h2
     .exact ug id b off h1 h2 h3
    inj:=λid cl b off hl dZ hp fz=>by
     have key:∀cl,Live st.objs cl->φ cl b off->¬Tk φ st.objs bx A.all b off->∀(pos:Nat) (S:CS),(kf++fps (ms++di))[pos]?=some S->S b off->False:=λcl g1 g2 g3 pos S g4 g5=>by
      rcases(aT S (ju g4) b off g5).2.1 with g6|g6
      .exact g3 (hTk b off g6)
      .have:=hφ.bl cl b off g1 g2;omega
     rcases bE id b off hl hp with⟨pos,S,h1,h2,he⟩|⟨h1,h2,h3,h4⟩<;>rcases bE cl b off dZ fz with⟨uh,S',jW,jX,mL⟩|⟨jW,jX,tH,h4'⟩
     .have:=Wlx hA2.sep h1 jW h2 jX;subst this;rw[he,mL]
     .exact(key cl jW jX tH pos S h1 h2).elim
     .exact(key id h1 h2 h3 uh S' jW jX).elim
     .exact hφ.inj id cl b off h1 jW h2 jX
    own:=λid b off hl hp=>by
     rcases bE id b off hl hp with⟨pos,S,h1,h2,_⟩|⟨h1,h2,h3,_⟩
     .rcases(aT S (ju h1) b off h2).2.1 with h5|h5
      .obtain⟨i,hi,h6,h7,_⟩:=hTk b off h5;exact hφ.own i b off h6 h7
      .exact .inl (Xal hφ.le.size h5)
     .exact hφ.own id b off h1 h2
    lt:=λid ⟨ob,hl,dv⟩=>by
     rcases iW id ob hl dv with⟨_,h2,_⟩|⟨j,S,h1,_⟩|⟨h1,h2⟩
     .exact h2
     .have:=mP id (Xar h1);omega
     .have:=hφ.lt id ⟨ob,h1,dv⟩;omega
    bl:=λid b off hl hp=>by
     rcases bE id b off hl hp with⟨pos,S,h1,h2,_⟩|⟨h1,h2,h3,_⟩
     .exact(aT S (ju h1) b off h2).2.2
     .exact Nat.lt_of_lt_of_le (hφ.bl id b off h1 h2) hA2.le.size
    le:=hφ.le.trans hA2.le (λb off og=>by
     obtain⟨i,hi,h6,h7,_⟩:=hTk b off og;exact hφ.own i b off h6 h7)}
   have hR:=hr.on ub hνold (by omega) ⟨φ2,hH⟩ ue;have hR2:=hR.put (dst:=o.dst) hd (Wsb yM);rw[tZ]at hk;exact hK _ _ _ _ _ hR2 hk
  .cases h
 .cases h
theorem Wv7{Γ:Ctx}(hΓ:WdT P Γ){sg:Sig}(dB:sg.inl=none)(hr:Rel w0 F nt G0 G ν st a w){o:Oper}(hd:∀d,o.dst=some d->nt.Ok d){c:Call}{f:Operand}{g:FuncId}{caps:List Nat}{xs:List AVal}{R:Type}{k:St->Option R}{r:R}
  (ho:o.op= .call c) (hc:c.callee= .value f) (hf:ev st f=some (.s (.one (.clos g caps)))) (mt:evs st c.args.toList=some xs) (mq:Wp Γ g=some sg)
  (h:Wns sg st (xs++Whd caps) (λx objs nx=>k (({env:=st.env,objs:=objs,nx:=nx}:St).put o.dst x))=some r) {K:Act->World->Prop} {Q:Exit->Act->World->Prop}
  (hK:∀af a' w' G' ν',Rel w0 F nt G0 G' ν' af a' w'->k af=some r->K a' w'):o.wp P a w K Q:=by
 obtain⟨⟨cvs,od,c7,mp⟩,_⟩:=WL hr f _ hf;obtain⟨ik,ui⟩:=Wpx hr _ _ mt;have ad:(xs++Whd caps).length=(c.args.toList.map a.eval++cvs).length:=by simp[ik,Whd,c7]
 have aR:∀(j:Nat) (x:AVal) (v:Value),(xs++Whd caps)[j]?=some x->(c.args.toList.map a.eval++cvs)[j]?=some v->AValRel G ν st.nx x v:=λj x v hj hv=>by
  rw[Xas]at hj hv;rw[Xu,←ik]at hv;split at hj
  .rename_i ac;rw[Wf ac]at hv;exact ui j x v hj hv
  .rename_i ac;rw[Wc ac]at hv;simp only[Whd,Xak]at hj;cases hcj:caps[j-xs.length]? with
   |none=>simp[hcj]at hj
   |some id=>
    simp[hcj]at hj;subst hj;obtain⟨h1,h3,h2⟩:=mp _ id v hcj hv;exact⟨⟨h1,h2⟩,h3⟩
 unfold Wns at h;cases sO:sg.fresh with
 |true=>
  rw[sO]at h;exact Wme hΓ dB hr hd ho hc od mq ad aR h hK
 |false=>
  rw[sO]at h;simp only[Wa]at h;split at h
  .rename_i A hA;split at h
   .exact Wme hΓ dB hr hd ho hc od mq ad aR h hK
   .obtain⟨G1,hz⟩:=hr.frz A.lent;refine Wme hΓ dB hz.rel hd ho hc od mq (by simpa using ad) (λj x v hj hv=>?_) h hK;rw[Xak]at hj;obtain⟨y,hy,rfl⟩:=Xt.1 hj;exact hz.val y v (aR j y v hy hv)
  .cases h
theorem Wk0:∀(xs:List AVal) (k i:Nat) (x:AVal),Wp (Wcb k xs) i=some x->k<=i/\xs[i-k]?=some x
 | [],k,i,x,h=>by simp[Wcb,Wp]at h
 |y::xs,k,i,x,h=>by
  simp only[Wcb]at h;rw[WG]at h;split at h
  .rename_i e;subst e;injection h with h;subst h;simp
  .obtain⟨h1,h2⟩:=Wk0 xs (k+1) i x h;refine⟨by omega,?_⟩;rw[show i-k=(i-(k+1))+1 by omega];simpa using h2
theorem Wjw:∀(xs:List AVal) (k:Nat),(Wcb k xs).length=xs.length
 | [],_=>rfl
 |_::xs,k=>by simp[Wcb,Wjw xs]
theorem WuE{Γ:Ctx}(hΓ:WdT P Γ){sg:Sig}{i:Inl}(dB:sg.inl=some i)(hr:Rel w0 F nt G0 G ν st a w){o:Oper}(hd:∀d,o.dst=some d->nt.Ok d){c:Call}{f:Operand}{g:FuncId}{caps:List Nat}{xs:List AVal}{R:Type}{k:St->Option R}{r:R}
  (ho:o.op= .call c) (hc:c.callee= .value f) (hf:ev st f=some (.s (.one (.clos g caps)))) (mt:evs st c.args.toList=some xs) (mq:Wp Γ g=some sg)
  (h:i.fn R {env:=Wcb 0 (xs++Whd caps),objs:=st.objs,nx:=st.nx} (λx objs nx=>k (({env:=st.env,objs:=objs,nx:=nx}:St).put o.dst x))=some r) {K:Act->World->Prop} {Q:Exit->Act->World->Prop}
  (hK:∀af a' w' G' ν',Rel w0 F nt G0 G' ν' af a' w'->k af=some r->K a' w'):o.wp P a w K Q:=by
 obtain⟨⟨cvs,od,c7,mp⟩,_⟩:=WL hr f _ hf;obtain⟨ik,ui⟩:=Wpx hr _ _ mt;have ad:(xs++Whd caps).length=(c.args.toList.map a.eval++cvs).length:=by simp[ik,Whd,c7]
 have aR:∀(j:Nat) (x:AVal) (v:Value),(xs++Whd caps)[j]?=some x->(c.args.toList.map a.eval++cvs)[j]?=some v->AValRel G ν st.nx x v:=λj x v hj hv=>by
  rw[Xas]at hj hv;rw[Xu,←ik]at hv;split at hj
  .rename_i ac;rw[Wf ac]at hv;exact ui j x v hj hv
  .rename_i ac;rw[Wc ac]at hv;simp only[Whd,Xak]at hj;cases hcj:caps[j-xs.length]? with
   |none=>simp[hcj]at hj
   |some id=>
    simp[hcj]at hj;subst hj;obtain⟨h1,h3,h2⟩:=mp _ id v hcj hv;exact⟨⟨h1,h2⟩,h3⟩
 obtain⟨du,eJ⟩:=hΓ g sg mq;unfold WoE at du;rw[dB]at du;dsimp only at du;rw[i.law]at h;obtain⟨out,sJ,kN⟩:=Xav.1 h;have iT:=du _ (c.args.toList.map a.eval++cvs) out sJ (by simp only[Wjw];omega) w0 F G0 G ν (λx v=>nt.ex x v\/∃j,Wp st.env j=some x/\a.tmps[j]?=some v) w (λj x hj=>by
   obtain⟨_,h2⟩:=Wk0 _ _ _ _ hj;have h2:(xs++Whd caps)[j]?=some x:=by simpa using h2
   have ac:j<(c.args.toList.map a.eval++cvs).length:=by rw[←ad];exact(Xab.1 h2).1
   exact⟨_,Xq ac,aR j x _ h2 (Xq ac)⟩) hr.h hr.gx (λx v hv=>by
   rcases hv with hv|⟨j,h1,h2⟩
   .exact hr.ex x v hv
   .obtain⟨u,h3,h4⟩:=hr.env j x h1;rw[h2]at h3;injection h3 with h3;subst h3;exact h4)
 unfold Oper.wp;rw[WpI ho hc od eJ,Oper.upon_enter];refine iT.mono λe w' kQ=>?_;obtain⟨rv,G',ν',rfl,h1,h2,h3,h4⟩:=kQ;simp only;have hR:Rel w0 F nt G0 G' ν' {env:=st.env,objs:=out.2.1,nx:=out.2.2} a w':=⟨hr.defers,hr.ntm,hr.par,λj x hj=>by
  obtain⟨u,h5,_⟩:=hr.env j x hj;exact⟨u,h5,h4 x u (.inr ⟨j,hj,h5⟩)⟩,h2,h3,λx v hv=>h4 x v (.inl hv)⟩
 exact hK _ _ _ _ _ (hR.put (dst:=o.dst) hd h1) kN
end
end Go.Sx
namespace Go.Sx
set_option linter.unusedVariables false
set_option linter.unusedSimpArgs false
section
variable{w0:World}{F:CS}{nt:Slots}{G0 G G':GH}{ν:Nat->Nu}{objs:Waa}{nx:Nat}{st af:St}{a:Act}{w w':World}{P:Program}{T:Tab}{Γ:Ctx}
theorem Done.wp{o:Oper}{af:St}(h:Done P w0 F nt G0 o a w af){K:Act->World->Prop}{Q:Exit->Act->World->Prop}
  (hK:∀a' w' G' ν',Rel w0 F nt G0 G' ν' af a' w'->K a' w'):o.wp P a w K Q:=by
 obtain⟨n,v,w',G',ν',h1,h2,h3⟩:=h;unfold Oper.wp;rw[h1];rcases h2 with rfl|⟨rfl,rfl⟩
 .exact hK _ _ _ _ h3
 .exact hK _ _ _ _ h3
theorem WnS{t:TypeId}{x v:AVal}{af:St}(h:Wda T st t x v=some af):({env:=st.env,objs:=af.objs,nx:=af.nx}:St)=af:=by
 unfold Wda at h;split at h
 .split at h
  .split at h
   .injection h with h;subst h;rfl
   .cases h
  .cases h
 .split at h
  .split at h
   .split at h
    .injection h with h;subst h;rfl
    .cases h
   .split at h
    .split at h
     .split at h
      .injection h with h;subst h;rfl
      .cases h
     .cases h
    .cases h
  .cases h
 .cases h
theorem W3{R:Type}{c:Bool}{x:Option R}{r:R}(h:(bif c then x else none)=some r):c=true/\x=some r:=by
 cases c
 .cases h
 .exact⟨rfl,h⟩
theorem Wb1{R:Type}{c:Prop}[Decidable c]{x:Option R}{r:R}(h:(if c then x else none)=some r):c/\x=some r:=by
 split at h
 .exact⟨by assumption,h⟩
 .cases h
theorem Wn4{e:Ty}{ps:List (Nat×AVal)}{R:Type}{k:KV R}{r:R}(h:WdI st e ps k=some r):
  ∃x ds d m,ps= [(0,x)]/\Whe (WhQ st.objs (WhZ e x) x)=some ds/\Waw e ds (Wei st.objs (WhZ e x))=some (d,m,[])/\Wby m=true/\
   k (.s (.one (.own st.nx))) ((st.nx,.arr e [d])::kill (Wei st.objs (WhZ e x)) m) (st.nx+1)=some r:=by
 match ps with
 | [p]=>
  simp only[WdI]at h;obtain⟨hp,h⟩:=Wb1 h;split at h
  .rename_i ds ij;split at h
   .rename_i d m hf;obtain⟨bh,h⟩:=Wb1 h;exact⟨p.2,ds,d,m,by rw[←hp],ij,hf,bh,h⟩
   .cases h
  .cases h
 | []=>cases h
 |_::_::_=>cases h
theorem Wpm(hT:Waj P T)(hr:Rel w0 F nt G0 G ν st a w){o:Oper}(hd:∀d,o.dst=some d->nt.Ok d){R:Type}{k:St->Option R}{r:R}
  (h:(match Wae T st o.op with|some (c,v)=>bif c then k (({env:=st.env,objs:=st.objs,nx:=st.nx}:St).put o.dst v)else none|none=>none)=some r)
  {K:Act->World->Prop} {Q:Exit->Act->World->Prop} (hK:∀af a' w' G' ν',Rel w0 F nt G0 G' ν' af a' w'->k af=some r->K a' w'):o.wp P a w K Q:=by
 split at h
 .rename_i c v hp;obtain⟨rfl,h⟩:=W3 h;exact(Wr0 hT hr hd hp).wp λa' w' G' ν' cr=>hK _ _ _ _ _ cr h
 .cases h
theorem Wst(hT:Waj P T)(hΓ:WdT P Γ)(hr:Rel w0 F nt G0 G ν st a w){o:Oper}(hd:∀d,o.dst=some d->nt.Ok d){A:List (Nat×An)}{R:Type}{k:St->Option R}{r:R}(h:rx1 T Γ A o st k=some r)
  {K:Act->World->Prop} {Q:Exit->Act->World->Prop} (hK:∀af a' w' G' ν',Rel w0 F nt G0 G' ν' af a' w'->k af=some r->K a' w'):o.wp P a w K Q:=by
 unfold rx1 rxe at h;split at h
 .rename_i t ho;split at h
  .rename_i e n et hl;obtain⟨hc,h⟩:=Wb1 h;simp only[Xi]at hc;exact(Wl3 hT hr hd ho hl hc.1 hc.2).wp λa' w' G' ν' cr=>hK _ _ _ _ _ cr h
  .rename_i te _ hl;obtain⟨hc,h⟩:=Wb1 h;exact(WqL hT hr hd ho hl hc).wp λa' w' G' ν' cr=>hK _ _ _ _ _ cr h
  .cases h
 .rename_i t x ho;split at h
  .rename_i te cs hl hb;cases hv:ev st x with
   |none=>simp[hv]at hb
   |some v=>
    simp only[hv,Xd]at hb;exact(WuG hr hd ho hv hb).wp λa' w' G' ν' cr=>hK _ _ _ _ _ cr h
  .cases h
 .rename_i t parts ho;split at h
  .rename_i ty fs ps hl cy;obtain⟨hc,h⟩:=Wb1 h;split at h
   .rename_i cs hf;refine(WqD hT hr hd ho hl cy hf ?_).wp λa' w' G' ν' cr=>hK _ _ _ _ _ cr h;intro f hf;have:=Xad.1 hc f hf;split at this
    .rename_i te bZ;exact⟨te,bZ,this⟩
    .cases this
   .cases h
  .cases h
 .rename_i t n parts ho;split at h
  .rename_i ty et ps hl cy;split at h
   .rename_i te bg;split at h
    .rename_i e _;obtain⟨hc,h1⟩:=Wb1 h;clear h;simp only[Xi,Wi]at hc;obtain⟨⟨⟨hn,he⟩,hp⟩,ct⟩:=hc;obtain⟨x,ds,d,m,rfl,ij,hf,bh,h⟩:=Wn4 h1;clear h1;subst hn;have bh:=(Wdb _).1 bh;obtain⟨G1,hz⟩:=hr.frz (WhZ e x);obtain⟨p1,p2⟩:=WgM hr _ _ cy;have fy:∃y,parts.toList= [(0,y)]/\AValRel G ν st.nx x (a.eval y):=by
      match iM:parts.toList,p1 with
      | [q],_=>
       rw[iM]at p2;obtain⟨q1,q2⟩:=p2 0 _ q rfl rfl;refine⟨q.2,?_,q2⟩;have:q=(0,q.2):=Prod.ext q1.symm rfl;rw[←this]
     obtain⟨y,yN,yO⟩:=fy;exact(WmK hT hz.rel hd ho yN hl bg (hz.val _ _ yO) ij hf bh he hp ct).wp λa' w' G' ν' cr=>hK _ _ _ _ _ cr h
    split at h
    .rename_i xs hf;obtain⟨hc,h⟩:=Wb1 h;simp only[Xi,Wi]at hc;obtain⟨G1,hz⟩:=hr.frz (Wll ps);obtain⟨p1,p2⟩:=WgM hr _ _ cy;exact(WiH hT hz.rel hd ho hl bg (by simpa [Wmy]using p1) (λj p q hp hq=>by
      simp only[Wmy,Xak]at hp;obtain⟨y,hy,rfl⟩:=Xt.1 hp;exact⟨(p2 j y q hy hq).1,hz.val _ _ (p2 j y q hy hq).2⟩) hf hc.1.1 hc.1.2 hc.2).wp λa' w' G' ν' cr=>hK _ _ _ _ _ cr h
    .cases h
   .cases h
  .cases h
 .rename_i t n c ho;split at h
  .rename_i ty et n' c' hl hn hc;split at h
   .rename_i te bg;obtain⟨k1,tX⟩:∃k,a.eval n= .int k n':=by
     cases hv:ev st n with
     |none=>simp[hv]at hn
     |some v=>simp only[hv,Xd]at hn;exact Wf2 _ _ _ (WL hr n _ hv) hn
    obtain⟨k2,mN⟩:∃k,a.eval c= .int k c':=by
     cases hv:ev st c with
     |none=>simp[hv]at hc
     |some v=>simp only[hv,Xd]at hc;exact Wf2 _ _ _ (WL hr c _ hv) hc
    split at h
    .obtain⟨kR,h⟩:=Wb1 h;obtain⟨hb,h⟩:=W3 h;simp only[Xi,Wi]at hb kR;exact(Wis hT hr hd ho hl bg tX mN hb.1.1 hb.1.2 hb.2 kR.1 kR.2).wp λa' w' G' ν' cr=>hK _ _ _ _ _ cr h
    .obtain⟨kR,h⟩:=Wb1 h;obtain⟨hb,h⟩:=W3 h;simp only[Xi,Wi]at hb kR;exact(Wkb hT hr hd ho hl bg tX mN hb.1.1 hb.1.2 hb.2 kR.1 kR.2).wp λa' w' G' ν' cr=>hK _ _ _ _ _ cr h
   .cases h
  .cases h
 .rename_i t x y ho;split at h
  .rename_i p v hp hv;split at h
   .rename_i af hs;split at h
    .rename_i jI;have h:k (({env:=st.env,objs:=af.objs,nx:=af.nx}:St).put o.dst (.tup []))=some r:=h;obtain⟨G1,hz⟩:=hr.frz (Wf6 st.objs p v);have cq:=WnS hs;simp only at cq;rw[cq,jI]at h;exact(WqP hT hz.rel ho jI (AValRel.mono hz.le (λ_ _=>rfl) (Xm _) _ _ (WL hr x _ hp)) (hz.val _ _ (WL hr y _ hv)) hs).wp λa' w' G' ν' cr=>hK _ _ _ _ _ cr h
    .cases h
   .cases h
  .cases h
 .rename_i t x lo hi ho;split at h
  .rename_i id hx;split at h
   .rename_i ty et l hh hl bt pQ;split at h
    .rename_i te bg;split at h
     .obtain⟨hp,h⟩:=Wb1 h;obtain⟨af,hk,gl⟩:=WsG hT hr hd ho hx hl bg hp bt pQ h;exact gl.wp λa' w' G' ν' cr=>hK _ _ _ _ _ cr hk
     .split at h
      .rename_i h' e xs _ aH;obtain⟨⟨he,hp⟩,h⟩:=Wb1 h;obtain⟨hb,h⟩:=W3 h;simp only[Xi,Wi]at hb;exact(Wrh hT hr hd ho hx hl bg hp he aH bt pQ hb.1 hb.2).wp λa' w' G' ν' cr=>hK _ _ _ _ _ cr h
      .rename_i h' e xs i p _ aH;obtain⟨⟨he,hp,tV⟩,h⟩:=Wb1 h;obtain⟨hb,h⟩:=W3 h;simp only[Xi,Wi]at hb;exact(Wka hT hr hd ho hx hl bg hp he aH tV bt pQ hb.1.1 hb.1.2 hb.2).wp λa' w' G' ν' cr=>hK _ _ _ _ _ cr h
      .cases h
    .cases h
   .cases h
  .rename_i hx;exact Wpm hT hr hd (by rw[ho];rw[ho]at h;exact h) hK
 .rename_i c ho;split at h
  .rename_i s x t t2 hc ha dV;split at h
   .rename_i sv xv hs hx;obtain⟨af,hk,gl⟩:=WoH hT hr hd ho hc ha dV hs hx h;exact gl.wp λa' w' G' ν' cr=>hK _ _ _ _ _ cr hk
   .cases h
  .rename_i x t hc ha dV;split at h
   .rename_i id lo hi hx;split at h
    .rename_i ty et e xs hl aH;split at h
     .rename_i te bg;obtain⟨⟨he,hp,bq⟩,h⟩:=Wb1 h;exact(WqS hT hr hd ho hc ha dV hx hl bg aH he hp bq).wp λa' w' G' ν' cr=>hK _ _ _ _ _ cr h
     .cases h
    .cases h
   .cases h
  .exact Wpm hT hr hd h hK
  .rename_i f args _ hc;split at h
   .rename_i g caps xs hf mt;split at h
    .rename_i sg mq;split at h
     .rename_i dB;exact Wv7 hΓ dB hr hd ho hc hf mt mq h hK
     .rename_i i dB;exact WuE hΓ dB hr hd ho hc hf mt mq h hK
    .cases h
   .cases h
  .cases h
 .exact Wpm hT hr hd h hK
end
end Go.Sx
namespace Go.Sx
set_option linter.unusedVariables false
set_option linter.unusedSimpArgs false
section
variable{w0:World}{F:CS}{nt:Slots}{G0 G G':GH}{ν ν':Nat->Nu}{φ φ':Nat->CS}{objs objs':Waa}{nx am:Nat}{st af:St}{a:Act}{w w':World}{P:Program}{T:Tab}{Γ:Ctx}
theorem Rel.rebind(h:Rel w0 F nt G0 G ν st a w){i:Nat}{x:AVal}{v:Value}(hv:a.tmps[i]?=some v)(hx:AValRel G ν st.nx x v):Rel w0 F nt G0 G ν (st.put (some i) x) a w:=
 ⟨h.defers,h.ntm,h.par,λj y hy=>by
  simp only[St.put]at hy;rw[WG]at hy;split at hy
  .rename_i e;subst e;injection hy with hy;subst hy;exact⟨v,hv,hx⟩
  .exact h.env j y hy,h.h,h.gx,h.ex⟩
theorem CellsRel.set{cs:List Cell}{vs:List Value}(h:CellsRel G ν nx cs vs){off:Nat}{c:Cell}(hc:∀v,vs[off]?=some v->CellRel G ν nx c v):CellsRel G ν nx (cs.set off c) vs:=by
 refine⟨by simp[h.1],λj d v hd hv=>?_⟩;rw[List.getElem?_set]at hd;split at hd
 .rename_i e;subst e;split at hd
  .rename_i ac;injection hd with hd;subst hd;exact⟨hc v hv,(h.2 off cs[off] v (Xq ac) hv).2⟩
  .cases hd
 .exact h.2 j d v hd hv
theorem HRel.mk_box(h:HRel w0 F G ν objs nx w){id:Nat}{cs cR:List Cell}(ho:Wp objs id=some (.box cs))(hl:cR.length=cs.length)
  (hc:∀vs,CellsRel G ν nx cs vs->CellsRel G ν nx cR vs):HRel w0 F G ν ((id,.box cR)::objs) nx w:=by
 obtain⟨φ,h⟩:=h;have aS:Live objs id:=⟨_,ho,by simp⟩;obtain⟨b,vs,h1,h2,h3,h4,h5⟩:WcP G ν nx w id (φ id) (.box cs):=h.ob _ _ ho;exact⟨_,h.put (ν':=ν) (m:=[]) (λ_ _=>rfl) (Xm _) (h.lt id aS) (WLe.refl _ w) (λb o hh=>.inl ⟨id,.inl rfl,aS,hh⟩) (λ_=>⟨b,vs,h1,by rw[hl];exact h2,h3,hc _ h4,by rw[hl];exact h5⟩)⟩
theorem HRel.empt(h:HRel w0 F G ν objs nx w){id:Nat}{e e':Ty}(ho:Wp objs id=some (.arr e' []))(hs:e.size=e'.size):HRel w0 F G ν ((id,.arr e [])::objs) nx w:=by
 obtain⟨φ,h⟩:=h;have aS:Live objs id:=⟨_,ho,by simp⟩;have aH:WcP G ν nx w id (φ id) (.arr e' []):=h.ob _ _ ho;have aH:WbP w (Wy G w e') e'.size (ν id) [] (φ id):=aH;refine⟨_,h.put (ν':=ν) (m:=[]) (λ_ _=>rfl) (Xm _) (h.lt id aS) (WLe.refl _ w) (λb o hh=>.inl ⟨id,.inl rfl,aS,hh⟩) (λ_=>?_)⟩;show WbP w (Wy G w e) e.size (ν id) [] (φ id);rw[hs];unfold WbP at*;refine⟨aH.1,aH.2.1,?_⟩;have h3:=aH.2.2;cases hb:(ν id).blk with
 |none=>rfl
 |some b=>
  rw[hb]at h3;obtain⟨a1,a2,a3,cs,ps,a4,a5,a6,a7⟩:=h3;exact⟨a1,a2,a3,cs,ps,by simpa [Wfa]using a4,a5,a6,a7⟩
theorem HRel.adopt(h:HRel w0 F G ν objs nx w)(e:Ty):HRel w0 F G (upd ν nx ⟨none,0,0,0,e.size⟩) ((nx,.arr e [])::objs) (nx+1) w:=by
 obtain⟨φ,h⟩:=h;refine⟨_,h.put (m:=[]) (S:=λ_ _=>False) (WfF ν nx _) (Xdc _) (Xbu _) (WLe.refl _ w) (λb o hh=>hh.elim) (λ_=>?_)⟩;show WbP _ _ _ (upd ν nx ⟨none,0,0,0,e.size⟩ nx) _ _;rw[Wbx];exact⟨rfl,rfl,rfl⟩
theorem Wk7(e:Ty):CellRel G (upd ν nx ⟨none,0,0,0,e.size⟩) (nx+1) (.own nx) (.slice none 0 0):=
 ⟨Xbu _,by rw[Wbx];rfl⟩
theorem HRel.solo(h:HRel w0 F G ν objs nx w){id lo hi:Nat}{e:Ty}{xs:List e.den}(ho:Wp objs id=some (.arr e xs))(h1:lo<=hi)(h2:hi<=(ν id).len):
  HRel w0 F G (upd ν nx ((ν id).part lo hi)) ((nx,.arr e ((xs.take hi).drop lo))::(id,.dead)::objs) (nx+1) w:=by
 obtain⟨φ,h⟩:=h;have aS:Live objs id:=⟨_,ho,by simp⟩;have aT:WbP w (Wy G w e) e.size (ν id) xs (φ id):=h.ob _ _ ho;refine⟨_,h.put (m:=[id]) (S:=φ id) (WfF ν nx _) (Xdc _) (Xbu _) (WLe.refl _ w) (λb o hh=>.inl ⟨id,.inr (by simp),aS,hh⟩) (λ_=>?_)⟩;show WbP _ _ _ (upd ν nx ((ν id).part lo hi) nx) _ _;rw[Wbx];exact Wol aT h1 h2
theorem WnV{id lo hi:Nat}:CellRel G (upd ν nx ((ν id).part lo hi)) (nx+1) (.own nx) ((ν id).vhdr lo hi):=
 ⟨Xbu _,by rw[Wbx,Wls]⟩
theorem Wjx(h:Rel w0 F nt G0 G ν st a w){p:Nat}(hg:WlU st p=some af):Rel w0 F nt G0 G ν af a w:=by
 unfold WlU at hg;split at hg
 .rename_i r _;split at hg
  .rename_i e xs i p' cs bt fD;split at hg
   .rename_i d m hf;split at hg
    .rename_i bL;injection hg with hg;subst hg;simp only[Xi]at bL;obtain⟨hp,bh⟩:=bL;have hp:=Xcl hp;subst hp;have bh:=(Wdb _).1 bh;obtain⟨n1,n2⟩:=Xac.1 bh;obtain⟨n3,n4⟩:=Xac.1 n2;obtain⟨φ,hφ⟩:=h.h;have aS:Live st.objs r:=⟨_,bt,by simp⟩;have fE:Live st.objs p:=⟨_,fD,by simp⟩;obtain⟨mH,hole⟩:p<st.nx/\Wic w (Wy G w e) e.size (ν r) (ν p) xs i (φ r):=hφ.ob _ _ bt;obtain⟨b,us,hb,bi,aM,bV,fU⟩:WcP G ν st.nx w p (φ p) (.box cs):=hφ.ob _ _ fD;obtain⟨ns,t1,t2,t3,t4,_⟩:=Wag (G':=G) hφ (λ_ _ _ hh=>hh) e cs us d m [] bV (λi hi=>by simp at hi) n4 hf;have dH:=WH _ _ _ _ t1;rw[←bV.1,dH]at fU;have bQ:r≠p:=λe=>n1 (by rw[e];exact Xj ..);refine h.on (λ_ _ _ hh=>hh) (λ_ _=>rfl) (Xm _) ⟨_,hφ.put (ν':=ν) (S:=λb o=>φ r b o\/FromL φ st.objs (p::m) b o) (λ_ _=>rfl) (Xm _) (hφ.lt r aS) (WLe.refl _ w) (λb o hh=>?_) (λ_=>?_)⟩ h.gx
     .rcases hh with hh|⟨j,hj,h1,h2⟩
      .exact .inl ⟨r,.inl rfl,aS,hh⟩
      .exact .inl ⟨j,.inr hj,h1,h2⟩
     .refine Wp1 hole t1 hb aM fU t2 t3 ?_ ?_ ?_ (λb o hh=>.inl hh) (λb o hh=>.inr ⟨p,Xj ..,fE,hh⟩) (λb o hh=>.inr (FromL.mono (λi hi=>Xf _ hi) b o hh))
      .exactλb o h1 h2=>bQ (hφ.inj r p b o aS fE h1 h2)
      .exactλb o h1 ⟨j,hj,h2,h3⟩=>by
        have:=hφ.inj r j b o aS h2 h1 h3;subst this;exact n1 (Xf _ hj)
      .exactλb o h1 ⟨j,hj,h2,h3⟩=>by
        have:=hφ.inj p j b o fE h2 h1 h3;subst this;exact n3 hj
    .cases hg
   .cases hg
  .cases hg
 .cases hg
theorem Wkm(h:Rel w0 F nt G0 G ν st a w){r i:Nat}{e:Ty}{xs:List e.den}(bt:Wp st.objs r=some (.arr e xs))(hi:i<xs.length)(hg:WkU st r i=some af):
  ∃ν' b,Rel w0 F nt G0 G ν' af a w/\st.nx<af.nx/\(ν r).blk=some b/\(ν' st.nx)=Wck b ((ν r).off+i*(ν r).esz)/\af.env=st.env:=by
 unfold WkU at hg;rw[bt]at hg;simp only[Option.some.injEq]at hg;subst hg;obtain⟨φ,hφ⟩:=h.h;have aS:Live st.objs r:=⟨_,bt,by simp⟩;have aT:WbP w (Wy G w e) e.size (ν r) xs (φ r):=hφ.ob _ _ bt;obtain⟨g1,g2,g3⟩:=aT;have uj:=hφ.lt r aS;cases hb:(ν r).blk with
 |none=>simp only[hb]at g3;rw[g3]at hi;simp at hi
 |some b=>
  simp only[hb]at g3;obtain⟨g4,g5,g6,cs,ps,g7,g8,g9,su⟩:=g3;obtain⟨c1,c,c2,p1,pc,p2,k1,k2,k3,k4,k5⟩:=Wpj g7 e.dflt hi;have l1:=Wa5 (λx c q hx=>WH e x c q hx) _ _ _ k3;rw[Xbi,Xce (by omega)]at l1;have lc:=WH _ _ _ _ k4;have lo:=W5 _ _ _ _ k4;have e1:(i+1)*e.size=i*e.size+e.size:=Xbs i e.size;have e2:((ν r).cap-(i+1))*e.size+(i+1)*e.size=(ν r).cap*e.size:=by rw[←Xcs];congr 1;omega
  have qJ:=WaR e (xs.getD i e.dflt) (st.nx+1);have dH:=Wcl e (xs.getD i e.dflt) (st.nx+1);rw[k1]at g8;have m1:Mem w b (ν r).off c1:=g8.left;have m2:Mem w b ((ν r).off+i*e.size) c:=(g8.right l1).left;have m3:Mem w b ((ν r).off+(i+1)*e.size) c2:=by
   have:=(g8.right l1).right lc;rw[Xba,←e1]at this;exact this
  obtain⟨q1,q2⟩:=Xy.1 g9;have hI:=su _ (Xj ..);have nm:∀p∈p1++(pc++p2),CS.le p.fp (φ r):=λp hp=>su _ (Xf _ (Xan (by rw[k2];exact hp)));have pR:∀p∈p1++(pc++p2),CS.disj (rng b (ν r).off ((ν r).cap*e.size)) p.fp:=λp hp=>q1 _ (Xan (by rw[k2];exact hp));rw[k2,Xz,Xz]at q2;obtain⟨s1,s2,s3⟩:=Xah.1 q2;obtain⟨s4,s5,s6⟩:=Xah.1 s2;have rA:CS.le (rng b (ν r).off (i*e.size)) (rng b (ν r).off ((ν r).cap*e.size)):=λb o ⟨x0,x1,x2⟩=>⟨x0,by omega,by omega⟩;have rB:CS.le (rng b ((ν r).off+i*e.size) e.size) (rng b (ν r).off ((ν r).cap*e.size)):=λb o ⟨x0,x1,x2⟩=>⟨x0,by omega,by omega⟩;have rC:CS.le (rng b ((ν r).off+(i+1)*e.size) (((ν r).cap-(i+1))*e.size)) (rng b (ν r).off ((ν r).cap*e.size)):=λb o ⟨x0,x1,x2⟩=>⟨x0,by omega,by omega⟩;obtain⟨SR,hSR⟩:∃SR:CS,SR= λb' o=>rng b (ν r).off (i*e.size) b' o\/rng b ((ν r).off+(i+1)*e.size) (((ν r).cap-(i+1))*e.size) b' o\/∃p∈p1++p2,p.fp b' o:=⟨_,rfl⟩;have hSRφ:CS.le SR (φ r):=λb o hh=>by
   rw[hSR]at hh;rcases hh with hh|hh|⟨p,hp,hh⟩
   .exact hI b o (rA b o hh)
   .exact hI b o (rC b o hh)
   .refine nm p ?_ b o hh;rcases Xo.1 hp with hp|hp
    .exact Xn _ hp
    .exact Xg _ (Xg _ hp)
  obtain⟨ν',hν'⟩:∃ν':Nat->Nu,ν'= λj=>if j<st.nx then ν j else if j=st.nx then Wck b ((ν r).off+i*e.size)else((nus pc)[j-(st.nx+1)]?).getD ⟨none,0,0,0,0⟩:=⟨_,rfl⟩;obtain⟨φ',hφ'⟩:∃φ':Nat->CS,φ'= λj=>if j=r then SR else if j<st.nx then φ j else if j=st.nx then rng b ((ν r).off+i*e.size) e.size else((fps pc)[j-(st.nx+1)]?).getD (λ_ _=>False):=⟨_,rfl⟩;have hνold:Wsl st.nx ν ν':=λj hj=>by rw[hν'];simp[hj]
  have hνp:ν' st.nx=Wck b ((ν r).off+i*e.size):=by rw[hν'];simp
  have hφr:φ' r=SR:=by rw[hφ'];simp
  have hφp:φ' st.nx=rng b ((ν r).off+i*e.size) e.size:=by rw[hφ'];simp;omega
  have hφold:∀j,j<st.nx->j≠r->φ' j=φ j:=λj hj hn=>by rw[hφ'];simp[hj,hn]
  have hAt:At ν' φ' (st.nx+1) pc:=λj q hj=>by
   have x1:(nus pc)[j]?=some q.nu:=by unfold nus;rw[Xak,hj];rfl
   have x2:(fps pc)[j]?=some q.fp:=by unfold fps;rw[Xak,hj];rfl
   rw[hν',hφ'];constructor
   .show(if st.nx+1+j<st.nx then _ else if st.nx+1+j=st.nx then _ else _)=_;rw[Wc (by omega),Wc (by omega),Xbv,x1];rfl
   .show(if st.nx+1+j=r then _ else if st.nx+1+j<st.nx then _ else if st.nx+1+j=st.nx then _ else _)=_;rw[Wc (by omega),Wc (by omega),Wc (by omega),Xbv,x2];rfl
  obtain⟨uc,uo⟩:=Wax (ν:=ν') (φ:=φ') e (xs.getD i e.dflt) (st.nx+1) c pc k4 hAt;have iW:∀id ob,Wp ((r,Ob.hole e xs i st.nx)::(st.nx,Ob.box (unfold e (xs.getD i e.dflt) (st.nx+1)).1)::((unfold e (xs.getD i e.dflt) (st.nx+1)).2.1++st.objs)) id=some ob->ob≠ .dead->
    (id=r/\ob= .hole e xs i st.nx)\/(id=st.nx/\ob= .box (unfold e (xs.getD i e.dflt) (st.nx+1)).1)\/(st.nx+1<=id/\id<st.nx+1+e.owns/\WqH G ν' φ' w id ob)\/(id≠r/\id<st.nx/\Wp st.objs id=some ob):=λid ob hl hd=>by
   rw[WG]at hl;split at hl
   .rename_i x;injection hl with hl;exact .inl ⟨x.symm,hl.symm⟩
   .rename_i sD;rw[WG]at hl;split at hl
    .rename_i x;injection hl with hl;exact .inr (.inl ⟨x.symm,hl.symm⟩)
    .rcases WM hl with hl|hl
     .obtain⟨x1,x2,x3⟩:=uo id ob hl;exact .inr (.inr (.inl ⟨x1,x2,x3⟩))
     .exact .inr (.inr (.inr ⟨λx=>sD x.symm,hφ.lt id ⟨ob,hl,hd⟩,hl⟩))
  have gm:∀id b' o,Live ((r,Ob.hole e xs i st.nx)::(st.nx,Ob.box (unfold e (xs.getD i e.dflt) (st.nx+1)).1)::((unfold e (xs.getD i e.dflt) (st.nx+1)).2.1++st.objs)) id->φ' id b' o->
    (id=r/\SR b' o)\/(id=st.nx/\rng b ((ν r).off+i*e.size) e.size b' o)\/(∃(j:Nat) (q:Pc),id=st.nx+1+j/\pc[j]?=some q/\q.fp b' o)\/(id≠r/\id<st.nx/\Live st.objs id/\φ id b' o):=λid b' o ⟨ob,hl,hd⟩ hp=>by
   rcases iW id ob hl hd with⟨rfl,_⟩|⟨rfl,_⟩|⟨x1,x2,_⟩|⟨x1,x2,x3⟩
   .rw[hφr]at hp;exact .inl ⟨rfl,hp⟩
   .rw[hφp]at hp;exact .inr (.inl ⟨rfl,hp⟩)
   .right;right;left;have ac:id-(st.nx+1)<pc.length:=by omega
    refine⟨id-(st.nx+1),pc[id-(st.nx+1)],by omega,Xq ac,?_⟩;have:=(hAt (id-(st.nx+1)) _ (Xq ac)).2;rw[show st.nx+1+(id-(st.nx+1))=id by omega]at this;rw[this]at hp;exact hp
   .rw[hφold id x2 x1]at hp;exact .inr (.inr (.inr ⟨x1,x2,⟨ob,x3,hd⟩,hp⟩))
  have hq:∀(j:Nat) (q:Pc),pc[j]?=some q->q∈p1++(pc++p2):=λj q hj=>Xg _ (Xn _ (Xar hj));have ff:∀id b' o,(id=r/\SR b' o)\/(id=st.nx/\rng b ((ν r).off+i*e.size) e.size b' o)\/(∃(j:Nat) (q:Pc),id=st.nx+1+j/\pc[j]?=some q/\q.fp b' o)->φ r b' o:=λid b' o hh=>by
   rcases hh with⟨_,hh⟩|⟨_,hh⟩|⟨j,q,_,hj,hh⟩
   .exact hSRφ b' o hh
   .exact hI b' o (rB b' o hh)
   .exact nm q (hq j q hj) b' o hh
  have hH:HR w0 F G ν' φ' ((r,Ob.hole e xs i st.nx)::(st.nx,Ob.box (unfold e (xs.getD i e.dflt) (st.nx+1)).1)::((unfold e (xs.getD i e.dflt) (st.nx+1)).2.1++st.objs)) (st.nx+1+e.owns) w:=by
   refine hφ.step (WLe.refl _ w) (λid ob hl hd=>?_) (λid ⟨ob,hl,hd⟩=>?_) (λid b' o kK hp=>?_) (λid b' o kK hp=>?_) (λid cl b' o hl dZ hp fz=>?_)
   .rcases iW id ob hl hd with⟨rfl,rfl⟩|⟨rfl,rfl⟩|⟨x1,x2,e',sP,rfl,x3⟩|⟨x1,x2,x3⟩
    .refine⟨by omega,?_⟩;rw[hφr,hνold id uj,hνp];refine⟨g1,g2,hi,b,hb,rfl,rfl,g4,g5,g6,c1,c2,p1,p2,k3,k5,m1,m3,?_,λs hs b' o hh=>?_⟩
     .refine Xy.2 ⟨λs hs=>?_,Xy.2 ⟨λs hs=>?_,?_⟩⟩
      .rcases Xs.1 hs with rfl|hs
       .exact WuY (by omega)
       .obtain⟨p,hp,rfl⟩:=Xw.1 hs;refine(pR p ?_).mono rA (λ_ _ hh=>hh);rcases Xo.1 hp with hp|hp
        .exact Xn _ hp
        .exact Xg _ (Xg _ hp)
      .obtain⟨p,hp,rfl⟩:=Xw.1 hs;refine(pR p ?_).mono rC (λ_ _ hh=>hh);rcases Xo.1 hp with hp|hp
       .exact Xn _ hp
       .exact Xg _ (Xg _ hp)
      .rw[Xz];exact Xah.2 ⟨s1,s5,λs hs t ht=>s3 s hs t (Xg _ ht)⟩
     .rw[hSR];rcases Xs.1 hs with rfl|hs
      .exact .inl hh
      .rcases Xs.1 hs with rfl|hs
       .exact .inr (.inl hh)
       .obtain⟨p,hp,rfl⟩:=Xw.1 hs;exact .inr (.inr ⟨p,hp,hh⟩)
    .refine⟨b,c,by rw[hνp];rfl,?_,by rw[hνp];exact m2,uc _ (Xm _),?_⟩
     .rw[hνp,dH];obtain⟨row,TT,y1,y2⟩:=g6;exact⟨row,TT,y1,by show(ν r).off+i*e.size+e.size<=row.size;omega⟩
     .rw[hνp,dH,hφp];exactλ_ _ hh=>hh
    .exact x3
    .rw[hφold id x2 x1];exact WdX (λ_ _ _ hh=>hh) (Same.refl _ w) (λ_ _ hh=>hh) hνold (by omega) x2 ob (hφ.ob id ob x3)
   .rcases iW id ob hl hd with⟨rfl,_⟩|⟨rfl,_⟩|⟨_,x2,_⟩|⟨_,x2,_⟩<;>omega
   .rcases gm id b' o kK hp with hh|hh|hh|⟨_,_,x3,x4⟩
    .exact .inl ⟨r,aS,ff id b' o (.inl hh)⟩
    .exact .inl ⟨r,aS,ff id b' o (.inr (.inl hh))⟩
    .exact .inl ⟨r,aS,ff id b' o (.inr (.inr hh))⟩
    .exact .inl ⟨id,x3,x4⟩
   .rcases gm id b' o kK hp with hh|hh|hh|⟨_,_,x3,x4⟩
    .exact hφ.bl r b' o aS (ff id b' o (.inl hh))
    .exact hφ.bl r b' o aS (ff id b' o (.inr (.inl hh)))
    .exact hφ.bl r b' o aS (ff id b' o (.inr (.inr hh)))
    .exact hφ.bl id b' o x3 x4
   .have out:∀cl,cl≠r->Live st.objs cl->φ cl b' o->φ r b' o->False:=λcl y1 y2 y3 y4=>y1 (hφ.inj cl r b' o y2 aS y3 y4);have dSP:SR b' o->∀s,(s=rng b ((ν r).off+i*e.size) e.size\/∃q∈pc,s=q.fp)->s b' o->False:=λy1 s y2 y3=>by
     rw[hSR]at y1;rcases y2 with rfl|⟨q,uk,rfl⟩
     .rcases y1 with y1|y1|⟨p,hp,y1⟩
      .obtain⟨z0,z1,z2⟩:=y1;obtain⟨z3,z4,z5⟩:=y3;omega
      .obtain⟨z0,z1,z2⟩:=y1;obtain⟨z3,z4,z5⟩:=y3;omega
      .refine pR p ?_ b' o (rB b' o y3) y1;rcases Xo.1 hp with hp|hp
       .exact Xn _ hp
       .exact Xg _ (Xg _ hp)
     .have qK:q∈p1++(pc++p2):=Xg _ (Xn _ uk);rcases y1 with y1|y1|⟨p,hp,y1⟩
      .exact pR q qK b' o (rA b' o y1) y3
      .exact pR q qK b' o (rC b' o y1) y3
      .rcases Xo.1 hp with hp|hp
       .exact s3 _ (Xan hp) _ (Xn _ (Xan uk)) b' o y1 y3
       .exact s6 _ (Xan uk) _ (Xan hp) b' o y3 y1
    have dPQ:∀(j:Nat) (q:Pc),pc[j]?=some q->rng b ((ν r).off+i*e.size) e.size b' o->q.fp b' o->False:=λj q hj y1 y2=>pR q (hq j q hj) b' o (rB b' o y1) y2;rcases gm id b' o hl hp with hh|hh|hh|⟨x1,x2,x3,x4⟩<;>rcases gm cl b' o dZ fz with jv|jv|jv|⟨um,x2',sQ,sS⟩
    .rw[hh.1,jv.1]
    .exact(dSP hh.2 _ (.inl rfl) jv.2).elim
    .obtain⟨j,q,_,hj,y⟩:=jv;exact(dSP hh.2 _ (.inr ⟨q,Xar hj,rfl⟩) y).elim
    .exact(out cl um sQ sS (ff id b' o (.inl hh))).elim
    .exact(dSP jv.2 _ (.inl rfl) hh.2).elim
    .rw[hh.1,jv.1]
    .obtain⟨j,q,_,hj,y⟩:=jv;exact(dPQ j q hj hh.2 y).elim
    .exact(out cl um sQ sS (ff id b' o (.inr (.inl hh)))).elim
    .obtain⟨j,q,_,hj,y⟩:=hh;exact(dSP jv.2 _ (.inr ⟨q,Xar hj,rfl⟩) y).elim
    .obtain⟨j,q,_,hj,y⟩:=hh;exact(dPQ j q hj jv.2 y).elim
    .obtain⟨j,q,bU,hj,y⟩:=hh;obtain⟨j',q',un,fb,y'⟩:=jv;have x1:(fps pc)[j]?=some q.fp:=by unfold fps;rw[Xak,hj];rfl
     have x2:(fps pc)[j']?=some q'.fp:=by unfold fps;rw[Xak,fb];rfl
     have:=Wlx (l:=fps pc) s4 x1 x2 y y';rw[bU,un,this]
    .exact(out cl um sQ sS (ff id b' o (.inr (.inr hh)))).elim
    .exact(out id x1 x3 x4 (ff cl b' o (.inl jv))).elim
    .exact(out id x1 x3 x4 (ff cl b' o (.inr (.inl jv)))).elim
    .exact(out id x1 x3 x4 (ff cl b' o (.inr (.inr jv)))).elim
    .exact hφ.inj id cl b' o x3 sQ x4 sS
  refine⟨ν',b,?_,?_,rfl,by rw[hνp,g2],rfl⟩
  .have:=h.on (λ_ _ _ hh=>hh) hνold (by omega) ⟨φ',hH⟩ h.gx;rw[qJ];exact this
  .show st.nx<(unfold e (xs.getD i e.dflt) (st.nx+1)).2.2;rw[qJ];omega
end
end Go.Sx
namespace Go.Sx
set_option linter.unusedVariables false
set_option linter.unusedSimpArgs false
theorem WdB:∀(l:List Nat) (i j:Nat),Wsm i l=some j->l[j]?=some i
 | [],i,j,h=>by cases h
 |k::l,i,j,h=>by
  simp only[Wsm]at h;split at h
  .rename_i hb;injection h with h;subst h;have:i=k:=by simpa using hb
   rw[this];rfl
  .cases hp:Wsm i l with
   |none=>simp[hp]at h
   |some n=>
    simp[hp]at h;subst h;exact WdB l i n hp
theorem WkV{m:List Nat}:∀(l r:List Nat),WmX m l=some r->r.length=l.length/\∀(q j:Nat),r[q]?=some j->∃i,l[q]?=some i/\m[j]?=some i
 | [],r,h=>by simp[WmX]at h;subst h;exact⟨rfl,λq j hq=>by simp at hq⟩
 |i::l,r,h=>by
  simp only[WmX]at h;split at h
  .rename_i j r' h1 h2;injection h with h;subst h;obtain⟨h3,h4⟩:=WkV l r' h2;refine⟨by simp[h3],λq j' hq=>?_⟩;cases q with
   |zero=>simp at hq;subst hq;exact⟨i,rfl,WdB m i j h1⟩
   |succ q=>exact h4 q j' (by simpa using hq)
  .cases h
theorem Wce:∀(n:Nat) (todo acc:List Nat) (objs:Waa),acc.Nodup->(WlF n todo acc objs).Nodup
 |0,_,_,_,h=>h
 |n+1,[],acc,objs,h=>h
 |n+1,i::l,acc,objs,h=>by
  simp only[WlF];split
  .exact Wce n l acc objs h
  .rename_i hi;have yP:i∉acc:=λhm=>hi ((WaT i acc).2 hm);have h2:(acc++ [i]).Nodup:=by
    rw[Xae];refine⟨h,by simp,λx hx y hy=>?_⟩;simp at hy;subst hy
    exactλe=>yP (e▸hx)
   split
   .exact Wce n _ _ objs h2
   .exact Wce n _ _ objs h2
   .exact Wce n _ _ objs h2
   .exact Wce n _ _ objs h
theorem WhF{m:List Nat}{objs:Waa}:∀(l:List Nat) (j0:Nat) (j:Nat) (ob:Ob),Wp (Wej m objs j0 l) j=some ob->∃i dh,j0<=j/\l[j-j0]?=some i/\Wp objs i=some dh/\ob=WtE m dh
 | [],j0,j,ob,h=>by cases h
 |i::l,j0,j,ob,h=>by
  simp only[Wej]at h;have step:Wp (Wej m objs (j0+1) l) j=some ob->∃i' dh,j0<=j/\(i::l)[j-j0]?=some i'/\Wp objs i'=some dh/\ob=WtE m dh:=λh=>by
   obtain⟨i',dh,h1,h2,h3,h4⟩:=WhF l (j0+1) j ob h;refine⟨i',dh,by omega,?_,h3,h4⟩;rw[show j-j0=(j-(j0+1))+1 by omega];simpa using h2
  split at h
  .rename_i dh ho;rw[WG]at h;split at h
   .rename_i e;subst e;injection h with h;exact⟨i,dh,Xm _,by simp,ho,h.symm⟩
   .exact step h
  .exact step h
theorem Wji{env:List (Nat×AVal)}{f:AVal->AVal}:∀(l:List Nat) (i:Nat) (x:AVal),Wp ((Wf0 env l).map λp=>(p.1,f p.2)) i=some x->∃y,Wp env i=some y/\x=f y
 | [],i,x,h=>by cases h
 |j::l,i,x,h=>by
  simp only[Wf0]at h;split at h
  .rename_i y hy;simp only[Xaf]at h;rw[WG]at h;split at h
   .rename_i e;subst e;injection h with h;exact⟨y,hy,h.symm⟩
   .exact Wji l i x h
  .exact Wji l i x h
section
variable{w0:World}{F:CS}{nt:Slots}{G0 G G':GH}{ν ν':Nat->Nu}{objs objs':Waa}{nx am:Nat}{st af:St}{a:Act}{w w':World}{P:Program}{T:Tab}{Γ:Ctx}
structure Ren(m:List Nat)(ν ν':Nat->Nu)(am:Nat):Prop where
 nx:∀(i j:Nat),m[j]?=some i->j<am
 nu:∀(i j:Nat),m[j]?=some i->ν' j=ν i
theorem CellRel.ren{m:List Nat}(hm:Ren m ν ν' am):∀(c:Cell) (v:Value),CellRel G ν nx c v->CellRel G ν' am (Wdf m c) v
 | .val t d,v,h=>h
 | .nils,v,h=>h
 | .rptr t d off,v,h=>h
 | .junk,v,h=>h
 | .own id,v,h=>by
  simp only[Wdf];split
  .rename_i j hj;have hj:=WdB _ _ _ hj;exact⟨hm.nx _ _ hj,by rw[hm.nu _ _ hj];exact h.2⟩
  .trivial
 | .vw id lo hi,v,h=>by
  simp only[Wdf];split
  .rename_i j hj;have hj:=WdB _ _ _ hj;exact⟨hm.nx _ _ hj,by rw[hm.nu _ _ hj];exact h.2⟩
  .trivial
 | .aptr id,v,h=>by
  simp only[Wdf];split
  .rename_i j hj;have hj:=WdB _ _ _ hj;exact⟨hm.nx _ _ hj,by rw[hm.nu _ _ hj];exact h.2⟩
  .trivial
 | .ptr id off,v,h=>by
  simp only[Wdf];split
  .rename_i j hj;have hj:=WdB _ _ _ hj;exact⟨hm.nx _ _ hj,by rw[hm.nu _ _ hj];exact h.2⟩
  .trivial
 | .eptr id i off,v,h=>by
  simp only[Wdf];split
  .rename_i j hj;have hj:=WdB _ _ _ hj;exact⟨hm.nx _ _ hj,by rw[hm.nu _ _ hj];exact h.2⟩
  .trivial
 | .clos f caps,v,h=>by
  simp only[Wdf];split
  .rename_i js hj;obtain⟨h1,h2⟩:=WkV _ _ hj;obtain⟨vs,h3,h4,h5⟩:=h;refine⟨vs,h3,h4.trans h1.symm,λq id u hq hu=>?_⟩;obtain⟨i,h6,h7⟩:=h2 q id hq;obtain⟨h8,h9,cS⟩:=h5 q i u h6 hu;exact⟨hm.nx _ _ h7,h9,by rw[hm.nu _ _ h7];exact cS⟩
  .trivial
theorem CellsRel.ren{m:List Nat}(hm:Ren m ν ν' am){cs:List Cell}{vs:List Value}(h:CellsRel G ν nx cs vs):CellsRel G ν' am (cs.map (Wdf m)) vs:=by
 refine⟨by simp[h.1],λj c v hc hv=>?_⟩;simp only[Xak]at hc;cases hd:cs[j]? with
 |none=>simp[hd]at hc
 |some d=>
  simp[hd]at hc;subst hc;obtain⟨h1,h2⟩:=h.2 j d v hd hv;exact⟨h1.ren hm,h2⟩
theorem AvRel.ren{m:List Nat}(hm:Ren m ν ν' am):∀(x:AV) (v:Value),AvRel G ν nx x v->AvRel G ν' am (Wwn m x) v
 | .one c,v,h=>⟨h.1.ren hm,h.2⟩
 | .agg cs,v,⟨vs,h1,h2⟩=>⟨vs,h1,h2.ren hm⟩
theorem AValRel.ren{m:List Nat}(hm:Ren m ν ν' am):∀(x:AVal) (v:Value),AValRel G ν nx x v->AValRel G ν' am (Wow m x) v
 | .s x,v,h=>AvRel.ren hm x v h
 | .tup xs,v,⟨vs,h1,h2,h3⟩=>⟨vs,h1,by simp[h2],λj x u hx hu=>by
  simp only[Xak]at hx;cases hd:xs[j]? with
  |none=>simp[hd]at hx
  |some d=>
   simp[hd]at hx;subst hx;exact AvRel.ren hm d u (h3 j d u hd hu)⟩
theorem WtA(slots:List Nat)(fV:∀x v,¬nt.ex x v)(h:Rel w0 F nt G0 G ν st a w):∃ν',Rel w0 F nt G0 G ν' (canon slots st) a w:=by
 obtain⟨m,hm⟩:∃m,m=WlF 400 ((Wf0 st.env slots).flatMap λp=>Wa6 p.2) [] st.objs:=⟨_,rfl⟩;have bh:m.Nodup:=by rw[hm];exact Wce _ _ _ _ (by simp)
 have oh:canon slots st={env:=(Wf0 st.env slots).map λp=>(p.1,Wow m p.2),objs:=Wej m st.objs 0 m,nx:=m.length}:=by rw[hm];rfl
 obtain⟨ν',hν'⟩:∃ν':Nat->Nu,ν'= λj=>ν ((m[j]?).getD 0):=⟨_,rfl⟩;have mo:∀(i j:Nat),m[j]?=some i->ν' j=ν i:=λi j hj=>by rw[hν'];simp[hj]
 have qL:∀(j:Nat) (ob:Ob),Wp (Wej m st.objs 0 m) j=some ob->∃i dh,m[j]?=some i/\Wp st.objs i=some dh/\ob=WtE m dh:=λj ob ho=>by
  obtain⟨i,dh,_,h2,h3,h4⟩:=WhF _ _ _ _ ho;exact⟨i,dh,by simpa using h2,h3,h4⟩
 have qM:Ren m ν ν' m.length:={
  nx:=λi j hj=>(Xab.1 hj).1
  nu:=mo}
 have eX:∀j,Live (Wej m st.objs 0 m) j->∃i,m[j]?=some i/\Live st.objs i:=λj ⟨ob,ho,hd⟩=>by
  obtain⟨i,dh,h1,h2,h3⟩:=qL j ob ho;refine⟨i,h1,dh,h2,λyQ=>hd ?_⟩;rw[h3,yQ];rfl
 rw[oh];refine⟨ν',h.defers,h.ntm,h.par,λi x hx=>?_,?_,h.gx,λx v hv=>WE hv (fV x v)⟩
 .obtain⟨y,h1,rfl⟩:=Wji _ _ _ hx;obtain⟨v,h2,h3⟩:=h.env i y h1;exact⟨v,h2,AValRel.ren qM y v h3⟩
 .obtain⟨φ,hφ⟩:=h.h;refine⟨λj=>φ ((m[j]?).getD 0),?_⟩;have nr:∀(i j:Nat),m[j]?=some i->φ ((m[j]?).getD 0)=φ i:=λi j hj=>by simp[hj]
  exact{
   g:=hφ.g
   ob:=λj ob ho=>by
    obtain⟨i,dh,h1,h2,rfl⟩:=qL j ob ho;have:=hφ.ob i dh h2;cases dh with
    |dead=>trivial
    |arr e xs=>
     show WbP w (Wy G w e) e.size (ν' j) xs (φ ((m[j]?).getD 0));rw[mo i j h1,nr i j h1];exact this
    |hole e xs k p=>
     simp only[WtE];split
     .rename_i q hq;have hq:=WdB _ _ _ hq;obtain⟨g1,g2⟩:=this;show q<m.length/\Wic w (Wy G w e) e.size (ν' j) (ν' q) xs k (φ ((m[j]?).getD 0));rw[mo i j h1,nr i j h1,mo p q hq];exact⟨(Xab.1 hq).1,g2⟩
     .trivial
    |box cs=>
     obtain⟨b,vs,h4,h5,h6,h7,h8⟩:=this;refine⟨b,vs,by rw[mo i j h1];exact h4,?_,by rw[mo i j h1];exact h6,h7.ren qM,?_⟩
     .rw[mo i j h1,Xu];exact h5
     .rw[mo i j h1,nr i j h1,Xu];exact h8
   gf:=λj b o hj hp=>by
    obtain⟨i,h1,h2⟩:=eX j hj;rw[nr i j h1]at hp;exact hφ.gf i b o h2 hp
   inj:=λj j' b o hj fb hp fz=>by
    obtain⟨i,h1,h2⟩:=eX j hj;obtain⟨i',jW,jX⟩:=eX j' fb;rw[nr i j h1]at hp;rw[nr i' j' jW]at fz;have:=hφ.inj i i' b o h2 jX hp fz;subst this;have ac:=(Xab.1 h1).1;exact(List.getElem?_inj ac bh).1 (h1.trans jW.symm)
   own:=λj b o hj hp=>by
    obtain⟨i,h1,h2⟩:=eX j hj;rw[nr i j h1]at hp;exact hφ.own i b o h2 hp
   lt:=λj hj=>by
    obtain⟨i,h1,h2⟩:=eX j hj;exact(Xab.1 h1).1
   bl:=λj b o hj hp=>by
    obtain⟨i,h1,h2⟩:=eX j hj;rw[nr i j h1]at hp;exact hφ.bl i b o h2 hp
   le:=hφ.le}
theorem Wk2(h:Rel w0 F nt G0 G ν st a w){r:Nat}{ix:Option Nat}(hg:WkN st r ix=some (true,af)):∃ν',Rel w0 F nt G0 G ν' af a w:=by
 unfold WkN at hg;split at hg
 .rename_i c i mw;obtain⟨s,hs,hg⟩:=Xt.1 hg;simp only[Prod.mk.injEq]at hg;obtain⟨rfl,rfl⟩:=hg;have ac:∃(e:Ty) (xs:List e.den),Wp st.objs r=some (.arr e xs)/\i<xs.length:=by
   unfold Wvi at mw;split at mw
   .split at mw
    .rename_i e xs ho;simp only[Option.some.injEq,Prod.mk.injEq]at mw;obtain⟨h1,rfl⟩:=mw;obtain⟨h2,h3⟩:=Wen h1;exact⟨e,xs,ho,by omega⟩
    .cases mw
   .split at mw
    .rename_i e xs n ho hn;simp only[Option.some.injEq,Prod.mk.injEq]at mw;obtain⟨h1,rfl⟩:=mw;obtain⟨h2,h3⟩:=Wen h1;exact⟨e,xs,ho,by omega⟩
    .cases mw
  obtain⟨e,xs,ho,ac⟩:=ac;obtain⟨ν',b,h1,_⟩:=Wkm h ho ac hs;exact⟨ν',h1⟩
 .cases hg
theorem Wju{g:Ghost}(fV:(∀x v,¬nt.ex x v)\/g.quiet=true)(h:Rel w0 F nt G0 G ν st a w)(hg:Wel g st=some (true,af)):∃G' ν',Rel w0 F nt G0 G' ν' af a w:=by
 cases g with
 |canon slots=>
  simp only[Wel]at hg;injection hg with hg;injection hg with _ hg;subst hg;obtain⟨ν',h'⟩:=WtA slots (fV.resolve_right (by simp[Ghost.quiet])) h;exact⟨G,ν',h'⟩
 |adopt slot e=>
  simp only[Wel]at hg;split at hg
  .rename_i hs;injection hg with hg;injection hg with _ hg;subst hg;obtain⟨v,hv,hr⟩:=h.env _ _ hs;have oi:v= .slice none 0 0:=hr.1;subst oi;have h2:=h.on (λ_ _ _ hh=>hh) (WfF ν st.nx _) (Xdc _) (h.h.adopt e) h.gx;exact⟨G,_,h2.rebind hv ⟨Wk7 e,rfl⟩⟩
  .injection hg with hg;injection hg with _ hg;subst hg;exact⟨G,ν,h⟩
  .cases hg
 |freeze slot=>
  simp only[Wel]at hg;split at hg
  .rename_i id hs;split at hg
   .rename_i e xs ho;injection hg with hg;injection hg with _ hg;subst hg;obtain⟨G1,h1,h2,h3,h4⟩:=h.h.freezeL h.gx [id];obtain⟨v,hv,hr⟩:=h.env _ _ hs;have oi:v=(ν id).hdr:=hr.1.2;have h5:=h.on h1 (λ_ _=>rfl) (Xm _) h2 h3;exact⟨G1,ν,h5.rebind hv ⟨⟨v,rfl,oi▸h4 id (by simp) e xs ho⟩,hr.2⟩⟩
   .cases hg
  .cases hg
 |adoptC slot off e=>
  simp only[Wel]at hg;split at hg
  .rename_i id hs;split at hg
   .rename_i cs ho;split at hg
    .rename_i hc;injection hg with hg;injection hg with _ hg;subst hg;have bQ:st.nx≠id:=λe=>by
      obtain⟨φ,hφ⟩:=h.h;have:=hφ.lt id ⟨_,ho,by simp⟩;omega
     have h2:=h.h.adopt e;have kN:Wp ((st.nx,Ob.arr e [])::st.objs) id=some (.box cs):=by rw[WG,Wc bQ];exact ho
     have h3:=h2.mk_box kN (cR:=cs.set off (.own st.nx)) (by simp) (λvs gi=>gi.set λv hv=>by
      have:v= .slice none 0 0:=(gi.2 off _ v hc hv).1;subst this;exact Wk7 e)
     exact⟨G,_,h.on (λ_ _ _ hh=>hh) (WfF ν st.nx _) (Xdc _) h3 h.gx⟩
    .injection hg with hg;injection hg with _ hg;subst hg;exact⟨G,ν,h⟩
    .cases hg
   .cases hg
  .cases hg
 |freezeC slot off=>
  simp only[Wel]at hg;split at hg
  .rename_i id hs;split at hg
   .rename_i cs ho;split at hg
    .rename_i j hc;split at hg
     .rename_i e xs nv;injection hg with hg;injection hg with _ hg;subst hg;obtain⟨G1,h1,h2,h3,h4⟩:=h.h.freezeL h.gx [j];have bQ:j≠id:=λe=>by subst e;rw[ho]at nv;cases nv
      have kN:Wp ((j,Ob.dead)::st.objs) id=some (.box cs):=by rw[WG,Wc bQ];exact ho
      have h5:HRel w0 F G1 ν ((id,.box (cs.set off (.val (.slice e.ro) (WcN e xs))))::(j,.dead)::st.objs) st.nx w:=by
       refine HRel.mk_box h2 kN (by simp) (λvs gi=>gi.set λv hv=>?_);have oi:v=(ν j).hdr:=(gi.2 off _ v hc hv).1.2;exact⟨v,rfl,oi▸h4 j (by simp) e xs nv⟩
      exact⟨G1,ν,h.on h1 (λ_ _=>rfl) (Xm _) h5 h3⟩
     .cases hg
    .injection hg with hg;injection hg with _ hg;subst hg;exact⟨G,ν,h⟩
    .injection hg with hg;injection hg with _ hg;subst hg;exact⟨G,ν,h⟩
    .cases hg
   .cases hg
  .cases hg
 |nest d e=>injection hg with hg;injection hg with _ hg;subst hg;exact⟨G,ν,h⟩
 |view d=>injection hg with hg;injection hg with _ hg;subst hg;exact⟨G,ν,h⟩
 |opn d=>injection hg with hg;injection hg with _ hg;subst hg;exact⟨G,ν,h⟩
 |shutD d off=>injection hg with hg;injection hg with _ hg;subst hg;exact⟨G,ν,h⟩
 |empt slot e=>
  simp only[Wel]at hg;split at hg
  .split at hg
   .rename_i e' ho;split at hg
    .rename_i hc;injection hg with hg;injection hg with _ hg;subst hg;exact⟨G,ν,h.on (λ_ _ _ hh=>hh) (λ_ _=>rfl) (Xm _) (h.h.empt ho hc.1) h.gx⟩
    .cases hg
   .cases hg
  .cases hg
 |unfE slot=>
  simp only[Wel]at hg;split at hg
  .rename_i r i hs;obtain⟨s,dq,hg⟩:=Xt.1 hg;injection hg with _ hg;subst hg;obtain⟨v,hv,hr⟩:=h.env _ _ hs;have hQ:∃(e:Ty) (xs:List e.den),Wp st.objs r=some (.arr e xs):=by
    unfold WkU at dq;split at dq
    .rename_i e xs ho;exact⟨e,xs,ho⟩
    .cases dq
   obtain⟨e,xs,ho⟩:=hQ;obtain⟨⟨_,ac,b,hb,rfl⟩,_⟩:=hr;obtain⟨S,aT⟩:=h.h.obj ho;obtain⟨ν',b',h1,h2,h3,h4,h5⟩:=Wkm h ho (by rw[aT.1];exact ac) dq;rw[hb]at h3;injection h3 with h3;subst h3;refine⟨G,ν',h1.rebind hv ⟨⟨h2,b,by rw[h4];rfl,?_⟩,rfl⟩⟩;rw[h4];rfl
  .cases hg
 |unfS slot ix=>
  simp only[Wel]at hg;split at hg
  .obtain⟨ν',h'⟩:=Wk2 h hg;exact⟨G,ν',h'⟩
  .cases hg
 |unfC slot off ix=>
  simp only[Wel]at hg;split at hg
  .split at hg
   .split at hg
    .obtain⟨ν',h'⟩:=Wk2 h hg;exact⟨G,ν',h'⟩
    .cases hg
   .cases hg
  .cases hg
 |refold slot=>
  simp only[Wel]at hg;split at hg
  .obtain⟨s,dq,hg⟩:=Xt.1 hg;injection hg with _ hg;subst hg;exact⟨G,ν,Wjx h dq⟩
  .cases hg
 |shut slot off=>
  simp only[Wel]at hg;split at hg
  .split at hg
   .split at hg
    .split at hg
     .obtain⟨s,dq,hg⟩:=Xt.1 hg;injection hg with _ hg;subst hg;exact⟨G,ν,Wjx h dq⟩
     .injection hg with hg;injection hg with _ hg;subst hg;exact⟨G,ν,h⟩
     .cases hg
    .cases hg
   .cases hg
  .cases hg
 |solo slot=>
  simp only[Wel]at hg;split at hg
  .rename_i id lo hi hs;split at hg
   .rename_i e xs ho;injection hg with hg;injection hg with _ hg;subst hg;obtain⟨v,hv,hr⟩:=h.env _ _ hs;obtain⟨⟨_,g1,g2,g3,rfl⟩,_⟩:=hr;have h2:=h.on (λ_ _ _ hh=>hh) (WfF ν st.nx _) (Xdc _) (h.h.solo ho g1 g2) h.gx;exact⟨G,_,h2.rebind hv ⟨WnV,WpF _ _ _⟩⟩
   .cases hg
  .injection hg with hg;injection hg with _ hg;subst hg;exact⟨G,ν,h⟩
  .cases hg
 |soloC slot off=>
  simp only[Wel]at hg;split at hg
  .rename_i id o hs;split at hg
   .rename_i cs ho;split at hg
    .rename_i j lo hi hc;split at hg
     .rename_i e xs nv;injection hg with hg;injection hg with _ hg;subst hg;have bQ:j≠id:=λe=>by subst e;rw[ho]at nv;cases nv
      have uq:st.nx≠id:=λe=>by
       obtain⟨φ,hφ⟩:=h.h;have:=hφ.lt id ⟨_,ho,by simp⟩;omega
      have bE:lo<=hi/\hi<=(ν j).len:=by
       obtain⟨S,b,vs,k1,k2,k3,k4,k5⟩:=h.h.obj ho;have ac:o+off<vs.length:=by rw[k4.1];exact(Xab.1 hc).1
       obtain⟨⟨_,g1,g2,_⟩,_⟩:=k4.2 _ _ _ hc (Xq ac);exact⟨g1,g2⟩
      have h2:=h.h.solo nv bE.1 bE.2;have kN:Wp ((st.nx,Ob.arr e ((xs.take hi).drop lo))::(j,Ob.dead)::st.objs) id=some (.box cs):=by rw[WG,Wc uq,WG,Wc bQ];exact ho
      have tB:j<st.nx:=by
       obtain⟨φ,hφ⟩:=h.h;exact hφ.lt j ⟨_,nv,by simp⟩
      have h3:=h2.mk_box kN (cR:=cs.set (o+off) (.own st.nx)) (by simp) (λvs gi=>gi.set λv hv=>by
       obtain⟨_,_,_,_,w9⟩:=(gi.2 _ _ v hc hv).1;rw[WfF ν st.nx _ j tB]at w9;rw[w9];exact WnV)
      exact⟨G,_,h.on (λ_ _ _ hh=>hh) (WfF ν st.nx _) (Xdc _) h3 h.gx⟩
     .cases hg
    .injection hg with hg;injection hg with _ hg;subst hg;exact⟨G,ν,h⟩
    .cases hg
   .cases hg
  .cases hg
theorem WdR:∀(l:List Ghost) (st af:St) (G:GH) (ν:Nat->Nu),((∀x v,¬nt.ex x v)\/l.all Ghost.quiet=true)->Rel w0 F nt G0 G ν st a w->Wb9 l st=some (true,af)->∃G' ν',Rel w0 F nt G0 G' ν' af a w
 | [],st,af,G,ν,fV,h,hg=>by injection hg with hg;injection hg with _ hg;subst hg;exact⟨G,ν,h⟩
 |g::l,st,af,G,ν,fV,h,hg=>by
  simp only[Xbr,Xi]at fV;simp only[Wb9]at hg;split at hg
  .rename_i c s yR;split at hg
   .rename_i c' s' hl;simp only[Option.some.injEq,Prod.mk.injEq,Xi]at hg;obtain⟨⟨rfl,rfl⟩,rfl⟩:=hg;obtain⟨G1,ν1,h1⟩:=Wju (fV.imp_right (·.1)) h yR;exact WdR l s s' G1 ν1 (fV.imp_right (·.2)) h1 hl
   .cases hg
  .cases hg
end
end Go.Sx
namespace Go.Sx
set_option linter.unusedVariables false
set_option linter.unusedSimpArgs false
section
variable{T:Tab}{Γ:Ctx}{env yS:List (Nat×AVal)}{objs objs':Waa}{nx am:Nat}
theorem WcX{st an:St}:∀(l:List (Nat×Operand)),(∀p∈l,ev an p.2=ev st p.2)->WcO an l=WcO st l
 | [],_=>rfl
 |(i,x)::l,h=>by
  have h1:ev an x=ev st x:=h (i,x) (Xj ..);simp only[WcO,h1,WcX l λp hp=>h p (Xf _ hp)]
theorem WmY{st an:St}:∀(l:List Operand),(∀x∈l,ev an x=ev st x)->evs an l=evs st l
 | [],_=>rfl
 |x::l,h=>by simp only[evs,h x (Xj ..),WmY l λp hp=>h p (Xf _ hp)]
theorem WhT{st an:St}:∀(l:List Operand),(∀x∈l,ev an x=ev st x)->Wgp an l=Wgp st l
 | [],_=>rfl
 |x::l,h=>by simp only[Wgp,h x (Xj ..),WhT l λp hp=>h p (Xf _ hp)]
theorem Wlg{st an:St}(x:Option Operand)(h:∀y∈x.toList,ev an y=ev st y):WmI an x=WmI st x:=by
 cases x with
 |none=>rfl
 |some y=>simp only[WmI,h y (by simp)]
def Wet(st an:St)(v:AVal):Prop:=∀id∈Wa6 v,Wp an.objs id=Wp st.objs id
theorem Wpz{st an:St}{t:TypeId}{v:AVal}(h:Wet st an v):Wh4 T an t v=Wh4 T st t v:=by
 unfold Wh4;cases v with
 |tup xs=>rfl
 |s x=>
  cases x with
  |agg cs=>rfl
  |one c=>
   cases c with
   |ptr id off=>have:=h id (by simp[Wa6,Wfx,Wbd]);simp only[this]
   |eptr id i off=>have:=h id (by simp[Wa6,Wfx,Wbd]);simp only[this]
   |_=>rfl
theorem Wob{st an:St}{t:TypeId}{v:AVal}(h:Wet st an v):WfX T an t v=WfX T st t v:=by
 unfold WfX;cases v with
 |tup xs=>rfl
 |s x=>
  cases x with
  |agg cs=>rfl
  |one c=>
   cases c with
   |aptr id=>have:=h id (by simp[Wa6,Wfx,Wbd]);simp only[this]
   |_=>rfl
theorem Wn3{st:St}{t:TypeId}{id:Nat}:Wj0 T st t (.s (.one (.own id)))=match Wp T t with
  |some ⟨_,false,.slice _⟩=>obL (Wp st.objs id)
  |_=>none:=by
 unfold Wj0;generalize Wp T t=q;rcases q with _|⟨ty,agg,shape⟩
 .rfl
 .cases ty<;>cases agg<;>cases shape<;>rfl
theorem Wo2{st an:St}{t:TypeId}{v:AVal}(h:∀id,v≠ .s (.one (.own id))):Wj0 T an t v=Wj0 T st t v:=by
 unfold Wj0;generalize Wp T t=q;rcases q with _|⟨ty,agg,shape⟩
 .cases v<;>rfl
 .cases v with
  |tup xs=>cases ty<;>cases agg<;>cases shape<;>rfl
  |s x=>
   cases x with
   |agg cs=>cases ty<;>cases agg<;>cases shape<;>rfl
   |one c=>
    cases c with
    |own id=>exact WE rfl (h id)
    |val t' d=>cases ty<;>cases agg<;>cases shape<;>cases t'<;>rfl
    |_=>cases ty<;>cases agg<;>cases shape<;>rfl
theorem Wvb(v:AVal):(∃id,v= .s (.one (.own id)))\/∀id,v≠ .s (.one (.own id)):=by
 rcases v with x|xs
 .rcases x with c|cs
  .cases c with
   |own id=>exact .inl ⟨id,rfl⟩
   |_=>exact .inr λid h=>by injection h with h;injection h with h;cases h
  .exact .inr λid h=>by injection h with h;cases h
 .exact .inr λid h=>by cases h
theorem Wru{st an:St}{t:TypeId}{v:AVal}(h:Wet st an v):Wj0 T an t v=Wj0 T st t v:=by
 rcases Wvb v with⟨id,rfl⟩|hv
 .rw[Wn3,Wn3,h id (by simp[Wa6,Wfx,Wbd])]
 .exact Wo2 hv
theorem Wia{st an:St}{t:TypeId}{v:AVal}{f:Nat}(h:Wet st an v):Wch T an t v f=Wch T st t v f:=by
 unfold Wch;generalize WgR T t f=q;rcases q with _|⟨off,te⟩
 .cases v<;>rfl
 .cases v with
  |tup xs=>rfl
  |s x=>
   cases x with
   |agg cs=>rfl
   |one c=>
    cases c with
    |ptr id o=>
     have:=h id (by simp[Wa6,Wfx,Wbd]);show(λq:Option Ob=>match q with|some (.box _)=>some (true,AVal.s (.one (.ptr id (o+off))))|_=>none) (Wp an.objs id)=(λq:Option Ob=>match q with|some (.box _)=>some (true,AVal.s (.one (.ptr id (o+off))))|_=>none) (Wp st.objs id);rw[this]
    |eptr id i o=>
     have:=h id (by simp[Wa6,Wfx,Wbd]);show(λq:Option Ob=>match q with|some (.arr _ _)=>some (true,AVal.s (.one (.eptr id i (o+off))))|_=>none) (Wp an.objs id)=(λq:Option Ob=>match q with|some (.arr _ _)=>some (true,AVal.s (.one (.eptr id i (o+off))))|_=>none) (Wp st.objs id);rw[this]
    |_=>rfl
theorem Wib{st an:St}{t:TypeId}{v i:AVal}(h:Wet st an v):Wci T an t v i=Wci T st t v i:=by
 unfold Wci;generalize Wp T t=q;generalize asI i=z;rcases q with _|⟨ty,agg,shape⟩
 .rfl
 rcases z with _|n
 .cases shape<;>rfl
 cases shape with
 |slice et=>
  show(match Wp T et with|some te=>_|none=>_)=(match Wp T et with|some te=>_|none=>_);generalize Wp T et=q;rcases q with _|te
  .rfl
  .show(if te.plain=true then _ else _)=(if te.plain=true then _ else _);by_cases hp:te.plain=true
   .rw[Wf hp,Wf hp];cases v with
    |tup xs=>rfl
    |s x=>
     cases x with
     |agg cs=>rfl
     |one c=>
      cases c with
      |own id=>
       have:=h id (by simp[Wa6,Wfx,Wbd]);show obI te n id (Wp an.objs id)=obI te n id (Wp st.objs id);rw[this]
      |vw id lo hi=>
       have:=h id (by simp[Wa6,Wfx,Wbd]);show WwY te n id lo hi (Wp an.objs id)=WwY te n id lo hi (Wp st.objs id);rw[this]
      |val t' d=>cases t'<;>rfl
      |_=>rfl
   .rw[Wc hp,Wc hp]
 |arr k et=>
  show(match Wp T et with|some te=>_|none=>_)=(match Wp T et with|some te=>_|none=>_);generalize Wp T et=q;rcases q with _|te
  .rfl
  .show(if te.plain=true then _ else _)=(if te.plain=true then _ else _);by_cases hp:te.plain=true
   .rw[Wf hp,Wf hp];cases v with
    |tup xs=>rfl
    |s x=>
     cases x with
     |agg cs=>rfl
     |one c=>
      cases c with
      |aptr id=>
       have:=h id (by simp[Wa6,Wfx,Wbd]);show WwM te n k id (Wp an.objs id)=WwM te n k id (Wp st.objs id);rw[this]
      |_=>rfl
   .rw[Wc hp,Wc hp]
 |_=>rfl
theorem Wq8{st an:St}{v:AVal}(h:Wet st an v):Wuq an v=Wuq st v:=by
 rcases Wvb v with⟨id,rfl⟩|hv
 .exact h id (by simp[Wa6,Wfx,Wbd])
 .unfold Wuq;split
  .rename_i id;exact WE rfl (hv id)
  .rfl
theorem WpA{st an:St}{s d:TypeId}{v:AVal}(h:Wet st an v):Wkt T an s d v=Wkt T st s d v:=by
 unfold Wkt;rw[Wq8 h]
theorem WrE{st an:St}{v:AVal}(h:Wet st an v):WqV an v=WqV st v:=by
 unfold WqV;cases v with
 |tup xs=>rfl
 |s x=>
  cases x with
  |agg cs=>rfl
  |one c=>
   cases c with
   |ptr id off=>have:=h id (by simp[Wa6,Wfx,Wbd]);simp only[this]
   |eptr id i off=>have:=h id (by simp[Wa6,Wfx,Wbd]);simp only[this]
   |aptr id=>have:=h id (by simp[Wa6,Wfx,Wbd]);simp only[this]
   |_=>rfl
theorem Wrb{st an:St}{op:BinOp}{t:TypeId}{v z:AVal}(h:Wet st an v):WqE T an op t v z=WqE T st op t v z:=by
 unfold WqE;split
 .rename_i id;rw[h id (by simp[Wa6,Wfx,Wbd])]
 .rfl
theorem Wcc{α β:Type}{x:Option α}{f g:α->Option β}(h:∀v,x=some v->f v=g v):x.bind f=x.bind g:=by
 cases x with
 |none=>rfl
 |some v=>exact h v rfl
theorem WhC{st an:St}(op:Op)(hm:∀t x l h m,op≠ .slice t x l h m)(he:∀x∈Wab op,ev an x=ev st x)(hl:Www op=true->∀x∈Wab op,∀v,ev st x=some v->Wet st an v):Wae T an op=Wae T st op:=by
 cases op with
 |move x=>simp only[Wae,he x (by simp[Wab])]
 |assign x=>simp only[Wae,he x (by simp[Wab])]
 |pick c a b=>simp only[Wae,he c (by simp[Wab]),he a (by simp[Wab]),he b (by simp[Wab])]
 |load t a=>
  simp only[Wae,he a (by simp[Wab])];exact Wcc λv hv=>by rw[Wpz (hl rfl a (by simp[Wab]) v hv),Wob (hl rfl a (by simp[Wab]) v hv)]
 |nilCheck x=>
  simp only[Wae,he x (by simp[Wab])];exact Wcc λv hv=>WrE (hl rfl x (by simp[Wab]) v hv)
 |binOp op t x y z=>
  simp only[Wae,he x (by simp[Wab]),he y (by simp[Wab])];split
  .rename_i a b h1 h2;rw[Wrb (hl rfl x (by simp[Wab]) _ h1)]
  .rfl
 |unOp op t x=>simp only[Wae,he x (by simp[Wab])]
 |convert s d x=>
  simp only[Wae,he x (by simp[Wab])];exact Wcc λv hv=>WpA (hl rfl x (by simp[Wab]) v hv)
 |slice t x l h m=>exact WE rfl (hm t x l h m)
 |fieldAddr s x f=>
  simp only[Wae,he x (by simp[Wab])];exact Wcc λv hv=>Wia (hl rfl x (by simp[Wab]) v hv)
 |field t x f=>simp only[Wae,he x (by simp[Wab])]
 |indexAddr t x i=>
  simp only[Wae,he x (by simp[Wab]),he i (by simp[Wab])];split
  .rename_i a b h1 h2;exact Wib (hl rfl x (by simp[Wab]) _ h1)
  .rfl
 |index t x i=>simp only[Wae,he x (by simp[Wab]),he i (by simp[Wab])]
 |extract t ix=>simp only[Wae,he t (by simp[Wab])]
 |makeFunc f first captured=>
  cases f with
  |func f=>simp only[Wae,WhT (st:=st) (an:=an) captured.toList λx hx=>he x (by simp[Wab];right;simpa using hx)]
  |_=>rfl
 |call c=>
  have aR:∀x∈c.args.toList,ev an x=ev st x:=λx hx=>he x (Xg _ hx);have oj:∀x∈c.args.toList,∀v,ev st x=some v->Wet st an v:=λx hx=>hl rfl x (Xg _ hx);simp only[Wae];split
  .rename_i x t _ ha _;rw[aR x (by rw[ha];simp)];exact Wcc λv hv=>Wru (oj x (by rw[ha];simp) v hv)
  .rename_i x y _ _ _ ha _;rw[aR x (by rw[ha];simp),aR y (by rw[ha];simp)]
  .rename_i x y _ _ _ ha _;rw[aR x (by rw[ha];simp),aR y (by rw[ha];simp)]
  .rfl
 |_=>rfl
end
end Go.Sx
