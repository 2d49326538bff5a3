/- The abstract machine, part 2: a reflective interpreter of the program's code over data, with its soundness over the model. -/
import Derived.Test.YtceijnpnofmkkaaGreatEng1
open Bool renaming and_eq_true→Xi,not_eq_true'→Xar,not_true→Xt,false_eq_true→Xbh
open List renaming nodup_cons→Xai,getElem?_append_left→Xct,getD→Xd,getElem?_append_right→Xcj,ext_getElem?→Xfv,getElem?_eq_none→Xcs,replicate→Xu,prefix_refl→Xgb,nil_prefix→Xhq,prefix_append_right_inj→Xfm,length_replicate→Xgs,append_nil→Xdb,getElem?_toArray→Xfa,append_assoc→Xbo,getElem?_append→Xaw,getElem?_take→Xbr,getElem?_drop→Xbq,getElem?_eq_some_iff→Xad,drop_drop→Xbs,take_append_drop→Xdr,length_take→Xan,mem_cons_self→Xg,mem_cons_of_mem→Xe,mem_map_of_mem→Xaq,pairwise_cons→Xv,mem_append_left→Xl,mem_append_right→Xh,length_append→Xs,map_append→Xz,pairwise_append→Xam,mem_append→Xn,mem_map→Xw,mem_cons→Xq,getElem?_of_mem→Xdx,getElem?_eq_getElem→Xp,eq_nil_of_length_eq_zero→Xaa,map_toArray→Xdz,map_cons→Xae,map_nil→Xbt,append→Xf,take_length→Xdm,mem_singleton→Xac,length→Xa,append_inj→Xgj,length_map→Xab,mem_of_mem_take→Xca,mem_of_mem_drop→Xfe,nodup_append→Xaj,all_eq_true→Xag,nodup_nil→Xcx,length_drop→Xcy,sublist_append_right→Xga,getElem?_map→Xas,all_cons→Xci,mem_of_getElem?→Xax
open Array renaming range→Xck,foldl_toList→Xfq,length_toList→Xat
open Nat renaming succ_mul→Xcf,mul_le_mul_right→Xbe,add_zero→Xaz,le_trans→Xco,zero_mul→Xfi,le_refl→Xm,min_eq_left→Xcc,add_assoc→Xay,lt_succ_self→Xbv,add_mul→Xcu,mul_le_mul→Xgt,eq_of_beq_eq_true→Xcl,add_sub_cancel_left→Xch,le_succ→Xdh
open Int renaming mul_le_mul_of_nonneg_right→Xfd
open Option renaming map_eq_some_iff→Xy,map_some→Xbz,bind_eq_some_iff→Xbx,bind_some→Xc,map→Xfz
namespace Go.Sx
set_option linter.unusedVariables false
set_option linter.unusedSimpArgs false
theorem Wc1:∀l:List Nat,WbA l=true↔l.Nodup
 | []=>by simp[WbA]
 |i::l=>by
  have h:=Whq i l;simp only[WbA,Xi,Xar,Xai,Wc1 l]
  grind
theorem WtM{α:Type}(l:List α)(d:α):∀(n i:Nat),i<n*l.length->(rep l n)[i]?=some (l.getD (i%l.length) d)
 |0,i,h=>by simp at h
 |n+1,i,h=>by
  rw[rep];by_cases hi:i<l.length
  .grind [Xct,Nat.mod_eq_of_lt,Xd]
  .have fB:l.length<=i:=by omega
   rw[Xcj fB,WtM l d n (i-l.length) (by grind)];rw[Nat.mod_eq_sub_mod fB]
theorem WgL(z:Array Value)(n:Nat):((Xck (n*z.size)).map λi=>z[i%z.size]!).toList=rep z.toList n:=by
 apply Xfv;intro i;by_cases hi:i<n*z.size
 .rw[WtM z.toList default n i (by omega)]
  grind
 grind [Xcs,WlU]
section
variable{w0:World}{F:CS}{nt:Slots}{G0 G:GH}{ν:Nat->Nu}{objs:Wak}{nx:Nat}{st ae:St}{a:Act}{w w':World}{P:Program}{T:Tab}
theorem Wjn(hh:HRel w0 F G ν objs nx w){e:Ty}(he:e.data=true):
  ∀(l:List (Nat×AVal)) (ps:List (Nat×Value)) (xs ys:List e.den) (vs:Array Value),EncL (Enc G e) xs vs.toList->ps.length=l.length->
   (∀(j:Nat) (p:Nat×AVal) (q:Nat×Value),l[j]?=some p->ps[j]?=some q->p.1=q.1/\AValRel G ν nx p.2 q.2)->WrT e objs l xs=some ys->
   ∃vs',Instr.fill (λi=>some (i*e.size,e.size)) vs ps=some vs'/\EncL (Enc G e) ys vs'.toList/\ys.length=xs.length
 | [],[],xs,ys,vs,hc,_,_,h=>by simp[WrT]at h;subst h;exact⟨vs,rfl,hc,rfl⟩
 |(i,x)::l,[],_,_,_,_,hl,_,_=>by simp at hl
 | [],_::_,_,_,_,_,hl,_,_=>by simp at hl
 |(i,x)::l,(i',v)::ps,xs,ys,vs,hc,hl,hp,h=>by
  obtain⟨hi,hx⟩:=hp 0 _ _ rfl rfl;simp only at hi hx;subst hi;simp only[WrT]at h;split at h
  .rename_i ds fW;split at h
   .rename_i d hf;split at h
    .rename_i hlt;obtain⟨h1,_⟩:=WdG hx fW;have henc:=WnR hh h1 he hf;have hlen:v.cells.toList.length=e.size:=Enc_len _ _ _ henc;have fh:vs.toList.length=xs.length*e.size:=EncL_len (λx c hc=>Enc_len e x c hc) _ _ hc;have bW:i*e.size+e.size<=xs.length*e.size:=by rw[←Xcf];exact Xbe _ hlt
     have dK:=Wi8 v.cells.toList (i*e.size) 0 vs (by simp_all);simp only[Xaz]at dK;have dR:=WlL (λx c hc=>Enc_len e x c hc) xs vs.toList i d v.cells.toList hc hlt henc;obtain⟨vs',h4,h5,h6⟩:=Wjn hh he l ps (xs.set i d) ys _ (by rw[dK,hlen];exact dR) (by simp_all) (λj p q hj hq=>hp (j+1) p q (by simp_all) (by simp_all)) h;refine⟨vs',?_,h5,by grind⟩;simp only[Instr.fill];rw[Wa (by simp_all)];rw[←h4];congr 1;rw[←Xfq];simp
    grind
   grind
  grind
theorem Wi6(hT:Wap P T)(hr:Rel w0 F nt G0 G ν st a w){o:Oper}(hd:∀d,o.dst=some d->nt.Ok d){t:TypeId}{n:Nat}{parts:Array (Nat×Operand)}(ho:o.op= .buildSlice t n parts)
  {ty:Ty} {et:TypeId} {te:TE} {ps:List (Nat×AVal)} {xs:List te.ty.den} (hl:look T t=some ⟨ty,false,.slice et⟩) (hle:look T et=some te)
  (h1:ps.length=parts.toList.length) (h2:∀(j:Nat) (p:Nat×AVal) (q:Nat×Operand),ps[j]?=some p->parts.toList[j]?=some q->p.1=q.1/\AValRel G ν st.nx p.2 (a.eval q.2))
  (hf:WrT te.ty st.objs ps (Xu n te.ty.dflt)=some xs) (hsz:n*te.ty.size<=16777216) (aV:te.ty.data=true) (hp:te.plain=true):
  Done P w0 F nt G0 o a w (st.new o.dst (.arr te.ty xs) (.s (.one (.own st.nx)))):=by
 have hu:=(hT _ _ hl).und.2.1;obtain⟨z,hz,dD⟩:=Wfe (w:=w) (hT _ _ hle);rw[WbL hp]at dD;have gM:z.cells.size=te.ty.size:=by rw[←Xat,dD,Wby]
 have dL:=WgL z.cells n;rw[gM,dD]at dL;obtain⟨vs',h3,h4,h5⟩:=Wjn hr.h aV ps (parts.toList.map λp=>(p.1,a.eval p.2)) _ xs ((Xck (n*te.ty.size)).map λi=>z.cells[i%te.ty.size]!) (by grind [Whb]) (by simp[h1]) (λj p q hp hq=>by
   grind) hf
 have iT:xs.length=n:=by grind
 have hpos:=WbV te.ty;have hn:n<=16777216:=Xco (Nat.le_mul_of_pos_right n hpos) hsz;have tR:vs'.size=n*te.ty.size:=by
  rw[←Xat,EncL_len (λx c hc=>Enc_len te.ty x c hc) _ _ h4,iT]
 obtain⟨⟨ν',h6⟩,_⟩:=Wol (t:=et) (vs:=vs') hr hd (e:=te.ty) aV (xs:=xs) (cap:=n) (cs:=vs'.toList) (by omega) (by unfold maxLen;omega) tR h4 (Xgb _) w rfl rfl rfl rfl;rw[iT]at h6;refine⟨_,_,_,G,ν',?_,.inl rfl,h6⟩;have gN:(parts.map λx=>match x with|(i,x)=>(i,a.eval x)).toList=parts.toList.map λp=>(p.1,a.eval p.2):=by simp
 simp only[execOp,ho,Instr.buildSlice,Sem.run_bind,Wl hu,Result.andThen_ok,(hT _ _ hle).sizeOf,W1 hp,Wa (show¬n*te.ty.size>2^24 by omega),Sem.run_pure];by_cases h0:n*te.ty.size=0
 .have uA:n=0:=by rcases Nat.mul_eq_zero.1 h0 with h|h<;>omega
  have e1:((Xck (n*te.ty.size)).map λi=>z.cells[i%te.ty.size]!)= #[]:=by grind
  rw[e1]at h3;have e2:∀zz:Array Value,((Xck (n*te.ty.size)).map λi=>zz[i%zz.size]!)= #[]:=λzz=>by grind
  simp only[Wb h0,Sem.run_pure,Result.andThen_ok,e2,gN,h3,WcR];rfl
 simp_all [Wa,Sem.run_bind,Result.andThen_ok,Sem.run_pure,WcR]
theorem WjC(hT:Wap P T)(hr:Rel w0 F nt G0 G ν st a w){o:Oper}(hd:∀d,o.dst=some d->nt.Ok d){t:TypeId}{n c:Operand}(ho:o.op= .makeSlice t n c)
  {ty:Ty} {et:TypeId} {te:TE} {n' c':Int} {k k':IntKind} (hl:look T t=some ⟨ty,false,.slice et⟩) (hle:look T et=some te) (hn:a.eval n= .int k n') (hc:a.eval c= .int k' c')
  (h0:0<=n') (h1:n'<=c') (h2:WM c'.toNat=true) (aV:te.ty.data=true) (hp:te.plain=true):
  Done P w0 F nt G0 o a w (st.new o.dst (.arr te.ty (Xu n'.toNat te.ty.dflt)) (.s (.one (.own st.nx)))):=by
 have hu:=(hT _ _ hl).und.2.1;obtain⟨i,z,hi,hs,hz,dD,nE⟩:=(hT _ _ hle).info;rw[WbL hp]at dD;rw[W1 hp]at hs;have gM:z.cells.size=te.ty.size:=by rw[←Xat,dD,Wby]
 have az:c'.toNat<=1073741824:=by simpa [WM]using h2
 have dL:=WgL z.cells c'.toNat;rw[gM,dD]at dL;have uB:rep (WbK te.ty) n'.toNat<+:rep (WbK te.ty) c'.toNat:=by
  have:∀(l:List Value) (p q:Nat),rep l p<+:rep l (p+q):=λl p q=>by
   induction p with
   |zero=>exact Xhq
   |succ p ih=>grind [Nat.succ_add,rep,Xfm]
  have h:=this (WbK te.ty) n'.toNat (c'.toNat-n'.toNat)
  rwa [show n'.toNat+(c'.toNat-n'.toNat)=c'.toNat by omega]at h
 have hb:(i.bytes:Int)*c'<=281474976710656:=by
  have h3:(i.bytes:Int)*c'<=4096*c':=Xfd (by omega) (by omega);omega
 have hm:madeCells z.cells (c'.toNat*i.size)=(Xck (c'.toNat*te.ty.size)).map λi=>z.cells[i%te.ty.size]!:=by
  rw[hs,←gM];rfl
 obtain⟨⟨ν',h6⟩,_⟩:=Wol (t:=et) (vs:=(Xck (c'.toNat*te.ty.size)).map λi=>z.cells[i%te.ty.size]!) hr hd (e:=te.ty) aV (xs:=Xu n'.toNat te.ty.dflt) (cap:=c'.toNat) (cs:=rep (WbK te.ty) n'.toNat) (by simp;omega) (by unfold maxLen;omega)
  (by simp) (Whb aV _) (by simp_all) w rfl rfl rfl rfl
 rw[Xgs]at h6;refine⟨_,_,_,G,ν',?_,.inl rfl,h6⟩
 grind [execOp,Sem.run_bind,run_make,Result.andThen_ok,Sem.run_pure]
theorem Wi0(hT:Wap P T)(hr:Rel w0 F nt G0 G ν st a w){o:Oper}(hd:∀d,o.dst=some d->nt.Ok d){t:TypeId}{n c:Operand}(ho:o.op= .makeSlice t n c)
  {ty:Ty} {et:TypeId} {te:TE} {e:Ty} {n' c':Int} {k k':IntKind} (hl:look T t=some ⟨ty,false,.slice et⟩) (hle:look T et=some te) (hn:a.eval n= .int k n') (hc:a.eval c= .int k' c')
  (h0:0<=n') (h1:n'<=c') (h2:WM c'.toNat=true) (he:e.ro=te.ty) (hp:te.plain=true):
  Done P w0 F nt G0 o a w (st.new o.dst (.arr e (Xu n'.toNat e.dflt)) (.s (.one (.own st.nx)))):=by
 have hu:=(hT _ _ hl).und.2.1;obtain⟨i,z,hi,hs,hz,dD,nE⟩:=(hT _ _ hle).info;rw[WbL hp]at dD;rw[W1 hp]at hs;have ri:te.ty.size=e.size:=by rw[←he,WbN]
 have gM:z.cells.size=te.ty.size:=by rw[←Xat,dD,Wby]
 have az:c'.toNat<=1073741824:=by simpa [WM]using h2
 have dL:=WgL z.cells c'.toNat;rw[gM,dD]at dL;have uB:rep (WbK te.ty) n'.toNat<+:rep (WbK te.ty) c'.toNat:=by
  have:∀(l:List Value) (p q:Nat),rep l p<+:rep l (p+q):=λl p q=>by
   induction p with
   |zero=>exact Xhq
   |succ p ih=>grind [Nat.succ_add,rep,Xfm]
  have h:=this (WbK te.ty) n'.toNat (c'.toNat-n'.toNat)
  rwa [show n'.toNat+(c'.toNat-n'.toNat)=c'.toNat by omega]at h
 have hb:(i.bytes:Int)*c'<=281474976710656:=by
  have h3:(i.bytes:Int)*c'<=4096*c':=Xfd (by omega) (by omega);omega
 have hm:madeCells z.cells (c'.toNat*i.size)=(Xck (c'.toNat*te.ty.size)).map λi=>z.cells[i%te.ty.size]!:=by
  rw[hs,←gM];rfl
 obtain⟨⟨ν',h6⟩,_⟩:=Wib (t:=et) (vs:=(Xck (c'.toNat*te.ty.size)).map λi=>z.cells[i%te.ty.size]!) hr hd [] (e:=e) (xs:=Xu n'.toNat e.dflt) (cap:=c'.toNat) (cs:=rep (WbK te.ty) n'.toNat) (by simp;omega) (by unfold maxLen;omega)
  (by simp[ri]) (λφ _=>by
   obtain⟨ps,g1,g2⟩:=WvV (G:=G) (w:=w) e n'.toNat;rw[he]at g1;exact⟨ps,g1,WnJ ps g2,λp hp b o hh=>by simp_all⟩) (by simp_all) w rfl rfl rfl rfl
 rw[Xgs]at h6;refine⟨_,_,_,G,ν',?_,.inl rfl,h6⟩
 grind [execOp,Sem.run_bind,run_make,Result.andThen_ok,Sem.run_pure]
theorem WnH(hT:Wap P T)(hr:Rel w0 F nt G0 G ν st a w){o:Oper}(hd:∀d,o.dst=some d->nt.Ok d){t:TypeId}{parts:Array (Nat×Operand)}{x:Operand}(ho:o.op= .buildSlice t 1 parts)(ch:parts.toList= [(0,x)])
  {ty:Ty} {et:TypeId} {te:TE} {e:Ty} {xv:AVal} {ds:List Cell} {d:e.den} {m:List Nat} (hl:look T t=some ⟨ty,false,.slice et⟩) (hle:look T et=some te) (hx:AValRel G ν st.nx xv (a.eval x)) (fW:Wg9 xv=some ds)
  (hf:Waz e ds st.objs=some (d,m,[])) (hm:m.Nodup) (he:e.ro=te.ty) (hp:te.plain=true) (hsz:te.ty.size<=16777216):
  Done P w0 F nt G0 o a w (({env:=st.env,objs:=(st.nx,.arr e [d])::kill st.objs m,nx:=st.nx+1}:St).put o.dst (.s (.one (.own st.nx)))):=by
 have hu:=(hT _ _ hl).und.2.1;obtain⟨z,hz,dD⟩:=Wfe (w:=w) (hT _ _ hle);rw[WbL hp]at dD;have ri:te.ty.size=e.size:=by rw[←he,WbN]
 have gM:z.cells.size=te.ty.size:=by rw[←Xat,dD,Wby]
 have dL:=WgL z.cells 1;rw[gM,dD]at dL;simp only[rep,Xdb,Nat.one_mul]at dL;obtain⟨h1,h2⟩:=WdG hx fW;have dK:∀φ,HR w0 F G ν φ st.objs st.nx w->∃ps,EncP (TyRel G w e) [d] (a.eval x).cells.toList ps/\Sep (ps.map Pc.fp)/\∀p∈ps,CS.le p.fp (FromL φ st.objs m):=λφ hφ=>by
  obtain⟨ns,g1,g2,g3,_⟩:=Wal (G':=G) hφ (λ_ _ _ hh=>hh) e ds _ d m [] h1 (λi hi=>by simp at hi) hm hf;exact⟨ns,WpJ.2 g1,g2,g3⟩
 have hlen:(a.eval x).cells.size=e.size:=by
  obtain⟨φ,hφ⟩:=hr.h;obtain⟨ps,g1,_⟩:=dK φ hφ;have:=WE _ _ _ _ (WpJ.1 g1);simpa using this
 have yX:((Xck te.ty.size).map λi=>z.cells[i%te.ty.size]!).size=te.ty.size:=by simp
 have dR:=Wi8 (a.eval x).cells.toList 0 0 ((Xck te.ty.size).map λi=>z.cells[i%te.ty.size]!) (by simp;omega);have rj:((Xck te.ty.size).map λi=>z.cells[i%te.ty.size]!).toList.length=e.size:=by simp[ri]
 have fh:((a.eval x).cells.toList.zipIdx.foldl (λcs (c,j)=>cs.setIfInBounds (0+j) c) ((Xck te.ty.size).map λi=>z.cells[i%te.ty.size]!)).toList=(a.eval x).cells.toList:=by
  rw[dR];simp only[Nat.zero_add,List.take_zero,List.nil_append];rw[List.drop_eq_nil_of_le (by rw[rj];simp;omega),Xdb]
 generalize hV:(a.eval x).cells.toList.zipIdx.foldl (λcs (c,j)=>cs.setIfInBounds (0+j) c) ((Xck te.ty.size).map λi=>z.cells[i%te.ty.size]!)=V at fh;have hVs:V.size=1*e.size:=by rw[←Xat,fh];simp[hlen]
 obtain⟨⟨ν',h6⟩,_⟩:=Wib (t:=et) (vs:=V) hr hd m (e:=e) (xs:=[d]) (cap:=1) (cs:=(a.eval x).cells.toList) (by simp) (by unfold maxLen;omega) hVs dK (by rw[fh];exact Xgb _) w rfl rfl rfl rfl;refine⟨_,_,_,G,ν',?_,.inl rfl,h6⟩;have rk:Instr.fill (λi=>some (i*te.ty.size,te.ty.size)) ((Xck te.ty.size).map λi=>z.cells[i%te.ty.size]!) [(0,a.eval x)]=some V:=by
  simp only[Instr.fill,Xfi];rw[Wa (by simp;omega),←hV];congr 1;rw[←Xfq];simp
 have gN:(parts.map λx=>match x with|(i,x)=>(i,a.eval x)).toList= [(0,a.eval x)]:=by simp[ch]
 have hpos:=WbV te.ty;simp only[execOp,ho,Instr.buildSlice,Sem.run_bind,Wl hu,Result.andThen_ok,(hT _ _ hle).sizeOf,W1 hp,Nat.one_mul,Wa (show¬te.ty.size>2^24 by omega),Wa (show¬te.ty.size=0 by omega),Sem.run_pure,hz,gM,gN,rk,WcR];rfl
theorem Wew{t:TypeId}{te:TE}(bB:TEok P T t te){b off:Nat}{v:Value}{cur:Array Value}{TT:TypeId}(hg:w.heap[b]?=some (.cells cur TT (0,0)))(hsz:te.size=v.cells.size)(bW:off+v.cells.size<=cur.size)(h1:∀u∈v.cells.toList,u.oneCell'=true):
  (storeVar t ⟨b,off,none⟩ v).run P w= .ok () (w.setRow b (cur.toList.take off++v.cells.toList++cur.toList.drop (off+v.cells.size)).toArray):=by
 have h:=run_storeCells_at P b off TT v.cells.toList 0 cur w hg (by simpa using bW) h1;simp only[Xaz,Xat]at h;simp[storeVar,bB.sizeOf,hsz,h]
theorem Wc7{b k:Nat}{vs:Array Value}{T:TypeId}{news:List Value}(h:w.heap[b]?=some (Obj.cells vs T (0,0)))(bW:k+news.length<=vs.size):
  WLe (rng b k news.length) w (w.setRow b (vs.toList.take k++news++vs.toList.drop (k+news.length)).toArray)/\Mem (w.setRow b (vs.toList.take k++news++vs.toList.drop (k+news.length)).toArray) b k news:=by
 have hk:(vs.toList.take k).length=k:=by simp;omega
 constructor
 .refine WLe.setRow h (by simp;omega) (λo hn=>?_);have w9:¬(k<=o/\o<k+news.length):=λ⟨h1,h2⟩=>hn ⟨rfl,h1,h2⟩;simp only[Xfa,Xbo];rw[Xaw,hk];split
  .rename_i hlt;rw[Xbr,Wb hlt];simp
  .rw[Xaw];split
   .omega
   .rw[Xbq,show k+news.length+(o-k-news.length)=o by omega];simp
 .intro j v hj;rw[cell_of_row _ b _ _ T (0,0) (setRow_heap w b vs _ T (0,0) h)];have hlt:j<news.length:=(Xad.1 hj).1;simp only[Xfa,Xbo];rw[Xcj (by omega),hk,Xct (by omega),show k+j-k=j by omega];exact hj
theorem Wfq{b o k:Nat}{vs us:List Value}(hm:Mem w b o vs)(hw:WLe (rng b (o+k) us.length) w w')(hu:Mem w' b (o+k) us)(hk:k+us.length<=vs.length):Mem w' b o (vs.take k++us++vs.drop (k+us.length)):=λj v hj=>by
 have gd:∀v',vs[j]?=some v'->¬(k<=j/\j<k+us.length)->w'.cell? ⟨b,o+j,none⟩=some v':=λv' hv hn=>by
  have h1:=hm j v' hv;rw[hw.cell b (o+j) (block_lt_of_cell h1) (λ⟨_,h2,h3⟩=>hn ⟨by omega,by omega⟩)];exact h1
 have cw:(vs.take k).length=k:=by simp;omega
 rw[Xbo,Xaw,cw]at hj;split at hj
 .rename_i hlt;rw[Xbr,Wb hlt]at hj;exact gd v hj (by omega)
 .rw[Xaw]at hj;split at hj
  .have:=hu (j-k) v hj;rw[show o+j=o+k+(j-k) by omega];exact this
  .rw[Xbq,show k+us.length+(j-k-us.length)=j by omega]at hj;exact gd v hj (by omega)
theorem HR.turn{φ:Nat->CS}(h:HR w0 F G ν φ objs nx w){id:Nat}{ob cC:Ob}{m:List Nat}(ho:look objs id=some ob)(hd:ob≠ .dead){S:CS}(hw:WLe S w w')(hs:CS.le S (φ id))
  (cQ:WcG G ν nx w' id (λb o=>φ id b o\/FromL φ objs m b o) cC):HRel w0 F G ν ((id,cC)::kill objs m) nx w':=by
 have hl:Live objs id:=⟨ob,ho,hd⟩;exact⟨_,h.put (ν':=ν) (λ_ _=>rfl) (Xm _) (h.lt id hl) (hw.mono λb o hh=>⟨id,.inl rfl,hl,hs b o hh⟩) (λb o hh=>by
  rcases hh with hh|⟨i,hi,h1,h2⟩
  .exact .inl ⟨id,.inl rfl,hl,hh⟩
  .exact .inl ⟨i,.inr hi,h1,h2⟩) (λ_=>cQ)⟩
theorem WqP(hT:Wap P T)(hr:Rel w0 F nt G0 G ν st a w){o:Oper}{t:TypeId}{x y:Operand}(ho:o.op= .store t x y)(iU:o.dst=none){p v:AVal}(hx:AValRel G ν st.nx p (a.eval x))(hy:AValRel G ν st.nx v (a.eval y))
  (h:Wc2 T st t p v=some ae):Done P w0 F nt G0 o a w ae:=by
 unfold Wc2 at h;split at h
 .rename_i te id off ds hl fW;obtain⟨gO,lz⟩:=WdG hy fW;split at h
  .rename_i cs aw;split at h
   .rename_i bq;simp only[Xi,Wh]at bq;obtain⟨⟨hs,eF⟩,bW⟩:=bq;injection h with h;subst h;obtain⟨⟨_,b,hb,fT⟩,_⟩:=hx;obtain⟨φ,hφ⟩:=hr.h;obtain⟨b',vs,hb',⟨row,TT,fC,hrow⟩,hmem,bz,eG⟩:=hφ.ob _ _ aw;rw[hb]at hb';injection hb' with hb';subst hb';have hlen:(a.eval y).cells.size=ds.length:=by have:=gO.1;simpa using this
    have hrun:=Wew (w:=w) (hT _ _ hl) (b:=b) (off:=(ν id).off+off) (v:=a.eval y) fC (by rw[W1 eF,hlen];exact hs) (by omega) lz;obtain⟨hw,hm⟩:=Wc7 (k:=(ν id).off+off) (news:=(a.eval y).cells.toList) fC (by simp;omega);simp only[Xat]at hw hm;generalize w.setRow b (row.toList.take ((ν id).off+off)++(a.eval y).cells.toList++row.toList.drop ((ν id).off+off+(a.eval y).cells.size)).toArray=W at hrun hw hm;have cQ:HRel w0 F G ν ((id,.box (Wel cs off ds))::st.objs) st.nx W:=by
     refine hφ.turn (m:=[]) aw (by simp) hw (λb' o ⟨e,h1,h2⟩=>eG b' o ⟨e,by omega,by omega⟩) ?_;refine⟨b,_,hb,by rw[Wfj bW];exact hw.rows.row _ _ ⟨row,TT,fC,hrow⟩,Wfq hmem (us:=(a.eval y).cells.toList) (by rw[Xat];exact hw) hm (by rw[bz.1];simp;omega),Wfr bz gO,λb o hh=>.inl (eG b o (by rw[Wfj bW]at hh;exact hh))⟩
    refine⟨.skip,undef,W,G,ν,?_,.inr ⟨rfl,rfl⟩,?_⟩
    .simp only[execOp,ho,fT,Instr.storeAt,Instr.sureAddr,Sem.run_bind,Sem.run_pure,Result.andThen_ok,hrun]
    .rw[iU];exact hr.on (λ_ _ _ hh=>hh) (λ_ _=>rfl) (Xm _) cQ hr.gx
   .simp at h
  .simp at h
 .rename_i te id i off ds hl fW;obtain⟨gO,lz⟩:=WdG hy fW;split at h
  .rename_i e xs aw;split at h
   .rename_i bq;simp only[Xi,Wh]at bq;obtain⟨⟨⟨hs,eF⟩,bW⟩,aV⟩:=bq;split at h
    .rename_i d hf;injection h with h;subst h;obtain⟨⟨_,uC,b,hb,fT⟩,_⟩:=hx;obtain⟨φ,hφ⟩:=hr.h;have hown:OwnL w (TyRel G w e) e.size (ν id) xs (φ id):=hφ.ob _ _ aw;obtain⟨iT,h4,h5,jZ,cs,h7,h8,h9⟩:=Wdy aV hown hb;obtain⟨row,TT,fC,hrow⟩:=jZ;have bV:=hown.2.1;have hlt:i<xs.length:=by omega
     have hlen:(a.eval y).cells.toList.length=ds.length:=gO.1;have cg:(a.eval y).cells.size=ds.length:=by simpa using hlen
     have hcl:cs.length=xs.length*e.size:=EncL_len (λx c hc=>Enc_len e x c hc) _ _ h7;have xa:i*e.size+e.size<=xs.length*e.size:=by rw[←Xcf];exact Xbe _ hlt
     have yY:xs.length*e.size<=(ν id).cap*e.size:=Xbe _ h4;have uD:=WnG (λx c hc=>Enc_len e x c hc) xs cs i e.dflt h7 hlt;have uE:=Wfr (off:=off) (WaP (G:=G) (ν:=ν) (nx:=st.nx) e _ _ uD) gO;have henc:=WnR hr.h uE aV hf;have dR:=WlL (λx c hc=>Enc_len e x c hc) xs cs i d _ h7 hlt henc;have hrun:=Wew (w:=w) (hT _ _ hl) (b:=b) (off:=(ν id).off+(i*e.size+off)) (v:=a.eval y) fC (by rw[W1 eF];omega) (by omega) lz;obtain⟨hw,hm⟩:=Wc7 (k:=(ν id).off+(i*e.size+off)) (news:=(a.eval y).cells.toList) fC (by omega);simp only[Xat]at hw hm;generalize w.setRow b (row.toList.take ((ν id).off+(i*e.size+off))++(a.eval y).cells.toList++row.toList.drop ((ν id).off+(i*e.size+off)+(a.eval y).cells.size)).toArray=W at hrun hw hm;have nF:cs.take (i*e.size+off)++(a.eval y).cells.toList++cs.drop (i*e.size+off+(a.eval y).cells.toList.length)=
       cs.take (i*e.size)++(((cs.drop (i*e.size)).take e.size).take off++(a.eval y).cells.toList++((cs.drop (i*e.size)).take e.size).drop (off+(a.eval y).cells.toList.length))++cs.drop (i*e.size+e.size):=by
      rw[hlen];have e1:cs.take (i*e.size+off)=cs.take (i*e.size)++((cs.drop (i*e.size)).take e.size).take off:=by
       rw[List.take_take,Xcc (by omega),←List.take_add]
      have e2:cs.drop (i*e.size+off+ds.length)=((cs.drop (i*e.size)).take e.size).drop (off+ds.length)++cs.drop (i*e.size+e.size):=by
       rw[List.drop_take,Xbs];have:cs.drop (i*e.size+e.size)=(cs.drop (i*e.size+(off+ds.length))).drop (e.size-(off+ds.length)):=by rw[Xbs];congr 1;omega
       rw[this,Xdr];congr 1;omega
      rw[e1,e2];simp
     have cQ:HRel w0 F G ν ((id,.arr e (xs.set i d))::st.objs) st.nx W:=by
      refine hφ.turn (m:=[]) aw (by simp) hw (λb' o ⟨e',h1,h2⟩=>h9 b' o ⟨e',by omega,by omega⟩) ?_;refine Wmy aV hb (by simpa using iT) bV (by simpa using h4) h5 (hw.rows.row _ _ ⟨row,TT,fC,hrow⟩) dR ?_ (λb o hh=>.inl (h9 b o hh));rw[←nF];exact Wfq h8 (us:=(a.eval y).cells.toList) (by rw[Xat];exact hw) hm (by omega)
     refine⟨.skip,undef,W,G,ν,?_,.inr ⟨rfl,rfl⟩,?_⟩
     .simp only[execOp,ho,fT,bV,Instr.storeAt,Instr.sureAddr,Sem.run_bind,Sem.run_pure,Result.andThen_ok,hrun]
     .rw[iU];exact hr.on (λ_ _ _ hh=>hh) (λ_ _=>rfl) (Xm _) cQ hr.gx
    .simp at h
   .split at h
    .rename_i bq;simp only[Xi,Wh]at bq;obtain⟨⟨⟨hs,eF⟩,uF⟩,yZ⟩:=bq;subst uF;split at h
     .rename_i d m hf;split at h
      .rename_i aP;injection h with h;subst h;have aP:(id::m).Nodup:=(Wc1 _).1 aP;obtain⟨tS,y0⟩:=Xai.1 aP;obtain⟨⟨_,uC,b,hb,fT⟩,_⟩:=hx;obtain⟨φ,hφ⟩:=hr.h;have hown:OwnL w (TyRel G w e) e.size (ν id) xs (φ id):=hφ.ob _ _ aw;have aC:Live st.objs id:=⟨_,aw,by simp⟩;obtain⟨iT,bV,h3⟩:=hown;simp only[hb]at h3;obtain⟨h4,h5,jZ,cs,ps,h7,h8,h9,cN⟩:=h3;obtain⟨row,TT,fC,hrow⟩:=jZ;have hlt:i<xs.length:=by omega
       have hlen:(a.eval y).cells.toList.length=ds.length:=gO.1;have cg:(a.eval y).cells.size=ds.length:=by simpa using hlen
       have xa:i*e.size+e.size<=xs.length*e.size:=by rw[←Xcf];exact Xbe _ hlt
       have yY:xs.length*e.size<=(ν id).cap*e.size:=Xbe _ h4;obtain⟨c1,c,c2,p1,pc,p2,g1,g2,g3,g4,g5⟩:=Wos h7 e.dflt hlt;have l1:=Wbc (λx c q hx=>WE e x c q hx) _ _ _ g3;rw[Xan,Xcc (by omega)]at l1;have lc:=WE _ _ _ _ g4;obtain⟨ns,t1,t2,t3,t4,_⟩:=Wal (G':=G) hφ (λ_ _ _ hh=>hh) e ds _ d m [] gO (λi hi=>by simp at hi) y0 hf;have hrun:=Wew (w:=w) (hT _ _ hl) (b:=b) (off:=(ν id).off+(i*e.size+0)) (v:=a.eval y) fC (by rw[W1 eF];omega) (by omega) lz;obtain⟨hw,hm⟩:=Wc7 (k:=(ν id).off+(i*e.size+0)) (news:=(a.eval y).cells.toList) fC (by omega);simp only[Xat]at hw hm;generalize w.setRow b (row.toList.take ((ν id).off+(i*e.size+0))++(a.eval y).cells.toList++row.toList.drop ((ν id).off+(i*e.size+0)+(a.eval y).cells.size)).toArray=W at hrun hw hm;have gP:CS.le (rng b ((ν id).off+(i*e.size+0)) (a.eval y).cells.size) (rng b (ν id).off ((ν id).cap*e.size)):=λb' o ⟨e',k1,k2⟩=>⟨e',by omega,by omega⟩;have ge:=cN _ (Xg ..);have hbl:∀p∈p1++(pc++p2),∀b o,p.fp b o->b<w.heap.size:=λp hp b o hh=>hφ.bl id b o aC (cN p.fp (Xe _ (Xaq (by rw[g2];exact hp))) b o hh);obtain⟨q1,q2⟩:=Xv.1 h9;have it:∀p∈p1++(pc++p2),Same p.fp w W:=λp hp=>hw.same ((q1 p.fp (Xaq (by rw[g2];exact hp))).mono gP (λ_ _ hh=>hh)) (hbl p hp);have j8:∀p∈ns,Same p.fp w W:=λp hp=>hw.same (λb o k1 k2=>by
        obtain⟨j,hj,k3,k4⟩:=t3 p hp b o k2;have:=hφ.inj id j b o aC k3 (ge b o (gP b o k1)) k4;subst this;exact tS hj) (λb o hh=>by
        obtain⟨j,hj,k3,k4⟩:=t3 p hp b o hh;exact hφ.bl j b o k3 k4)
       have hEnc:EncP (TyRel G W e) (xs.set i d) (c1++((a.eval y).cells.toList++c2)) (p1++(ns++p2)):=by
        refine Wqm hlt ?_ (WaI (λ_ _ _ hh=>hh) e _ _ _ j8 t1) ?_
        .exact WbY (Q:=λq=>Same q.fp w W) (λx c q hq hx=>WaI (λ_ _ _ hh=>hh) e x c q hq hx) _ _ _ (λq hq=>it q (Xl _ hq)) g3
        .exact WbY (Q:=λq=>Same q.fp w W) (λx c q hq hx=>WaI (λ_ _ _ hh=>hh) e x c q hq hx) _ _ _ (λq hq=>it q (Xh _ (Xh _ hq))) g5
       have hMem:Mem W b (ν id).off (c1++((a.eval y).cells.toList++c2)):=by
        have:=Wfq h8 (k:=i*e.size+0) (us:=(a.eval y).cells.toList) (by rw[Xat];exact hw) hm (by rw[g1];simp;omega);rw[g1,Xaz,List.take_append_of_le_length (by omega),List.take_of_length_le (by omega)]at this;have j9:(c1++(c++c2)).drop (i*e.size+(a.eval y).cells.toList.length)=c2:=by
         rw[←Xbo,show i*e.size+(a.eval y).cells.toList.length=(c1++c).length by rw[Xs];omega,List.drop_left]
        rw[j9,Xbo]at this;exact this
       have cQ:HRel w0 F G ν ((id,.arr e (xs.set i d))::kill st.objs m) st.nx W:=by
        refine hφ.turn aw (by simp) hw (λb' o hh=>ge b' o (gP b' o hh)) ?_;refine⟨by simpa using iT,bV,?_⟩;simp only[hb];rw[g2,Xz,Xz]at q2 q1;have qA:=Xam.1 q2;have qB:=Xam.1 qA.2.1;have nG:∀p∈ns,∀s,CS.le s (φ id)->CS.disj p.fp s:=λp hp s hs b o k1 k2=>by
         obtain⟨j,hj,k3,k4⟩:=t3 p hp b o k1;have:=hφ.inj id j b o aC k3 (hs b o k2) k4;subst this;exact tS hj
        have ch:∀p∈p1++(pc++p2),CS.le p.fp (φ id):=λp hp=>cN p.fp (Xe _ (Xaq (by rw[g2];exact hp)));refine⟨by simpa using h4,h5,hw.rows.row _ _ ⟨row,TT,fC,hrow⟩,_,p1++(ns++p2),hEnc,hMem,Xv.2 ⟨λs hs=>?_,?_⟩,λs hs=>?_⟩
        .simp only[Xz,Xn]at hs;rcases hs with hs|hs|hs
         .exact q1 s (Xl _ hs)
         .obtain⟨p,hp,rfl⟩:=Xw.1 hs;exact(nG p hp _ ge).symm
         .exact q1 s (Xh _ (Xh _ hs))
        .rw[Xz,Xz];refine Wnn (Xam.2 ⟨qA.1,qB.2.1,λs hs t ht=>qA.2.2 s hs t (Xh _ ht)⟩) t2 (λs hs t ht=>?_);obtain⟨p,hp,rfl⟩:=Xw.1 hs;rcases Xn.1 ht with ht|ht
         .obtain⟨q,hq,rfl⟩:=Xw.1 ht;exact nG p hp _ (ch q (Xl _ hq))
         .obtain⟨q,hq,rfl⟩:=Xw.1 ht;exact nG p hp _ (ch q (Xh _ (Xh _ hq)))
        .intro b o hh;rcases Xq.1 hs with rfl|hs
         .exact .inl (ge b o hh)
         .simp only[Xz,Xn]at hs;rcases hs with hs|hs|hs
          .obtain⟨q,hq,rfl⟩:=Xw.1 hs;exact .inl (ch q (Xl _ hq) b o hh)
          .obtain⟨q,hq,rfl⟩:=Xw.1 hs;exact .inr (t3 q hq b o hh)
          .obtain⟨q,hq,rfl⟩:=Xw.1 hs;exact .inl (ch q (Xh _ (Xh _ hq)) b o hh)
       refine⟨.skip,undef,W,G,ν,?_,.inr ⟨rfl,rfl⟩,?_⟩
       .simp only[execOp,ho,fT,bV,Instr.storeAt,Instr.sureAddr,Sem.run_bind,Sem.run_pure,Result.andThen_ok,hrun]
       .rw[iU];exact hr.on (λ_ _ _ hh=>hh) (λ_ _=>rfl) (Xm _) cQ hr.gx
      .simp at h
     .simp at h
    .simp at h
  .simp at h
 .simp at h
end
end Go.Sx
namespace Go.Sx
set_option linter.unusedVariables false
set_option linter.unusedSimpArgs false
theorem Ww4{G:GH}(t:Ty)(d:t.den)(cs:List Value)(h:Enc G t d cs):∀u∈cs,u.oneCell'=true:=λu hu=>by
 obtain⟨j,hj⟩:=Xdx hu;have hc:=WaP (ν:=λ_=>⟨none,0,0,0,0⟩) (nx:=0) t d cs h;have hlt:j<(split t d).length:=by rw[←hc.1];grind
 exact(hc.2 j _ u (Xp hlt) hj).2
theorem Wqd{G:GH}{t:Ty}:∀(l:List t.den) (cs:List Value),EncL (Enc G t) l cs->∀u∈cs,u.oneCell'=true
 | [],cs,h,u,hu=>by grind [EncL]
 |x::l,cs,⟨c1,c2,he,h1,h2⟩,u,hu=>by
  subst he;rcases Xn.1 hu with hu|hu
  .grind [Ww4]
  .exact Wqd l c2 h2 u hu
theorem WtT{G:GH}{w:World}(t:Ty)(d:t.den)(cs:List Value)(ps:List Pc)(h:TyRel G w t d cs ps):∀u∈cs,u.oneCell'=true:=λu hu=>by
 obtain⟨j,hj⟩:=Xdx hu;have hc:=Wik (ν:=λ_=>⟨none,0,0,0,0⟩) (nx:=0) t d cs ps h;have hlt:j<(split t d).length:=by rw[←hc.1];grind
 exact(hc.2 j _ u (Xp hlt) hj).2
theorem WmM{G:GH}{w:World}{t:Ty}:∀(l:List t.den) (cs:List Value) (ps:List Pc),EncP (TyRel G w t) l cs ps->∀u∈cs,u.oneCell'=true
 | [],cs,ps,h,u,hu=>by rw[h.1]at hu;simp at hu
 |x::l,cs,ps,⟨c1,c2,p1,p2,he,hp,h1,h2⟩,u,hu=>by
  subst he;rcases Xn.1 hu with hu|hu
  .grind [WtT]
  .exact WmM l c2 p2 h2 u hu
section
variable{w0:World}{F:CS}{nt:Slots}{G0 G:GH}{ν:Nat->Nu}{φ:Nat->CS}{objs:Wak}{nx:Nat}{st ae:St}{a:Act}{w w':World}{P:Program}{T:Tab}
structure Src(w0:World)(F:CS)(G:GH)(ν:Nat->Nu)(st:St)(w:World)(e:Ty)(l:List e.den)(m:List Nat)(v:Value)(news:List Value):Prop where
 enc:∀φ,HR w0 F G ν φ st.objs st.nx w->∃ps,EncP (TyRel G w e) l news ps/\Sep (ps.map Pc.fp)/\∀p∈ps,CS.le p.fp (FromL φ st.objs m)
 rd:(v= .slice none 0 0/\l= [])\/∃(p:Addr) (c:Nat),v= .slice (some p) l.length c/\∀(j:Nat) (u:Value),news[j]?=some u->w.cell? (p.add j)=some u
theorem WcM{e:Ty}(he:e.data=true){l:List e.den}{m:List Nat}{v:Value}{news:List Value}(h:EncL (Enc G e) l news)
  (rd:(v= .slice none 0 0/\l= [])\/∃(p:Addr) (c:Nat),v= .slice (some p) l.length c/\∀(j:Nat) (u:Value),news[j]?=some u->w.cell? (p.add j)=some u):Src w0 F G ν st w e l m v news:=
 ⟨λφ _=>⟨[],(EncP_data he l news []).2 ⟨h,rfl⟩,List.Pairwise.nil,by simp⟩,rd⟩
theorem WiG(hr:Rel w0 F nt G0 G ν st a w){e:Ty}(he:e.data=true){x:AVal}{u:Value}{l:List e.den}(m:List Nat)(hx:AValRel G ν st.nx x u)(h:Wwq st e x=some l):∃news,Src w0 F G ν st w e l m u news:=by
 unfold Wwq at h;split at h
 .rename_i e' d';obtain⟨lA,hd⟩:=Way h;subst lA;simp only at hd;subst hd;obtain⟨⟨v,hv,hs⟩,_⟩:=hx;simp at hv;subst hv;rcases hs with⟨rfl,hn⟩|⟨b,off,cap,cs,rfl,h1,h2,h3,h4⟩|⟨a',cap,rfl,hn⟩
  rotate_left 2
  .exact⟨[],WcM he (by rw[hn];rfl) (.inr ⟨a',cap,by grind,λj u hj=>by simp at hj⟩)⟩
  .exact⟨[],WcM he (by rw[hn];rfl) (.inl ⟨rfl,hn⟩)⟩
  .exact⟨cs,WcM he h3 (.inr ⟨⟨b,off,none⟩,cap,rfl,λj u hj=>by rw[Wa8];exact hr.h.g (h4 j u hj)⟩)⟩
 .injection h with h;subst h;obtain⟨hv,_⟩:=hx;simp only[CellRel]at hv;subst hv;exact⟨[],WcM he rfl (.inl ⟨rfl,rfl⟩)⟩
 .rename_i id;split at h
  .rename_i e' xs ho;obtain⟨lA,hd⟩:=Way h;subst lA;simp only at hd;subst hd;obtain⟨⟨_,hv⟩,_⟩:=hx;subst hv;obtain⟨S,aw⟩:=hr.h.obj ho;unfold Nu.hdr;cases hb:(ν id).blk with
   |none=>have:=Wcz aw hb;exact⟨[],WcM he (by rw[this];rfl) (.inl ⟨rfl,this⟩)⟩
   |some b=>
    obtain⟨h1,h2,h3,h4,cs,h5,h6,h7⟩:=Wdy he aw hb;exact⟨cs,WcM he h5 (.inr ⟨⟨b,(ν id).off,none⟩,(ν id).cap,by rw[h1],λj u hj=>by rw[Wa8];exact h6 j u hj⟩)⟩
  grind
 .rename_i id lo hi;split at h
  .rename_i e' xs ho;obtain⟨ys,hc,h⟩:=Xy.1 h;subst h;obtain⟨lA,hd⟩:=Way hc;subst lA;simp only at hd;subst hd;obtain⟨⟨_,g1,g2,g3,hv⟩,_⟩:=hx;subst hv;obtain⟨S,aw⟩:=hr.h.obj ho;have bV:=aw.2.1;have xb:=aw.1;unfold Nu.vhdr;cases hb:(ν id).blk with
   |none=>
    have:=Wcz aw hb;subst this;exact⟨[],WcM he (by simp;rfl) (.inl ⟨rfl,by simp⟩)⟩
   |some b=>
    obtain⟨h1,h2,h3,h4,cs,h5,h6,h7⟩:=Wdy he aw hb;have hl:((xs.take hi).drop lo).length=hi-lo:=by simp;omega
    by_cases nH:(ν id).cap=lo
    .have h0:(xs.take hi).drop lo= []:=Xaa (by omega);exact⟨[],WcM he (by rw[h0];rfl) (.inr ⟨_,_,by rw[hl],λj u hj=>by simp at hj⟩)⟩
    .refine⟨(cs.take (hi*e'.size)).drop (lo*e'.size),WcM he (WeF (λx c hc=>Enc_len e' x c hc) _ _ lo (WeU (λx c hc=>Enc_len e' x c hc) _ _ hi h5)) (.inr ⟨_,_,by rw[hl,Wa nH],λj u hj=>?_⟩)⟩;rw[Xbq,Xbr]at hj;rw[Wa8,bV,Xay];split at hj
     .exact h6 _ u hj
     grind
  grind
 grind
theorem Wsn(hr:Rel w0 F nt G0 G ν st a w){dst:Option Tmp}(hd:∀d,dst=some d->nt.Ok d)(e:Ty)(m:List Nat):
  ∃ν',Rel w0 F nt G0 G ν' (({env:=st.env,objs:=(st.nx,.arr e [])::kill st.objs m,nx:=st.nx+1}:St).put dst (.s (.one (.own st.nx)))) (a.put dst (.slice none 0 0)) w:=by
 refine⟨upd ν st.nx ⟨none,0,0,0,e.size⟩,hr.fresh hd m (.arr e []) _ (λ_ _ _=>False) _ _ (λφ _=>WLe.refl _ w) (λφ _ b o hh=>hh.elim) (λφ _=>?_) ⟨⟨Xbv _,by rw[WbD];rfl⟩,rfl⟩⟩;show OwnL _ _ _ (upd ν st.nx ⟨none,0,0,0,e.size⟩ st.nx) _ _;rw[WbD];exact⟨rfl,rfl,rfl⟩
theorem WiB(t ty e TT:TypeId)(i:TypeInfo)(ht:P.underlying t=some (.slice e))(hi:P.info? e=some i)
  (g off sLen sCap:Nat) (cur:Array Value) (hg:w.heap[g]?=some (.cells cur TT (0,0)))
  (p:Addr) (m c:Nat) (news:List Value) (hl:news.length=m*i.size) (rn:∀j u,news[j]?=some u->w.cell? (p.add j)=some u) (h1:∀u∈news,u.oneCell'=true)
  (az:sLen+m<=sCap) (bW:off+sLen*i.size+news.length<=cur.size):
  (Builtin.append_ #[t,t] ty #[.slice (some ⟨g,off,none⟩) sLen sCap,.slice (some p) m c]).run P w=
   .ok (.slice (some ⟨g,off,none⟩) (sLen+m) sCap) (w.setRow g (cur.toList.take (off+sLen*i.size)++news++cur.toList.drop (off+sLen*i.size+news.length)).toArray):=by
 have hf:=run_firstCells_some (P:=P) w i.size m p m c news hl rn;have aM:=run_storeCells_at P g (off+sLen*i.size) TT news 0 cur w hg (by omega) h1;simp only[Xaz]at aM;simp[Builtin.append_,Wl ht,sizeOf,typeInfo,hi,Builtin.lenOf,az,hf,Wa8,aM]
theorem We2(t ty e:TypeId)(i:TypeInfo)(ht:P.underlying t=some (.slice e))(hi:P.info? e=some i)(base:Option Addr)(n cap:Nat)(h:n<=cap):
  (Builtin.append_ #[t,t] ty #[.slice base n cap,.slice none 0 0]).run P w= .ok (.slice base n cap) w:=by
 cases base<;>simp[Builtin.append_,Wl ht,sizeOf,typeInfo,hi,Builtin.lenOf,h,Builtin.firstCells,storeCells]
theorem Wjp(t ty e:TypeId)(i:TypeInfo)(ht:P.underlying t=some (.slice e))(hi:P.info? e=some i)(p:Addr)(c:Nat):
  (Builtin.append_ #[t,t] ty #[.slice none 0 0,.slice (some p) 0 c]).run P w= .ok (.slice none 0 0) w:=by
 simp[Builtin.append_,Wl ht,sizeOf,typeInfo,hi,Builtin.lenOf,Builtin.firstCells,loadCells,loadCellsFrom]
theorem Wck{o:Oper}{c:Call}(ho:o.op= .call c){s x:Operand}{t:TypeId}(hc:c.callee= .builtin .append)(ha:c.args.toList= [s,x])(dg:c.argTypes.toList= [t,t]){v:Value}
  (hrun:(Builtin.append_ #[t,t] o.type #[a.eval s,a.eval x]).run P w= .ok v w'):(execOp a.eval o).run P w= .ok (.value v) w':=by
 obtain⟨callee,args,argTypes⟩:=c;obtain⟨args⟩:=args;obtain⟨argTypes⟩:=argTypes;simp only at hc ha dg;subst hc ha dg;simp only[execOp,ho,resolve,invoke,builtin,Sem.run_bind,Sem.run_pure,Result.andThen_ok,Xdz,Xae,Xbt,hrun]
theorem Wwe(w:World)(need old:Nat)(e:TypeId)(h:WM need=true):need<=grownCap w need old e/\grownCap w need old e<=maxLen:=
 ⟨grownCap_ge w need old e,grownCap_le_maxLen w need old e (by grind [WM,maxLen])⟩
theorem WjX(hr:Rel w0 F nt G0 G ν st a w){dst:Option Tmp}(hd:∀d,dst=some d->nt.Ok d)(m:List Nat){e:Ty}{xs:List e.den}{cs:List Value}(hl:cs.length=xs.length*e.size)
  (hc:∀φ,HR w0 F G ν φ st.objs st.nx w->∃ps,EncP (TyRel G w e) xs cs ps/\Sep (ps.map Pc.fp)/\∀p∈ps,CS.le p.fp (FromL φ st.objs m)) {cap:Nat} (gJ:xs.length<=cap) (lB:cap<=maxLen) (z:Array Value) (hz:z.size=e.size) (t:TypeId):
  ∃ν',Rel w0 F nt G0 G ν' (({env:=st.env,objs:=(st.nx,.arr e xs)::kill st.objs m,nx:=st.nx+1}:St).put dst (.s (.one (.own st.nx)))) (a.put dst (.slice (some ⟨w.heap.size,0,none⟩) xs.length cap)) (w.drew.alloc (.cells (cs.toArray++Builtin.zeroCells z (cap-xs.length)) t)):=by
 refine(Wib hr hd m (e:=e) (xs:=xs) (cap:=cap) (cs:=cs) (vs:=cs.toArray++Builtin.zeroCells z (cap-xs.length)) (t:=t) gJ lB ?_ hc ?_ w.drew rfl rfl rfl rfl).1
 .simp only[Array.size_append,List.size_toArray,size_zeroCells,hz,hl,←Xcu];simp_all
 .simp
structure ElT(P:Program)(t et:TypeId)(e:Ty):Prop where
 u:P.underlying t=some (.slice et)
 i:∃i z,P.info? et=some i/\i.size=e.size/\i.zero=some z/\z.cells.size=e.size/\i.bytes<=4096
theorem elT(hT:Wap P T){t et:TypeId}{ty:Ty}{ag:Bool}{te:TE}{e:Ty}(hl:look T t=some ⟨ty,ag,.slice et⟩)(hle:look T et=some te)(hp:te.plain=true)(he:te.ty.size=e.size):ElT P t et e:=by
 obtain⟨i,z,hi,hsz,hz,dD,nE⟩:=(hT _ _ hle).info;rw[W1 hp]at hsz;rw[WbL hp]at dD;exact⟨(hT _ _ hl).und.2.1,i,z,hi,by rw[hsz,he],hz,by rw[←Xat,dD,Wby,he],nE⟩
theorem WbC(hr:Rel w0 F nt G0 G ν st a w){o:Oper}(hd:∀d,o.dst=some d->nt.Ok d){c:Call}{s x:Operand}{t et:TypeId}{e:Ty}(hE:ElT P t et e)
  (ho:o.op= .call c) (hc:c.callee= .builtin .append) (ha:c.args.toList= [s,x]) (dg:c.argTypes.toList= [t,t]) (di:a.eval s= .slice none 0 0)
  {l:List e.den} {m m':List Nat} {news:List Value} (hx:Src w0 F G ν st w e l m (a.eval x) news) (hm:∀i∈m,i∈m') (az:WM l.length=true):
  Done P w0 F nt G0 o a w (({env:=st.env,objs:=(st.nx,.arr e l)::kill st.objs m',nx:=st.nx+1}:St).put o.dst (.s (.one (.own st.nx)))):=by
 obtain⟨hu,i,z,hi,hsz,hz,gM,nE⟩:=hE;have uG:l.length<=1073741824:=by grind [WM]
 have hpos:=WbV e;rcases hx.rd with⟨aQ,bG⟩|⟨pa,cc,aQ,ar⟩
 .subst bG;obtain⟨ν',hh⟩:=Wsn hr hd e m';exact⟨_,_,_,G,ν',Wck ho hc ha dg (by simp_all [We2,Xm]),.inl rfl,hh⟩
 .by_cases h0:l.length=0
  .have bG:l= []:=Xaa h0;subst bG;obtain⟨ν',hh⟩:=Wsn hr hd e m';exact⟨_,_,_,G,ν',Wck ho hc ha dg (by grind [Wjp]),.inl rfl,hh⟩
  .obtain⟨φ,hφ⟩:=hr.h;obtain⟨y5,e0,_⟩:=hx.enc φ hφ;have ju:news.length=l.length*e.size:=Wbc (λx c q hx=>WE e x c q hx) _ _ _ e0;obtain⟨mF,eU⟩:=Wwe w l.length 0 et az;obtain⟨ν',hh⟩:=WjX hr hd m' ju (λφ hφ=>by
    obtain⟨ps,k1,k2,k3⟩:=hx.enc φ hφ;exact⟨ps,k1,k2,λp hp b o hh=>FromL.mono hm b o (k3 p hp b o hh)⟩) mF eU z.cells gM et
   have xc:l.length*i.bytes<=281474976710656:=by
    have:=Xgt uG nE;omega
   refine⟨_,_,_,G,ν',Wck ho hc ha dg ?_,.inl rfl,hh⟩
   grind [run_append_nil]
theorem Wdz{e:Ty}{nu:Nu}{xs:List e.den}{S:CS}{b k:Nat}(h:OwnL w (TyRel G w e) e.size nu xs S)(hb:nu.blk=some b)(hk:k<=xs.length):
  ∃c1 p1,EncP (TyRel G w e) (xs.take k) c1 p1/\c1.length=k*e.size/\Mem w b nu.off c1/\Sep (rng b nu.off (nu.cap*e.size)::p1.map Pc.fp)/\(∀s∈rng b nu.off (nu.cap*e.size)::p1.map Pc.fp,CS.le s S):=by
 obtain⟨h1,h2,h3⟩:=h;simp only[hb]at h3;obtain⟨h4,h5,h6,cs,ps,h7,h8,h9,cN⟩:=h3;obtain⟨c1,c2,p1,p2,g1,g2,g3,g4⟩:=Wez xs cs ps k h7;have hl:=Wbc (λx c q hx=>WE e x c q hx) _ _ _ g3;rw[Xan,Xcc hk]at hl;obtain⟨q1,q2⟩:=Xv.1 h9;rw[g2,Xz]at q1 q2 cN;refine⟨c1,p1,g3,hl,by rw[g1]at h8;exact h8.left,Xv.2 ⟨λs hs=>q1 s (Xl _ hs),(Xam.1 q2).1⟩,λs hs=>?_⟩
 grind
theorem Wdw(hr:Rel w0 F nt G0 G ν st a w){o:Oper}(hd:∀d,o.dst=some d->nt.Ok d){c:Call}{s x:Operand}{t et:TypeId}{e:Ty}(hE:ElT P t et e)
  (ho:o.op= .call c) (hc:c.callee= .builtin .append) (ha:c.args.toList= [s,x]) (dg:c.argTypes.toList= [t,t])
  {id g k:Nat} {xs:List e.den} (aw:look st.objs id=some (.arr e xs)) (bb:(ν id).blk=some g) (hk:k<=xs.length) (di:a.eval s= .slice (some ⟨g,(ν id).off,none⟩) k (ν id).cap)
  {l:List e.den} {m:List Nat} {news:List Value} (hx:Src w0 F G ν st w e l m (a.eval x) news) (hm:id∉m) (az:WM (k+l.length)=true):
  Done P w0 F nt G0 o a w (({env:=st.env,objs:=(st.nx,.arr e (Xf (xs.take k) l))::kill st.objs (id::m),nx:=st.nx+1}:St).put o.dst (.s (.one (.own st.nx)))):=by
 obtain⟨hu,i,z,hi,hsz,hz,gM,nE⟩:=hE;have uG:k+l.length<=1073741824:=by grind [WM]
 have hpos:=WbV e;have hlen:(Xf (xs.take k) l).length=k+l.length:=by show(xs.take k++l).length=_;rw[Xs,Xan,Xcc hk]
 obtain⟨φ0,hφ0⟩:=hr.h;have iu:OwnL w (TyRel G w e) e.size (ν id) xs (φ0 id):=hφ0.ob _ _ aw;have mH:=iu.2.2;simp only[bb]at mH;obtain⟨hxc,lB,⟨row,TT,fC,hrow⟩,_⟩:=mH;obtain⟨c1,p10,_,rq,rr,_,_⟩:=Wdz iu bb hk;obtain⟨y5,e0,_⟩:=hx.enc φ0 hφ0;have ju:news.length=l.length*e.size:=Wbc (λx c q hx=>WE e x c q hx) _ _ _ e0;have aC:Live st.objs id:=⟨_,aw,by simp⟩;have rt:∀{c2:List Value},c2.length=k*e.size->Mem w g (ν id).off c2->c2=c1:=λ{c2} h1 h2=>Xfv λj=>by
  by_cases hj:j<k*e.size
  .have qw:j<c2.length:=by omega
   have tT:j<c1.length:=by omega
   have a1:=h2 j _ (Xp qw);have a2:=rr j _ (Xp tT);simp_all
  simp_all
 have inplace:∀(W:World),WLe (rng g ((ν id).off+k*e.size) (l.length*e.size)) w W->Mem W g ((ν id).off+k*e.size) news->k+l.length<=(ν id).cap->
   ∃ν',Rel w0 F nt G0 G ν' (({env:=st.env,objs:=(st.nx,.arr e (Xf (xs.take k) l))::kill st.objs (id::m),nx:=st.nx+1}:St).put o.dst (.s (.one (.own st.nx)))) (a.put o.dst (.slice (some ⟨g,(ν id).off,none⟩) (k+l.length) (ν id).cap)) W:=by
  intro W hW hM bW;have jY:(k+l.length)*e.size<=(ν id).cap*e.size:=Xbe _ bW;rw[Xcu]at jY;have gP:CS.le (rng g ((ν id).off+k*e.size) (l.length*e.size)) (rng g (ν id).off ((ν id).cap*e.size)):=λb o ⟨k0,k1,k2⟩=>⟨k0,by omega,by omega⟩;refine⟨upd ν st.nx ⟨some g,(ν id).off,k+l.length,(ν id).cap,e.size⟩,hr.fresh hd (id::m) (.arr e (Xf (xs.take k) l)) _ (λφ b o=>φ id b o\/FromL φ st.objs m b o) _ _ (λφ hφ=>?_) (λφ hφ b o hh=>?_) (λφ hφ=>?_) ⟨⟨Xbv _,by rw[WbD];rfl⟩,rfl⟩⟩
  .have hown:OwnL w (TyRel G w e) e.size (ν id) xs (φ id):=hφ.ob _ _ aw;obtain⟨_,_,_,_,_,_,hle⟩:=Wdz hown bb hk;exact hW.mono λb o hh=>⟨id,.inr (Xg ..),aC,hle _ (Xg ..) b o (gP b o hh)⟩
  .rcases hh with hh|⟨j,hj,h1,h2⟩
   .exact .inl ⟨id,.inr (Xg ..),aC,hh⟩
   .exact .inl ⟨j,.inr (Xe _ hj),h1,h2⟩
  .have hown:OwnL w (TyRel G w e) e.size (ν id) xs (φ id):=hφ.ob _ _ aw;obtain⟨qx,p1,g3,g4,g5,g6,g7⟩:=Wdz hown bb hk;obtain⟨ps,k1,k2,k3⟩:=hx.enc φ hφ;obtain⟨q1,q2⟩:=Xv.1 g6;have ge:=g7 _ (Xg ..);have mI:∀p∈p1,CS.le p.fp (φ id):=λp hp=>g7 _ (Xe _ (Xaq hp));have ru:∀p∈ps,∀S,CS.le S (φ id)->CS.disj S p.fp:=λp hp S hS b o h1 h2=>by
    obtain⟨j,hj,h3,h4⟩:=k3 p hp b o h2;have:=hφ.inj id j b o aC h3 (hS b o h1) h4;simp_all
   have it:∀p∈p1,Same p.fp w W:=λp hp=>hW.same ((q1 p.fp (Xaq hp)).mono gP (λ_ _ hh=>hh)) (λb o hh=>hφ.bl id b o aC (mI p hp b o hh));have j8:∀p∈ps,Same p.fp w W:=λp hp=>hW.same (ru p hp _ (λb o hh=>ge b o (gP b o hh))) (λb o hh=>by
    obtain⟨j,hj,h3,h4⟩:=k3 p hp b o hh;exact hφ.bl j b o h3 h4)
   show OwnL W (TyRel G W e) e.size (upd ν st.nx ⟨some g,(ν id).off,k+l.length,(ν id).cap,e.size⟩ st.nx) _ _;rw[WbD];refine⟨hlen,rfl,by simp_all,lB,hW.rows.row _ _ ⟨row,TT,fC,hrow⟩,qx++news,p1++ps,Wec _ _ _ _ _ _ ?_ ?_,?_,Xv.2 ⟨λs hs=>?_,?_⟩,λs hs b o hh=>?_⟩
   .exact WbY (Q:=λq=>Same q.fp w W) (λx c q hq hx=>WaI (λ_ _ _ hh=>hh) e x c q hq hx) _ _ _ it g3
   .exact WbY (Q:=λq=>Same q.fp w W) (λx c q hq hx=>WaI (λ_ _ _ hh=>hh) e x c q hq hx) _ _ _ j8 k1
   .refine Mem.app (n:=k*e.size) (λj v hj=>?_) hM g4;have h1:=g5 j v hj;have hj':j<qx.length:=(Xad.1 hj).1;rw[hW.cell g ((ν id).off+j) (block_lt_of_cell h1) (λ⟨_,h2,_⟩=>by omega)];exact h1
   .grind
   .rw[Xz];refine Xam.2 ⟨q2,k2,λs hs t ht=>?_⟩
    grind
   .rcases Xq.1 hs with rfl|hs
    .exact .inl (ge b o hh)
    .rw[Xz]at hs;rcases Xn.1 hs with hs|hs
     .obtain⟨p,hp,rfl⟩:=Xw.1 hs;exact .inl (mI p hp b o hh)
     .obtain⟨q,hq,rfl⟩:=Xw.1 hs;exact .inr (k3 q hq b o hh)
 rcases hx.rd with⟨aQ,bG⟩|⟨pa,cc,aQ,ar⟩
 .have hl0:l.length=0:=by simp_all
  have uA:news= []:=Xaa (by simp_all);obtain⟨ν',hh⟩:=inplace w (WLe.refl _ w) (by rw[uA];exactλj v hj=>by simp at hj) (by omega);refine⟨_,_,_,G,ν',Wck ho hc ha dg ?_,.inl rfl,hh⟩
  grind [We2]
 .by_cases bW:k+l.length<=(ν id).cap
  .have ry:(k+l.length)*e.size<=(ν id).cap*e.size:=Xbe _ bW;rw[Xcu]at ry;have hrun:=WiB (P:=P) (w:=w) t o.type et TT i hu hi g (ν id).off k (ν id).cap row fC pa l.length cc news (by rw[hsz];exact ju) (λj v hj=>ar j v hj) (WmM _ _ _ e0) bW (by rw[hsz,ju];omega);obtain⟨hw,lC⟩:=Wc7 (k:=(ν id).off+k*i.size) (news:=news) fC (by rw[hsz,ju];omega);generalize w.setRow g (row.toList.take ((ν id).off+k*i.size)++news++row.toList.drop ((ν id).off+k*i.size+news.length)).toArray=W at hrun hw lC;rw[hsz]at hw lC;rw[ju]at hw;obtain⟨ν',hh⟩:=inplace W hw lC bW;exact⟨_,_,_,G,ν',Wck ho hc ha dg (by rw[di,aQ,hrun]),.inl rfl,hh⟩
  .obtain⟨mF,eU⟩:=Wwe w (k+l.length) (ν id).cap et az;have hcl:(c1++news).length=(Xf (xs.take k) l).length*e.size:=by rw[Xs,rq,ju,hlen,Xcu]
   obtain⟨ν',hh⟩:=WjX hr hd (id::m) (xs:=Xf (xs.take k) l) hcl (λφ hφ=>by
    have hown:OwnL w (TyRel G w e) e.size (ν id) xs (φ id):=hφ.ob _ _ aw;obtain⟨qx,p1,g3,g4,g5,g6,g7⟩:=Wdz hown bb hk;obtain⟨ps,k1,k2,k3⟩:=hx.enc φ hφ;have:=rt g4 g5;subst this;obtain⟨q1,q2⟩:=Xv.1 g6;have mI:∀p∈p1,CS.le p.fp (φ id):=λp hp=>g7 _ (Xe _ (Xaq hp));refine⟨p1++ps,Wec _ _ _ _ _ _ g3 k1,?_,λp hp b o hh=>?_⟩
    .rw[Xz];refine Xam.2 ⟨q2,k2,λs hs t ht=>?_⟩;obtain⟨p,hp,rfl⟩:=Xw.1 hs;obtain⟨q,hq,rfl⟩:=Xw.1 ht;intro b o h1 h2;obtain⟨j,hj,h3,h4⟩:=k3 q hq b o h2;have:=hφ.inj id j b o aC h3 (mI p hp b o h1) h4;subst this;exact hm hj
    .rcases Xn.1 hp with hp|hp
     .exact⟨id,Xg ..,aC,mI p hp b o hh⟩
     .exact FromL.mono (λi hi=>Xe _ hi) b o (k3 p hp b o hh)) (by rw[hlen];exact mF) eU z.cells gM et
   have xc:(k+l.length)*i.bytes<=140737488355328:=by
    have:=Xgt uG nE;omega
   have hrun:=run_append_grow (P:=P) w t o.type et i z hu hi hz ⟨g,(ν id).off,none⟩ k (ν id).cap c1 (by rw[hsz];exact rq) (λj v hj=>by rw[Wa8];exact rr j v hj) pa l.length cc news (by rw[hsz];exact ju) (λj v hj=>ar j v hj) (by omega) (by omega) (growslice_fits (by omega) xc);refine⟨_,_,_,G,ν',Wck ho hc ha dg ?_,.inl rfl,hh⟩;rw[di,aQ,hrun,hlen];simp
theorem WkT{id:Nat}{e:Ty}{xs:List e.den}(hh:HRel w0 F G ν objs nx w)(aw:look objs id=some (.arr e xs)):
  ((ν id).blk=none/\xs= []/\(ν id).hdr= .slice none 0 0)\/∃g,(ν id).blk=some g/\(ν id).hdr= .slice (some ⟨g,(ν id).off,none⟩) xs.length (ν id).cap:=by
 obtain⟨S,ho⟩:=hh.obj aw;unfold Nu.hdr;cases hb:(ν id).blk with
 |none=>exact .inl ⟨rfl,Wcz ho hb,rfl⟩
 |some g=>exact .inr ⟨g,rfl,by rw[ho.1]⟩
theorem Wnz(hT:Wap P T)(hr:Rel w0 F nt G0 G ν st a w){o:Oper}(hd:∀d,o.dst=some d->nt.Ok d){c:Call}{s x:Operand}{t et:TypeId}{ty:Ty}{te:TE}{sv xv:AVal}{R:Type}{k:St->Option R}{r:R}
  (hl:look T t=some ⟨ty,false,.slice et⟩) (hle:look T et=some te) (hp:te.plain=true)
  (ho:o.op= .call c) (hc:c.callee= .builtin .append) (ha:c.args.toList= [s,x]) (dg:c.argTypes.toList= [t,t]) (hs:ev st s=some sv) (hx:ev st x=some xv)
  (h:WeJ st te.ty sv xv (λx objs nx=>k (({env:=st.env,objs:=objs,nx:=nx}:St).put o.dst x))=some r):∃ae,k ae=some r/\Done P w0 F nt G0 o a w ae:=by
 have move:∀(e:Ty) (l:List e.den) (m:List Nat),Wvg st e xv=some (l,m)->∃news,Src w0 F G ν st w e l m (a.eval x) news:=λe l m gg=>by
  unfold Wvg at gg;split at gg
  .simp only[Option.some.injEq,Prod.mk.injEq]at gg;obtain⟨rfl,rfl⟩:=gg;obtain⟨hv,_⟩:=WQ hr x _ hx;exact⟨[],λφ _=>⟨[],⟨rfl,rfl⟩,List.Pairwise.nil,by simp⟩,.inl ⟨hv,rfl⟩⟩
  .rename_i id;split at gg
   .rename_i e' xs aw;obtain⟨ys,br,gg⟩:=Xy.1 gg;have h2:=Prod.mk.inj gg;obtain⟨h3,h4⟩:=h2;subst h3 h4;obtain⟨lA,gQ⟩:=Way br;subst lA;simp only at gQ;subst gQ;obtain⟨⟨_,hv⟩,_⟩:=WQ hr x _ hx;have aC:Live st.objs id:=⟨_,aw,by simp⟩;rcases WkT hr.h aw with⟨hb,bG,hh⟩|⟨g,hb,hh⟩
    .subst bG;exact⟨[],λφ _=>⟨[],⟨rfl,rfl⟩,List.Pairwise.nil,by simp⟩,.inl ⟨by rw[hv,hh],rfl⟩⟩
    .obtain⟨φ0,hφ0⟩:=hr.h;have iu:OwnL w (TyRel G w e') e'.size (ν id) xs (φ0 id):=hφ0.ob _ _ aw;obtain⟨c1,p1,g1,g2,g3,g4,g5⟩:=Wdz iu hb (Xm _);refine⟨c1,λφ hφ=>?_,.inr ⟨⟨g,(ν id).off,none⟩,(ν id).cap,by rw[hv,hh],λj u hj=>by rw[Wa8];exact g3 j u hj⟩⟩;have hown:OwnL w (TyRel G w e') e'.size (ν id) xs (φ id):=hφ.ob _ _ aw;obtain⟨qx,y6,k1,k2,k3,k4,k5⟩:=Wdz hown hb (Xm _);have:qx=c1:=Xfv λj=>by
      by_cases hj:j<xs.length*e'.size
      .have qw:j<qx.length:=by omega
       have tT:j<c1.length:=by omega
       have a1:=k3 j _ (Xp qw);have a2:=g3 j _ (Xp tT);rw[a1]at a2;rw[Xp qw,Xp tT];exact a2
      .rw[Xcs (by omega),Xcs (by omega)]
     subst this;rw[Xdm]at k1;exact⟨y6,k1,(Xv.1 k4).2,λp hp b o hh=>⟨id,Xac.2 rfl,aC,k5 _ (Xe _ (Xaq hp)) b o hh⟩⟩
   .simp at gg
  .simp at gg
 unfold WeJ at h;split at h
 .split at h
  .rename_i e hel;split at h
   .rename_i he;split at h
    .rename_i l m gg;obtain⟨news,cY⟩:=move e l m gg;cases az:WM l.length with
     |false=>simp[az]at h
     |true=>
      simp[az]at h;obtain⟨di,_⟩:=WQ hr s _ hs;exact⟨_,h,WbC hr hd (elT hT hl hle hp (by rw[←he,WbN])) ho hc ha dg di cY (λi hi=>hi) az⟩
    .simp at h
   .simp at h
  .simp at h
 .rename_i id;split at h
  .rename_i e xs aw;split at h
   .rename_i he;split at h
    .rename_i l m gg;obtain⟨news,cY⟩:=move e l m gg;split at h
     .rename_i aP;have aP:=(Xai.1 ((Wc1 _).1 aP)).1;cases az:WM (xs.length+l.length)with
      |false=>simp[az]at h
      |true=>
       simp[az]at h;refine⟨_,h,?_⟩;have hE:ElT P t et e:=elT hT hl hle hp (by rw[←he,WbN]);obtain⟨⟨_,di⟩,_⟩:=WQ hr s _ hs;rcases WkT hr.h aw with⟨hb,bG,hh⟩|⟨g,hb,hh⟩
       .subst bG;exact WbC hr hd hE ho hc ha dg (by rw[di,hh]) cY (λi hi=>Xe _ hi) (by simpa [WM]using az)
       .have:=Wdw hr hd hE ho hc ha dg aw hb (Xm _) (by rw[di,hh]) cY aP az;rw[Xdm]at this;exact this
     .simp at h
    .simp at h
   .simp at h
  .simp at h
 .simp at h
theorem Woy(hT:Wap P T)(hr:Rel w0 F nt G0 G ν st a w){o:Oper}(hd:∀d,o.dst=some d->nt.Ok d){c:Call}{s x:Operand}{t t2:TypeId}{sv xv:AVal}{R:Type}{k:St->Option R}{r:R}
  (ho:o.op= .call c) (hc:c.callee= .builtin .append) (ha:c.args.toList= [s,x]) (dg:c.argTypes.toList= [t,t2]) (hs:ev st s=some sv) (hx:ev st x=some xv)
  (h:Wee T st t t2 sv xv (λx objs nx=>k (({env:=st.env,objs:=objs,nx:=nx}:St).put o.dst x))=some r):∃ae,k ae=some r/\Done P w0 F nt G0 o a w ae:=by
 unfold Wee at h;split at h
 .rename_i ty et _ hl _;split at h
  .rename_i te hle;split at h
   .rename_i bq;obtain⟨rfl,hp,aV⟩:=bq;have hE:ElT P t et te.ty:=elT hT hl hle hp rfl;cases gh:WvE st sv xv with
    |false=>
     simp only[gh,Bool.not_false,We]at h;exact Wnz hT hr hd hl hle hp ho hc ha dg hs hx h
    |true=>
    simp only[gh,Xt,Wc]at h;split at h
    .rename_i l cg;cases az:WM l.length with
     |false=>simp[az]at h
     |true=>
      simp[az]at h;obtain⟨di,_⟩:=WQ hr s _ hs;obtain⟨news,cY⟩:=WiG hr aV [] (WQ hr x _ hx) cg;exact⟨_,h,WbC (m':=[]) hr hd hE ho hc ha dg di cY (λi hi=>hi) az⟩
    .rename_i id l cg;split at h
     .rename_i e0 xs aw;split at h
      .rename_i ys br;obtain⟨he,hy⟩:=WfU br;injection he with he;subst he;simp only at hy;subst hy;cases az:WM (Xa xs+l.length)with
       |false=>simp[az]at h
       |true=>
        simp[az]at h;refine⟨_,h,?_⟩;obtain⟨⟨_,di⟩,_⟩:=WQ hr s _ hs;obtain⟨news,cY⟩:=WiG hr aV [] (WQ hr x _ hx) cg;rcases WkT hr.h aw with⟨hb,bG,hh⟩|⟨g,hb,hh⟩
        .subst bG;exact WbC (m':=[id]) hr hd hE ho hc ha dg (by rw[di,hh]) cY (λi hi=>by simp at hi) (by simpa [WM]using az)
        .have:=Wdw hr hd hE ho hc ha dg aw hb (Xm _) (by rw[di,hh]) cY (by simp) az;rw[Xdm]at this;exact this
      .simp at h
     .simp at h
    .rename_i id hi l cg;split at h
     .rename_i e0 xs aw;split at h
      .rename_i ys br;obtain⟨he,hy⟩:=WfU br;injection he with he;subst he;simp only at hy;subst hy;cases az:WM (hi+l.length)with
       |false=>simp[az]at h
       |true=>
        simp[az]at h;refine⟨_,h,?_⟩;obtain⟨⟨_,g1,g2,g3,di⟩,_⟩:=WQ hr s _ hs;obtain⟨news,cY⟩:=WiG hr aV [] (WQ hr x _ hx) cg;obtain⟨S,hown⟩:=hr.h.obj aw;unfold Nu.vhdr at di;cases hb:(ν id).blk with
        |none=>
         have bG:=Wcz hown hb;simp only[hb]at di;have h0:=g3 hb;subst h0;show Done P w0 F nt G0 o a w (({env:=st.env,objs:=(st.nx,.arr te.ty l)::(id,.dead)::st.objs,nx:=st.nx+1}:St).put o.dst (.s (.one (.own st.nx))));exact WbC (m':=[id]) hr hd hE ho hc ha dg di cY (λi hi=>by simp at hi) (by simpa [WM]using az)
        |some g=>
         simp only[hb,Nat.sub_zero,Xfi,Xaz,ite_self]at di;exact Wdw hr hd hE ho hc ha dg aw hb (by rw[hown.1];exact g2) di cY (by simp) az
      .simp at h
     .simp at h
    .simp at h
   .simp at h
  .simp at h
 .simp at h
end
end Go.Sx
namespace Go.Sx
set_option linter.unusedVariables false
set_option linter.unusedSimpArgs false
section
variable{w0:World}{F:CS}{nt:Slots}{G0 G:GH}{ν:Nat->Nu}{φ:Nat->CS}{objs:Wak}{nx:Nat}{st ae:St}{a:Act}{w w':World}{P:Program}{T:Tab}
theorem Wjl{t et:TypeId}{te:TE}{nu:Nu}{n:Nat}{lo hi:Option Int}{vl vh:Option Value}(hu:P.underlying t=some (.slice et))(bB:TEok P T et te)(hp:te.plain=true)(bV:nu.esz=te.ty.size)
  (hc:n<=nu.cap) (hn:n=nu.len) (bb:nu.blk=none->n=0) (hl:BRel lo vl) (hh:BRel hi vh) (hb:(WcQ n lo hi).1=true):
  (Instr.sliceAt t nu.hdr vl vh none).run P w= .ok (nu.vhdr (WcQ n lo hi).2.1 (WcQ n lo hi).2.2) w/\(WcQ n lo hi).2.1<=(WcQ n lo hi).2.2/\(WcQ n lo hi).2.2<=n:=by
 unfold Nu.hdr Nu.vhdr;cases hk:nu.blk with
 |none=>
  have h0:=bb hk;subst h0;obtain⟨hr,h3,h4⟩:=WcP (P:=P) (w:=w) (isSlice:=true) (cap:=0) hl hh (Xm _) hb;have e1:(WcQ 0 lo hi).2.2=0:=by omega
  have e2:(WcQ 0 lo hi).2.1=0:=by omega
  rw[e1,e2]at hr⊢;refine⟨?_,Xm _,Xm _⟩;simp[Instr.sliceAt,Instr.slice,Wl hu,hr,bB.sizeOf]
 |some b=>
  obtain⟨hr,h7,h8⟩:=WcP (P:=P) (w:=w) (isSlice:=true) (cap:=nu.cap) hl hh hc hb;refine⟨?_,h7,h8⟩;rw[←hn];generalize (WcQ n lo hi).2.1=p at*;generalize (WcQ n lo hi).2.2=q at*;have hsz:te.size=nu.esz:=by rw[W1 hp,bV]
  simp only[Instr.sliceAt,Instr.slice,Sem.run_bind,Wl hu,Result.andThen_ok,hr,bB.sizeOf,Sem.run_pure,hsz,Xbz,Wa8];split<;>rfl
theorem Wsi{id:Nat}{e:Ty}{xs:List e.den}{S:CS}(h:WcG G ν nx w id S (.arr e xs)):((ν id).blk=none->xs.length=0)/\((ν id).blk≠none->xs.length<=(ν id).cap):=by
 refine⟨λhb=>by rw[Wcz h hb];rfl,λhb=>?_⟩;obtain⟨_,_,h3⟩:=h
 grind
theorem WnN{t et:TypeId}{te:TE}{id:Nat}{e:Ty}{xs:List e.den}{S:CS}(ho:WcG G ν nx w id S (.arr e xs)){lo hi:Option Int}{vl vh:Option Value}(hu:P.underlying t=some (.slice et))(bB:TEok P T et te)(hp:te.plain=true)(he:te.ty.size=e.size)
  (hl:BRel lo vl) (hh:BRel hi vh) (hb:(WcQ xs.length lo hi).1=true):
  (Instr.sliceAt t (ν id).hdr vl vh none).run P w= .ok ((ν id).vhdr (WcQ xs.length lo hi).2.1 (WcQ xs.length lo hi).2.2) w/\(WcQ xs.length lo hi).2.1<=(WcQ xs.length lo hi).2.2/\(WcQ xs.length lo hi).2.2<=xs.length:=by
 obtain⟨h1,h2⟩:=Wsi ho;have hlen:=ho.1;have bV:=ho.2.1;cases hk:(ν id).blk with
 |some b=>grind [Wjl]
 |none=>
  have h0:=h1 hk;have bG:xs= []:=Xaa h0;have e0:(ν id).hdr=(⟨none,(ν id).off,(ν id).len,0,(ν id).esz⟩:Nu).hdr:=by grind [Nu.hdr]
  have e1:∀p q,(ν id).vhdr p q=(⟨none,(ν id).off,(ν id).len,0,(ν id).esz⟩:Nu).vhdr p q:=λp q=>by grind [Nu.vhdr]
  rw[e0,e1];exact Wjl hu bB hp (by show(ν id).esz=_;rw[bV,he]) (by omega) hlen (λ_=>h0) hl hh hb
theorem Whm{o:Oper}{t:TypeId}{x:Operand}{lo hi:Option Operand}{v:Value}(ho:o.op= .slice t x lo hi none)(h:(Instr.sliceAt t (a.eval x) (lo.map a.eval) (hi.map a.eval) none).run P w= .ok v w):(execOp a.eval o).run P w= .ok (.value v) w:=by
 grind [execOp,Sem.run_bind,Result.andThen_ok,Sem.run_pure]
theorem Wt3(hT:Wap P T)(hr:Rel w0 F nt G0 G ν st a w){o:Oper}(hd:∀d,o.dst=some d->nt.Ok d){t et:TypeId}{ty:Ty}{te:TE}{x:Operand}{lo hi:Option Operand}(ho:o.op= .slice t x lo hi none)
  {id:Nat} {l h:Option Int} {R:Type} {k:St->Option R} {r:R} (hx:ev st x=some (.s (.one (.own id)))) (hl:look T t=some ⟨ty,false,.slice et⟩) (hle:look T et=some te) (hp:te.plain=true) (h1:Wmq st lo=some l) (h2:Wmq st hi=some h)
  (hk:WfE st te.ty id l h (λx objs nx=>k (({env:=st.env,objs:=objs,nx:=nx}:St).put o.dst x))=some r):∃ae,k ae=some r/\Done P w0 F nt G0 o a w ae:=by
 unfold WfE at hk;split at hk
 .rename_i e xs aw;split at hk
  case isFalse=>simp at hk
  rename_i ri;cases hb:(WcQ (Xa xs) l h).1 with
  |false=>simp_all
  |true=>
   simp only[hb,We]at hk;refine⟨_,hk,?_⟩;obtain⟨⟨bv,di⟩,_⟩:=WQ hr x _ hx;obtain⟨S,hown⟩:=hr.h.obj aw;have hbl:=Wdm hr lo _ h1;have rz:=Wdm hr hi _ h2;obtain⟨g1,g2,g3⟩:=WnN (w:=w) hown (hT _ _ hl).und.2.1 (hT _ _ hle) hp (by rw[ri,WbN]) hbl rz hb;refine⟨_,_,w,G,ν,Whm ho (by simp_all),.inl rfl,hr.put hd ⟨⟨bv,g2,by rw[←hown.1];exact g3,λtU=>?_,rfl⟩,WpB _ _ _⟩⟩
   grind [Wsi]
 grind
theorem Wvz(n:Nu)(h:Nat):n.part 0 h=⟨n.blk,n.off,h,n.cap,n.esz⟩:=by
 unfold Nu.part;simp
theorem WxE(n:Nu)(h:Nat):n.vhdr 0 h=(⟨n.blk,n.off,h,n.cap,n.esz⟩:Nu).hdr:=by
 rw[←Wvz,Wlz]
theorem WqO(hT:Wap P T)(hr:Rel w0 F nt G0 G ν st a w){o:Oper}(hd:∀d,o.dst=some d->nt.Ok d){t et:TypeId}{ty:Ty}{x:Operand}{lo hi:Option Operand}(ho:o.op= .slice t x lo hi none)
  {id:Nat} {e:Ty} {xs:List e.den} {te:TE} {h:Int} (hx:ev st x=some (.s (.one (.own id)))) (hl:look T t=some ⟨ty,false,.slice et⟩) (hle:look T et=some te) (hp:te.plain=true) (he:te.ty=e.ro) (aw:look st.objs id=some (.arr e xs)) (aZ:Wmq st lo=some none) (hh:Wmq st hi=some (some h))
  (h0:0<=h) (h1:h<=(xs.length:Int)):Done P w0 F nt G0 o a w (({env:=st.env,objs:=(st.nx,.arr e (xs.take h.toNat))::kill st.objs [id],nx:=st.nx+1}:St).put o.dst (.s (.one (.own st.nx)))):=by
 obtain⟨⟨bv,di⟩,_⟩:=WQ hr x _ hx;obtain⟨S,hown⟩:=hr.h.obj aw;have hbl:=Wdm hr lo _ aZ;have rz:=Wdm hr hi _ hh;have hb:(WcQ xs.length none (some h)).1=true:=by simp[WcQ,h0,h1]
 obtain⟨g1,g2,g3⟩:=WnN (w:=w) hown (hT _ _ hl).und.2.1 (hT _ _ hle) hp (by rw[he,WbN]) hbl rz hb;have e1:(WcQ xs.length none (some h)).2.1=0:=rfl;have e2:(WcQ xs.length none (some h)).2.2=h.toNat:=rfl;rw[e1,e2,WxE]at g1;refine⟨_,_,w,G,upd ν st.nx ((ν id).part 0 h.toNat),Whm ho (by rw[di];exact g1),.inl rfl,?_⟩;have aC:Live st.objs id:=⟨_,aw,by simp⟩;refine hr.fresh hd [id] (.arr e (xs.take h.toNat)) _ (λφ=>φ id) _ _ (λφ _=>WLe.refl _ w) (λφ _ b o hh=>.inl ⟨id,.inr (Xac.2 rfl),aC,hh⟩) (λφ hφ=>?_) ⟨⟨Xbv _,by rw[WbD,Wvz]⟩,Wjr _⟩;show OwnL w (TyRel G w e) e.size (upd ν st.nx ((ν id).part 0 h.toNat) st.nx) (xs.take h.toNat) (φ id);rw[WbD];have hown':OwnL w (TyRel G w e) e.size (ν id) xs (φ id):=hφ.ob _ _ aw;have:=WpR (lo:=0) (hi:=h.toNat) hown' (Nat.zero_le _) (by rw[←hown'.1];omega);simp_all
theorem WjA(hT:Wap P T)(hr:Rel w0 F nt G0 G ν st a w){o:Oper}(hd:∀d,o.dst=some d->nt.Ok d){t et:TypeId}{ty:Ty}{x:Operand}{lo hi:Option Operand}(ho:o.op= .slice t x lo hi none)
  {id i p:Nat} {e:Ty} {xs:List e.den} {te:TE} {h:Int} (hx:ev st x=some (.s (.one (.own id)))) (hl:look T t=some ⟨ty,false,.slice et⟩) (hle:look T et=some te) (hp:te.plain=true) (he:te.ty=e.ro) (aw:look st.objs id=some (.hole e xs i p)) (uH:WtI (look st.objs p) e.size=true) (aZ:Wmq st lo=some none) (hh:Wmq st hi=some (some h))
  (h0:0<=h) (h1:h<=(xs.length:Int)) (h2:h<=(i:Int)):Done P w0 F nt G0 o a w (({env:=st.env,objs:=(st.nx,.arr e (xs.take h.toNat))::kill st.objs [id,p],nx:=st.nx+1}:St).put o.dst (.s (.one (.own st.nx)))):=by
 obtain⟨⟨bv,di⟩,_⟩:=WQ hr x _ hx;obtain⟨S,lv,hole⟩:=hr.h.obj aw;have fS:∃cs,look st.objs p=some (.box cs)/\cs.length=e.size:=by
  unfold WtI at uH
  grind [Xcl]
 obtain⟨pcs,fS,eF⟩:=fS;have hbl:=Wdm hr lo _ aZ;have rz:=Wdm hr hi _ hh;have hb:(WcQ xs.length none (some h)).1=true:=by simp[WcQ,h0,h1]
 obtain⟨k1,k2,k3,b,k4,k5,k6,k7,k8,k9,_⟩:=hole;obtain⟨g1,g2,g3⟩:=Wjl (w:=w) (nu:=ν id) (hT _ _ hl).und.2.1 (hT _ _ hle) hp (by rw[k2,he,WbN]) k7 k1 (λhn=>by simp_all) hbl rz hb;have e1:(WcQ xs.length none (some h)).2.1=0:=rfl;have e2:(WcQ xs.length none (some h)).2.2=h.toNat:=rfl;rw[e1,e2,WxE]at g1;refine⟨_,_,w,G,upd ν st.nx ((ν id).part 0 h.toNat),Whm ho (by rw[di];exact g1),.inl rfl,?_⟩;have aC:Live st.objs id:=⟨_,aw,by simp⟩;have eh:Live st.objs p:=⟨_,fS,by simp⟩;refine hr.fresh hd [id,p] (.arr e (xs.take h.toNat)) _ (λφ b o=>φ id b o\/φ p b o) _ _ (λφ _=>WLe.refl _ w) (λφ _ b o hh=>?_) (λφ hφ=>?_) ⟨⟨Xbv _,by rw[WbD,Wvz]⟩,Wjr _⟩
 .rcases hh with hh|hh
  .exact .inl ⟨id,.inr (by simp),aC,hh⟩
  .exact .inl ⟨p,.inr (by simp),eh,hh⟩
 .show OwnL w (TyRel G w e) e.size (upd ν st.nx ((ν id).part 0 h.toNat) st.nx) (xs.take h.toNat) _;rw[WbD,Wvz];obtain⟨lv,hole⟩:p<st.nx/\Wh0 w (TyRel G w e) e.size (ν id) (ν p) xs i (φ id):=hφ.ob _ _ aw;obtain⟨_,_,_,b',tV,k5',_,_,_,_,c1,c2,p1,p2,j1,j2,j3,j4,j5,j6⟩:=hole;rw[k4]at tV;injection tV with tV;subst tV;obtain⟨b2,vs,q1,q2,q3,q4,q5⟩:WcG G ν st.nx w p (φ p) (.box pcs):=hφ.ob _ _ fS;rw[k5]at q1;injection q1 with q1;subst q1;rw[eF,k6]at q5;obtain⟨d1,d2,r1,r2,t1,t2,t3,t4⟩:=Wez _ _ _ h.toNat j1;rw[List.take_take,Xcc (by omega)]at t3;have gA:=j6 _ (Xg ..);have gC:=j6 _ (Xe _ (Xg ..));obtain⟨s1,s2⟩:=Xv.1 j5;obtain⟨s3,s4⟩:=Xv.1 s2;have dQ:∀s∈r1.map Pc.fp,s∈(p1++p2).map Pc.fp:=λs hs=>by simp_all
  have gp:∀s∈r1.map Pc.fp,CS.le s (φ id):=λs hs=>j6 s (Xe _ (Xe _ (dQ s hs)));have uI:∀b o,φ id b o->φ p b o->False:=λb o x1 x2=>by
   have:=hφ.inj id p b o aC eh x1 x2;simp_all
  refine⟨by simp;omega,k2,?_⟩;simp only[k4];refine⟨by simp;omega,k8,k9,d1,r1,t3,by rw[t1]at j3;exact j3.left,Xv.2 ⟨λs hs=>?_,?_⟩,λs hs=>?_⟩
  .exactλb' o mE fZ=>(Wgr (show i<(ν id).cap by omega) (S:=λb o=>¬s b o) (λb o hh fZ=>s1 s (Xe _ (dQ s hs)) b o hh fZ) (λb o hh fZ=>uI b o (gp s hs b o fZ) (q5 b o hh)) (λb o hh fZ=>s3 s (dQ s hs) b o hh fZ) b' o mE) fZ
  .grind
  .rcases Xq.1 hs with rfl|hs
   .exact Wgr (show i<(ν id).cap by omega) (λb o hh=>.inl (gA b o hh)) (λb o hh=>.inr (q5 b o hh)) (λb o hh=>.inl (gC b o hh))
   .exactλb o hh=>.inl (gp s hs b o hh)
theorem WrO(hT:Wap P T)(hr:Rel w0 F nt G0 G ν st a w){o:Oper}(hd:∀d,o.dst=some d->nt.Ok d){c:Call}{x:Operand}{t et:TypeId}{ty:Ty}{te:TE}{e:Ty}{xs:List e.den}{id lo hi:Nat}
  (ho:o.op= .call c) (hc:c.callee= .builtin .clear) (ha:c.args.toList= [x]) (dg:c.argTypes.toList= [t]) (hx:ev st x=some (.s (.one (.vw id lo hi)))) (hl:look T t=some ⟨ty,false,.slice et⟩) (hle:look T et=some te)
  (aw:look st.objs id=some (.arr e xs)) (he:te.ty=e) (hp:te.plain=true) (aV:e.data=true):
  Done P w0 F nt G0 o a w (({env:=st.env,objs:=(id,.arr e (xs.take lo++Xu (hi-lo) e.dflt++xs.drop hi))::st.objs,nx:=st.nx}:St).put o.dst (.tup [])):=by
 have hu:=(hT _ _ hl).und.2.1;obtain⟨⟨bv,g1,g2,g3,hv⟩,_⟩:=WQ hr x _ hx;obtain⟨φ,hφ⟩:=hr.h;have hown:OwnL w (TyRel G w e) e.size (ν id) xs (φ id):=hφ.ob _ _ aw;have aC:Live st.objs id:=⟨_,aw,by simp⟩;have rD:∀W,(Builtin.clear_ #[t] o.type #[a.eval x]).run P w= .ok (.tuple #[]) W->(execOp a.eval o).run P w= .ok (.value (.tuple #[])) W:=λW hrun=>by
  obtain⟨callee,args,argTypes⟩:=c;obtain⟨args⟩:=args;obtain⟨argTypes⟩:=argTypes;simp only at hc ha dg;subst hc ha dg;simp only[execOp,ho,resolve,invoke,builtin,Sem.run_bind,Sem.run_pure,Result.andThen_ok,Xdz,Xae,Xbt,hrun]
 have fj:∀W,(Builtin.clear_ #[t] o.type #[a.eval x]).run P w= .ok (.tuple #[]) W->HRel w0 F G ν ((id,.arr e (xs.take lo++Xu (hi-lo) e.dflt++xs.drop hi))::st.objs) st.nx W->
   Done P w0 F nt G0 o a w (({env:=st.env,objs:=(id,.arr e (xs.take lo++Xu (hi-lo) e.dflt++xs.drop hi))::st.objs,nx:=st.nx}:St).put o.dst (.tup [])):=λW hrun hH=>
  ⟨_,_,W,G,ν,rD W hrun,.inl rfl,(hr.on (λ_ _ _ hh=>hh) (λ_ _=>rfl) (Xm _) hH hr.gx).put hd ⟨[],rfl,rfl,λj x v hj=>by simp at hj⟩⟩
 by_cases h0:hi-lo=0
 .have uJ:hi=lo:=by omega
  have e1:xs.take lo++Xu (hi-lo) e.dflt++xs.drop hi=xs:=by
   simp_all
  refine fj w ?_ ?_
  .rw[hv];unfold Nu.vhdr;rw[h0];cases(ν id).blk<;>simp[Builtin.clear_,Wl hu]
  .rw[e1];exact⟨_,hφ.put (m:=[]) (ν':=ν) (λ_ _=>rfl) (Xm _) (hφ.lt id aC) (WLe.refl _ w) (λb o hh=>.inl ⟨id,.inl rfl,aC,hh⟩) (λ_=>hown)⟩
 .cases bb:(ν id).blk with
  |none=>simp_all
  |some b=>
   obtain⟨iT,h4,h5,⟨row,TT,fC,hrow⟩,cs,h7,h8,h9⟩:=Wdy aV hown bb;obtain⟨z,hz,dD⟩:=Wfe (w:=w) (hT _ _ hle);rw[WbL hp,he]at dD;have gM:z.cells.size=e.size:=by rw[←Xat,dD,Wby]
   have bV:=hown.2.1;have hcl:cs.length=xs.length*e.size:=EncL_len (λx c hc=>Enc_len e x c hc) _ _ h7;have xd:(Builtin.zeroCells z.cells (hi-lo)).toList=rep (WbK e) (hi-lo):=by rw[←dD];exact WgL z.cells (hi-lo)
   have dj:(rep (WbK e) (hi-lo)).length=(hi-lo)*e.size:=by rw[WlU,Wby]
   have uK:lo*e.size+(hi-lo)*e.size=hi*e.size:=by rw[←Xcu];congr 1;omega
   have tW:hi*e.size<=xs.length*e.size:=Xbe _ (by omega);have xe:xs.length*e.size<=(ν id).cap*e.size:=Xbe _ h4;have dS:∀u∈rep (WbK e) (hi-lo),u.oneCell'=true:=Wqd (G:=G) _ _ (Whb aV (hi-lo));have aM:=run_storeCells_at P b ((ν id).off+lo*e.size) TT (rep (WbK e) (hi-lo)) 0 row w fC (by rw[dj];omega) dS;simp only[Xaz]at aM;obtain⟨hw,hm⟩:=Wc7 (k:=(ν id).off+lo*e.size) (news:=rep (WbK e) (hi-lo)) fC (by rw[dj];omega);have hrun:(Builtin.clear_ #[t] o.type #[a.eval x]).run P w= .ok (.tuple #[]) (w.setRow b (row.toList.take ((ν id).off+lo*e.size)++rep (WbK e) (hi-lo)++row.toList.drop ((ν id).off+lo*e.size+(rep (WbK e) (hi-lo)).length)).toArray):=by
    rw[hv];unfold Nu.vhdr;simp only[bb,bV];rw[Wa (by omega)];obtain⟨n,hn⟩:∃n,hi-lo=n+1:=⟨hi-lo-1,by omega⟩;simp only[Builtin.clear_,Sem.run_bind,Wl hu,Result.andThen_ok,Xfa,List.getElem?_cons_zero];rw[hn]at aM xd⊢;simp only[Sem.run_bind,hz,Result.andThen_ok,xd,aM,Sem.run_pure]
   generalize w.setRow b (row.toList.take ((ν id).off+lo*e.size)++rep (WbK e) (hi-lo)++row.toList.drop ((ν id).off+lo*e.size+(rep (WbK e) (hi-lo)).length)).toArray=W at hrun hw hm;refine fj W hrun (hφ.turn (m:=[]) aw (by simp) hw (λb' o ⟨k0,k1,k2⟩=>h9 b' o ⟨k0,by omega,by omega⟩) ?_);have mJ:(xs.take lo++Xu (hi-lo) e.dflt++xs.drop hi).length=xs.length:=by simp;omega
   have henc:EncL (Enc G e) (xs.take lo++Xu (hi-lo) e.dflt++xs.drop hi) (cs.take (lo*e.size)++rep (WbK e) (hi-lo)++cs.drop (hi*e.size)):=
    Wed _ _ _ _ (Wed _ _ _ _ (WeU (λx c hc=>Enc_len e x c hc) _ _ lo h7) (Whb aV _)) (WeF (λx c hc=>Enc_len e x c hc) _ _ hi h7)
   refine Wmy aV bb (by rw[mJ];exact iT) bV (by rw[mJ];exact h4) h5 (hw.rows.row _ _ ⟨row,TT,fC,hrow⟩) henc ?_ (λb o hh=>.inl (h9 b o hh));have:=Wfq h8 hw hm (by rw[dj];omega);rw[dj,uK]at this;exact this
end
end Go.Sx
namespace Go.Sx
set_option linter.unusedVariables false
set_option linter.unusedSimpArgs false
def WjK(G:GH)(w:World)(t:Ty)(agg:Bool)(d:t.den)(v:Value)(ns:List Pc):Prop:=
 if agg then∃us:List Value,v= .agg us.toArray/\TyRel G w t d us ns else TyRel G w t d [v] ns
def Wcb(b o:Nat):Nu:=⟨some b,o,0,0,0⟩
def WfA(G:GH)(w:World)(t:Ty)(d:t.den)(b o:Nat)(ns:List Pc):Prop:=∃us,Row w b (o+t.size)/\Mem w b o us/\TyRel G w t d us ns
def fps(ns:List Pc):List CS:=ns.map Pc.fp
def nus(ns:List Pc):List Nu:=ns.map Pc.nu
def Wbu(G:GH)(w:World):(ps:List PTy)->WfC ps->List Value->List Pc->List Nu->Prop
 | [],_,vs,ns,ks=>vs= []/\ns= []/\ks= []
 | .v t agg::ps,d,vs,ns,ks=>∃v vs' n1 n2,vs=v::vs'/\ns=n1++n2/\WjK G w t agg d.1 v n1/\Wbu G w ps d.2 vs' n2 ks
 | .box t::ps,d,vs,ns,ks=>∃b o vs' n1 n2 ks',vs= .pointer (some ⟨b,o,none⟩)::vs'/\ns=⟨Wcb b o,rng b o t.size⟩::(n1++n2)/\ks=Wcb b o::ks'/\WfA G w t d.1 b o n1/\Wbu G w ps d.2 vs' n2 ks'
 | .mut e::ps,d,vs,ns,ks=>∃pc vs' n2 ks',vs=pc.nu.hdr::vs'/\ns=pc::n2/\ks=pc.nu::ks'/\OwnL w (TyRel G w e) e.size pc.nu d.1 pc.fp/\Wbu G w ps d.2 vs' n2 ks'
 | .clos g n::ps,d,vs,ns,ks=>∃cvs vs':List Value,vs= .func (.func g) #[] cvs.toArray::vs'/\cvs.length=n/\(∀u∈cvs,u.oneCell'=true)/\Wbu G w ps d (cvs++vs') ns ks
 | .kv t agg::ps,d,vs,ns,ks=>∃v vs' n1 n2 ks',vs=v::vs'/\ns=n1++n2/\ks=nus n1++ks'/\WjK G w t agg d.1 v n1/\Wbu G w ps d.2 vs' n2 ks'
 | .rp t::ps,d,vs,ns,ks=>∃b o us vs',vs= .pointer (some ⟨b,o,none⟩)::vs'/\Enc G t d.1 us/\WfD G b o us/\Wbu G w ps d.2 vs' ns ks
 | .vj _::_,_,_,_,_=>False
 | .boxal t lf::ps,d,vs,ns,ks=>∃b o b' pc vs' n1 n2 ks',vs= .pointer (some ⟨b,o,none⟩):: .pointer (some ⟨b',pc.nu.off+(d.2.1*pc.nu.esz+0),none⟩)::vs'/\ns=⟨Wcb b o,rng b o t.size⟩::(n1++n2)/\ks=Wcb b o::ks'/\
   WfA G w t d.1 b o n1/\n1[lf]?=some pc/\pc.nu.blk=some b'/\d.2.1<pc.nu.len/\Wbu G w ps d.2.2 vs' n2 ks'
def WbI(G:GH)(w:World):(ps:List PTy)->Wgg ps->List Nu->List CS->List Pc->Prop
 | [],_,ks,kf,ns=>ks= []/\kf= []/\ns= []
 | .v _ _::ps,o,ks,kf,ns=>WbI G w ps o ks kf ns
 | .box t::ps,o,ks,kf,ns=>∃b off ks' cT n1 n2,ks=Wcb b off::ks'/\kf=rng b off t.size::cT/\ns=n1++n2/\WfA G w t o.1 b off n1/\WbI G w ps o.2 ks' cT n2
 | .mut e::ps,o,ks,kf,ns=>∃pc:Pc,∃ks' cT,ks=pc.nu::ks'/\kf=pc.fp::cT/\OwnL w (TyRel G w e) e.size pc.nu o.1 pc.fp/\WbI G w ps o.2 ks' cT ns
 | .clos _ _::ps,o,ks,kf,ns=>WbI G w ps o ks kf ns
 | .kv t _::ps,o,ks,kf,ns=>∃n1 ks' cT us,ks=nus n1++ks'/\kf=fps n1++cT/\TyRel G w t o.1 us n1/\WbI G w ps o.2 ks' cT ns
 | .rp _::ps,o,ks,kf,ns=>WbI G w ps o ks kf ns
 | .vj _::_,_,_,_,_=>False
 | .boxal t _::ps,o,ks,kf,ns=>∃b off ks' cT n1 n2,ks=Wcb b off::ks'/\kf=rng b off t.size::cT/\ns=n1++n2/\WfA G w t o.1 b off n1/\WbI G w ps o.2 ks' cT n2
def WgP(G:GH)(w:World):(rs:List PTy)->Whi rs->List Value->List Pc->Prop
 | [],_,vs,ns=>vs= []/\ns= []
 | .v t agg::rs,d,vs,ns=>∃v vs' n1 n2,vs=v::vs'/\ns=n1++n2/\WjK G w t agg d.1 v n1/\WgP G w rs d.2 vs' n2
 | .box t::rs,d,vs,ns=>∃b o vs' n1 n2,vs= .pointer (some ⟨b,o,none⟩)::vs'/\ns=⟨Wcb b o,rng b o t.size⟩::(n1++n2)/\WfA G w t d.1 b o n1/\WgP G w rs d.2 vs' n2
 | .mut _::_,_,_,_=>False
 | .clos _ _::_,_,_,_=>False
 | .kv _ _::_,_,_,_=>False
 | .rp _::_,_,_,_=>False
 | .vj t::rs,d,vs,ns=>∃us u vs' n1 n2,vs= .agg (us++ [u]).toArray::vs'/\u.oneCell'=true/\ns=n1++n2/\TyRel G w t d.1 us n1/\WgP G w rs d.2 vs' n2
 | .boxal _ _::_,_,_,_=>False
def Wiw:List Value->Value
 | [v]=>v
 |vs=>.tuple vs.toArray
def Of(ns:List Pc):CS:=λb o=>∃q∈ns,q.fp b o
structure After(sg:Sig)(o:Wgg sg.ps×Whi sg.rs)(G:GH)(w:World)(ns:List Pc)(ks:List Nu)(rv:List Value)(kf:List CS)(ms cD:List Pc)(G':GH)(w':World):Prop where
 res:WgP G' w' sg.rs o.2 rv cD
 outs:WbI G' w' sg.ps o.1 ks kf ms
 sep:Sep (kf++fps (ms++cD))
 own:∀S∈kf++fps (ms++cD),∀b off,S b off->G' b off=none/\(Of ns b off\/w.heap.size<=b)/\b<w'.heap.size
 gx:GExt w.heap.size (Of ns) G G'
 g:∀b o v,G' b o=some v->w'.cell? ⟨b,o,none⟩=some v
 le:WLe (Of ns) w w'
def Good(P:Program)(k:FuncId)(sg:Sig):Prop:=
 ∀(d:WfC sg.ps) (o:Wgg sg.ps×Whi sg.rs),sg.run d=some o->∀(G:GH) (w:World) (vs:List Value) (ns:List Pc) (ks:List Nu),Wbu G w sg.ps d vs ns ks->Sep (fps ns)->
  (∀q∈ns,∀b off,q.fp b off->G b off=none/\b<w.heap.size)->(∀b o v,G b o=some v->w.cell? ⟨b,o,none⟩=some v)->
  Calls P k vs.toArray w λe w'=>∃rv kf ms cD G',e= .returned (Wiw rv)/\After sg o G w ns ks rv kf ms cD G' w'
def WgC(P:Program)(k:FuncId):Prop:=∃fn,P.funcs[k]?=some fn∧fn.body.isNone=false∧(fn.name== "runtime.NumGoroutine")=false
def Wfw(P:Program)(Γ:Ctx):Prop:=∀k sg,look Γ k=some sg->Good P k sg/\WgC P k
section
variable{w0:World}{F:CS}{nt:Slots}{G0 G G':GH}{ν:Nat->Nu}{φ:Nat->CS}{objs:Wak}{nx:Nat}{st ae:St}{a:Act}{w w':World}{P:Program}{T:Tab}
theorem WaZ:∀(t:Ty) (d:t.den) (nx:Nat),(unfold t d nx).2.2=nx+t.owns
 | .prod a b,d,nx=>by simp only[unfold,WaZ a,WaZ b,Ty.owns,Xay]
 | .own _,_,_=>rfl
 | .int _,_,_| .bool,_,_| .str,_,_| .slice _,_,_=>rfl
theorem WO{α:Type}{l m:List (Nat×α)}{i:Nat}{x:α}(h:look (l++m) i=some x):look l i=some x\/look m i=some x:=by
 rw[WbF]at h
 grind
def At(ν:Nat->Nu)(φ:Nat->CS)(nx:Nat)(ns:List Pc):Prop:=∀(j:Nat) (pc:Pc),ns[j]?=some pc->ν (nx+j)=pc.nu/\φ (nx+j)=pc.fp
theorem At.left{n1 n2:List Pc}(h:At ν φ nx (n1++n2)):At ν φ nx n1:=λj pc hj=>h j pc (by grind)
theorem At.right{n1 n2:List Pc}{k:Nat}(h:At ν φ nx (n1++n2))(hk:n1.length=k):At ν φ (nx+k) n2:=λj pc hj=>by
 have:=h (k+j) pc (by grind)
 grind
def WrC(G:GH)(ν:Nat->Nu)(φ:Nat->CS)(w:World)(id:Nat)(ob:Ob):Prop:=∃(e:Ty) (xs:List e.den),ob= .arr e xs/\OwnL w (TyRel G w e) e.size (ν id) xs (φ id)
theorem Wax:∀(t:Ty) (d:t.den) (nx:Nat) (vs:List Value) (ns:List Pc),TyRel G w t d vs ns->At ν φ nx ns->
  (∀(ah:Nat),nx+t.owns<=ah->CellsRel G ν ah (unfold t d nx).1 vs)/\
  (∀id ob,look (unfold t d nx).2.1 id=some ob->nx<=id/\id<nx+t.owns/\WrC G ν φ w id ob)
 | .own e,d,nx,vs,ns,⟨pc,h1,h2,h3⟩,hν=>by
  obtain⟨hn,hp⟩:ν nx=pc.nu/\φ nx=pc.fp:=by have:=hν 0 pc (by grind);omega
  refine⟨λah hx=>?_,λid ob hl=>?_⟩
  .rw[h2];refine CellsRel.one ⟨by grind [Ty.owns],by rw[hn]⟩ (Wjr _)
  .simp only[unfold]at hl;rw[WL]at hl;split at hl
   .rename_i e1;subst e1;injection hl with hl;subst hl;exact⟨Xm _,by simp[Ty.owns],e,d,rfl,by simp_all⟩
   .simp[look]at hl
 | .prod p q,d,nx,vs,ns,⟨v1,v2,n1,n2,h1,h2,h3,h4⟩,hν=>by
  subst h2;have be:=W8 p _ _ _ h3;obtain⟨c1,o1⟩:=Wax p d.1 nx v1 n1 h3 hν.left;obtain⟨c2,o2⟩:=Wax q d.2 (nx+p.owns) v2 n2 h4 (hν.right be);refine⟨λah hx=>?_,λid ob hl=>?_⟩
  .simp only[Ty.owns]at hx;simp only[unfold,WaZ];rw[h1];exact(c1 ah (by omega)).append (c2 ah (by omega))
  .simp only[unfold,WaZ]at hl
   grind [Ty.owns,WO]
 | .int k,d,nx,vs,ns,h,_=>⟨λah _=>WaP (.int k) d vs h.2,λid ob hl=>by simp[unfold,look]at hl⟩
 | .bool,d,nx,vs,ns,h,_=>⟨λah _=>WaP .bool d vs h.2,λid ob hl=>by simp[unfold,look]at hl⟩
 | .str,d,nx,vs,ns,h,_=>⟨λah _=>WaP .str d vs h.2,λid ob hl=>by simp[unfold,look]at hl⟩
 | .slice e,d,nx,vs,ns,h,_=>⟨λah _=>WaP (.slice e) d vs h.2,λid ob hl=>by simp[unfold,look]at hl⟩
theorem Wcj:∀(t:Ty) (d:t.den) (nx:Nat),(unfold t d nx).1.length=t.size
 | .prod a b,d,nx=>by simp only[unfold,Xs,Wcj a,Wcj b,Ty.size]
 | .own _,_,_| .int _,_,_| .bool,_,_| .str,_,_| .slice _,_,_=>rfl
theorem WlS{t:Ty}{agg:Bool}{d:t.den}{v:Value}{ns:List Pc}{nx ah:Nat}(h:WjK G w t agg d v ns)(hν:At ν φ nx ns)(hx:nx+t.owns<=ah):
  AvRel G ν ah (WxF agg (unfold t d nx).1) v:=by
 unfold WjK at h;unfold WxF;cases agg with
 |true=>
  simp only[Waq]at h⊢;obtain⟨us,rfl,h⟩:=h;exact⟨us,rfl,(Wax t d nx us ns h hν).1 ah hx⟩
 |false=>
  simp only[Xbh,Wau]at h⊢;have hc:=(Wax t d nx [v] ns h hν).1 ah hx;have hl:=hc.1;generalize (unfold t d nx).1=cs at*
  match cs,hl with
  | [c],_=>exact hc.2 0 c v rfl rfl
theorem Wo2{t:Ty}{agg:Bool}{d:t.den}{v:Value}{ns:List Pc}(h:WjK G w t agg d v ns):∃us,TyRel G w t d us ns:=by
 grind [WjK]
def WiT(objs:Wak):Ty->List Nat->Prop
 | .own e,ids=>∃(id:Nat) (ys:List e.den),ids= [id]/\look objs id=some (.arr e ys)
 | .prod a b,ids=>∃i1 i2,ids=i1++i2/\WiT objs a i1/\WiT objs b i2
 | .int _,ids=>ids= []
 | .bool,ids=>ids= []
 | .str,ids=>ids= []
 | .slice _,ids=>ids= []
theorem Wff{objs:Wak}:∀(t:Ty) (ids:List Nat),WiT objs t ids->ids.length=t.owns
 | .own e,ids,⟨id,ys,h,_⟩=>by rw[h];rfl
 | .prod a b,ids,⟨i1,i2,h,h1,h2⟩=>by rw[h,Xs,Wff a _ h1,Wff b _ h2];rfl
 | .int _,ids,h=>by have:ids= []:=h;rw[this];rfl
 | .bool,ids,h=>by have:ids= []:=h;rw[this];rfl
 | .str,ids,h=>by have:ids= []:=h;rw[this];rfl
 | .slice _,ids,h=>by have:ids= []:=h;rw[this];rfl
def KeptBox(objs:Wak)(ν:Nat->Nu)(bx:List (Nat×CS))(t:Ty)(k:Kp)(nu:Nu):Prop:=
 ∃cs b,look objs k.id=some (.box cs)/\k.off+t.size<=cs.length/\(ν k.id).blk=some b/\nu=Wcb b ((ν k.id).off+k.off)/\(k.id,rng b ((ν k.id).off+k.off) t.size)∈bx
def KeptOk(objs:Wak)(ν:Nat->Nu)(bx:List (Nat×CS)):List PTy->List Kp->List Nu->Prop
 | [],ids,ks=>ids= []/\ks= []
 | .v _ _::ps,ids,ks=>KeptOk objs ν bx ps ids ks
 | .box t::ps,ids,ks=>∃k bc nu ks',ids=k::bc/\ks=nu::ks'/\KeptBox objs ν bx t k nu/\KeptOk objs ν bx ps bc ks'
 | .mut e::ps,ids,ks=>∃(id:Nat) (bc:List Kp) (ks':List Nu) (ys:List e.den),ids=⟨id,0⟩::bc/\ks=ν id::ks'/\look objs id=some (.arr e ys)/\KeptOk objs ν bx ps bc ks'
 | .clos _ _::ps,ids,ks=>KeptOk objs ν bx ps ids ks
 | .kv t _::ps,ids,ks=>∃i1 i2 ks',ids=kp0 i1++i2/\ks=i1.map ν++ks'/\WiT objs t i1/\KeptOk objs ν bx ps i2 ks'
 | .rp _::ps,ids,ks=>KeptOk objs ν bx ps ids ks
 | .vj _::_,_,_=>False
 | .boxal t _::ps,ids,ks=>∃k bc nu ks',ids=k::bc/\ks=nu::ks'/\KeptBox objs ν bx t k nu/\KeptOk objs ν bx ps bc ks'
theorem KeptBox.mono{bx mK:List (Nat×CS)}{t:Ty}{k:Kp}{nu:Nu}(hb:∀p∈bx,p∈mK)(h:KeptBox objs ν bx t k nu):KeptBox objs ν mK t k nu:=by
 obtain⟨cs,b,h1,h2,h3,h4,h5⟩:=h;exact⟨cs,b,h1,h2,h3,h4,hb _ h5⟩
theorem KeptOk.mono{bx mK:List (Nat×CS)}(hb:∀p∈bx,p∈mK):∀(ps:List PTy) (ids:List Kp) (ks:List Nu),KeptOk objs ν bx ps ids ks->KeptOk objs ν mK ps ids ks
 | [],_,_,h=>h
 | .v _ _::ps,ids,ks,h=>KeptOk.mono hb ps ids ks h
 | .box t::ps,ids,ks,⟨k,bc,nu,ks',h1,h2,h3,h4⟩=>⟨k,bc,nu,ks',h1,h2,h3.mono hb,KeptOk.mono hb ps bc ks' h4⟩
 | .mut e::ps,ids,ks,⟨id,bc,ks',ys,h1,h2,h3,h4⟩=>⟨id,bc,ks',ys,h1,h2,h3,KeptOk.mono hb ps bc ks' h4⟩
 | .clos _ _::ps,ids,ks,h=>KeptOk.mono hb ps ids ks h
 | .kv t _::ps,ids,ks,⟨i1,i2,ks',h1,h2,h3,h4⟩=>⟨i1,i2,ks',h1,h2,h3,KeptOk.mono hb ps i2 ks' h4⟩
 | .rp _::ps,ids,ks,h=>KeptOk.mono hb ps ids ks h
 | .vj _::_,_,_,h=>h.elim
 | .boxal t _::ps,ids,ks,⟨k,bc,nu,ks',h1,h2,h3,h4⟩=>⟨k,bc,nu,ks',h1,h2,h3.mono hb,KeptOk.mono hb ps bc ks' h4⟩
def WmR(G:GH)(ν:Nat->Nu)(w:World)(aI:Wak)(bx:List (Nat×CS))(ah:Nat)(id:Nat)(S:CS)(ob:Ob):Prop:=
 (∃kY off ds b us,look aI id=some (.box kY)/\ob= .box (Wel kY off ds)/\off+ds.length<=kY.length/\(ν id).blk=some b/\Mem w b ((ν id).off+off) us/\CellsRel G ν ah ds us/\
  S=rng b ((ν id).off+off) ds.length/\(id,rng b ((ν id).off+off) ds.length)∈bx)\/
 (∃(e:Ty) (ys xs:List e.den),look aI id=some (.arr e ys)/\ob= .arr e xs/\OwnL w (TyRel G w e) e.size (ν id) xs S)
theorem Whs(aI:Wak){bx:List (Nat×CS)}{ah:Nat}:∀(t:Ty) (d:t.den) (us:List Value) (ns:List Pc) (ids:List Nat),TyRel G w t d us ns->nus ns=ids.map ν->WiT aI t ids->
  (∀id ob,look (WcC t d ids) id=some ob->∃(j:Nat) (S:CS),ids[j]?=some id/\(fps ns)[j]?=some S/\WmR G ν w aI bx ah id S ob)/\∀id∈ids,∃ob,look (WcC t d ids) id=some ob
 | .own e,d,us,ns,ids,⟨pc,h1,h2,h3⟩,hn,⟨id,ys,h,aZ⟩=>by
  subst h h1;simp only[nus,Xae,Xbt,List.cons.injEq,and_true]at hn;refine⟨λi ob hl=>?_,λi hi=>?_⟩
  .simp only[WcC,WL]at hl;split at hl
   .rename_i e3;subst e3;injection hl with hl;subst hl;exact⟨0,pc.fp,rfl,rfl,.inr ⟨e,ys,d,aZ,rfl,by simp_all⟩⟩
   .simp[look]at hl
  simp_all [Xac,WcC,look]
 | .prod a b,d,us,ns,ids,⟨u1,u2,n1,n2,h1,h2,h3,h4⟩,hn,⟨i1,i2,h,tX,lD⟩=>by
  subst h h2;have be:=W8 a _ _ _ h3;have fR:=Wff a _ tX;simp only[nus,Xz]at hn;obtain⟨e1,e2⟩:=Xgj hn (by rw[Xab,Xab,be,fR]);have t1:(i1++i2).take a.owns=i1:=by simp_all
  have t2:(i1++i2).drop a.owns=i2:=by simp_all
  obtain⟨a1,a2⟩:=Whs aI (bx:=bx) (ah:=ah) a d.1 _ n1 i1 h3 e1 tX;obtain⟨b1,b2⟩:=Whs aI (bx:=bx) (ah:=ah) b d.2 _ n2 i2 h4 e2 lD;simp only[WcC,t1,t2];refine⟨λi ob hl=>?_,λi hi=>?_⟩
  .rcases WO hl with hl|hl
   .grind [fps,Xct,Xad]
   grind [fps,Xcj,Xch,Xab]
  .rcases Xn.1 hi with hi|hi
   .grind [WbF]
   .obtain⟨ob,ho⟩:=b2 i hi;rw[WbF]
    grind
 | .int _,d,us,ns,ids,hr,_,h=>by have:ids= []:=h;grind [WcC,look]
 | .bool,d,us,ns,ids,hr,_,h=>by have:ids= []:=h;grind [WcC,look]
 | .str,d,us,ns,ids,hr,_,h=>by have:ids= []:=h;grind [WcC,look]
 | .slice _,d,us,ns,ids,hr,_,h=>by have:ids= []:=h;grind [WcC,look]
theorem Wiz:∀(t:Ty) (d:t.den) (ids:List Nat) (id:Nat) (ob:Ob),look (WcC t d ids) id=some ob->id∈ids
 | .own e,d,ids,id,ob,h=>by
  cases ids with
  |nil=>simp[WcC,look]at h
  |cons i l=>
   grind [WcC,WL,Xg,look]
 | .prod a b,d,ids,id,ob,h=>by
  simp only[WcC]at h;rcases WO h with h|h
  .exact Xca (Wiz a d.1 _ id ob h)
  .exact Xfe (Wiz b d.2 _ id ob h)
 | .int _,_,_,_,_,h=>by simp[WcC,look]at h
 | .bool,_,_,_,_,h=>by simp[WcC,look]at h
 | .str,_,_,_,_,h=>by simp[WcC,look]at h
 | .slice _,_,_,_,_,h=>by simp[WcC,look]at h
def kids(l:List Kp):List Nat:=l.map Kp.id
theorem Wij(l:List Nat):kids (kp0 l)=l:=by simp[kids,kp0,Function.comp_def]
theorem Wa4(aI:Wak){bx:List (Nat×CS)}:∀(ps:List PTy) (o:Wgg ps) (ids:List Kp) (ks:List Nu) (kf:List CS) (ms:List Pc) (objs:Wak) (nx ah:Nat),WbI G w ps o ks kf ms->KeptOk aI ν bx ps ids ks->At ν φ nx ms->
  (kids ids).Nodup->(∀k∈ids,k.id<nx/\look objs k.id=look aI k.id)->nx+ms.length<=ah->
  (Wao ps o ids objs nx).2=nx+ms.length/\kf.length=ids.length/\
  ∀id ob,look (Wao ps o ids objs nx).1 id=some ob->(nx<=id/\id<nx+ms.length/\WrC G ν φ w id ob)\/(∃(j:Nat) (S:CS),(kids ids)[j]?=some id/\kf[j]?=some S/\WmR G ν w aI bx ah id S ob)\/(look objs id=some ob/\id∉kids ids)
 | [],o,ids,ks,kf,ms,objs,nx,ah,⟨_,h1,h2⟩,hk,_,_,_,_=>by subst h1 h2;obtain⟨hk,_⟩:=hk;subst hk;exact⟨rfl,rfl,λid ob hl=>.inr (.inr ⟨hl,by simp[kids]⟩)⟩
 | .v _ _::ps,o,ids,ks,kf,ms,objs,nx,ah,h,hk,hν,hn,hi,hx=>Wa4 aI ps o ids ks kf ms objs nx ah h hk hν hn hi hx
 | .box t::ps,o,ids,ks,kf,ms,objs,nx,ah,⟨b,off,ks',cT,n1,n2,h1,h2,h3,hb,h5⟩,hk,hν,hn,hi,hx=>putOuts_box aI t ps o.1 o.2 ids ks kf ms objs nx ah (λids ks kf ms objs nx ah=>Wa4 aI ps o.2 ids ks kf ms objs nx ah) ⟨b,off,ks',cT,n1,n2,h1,h2,h3,hb,h5⟩ hk hν hn hi hx
 | .vj _::_,_,_,_,_,_,_,_,_,h,_,_,_,_,_=>h.elim
 | .boxal t _::ps,o,ids,ks,kf,ms,objs,nx,ah,⟨b,off,ks',cT,n1,n2,h1,h2,h3,hb,h5⟩,hk,hν,hn,hi,hx=>putOuts_box aI t ps o.1 o.2 ids ks kf ms objs nx ah (λids ks kf ms objs nx ah=>Wa4 aI ps o.2 ids ks kf ms objs nx ah) ⟨b,off,ks',cT,n1,n2,h1,h2,h3,hb,h5⟩ hk hν hn hi hx
 | .mut e::ps,o,ids,ks,kf,ms,objs,nx,ah,⟨pc,ks',cT,h1,h2,h3,h4⟩,hk,hν,hn,hi,hx=>by
  obtain⟨id,bc,xf,ys,rfl,kZ,aZ,cw⟩:=hk;rw[h1]at kZ;simp only[List.cons.injEq]at kZ;obtain⟨hνid,rfl⟩:=kZ;subst h2;have aP:=Xai.1 hn;obtain⟨e1,el,e2⟩:=Wa4 aI ps o.2 bc ks' cT ms ((id,.arr e o.1)::objs) nx ah h4 cw hν aP.2 (λk nI=>by
   obtain⟨g1,g2⟩:=hi k (Xe _ nI);have hne:id≠k.id:=λe=>aP.1 (by grind);simp_all [WL,Wa]) hx
  simp only[Wao];refine⟨e1,by simp[el],λi ob hl=>?_⟩;rcases e2 i ob hl with g|⟨j,S,g1,g2,g3⟩|⟨g,gn⟩
  .grind
  .exact .inr (.inl ⟨j+1,S,g1,g2,g3⟩)
  .rw[WL]at g;split at g
   .rename_i e3;subst e3;injection g with g;subst g;exact .inr (.inl ⟨0,pc.fp,rfl,rfl,.inr ⟨e,ys,o.1,aZ,rfl,by simp_all⟩⟩)
   .rename_i hne;exact .inr (.inr ⟨g,λhm=>by rcases Xq.1 hm with hm|hm;exact hne hm.symm;exact gn hm⟩)
 | .clos _ _::ps,o,ids,ks,kf,ms,objs,nx,ah,h,hk,hν,hn,hi,hx=>Wa4 aI ps o ids ks kf ms objs nx ah h hk hν hn hi hx
 | .rp _::ps,o,ids,ks,kf,ms,objs,nx,ah,h,hk,hν,hn,hi,hx=>Wa4 aI ps o ids ks kf ms objs nx ah h hk hν hn hi hx
 | .kv t agg::ps,o,ids,ks,kf,ms,objs,nx,ah,⟨n1,ks',cT,us,h1,h2,h3,h4⟩,⟨i1,i2,xf,bv,rE,ho,cw⟩,hν,hn,hi,hx=>by
  subst bv h2;have be:=W8 t _ _ _ h3;have fR:=Wff t _ ho;rw[h1]at rE;obtain⟨q1,q2⟩:=Xgj rE (by simp[nus,be,fR]);subst q2;have mL:(kp0 i1).length=t.owns:=by simp[kp0,fR]
  have t1:((kp0 i1++i2).take t.owns).map Kp.id=i1:=by rw[←mL];simp;exact Wij i1
  have t2:(kp0 i1++i2).drop t.owns=i2:=by simp_all
  obtain⟨r1,r2⟩:=Whs (bx:=bx) (ah:=ah) aI t o.1 us n1 i1 h3 q1 ho;have ka:kids (kp0 i1++i2)=i1++kids i2:=by grind [kids,Wij]
  rw[ka]at hn;obtain⟨m1,m2,m3⟩:=Xaj.1 hn;obtain⟨e1,el,e2⟩:=Wa4 aI ps o.2 i2 ks' cT ms (WcC t o.1 i1++objs) nx ah h4 cw hν m2 (λk nI=>by
   obtain⟨g1,g2⟩:=hi k (Xh _ nI);refine⟨g1,?_⟩;rw[WbF];cases hq:look (WcC t o.1 i1) k.id with
   |none=>exact g2
   |some ob=>exact Wi rfl (m3 _ (Wiz t o.1 i1 _ ob hq) _ (Xaq nI))) hx
  simp only[Wao,t1,t2];have gh:(fps n1).length=i1.length:=by simp[fps,be,fR]
  refine⟨e1,by simp_all,λi ob hl=>?_⟩;rw[ka];rcases e2 i ob hl with g|⟨j,S,g1,g2,g3⟩|⟨g,gn⟩
  .grind
  .refine .inr (.inl ⟨i1.length+j,S,?_,?_,g3⟩)
   .grind
   grind
  .rw[WbF]at g;cases hq:look (WcC t o.1 i1) i with
   |some cC=>
    rw[hq]at g;injection g with g;subst g;obtain⟨j,S,g1,g2,g3⟩:=r1 i _ hq;refine .inr (.inl ⟨j,S,?_,?_,g3⟩)
    .grind
    grind
   |none=>
    grind
where
 putOuts_box (aI:Wak) {bx:List (Nat×CS)} (t:Ty) (ps:List PTy) (o1:t.den) (o2:Wgg ps) (ids:List Kp) (ks:List Nu) (kf:List CS) (ms:List Pc) (objs:Wak) (nx ah:Nat)
   (ih:∀(ids:List Kp) (ks:List Nu) (kf:List CS) (ms:List Pc) (objs:Wak) (nx ah:Nat),WbI G w ps o2 ks kf ms->KeptOk aI ν bx ps ids ks->At ν φ nx ms->
    (kids ids).Nodup->(∀k∈ids,k.id<nx/\look objs k.id=look aI k.id)->nx+ms.length<=ah->
    (Wao ps o2 ids objs nx).2=nx+ms.length/\kf.length=ids.length/\
    ∀id ob,look (Wao ps o2 ids objs nx).1 id=some ob->(nx<=id/\id<nx+ms.length/\WrC G ν φ w id ob)\/(∃(j:Nat) (S:CS),(kids ids)[j]?=some id/\kf[j]?=some S/\WmR G ν w aI bx ah id S ob)\/(look objs id=some ob/\id∉kids ids))
   (h:∃b off ks' cT n1 n2,ks=Wcb b off::ks'/\kf=rng b off t.size::cT/\ms=n1++n2/\WfA G w t o1 b off n1/\WbI G w ps o2 ks' cT n2)
   (hk:∃k bc nu ks',ids=k::bc/\ks=nu::ks'/\KeptBox aI ν bx t k nu/\KeptOk aI ν bx ps bc ks') (hν:At ν φ nx ms)
   (hn:(kids ids).Nodup) (hi:∀k∈ids,k.id<nx/\look objs k.id=look aI k.id) (hx:nx+ms.length<=ah):
   (Wao (.box t::ps) (o1,o2) ids objs nx).2=nx+ms.length/\kf.length=ids.length/\
   ∀id ob,look (Wao (.box t::ps) (o1,o2) ids objs nx).1 id=some ob->(nx<=id/\id<nx+ms.length/\WrC G ν φ w id ob)\/(∃(j:Nat) (S:CS),(kids ids)[j]?=some id/\kf[j]?=some S/\WmR G ν w aI bx ah id S ob)\/(look objs id=some ob/\id∉kids ids):=by
  obtain⟨b,off,ks',cT,n1,n2,h1,h2,h3,⟨us,_,hmem,gw⟩,h5⟩:=h;obtain⟨k,bc,nu,xf,rfl,kZ,⟨kY,b0,aZ,bW,bb,lb,uL⟩,cw⟩:=hk;rw[h1]at kZ;simp only[List.cons.injEq]at kZ;obtain⟨tU,rfl⟩:=kZ;rw[lb]at tU;unfold Wcb at tU;injection tU with uM y7;injection uM with uM;subst uM y7 h2 h3;have be:=W8 t _ _ _ gw;have hlen:(n1++n2).length=t.owns+n2.length:=by rw[Xs,be]
  obtain⟨c1,xg⟩:=Wax t o1 nx us n1 gw hν.left;have aP:=Xai.1 hn;obtain⟨lh,gR⟩:=hi k (Xg ..);have cH:=Wcj t o1 nx;have gI:WhA (look objs k.id) k.off (unfold t o1 nx).1= .box (Wel kY k.off (unfold t o1 nx).1):=by rw[gR,aZ];rfl
  obtain⟨e1,el,e2⟩:=ih bc ks' cT n2 ((k.id,WhA (look objs k.id) k.off (unfold t o1 nx).1)::((unfold t o1 nx).2.1++objs)) (nx+t.owns) ah h5 cw (hν.right be) aP.2 (λk' nI=>by
   obtain⟨g1,g2⟩:=hi k' (Xe _ nI);refine⟨by omega,?_⟩;rw[WL,Wa (λe=>aP.1 (by rw[e];exact Xaq nI)),WbF];cases hq:look (unfold t o1 nx).2.1 k'.id with
   |none=>exact g2
   |some ob=>have:=(xg _ ob hq).1;omega) (by omega)
  simp only[Wao,WaZ];refine⟨by rw[e1,hlen];omega,by simp[el],λi ob hl=>?_⟩;rcases e2 i ob hl with⟨g1,g2,g3⟩|⟨j,S,g1,g2,g3⟩|⟨g,gn⟩
  .exact .inl ⟨by omega,by omega,g3⟩
  .exact .inr (.inl ⟨j+1,S,g1,g2,g3⟩)
  .rw[WL]at g;split at g
   .rename_i e3;subst e3;injection g with g;rw[gI]at g;subst g;refine .inr (.inl ⟨0,_,rfl,rfl,.inl ⟨kY,k.off,_,_,us,aZ,rfl,by rw[cH];exact bW,bb,hmem,c1 ah (by omega),by rw[cH],by rw[cH];exact uL⟩⟩)
   .rename_i hne;rcases WO g with g|g
    .obtain⟨g1,g2,g3⟩:=xg i ob g;exact .inl ⟨g1,by omega,g3⟩
    .exact .inr (.inr ⟨g,λhm=>by rcases Xq.1 hm with hm|hm;exact hne hm.symm;exact gn hm⟩)
def Wyb(G:GH)(ν:Nat->Nu)(φ:Nat->CS)(w:World)(ah:Nat)(id:Nat)(ob:Ob):Prop:=
 WrC G ν φ w id ob\/∃cs b us,ob= .box cs/\(ν id).blk=some b/\Row w b ((ν id).off+cs.length)/\Mem w b (ν id).off us/\CellsRel G ν ah cs us/\CS.le (rng b (ν id).off cs.length) (φ id)
theorem Wd5:∀(rs:List PTy) (d:Whi rs) (vs:List Value) (ns:List Pc) (objs:Wak) (nx ah:Nat),WgP G w rs d vs ns->At ν φ nx ns->nx+ns.length<=ah->
  (WbE rs d objs nx).2.2=nx+ns.length/\
  (∀id ob,look (WbE rs d objs nx).2.1 id=some ob->(nx<=id/\id<nx+ns.length/\Wyb G ν φ w ah id ob)\/look objs id=some ob)/\
  WsI G ν ah (WbE rs d objs nx).1 vs
 | [],d,vs,ns,objs,nx,ah,⟨h1,h2⟩,_,_=>by subst h1 h2;exact⟨rfl,λid ob hl=>.inr hl,rfl,λj x v hj=>by simp[WbE]at hj⟩
 | .v t agg::rs,d,vs,ns,objs,nx,ah,⟨v,vs',n1,n2,h1,h2,h3,h4⟩,hν,hx=>by
  subst h2;obtain⟨us,jp⟩:=Wo2 h3;have be:=W8 _ _ _ _ jp;have hlen:(n1++n2).length=t.owns+n2.length:=by rw[Xs,be]
  obtain⟨_,o1⟩:=Wax t d.1 nx us n1 jp hν.left;obtain⟨e1,e2,e4,e5⟩:=Wd5 rs d.2 vs' n2 ((unfold t d.1 nx).2.1++objs) (nx+t.owns) ah h4 (hν.right be) (by omega);simp only[WbE,WaZ];refine⟨by rw[e1,hlen];omega,λi ob hl=>?_,?_⟩
  .rcases e2 i ob hl with⟨g1,g2,g3⟩|g
   .exact .inl ⟨by omega,by omega,g3⟩
   .rcases WO g with g|g
    .obtain⟨g1,g2,g3⟩:=o1 i ob g;exact .inl ⟨g1,by omega,.inl g3⟩
    .exact .inr g
  .rw[h1];refine⟨by simp[e4],λj x u hj hu=>?_⟩;cases j with
   |zero=>simp at hj hu;subst hj hu;exact WlS h3 hν.left (by omega)
   |succ j=>exact e5 j x u (by simpa using hj) (by simpa using hu)
 | .box t::rs,d,vs,ns,objs,nx,ah,⟨b,o,vs',n1,n2,h1,h2,⟨us,hrow,hmem,gw⟩,h5⟩,hν,hx=>by
  subst h2;have be:=W8 _ _ _ _ gw;have hlen:((⟨Wcb b o,rng b o t.size⟩:Pc)::(n1++n2)).length=1+t.owns+n2.length:=by rw[List.length_cons,Xs,be];omega
  obtain⟨hν0,hφ0⟩:ν nx=Wcb b o/\φ nx=rng b o t.size:=by have:=hν 0 _ rfl;simpa using this
  have hν1:At ν φ (nx+1) (n1++n2):=hν.right (n1:=[⟨Wcb b o,rng b o t.size⟩]) rfl;obtain⟨c1,o1⟩:=Wax t d.1 (nx+1) us n1 gw hν1.left;obtain⟨e1,e2,e4,e5⟩:=Wd5 rs d.2 vs' n2 ((nx,.box (unfold t d.1 (nx+1)).1)::((unfold t d.1 (nx+1)).2.1++objs)) (nx+1+t.owns) ah h5 (hν1.right be) (by omega);have cH:=Wcj t d.1 (nx+1);simp only[WbE,WaZ];refine⟨by rw[e1,hlen];omega,λid ob hl=>?_,?_⟩
  .rcases e2 id ob hl with⟨g1,g2,g3⟩|g
   .exact .inl ⟨by omega,by omega,g3⟩
   .rw[WL]at g;split at g
    .rename_i e;subst e;injection g with g;subst g;refine .inl ⟨Xm _,by omega,.inr ⟨_,b,us,rfl,by rw[hν0];rfl,?_,?_,c1 ah (by omega),?_⟩⟩
     .rw[hν0,cH];exact hrow
     .rw[hν0];exact hmem
     .rw[hν0,cH,hφ0];exactλ_ _ hh=>hh
    .rcases WO g with g|g
     .obtain⟨g1,g2,g3⟩:=o1 id ob g;exact .inl ⟨by omega,by omega,.inl g3⟩
     .exact .inr g
  .rw[h1];refine⟨by simp[e4],λj x u hj hu=>?_⟩;cases j with
   |zero=>
    simp at hj hu;subst hj hu;exact⟨⟨by omega,b,by rw[hν0];rfl,by rw[hν0];rfl⟩,rfl⟩
   |succ j=>exact e5 j x u (by simpa using hj) (by simpa using hu)
 | .mut _::_,_,_,_,_,_,_,h,_,_=>h.elim
 | .clos _ _::_,_,_,_,_,_,_,h,_,_=>h.elim
 | .kv _ _::_,_,_,_,_,_,_,h,_,_=>h.elim
 | .rp _::_,_,_,_,_,_,_,h,_,_=>h.elim
 | .vj t::rs,d,vs,ns,objs,nx,ah,⟨us,u,vs',n1,n2,h1,h0,h2,h3,h4⟩,hν,hx=>by
  subst h2;have be:=W8 _ _ _ _ h3;have hlen:(n1++n2).length=t.owns+n2.length:=by rw[Xs,be]
  obtain⟨c1,o1⟩:=Wax t d.1 nx us n1 h3 hν.left;obtain⟨e1,e2,e4,e5⟩:=Wd5 rs d.2 vs' n2 ((unfold t d.1 nx).2.1++objs) (nx+t.owns) ah h4 (hν.right be) (by omega);simp only[WbE,WaZ];refine⟨by rw[e1,hlen];omega,λi ob hl=>?_,?_⟩
  .rcases e2 i ob hl with⟨g1,g2,g3⟩|g
   .exact .inl ⟨by omega,by omega,g3⟩
   .rcases WO g with g|g
    .obtain⟨g1,g2,g3⟩:=o1 i ob g;exact .inl ⟨g1,by omega,.inl g3⟩
    .exact .inr g
  .rw[h1];refine⟨by simp[e4],λj x v hj hv=>?_⟩;cases j with
   |zero=>simp at hj hv;subst hj hv;exact⟨us++ [u],rfl,(c1 ah (by omega)).append (CellsRel.one trivial h0)⟩
   |succ j=>exact e5 j x v (by simpa using hj) (by simpa using hv)
 | .boxal _ _::_,_,_,_,_,_,_,h,_,_=>h.elim
theorem Wt2{xs:List AV}{vs:List Value}(h:WsI G ν nx xs vs):AValRel G ν nx (WxV xs) (Wiw vs):=by
 obtain⟨h1,h2⟩:=h
 match xs,vs,h1 with
 | [],[],_=>exact⟨[],rfl,rfl,λj x v hj=>by simp at hj⟩
 | [x],[v],_=>exact h2 0 x v rfl rfl
 |x::y::xs,v::u::vs,h1=>exact⟨v::u::vs,rfl,h1,h2⟩
end
end Go.Sx
namespace Go.Sx
set_option linter.unusedVariables false
set_option linter.unusedSimpArgs false
theorem WaY(i:Nat):∀l:List Nat,Wcy i l=true↔i∈l
 | []=>by simp[Wcy]
 |j::l=>by
  simp only[Wcy,Bool.or_eq_true,WaY i l,Xq];rw[show(Nat.beq i j=true)=(i=j)from by simp]
theorem Wfc:∀l:List Nat,WbA l=true↔l.Nodup
 | []=>by simp[WbA]
 |i::l=>by
  have h:=WaY i l;simp only[WbA,Xi,Xar,Xai,Wfc l]
  grind
theorem Wnq{l m:List Nat}(h:Wg8 l m=true):∀i∈l,i∉m:=λi hi hm=>by
 grind [Wg8,Xag,WaY]
section
variable{w0:World}{F:CS}{nt:Slots}{G0 G G':GH}{ν:Nat->Nu}{φ:Nat->CS}{objs:Wak}{nx:Nat}{st ae:St}{a:Act}{w w':World}{P:Program}{T:Tab}
theorem WlR(h:HR w0 F G ν φ objs nx w){t:Ty}{agg:Bool}{x:AVal}{v:Value}{cs:List Cell}{d:t.den}{m l:List Nat}(hg:GLe G G')(hx:AValRel G ν nx x v)(hl:Lent G' w φ objs l)(hm:m.Nodup)
  (hc:cellsOf agg x=some cs) (hf:Waz t cs objs=some (d,m,l)):∃ns,WjK G' w t agg d v ns/\Sep (fps ns)/\(∀p∈ns,CS.le p.fp (FromL φ objs m))/\(∀i∈m,Live objs i)/\(∀i∈l,Live objs i):=by
 unfold cellsOf at hc;split at hc
 .split at hc
  .cases hc
  .rename_i c ha;injection hc with hc;subst hc;obtain⟨ns,h1,h2,h3,h4,h5,_⟩:=Wal h hg t [c] [v] d m l (CellsRel.one hx.1 hx.2) hl hm hf;refine⟨ns,?_,h2,h3,h4,h5⟩;simp_all [WjK,Wa]
 .split at hc
  .rename_i ds ha;injection hc with hc;subst hc;obtain⟨us,rfl,bz⟩:=hx;obtain⟨ns,h1,h2,h3,h4,h5,_⟩:=Wal h hg t ds us d m l bz hl hm hf;refine⟨ns,?_,h2,h3,h4,h5⟩;unfold WjK;simp_all
  .cases hc
 .cases hc
def WxY(objs:Wak)(m:List Nat):Prop:=∀i∈m,∃(e:Ty) (xs:List e.den),look objs i=some (.arr e xs)
theorem Wh9:∀(t:Ty) (cs:List Cell) (d:t.den) (m l:List Nat),WxY objs m->Waz t cs objs=some (d,m,l)->m.length<=t.owns
 | .prod a b,cs,d,m,l,ha,h=>by
  simp only[Waz]at h;split at h
  .rename_i x m1 l1 y m2 l2 h1 h2;simp only[Option.some.injEq,Prod.mk.injEq]at h;obtain⟨rfl,rfl,rfl⟩:=h;have:=Wh9 a _ _ _ _ (λi hi=>ha i (Xl _ hi)) h1;have:=Wh9 b _ _ _ _ (λi hi=>ha i (Xh _ hi)) h2;rw[Xs];show _<=a.owns+b.owns;omega
  grind
 | .own e,cs,d,m,l,ha,h=>by
  simp only[Waz]at h;split at h
  .rename_i id;obtain⟨⟨ys,m'⟩,ho,hf⟩:=Xy.1 h;simp only[Prod.mk.injEq]at hf;obtain⟨rfl,rfl,rfl⟩:=hf;unfold WvO at ho;split at ho
   .obtain⟨zs,_,ho⟩:=Xy.1 ho;obtain⟨_,rfl⟩:=Prod.mk.inj ho;exact Xm 1
   .rename_i e' xs i p aZ;split at ho
    .split at ho
     .simp only[Option.some.injEq,Prod.mk.injEq]at ho;obtain⟨_,rfl⟩:=ho;obtain⟨e2,y8,h2⟩:=ha id (Xg ..);simp_all
     grind
    grind
   grind
  .split at h
   .obtain⟨zs,_,h⟩:=Xy.1 h;have h2:=(Prod.mk.inj (Prod.mk.inj h).2).1;subst h2;exact Xm 1
   grind
  .grind
  grind
 | .slice e,cs,d,m,l,_,h=>by
  have hm:m= []:=by
   simp only[Waz]at h
   grind [Xy,Prod.mk.inj]
  simp_all
 | .int k,cs,d,m,l,_,h=>by
  simp only[Waz]at h;split at h
  .obtain⟨q,hq,h⟩:=Xy.1 h;simp_all
  grind
 | .bool,cs,d,m,l,_,h=>by
  simp only[Waz]at h;split at h
  .obtain⟨q,hq,h⟩:=Xy.1 h;simp_all
  grind
 | .str,cs,d,m,l,_,h=>by
  simp only[Waz]at h;split at h
  .obtain⟨q,hq,h⟩:=Xy.1 h;simp_all
  grind
theorem Wfn(h:HR w0 F G ν φ objs nx w)(hg:GLe G G'){t:Ty}(ht:t.owns=0){cs:List Cell}{vs:List Value}{d:t.den}{m l:List Nat}(hc:CellsRel G ν nx cs vs)(hl:Lent G' w φ objs l)(hf:Waz t cs objs=some (d,m,l))(hm:m= []):TyRel G' w t d vs []:=by
 subst hm;obtain⟨ns,h1,_⟩:=Wal h hg t cs vs d [] l hc hl Xcx hf;have:=W8 _ _ _ _ h1;simp_all
def pcs(ν:Nat->Nu)(φ:Nat->CS)(m:List Nat):List Pc:=m.map λi=>⟨ν i,φ i⟩
theorem Wwo(m:List Nat):nus (pcs ν φ m)=m.map ν:=by simp[nus,pcs,Function.comp_def]
theorem Wo7(m:List Nat):fps (pcs ν φ m)=m.map φ:=by simp[fps,pcs,Function.comp_def]
theorem Wfl(h:HR w0 F G ν φ objs nx w)(hg:GLe G G'):∀(t:Ty) (cs:List Cell) (vs:List Value) (d:t.den) (m l:List Nat),CellsRel G ν nx cs vs->Lent G' w φ objs l->(∀c∈cs,Wty c=true)->WxY objs m->
  Waz t cs objs=some (d,m,l)->m.length=t.owns->TyRel G' w t d vs (pcs ν φ m)/\WiT objs t m
 | .prod a b,cs,vs,d,m,l,hc,hl,hw,ha,hf,hm=>by
  have xh:=hf;simp only[Waz]at hf;split at hf
  .rename_i x m1 l1 y m2 l2 h1 h2;simp only[Option.some.injEq,Prod.mk.injEq]at hf;obtain⟨rfl,rfl,rfl⟩:=hf;have xi:WxY objs m1:=λi hi=>ha i (Xl _ hi);have li:WxY objs m2:=λi hi=>ha i (Xh _ hi);have q1:=Wh9 a _ _ _ _ xi h1;have q2:=Wh9 b _ _ _ _ li h2;rw[Xs]at hm;have gS:m1.length+m2.length=a.owns+b.owns:=hm;obtain⟨g1,g2⟩:=Wfl h hg a _ (vs.take a.size) x m1 l1 (hc.take _) (hl.mono (by simp_all)) (λc hc=>hw c (Xca hc)) xi h1 (by omega);obtain⟨g3,g4⟩:=Wfl h hg b _ (vs.drop a.size) y m2 l2 (hc.drop _) (hl.mono (by simp_all)) (λc hc=>hw c (Xfe hc)) li h2 (by omega);exact⟨⟨_,_,pcs ν φ m1,pcs ν φ m2,(Xdr a.size vs).symm,by simp[pcs],g1,g3⟩,m1,m2,rfl,g2,g4⟩
  grind
 | .own e,cs,vs,d,m,l,hc,hl,hw,ha,hf,hm=>by
  simp only[Waz]at hf;split at hf
  .rename_i id;obtain⟨v,rfl,⟨_,hv⟩,_⟩:=hc.single;subst hv;obtain⟨⟨ys,m'⟩,ho,hf⟩:=Xy.1 hf;simp only[Prod.mk.injEq]at hf;obtain⟨rfl,rfl,rfl⟩:=hf;unfold WvO at ho;split at ho
   .rename_i e' xs aZ;obtain⟨zs,br,ho⟩:=Xy.1 ho;obtain⟨rfl,rfl⟩:=Prod.mk.inj ho;obtain⟨he,hy⟩:=Way br;subst he;simp only at hy;subst hy;have aw:OwnL w (TyRel G w e') e'.size (ν id) xs (φ id):=h.ob _ _ aZ;exact⟨⟨⟨ν id,φ id⟩,rfl,rfl,WcZ hg (Same.refl _ w) (λ_ _ hh=>hh) aw⟩,id,xs,rfl,aZ⟩
   .rename_i e' xs i p aZ;split at ho
    .split at ho
     .simp only[Option.some.injEq,Prod.mk.injEq]at ho;obtain⟨_,rfl⟩:=ho;obtain⟨e2,y8,h2⟩:=ha id (Xg ..);simp_all
     grind
    grind
   grind
  .have:=hw _ (Xac.2 rfl);cases this
  .simp only[Option.some.injEq,Prod.mk.injEq]at hf;obtain⟨rfl,rfl,rfl⟩:=hf;exact Wi hm (by show¬(0=1);omega)
  grind
 | .slice e,cs,vs,d,m,l,hc,hl,hw,ha,hf,hm=>by
  have kb:m= []:=Xaa hm;have:=Wfn h hg (t:=.slice e) rfl hc hl hf kb;subst kb;exact⟨this,rfl⟩
 | .int k,cs,vs,d,m,l,hc,hl,hw,ha,hf,hm=>by
  have kb:m= []:=Xaa hm;have:=Wfn h hg (t:=.int k) rfl hc hl hf kb;subst kb;exact⟨this,rfl⟩
 | .bool,cs,vs,d,m,l,hc,hl,hw,ha,hf,hm=>by
  have kb:m= []:=Xaa hm;have:=Wfn h hg (t:=.bool) rfl hc hl hf kb;subst kb;exact⟨this,rfl⟩
 | .str,cs,vs,d,m,l,hc,hl,hw,ha,hf,hm=>by
  have kb:m= []:=Xaa hm;have:=Wfn h hg (t:=.str) rfl hc hl hf kb;subst kb;exact⟨this,rfl⟩
theorem WrK{t:Ty}{m:List Nat}{x:AVal}(h:Wne objs t m x=true):m.length=t.owns/\Wwk x=true/\WxY objs m:=by
 unfold Wne at h;simp only[Xi,Wh,Xag]at h;obtain⟨⟨h1,h2⟩,h3⟩:=h;refine⟨h1,h2,λi hi=>?_⟩
 grind
theorem Wmu(h:HR w0 F G ν φ objs nx w){t:Ty}{agg:Bool}{x:AVal}{v:Value}{cs:List Cell}{d:t.den}{m l:List Nat}(hg:GLe G G')(hx:AValRel G ν nx x v)(hl:Lent G' w φ objs l)
  (hc:cellsOf agg x=some cs) (hf:Waz t cs objs=some (d,m,l)) (ha:Wne objs t m x=true):WjK G' w t agg d v (pcs ν φ m)/\WiT objs t m:=by
 obtain⟨hm,hw,gi⟩:=WrK ha;unfold cellsOf at hc;split at hc
 .split at hc
  .cases hc
  .rename_i c qu;injection hc with hc;subst hc;obtain⟨h1,h2⟩:=Wfl h hg t [c] [v] d m l (CellsRel.one hx.1 hx.2) hl (λc' gL=>by rw[Xac.1 gL];exact hw) gi hf hm;simp_all [WjK,Wa]
 .split at hc
  .rename_i ds qu;injection hc with hc;subst hc;obtain⟨us,rfl,bz⟩:=hx;obtain⟨h1,h2⟩:=Wfl h hg t ds us d m l bz hl (λc' gL=>Xag.1 hw c' gL) gi hf hm;refine⟨?_,h2⟩;unfold WjK;simp_all
  .cases hc
 .cases hc
def Tk(φ:Nat->CS)(objs:Wak)(bx:List (Nat×CS))(l:List Nat):CS:=λb o=>∃i∈l,Live objs i/\φ i b o/\∀p∈bx,p.1=i->p.2 b o
structure AOk(G':GH)(ν:Nat->Nu)(φ:Nat->CS)(objs:Wak)(w:World)(ps:List PTy)(A:Args ps)(vs:List Value)(ns:List Pc)(ks:List Nu)(bx:List (Nat×CS)):Prop where
 args:Wbu G' w ps A.d vs ns ks
 kept:KeptOk objs ν bx ps A.kept ks
 sep:Sep (fps ns)
 tk:∀q∈ns,CS.le q.fp (Tk φ objs bx A.all)
 bx:∀p∈bx,p.1∈A.all
 live:∀i∈A.all,Live objs i
 lent:∀i∈A.lent,Live objs i
 mv:∀i∈A.moved,i∈A.all
 mvk:∀i∈A.all,i∈A.moved\/i∈kids A.kept
 sub:(kids A.kept).Sublist A.all
 dis:∀i∈kids A.kept,i∉A.moved
theorem Wjw{bx:List (Nat×CS)}{l:List Nat}:CS.le (Tk φ objs bx l) (FromL φ objs l):=λb o ⟨i,hi,h1,h2,_⟩=>⟨i,hi,h1,h2⟩
theorem WlK{bx mK:List (Nat×CS)}{l l':List Nat}(hl:∀i∈l,i∈l')(hb:∀p∈mK,p∈bx\/p.1∉l):CS.le (Tk φ objs bx l) (Tk φ objs mK l'):=λb o ⟨i,hi,h1,h2,h3⟩=>
 ⟨i,hl i hi,h1,h2,λp hp e=>by
  grind⟩
theorem Wow{bx:List (Nat×CS)}{m l:List Nat}(hm:∀i∈m,i∈l)(hb:∀p∈bx,p.1∉m):CS.le (FromL φ objs m) (Tk φ objs bx l):=λb o ⟨i,hi,h1,h2⟩=>
 ⟨i,hm i hi,h1,h2,λp hp e=>Wi (by simp_all) (hb p hp)⟩
theorem Wcp(h:HR w0 F G ν φ objs nx w){n1 n2:List Pc}{m l:List Nat}(h1:Sep (fps n1))(h2:Sep (fps n2))(g1:∀q∈n1,CS.le q.fp (FromL φ objs m))(g2:∀q∈n2,CS.le q.fp (FromL φ objs l))(hd:∀i∈m,i∉l):Sep (fps (n1++n2)):=by
 unfold fps;rw[Xz];refine Wou h1 h2 (A:=FromL φ objs m) (B:=FromL φ objs l) (λs hs=>?_) (λs hs=>?_) (FromL.disj h hd)
 .grind
 grind
theorem Wqa(h:HR w0 F G ν φ objs nx w)(hg:GLe G G'){t:Ty}{ps:List PTy}{id off:Nat}{cs:List Cell}{d:t.den}{m:List Nat}{A:Args ps}{vs:List Value}{ns:List Pc}{ks:List Nu}{bx:List (Nat×CS)}{v:Value}
  (hv:CellRel G ν nx (.ptr id off) v) (aZ:look objs id=some (.box cs)) (hf:Waz t ((cs.drop off).take t.size) objs=some (d,m,[])) (aP:(id::(m++A.all)).Nodup) (hA:AOk G' ν φ objs w ps A vs ns ks bx):
  ∃b n1,v= .pointer (some ⟨b,(ν id).off+off,none⟩)/\(ν id).blk=some b/\WfA G' w t d b ((ν id).off+off) n1/\Leaf ν t ((cs.drop off).take t.size) n1/\
   KeptBox objs ν ((id,rng b ((ν id).off+off) t.size)::bx) t ⟨id,off⟩ (Wcb b ((ν id).off+off))/\KeptOk objs ν ((id,rng b ((ν id).off+off) t.size)::bx) ps A.kept ks/\
   Sep (fps (⟨Wcb b ((ν id).off+off),rng b ((ν id).off+off) t.size⟩::(n1++ns)))/\
   (∀q∈(⟨Wcb b ((ν id).off+off),rng b ((ν id).off+off) t.size⟩:Pc)::(n1++ns),CS.le q.fp (Tk φ objs ((id,rng b ((ν id).off+off) t.size)::bx) (id::(m++A.all))))/\
   (∀p∈(id,rng b ((ν id).off+off) t.size)::bx,p.1∈id::(m++A.all))/\(∀i∈id::(m++A.all),Live objs i)/\
   (∀i∈m++A.moved,i∈id::(m++A.all))/\(∀i∈id::(m++A.all),i∈m++A.moved\/i∈id::kids A.kept)/\(id::kids A.kept).Sublist (id::(m++A.all))/\(∀i∈id::kids A.kept,i∉m++A.moved):=by
 obtain⟨bv,b,bb,rfl⟩:=hv;obtain⟨n1,n2⟩:=Xai.1 aP;obtain⟨n3,n4,n5⟩:=Xaj.1 n2;have aC:Live objs id:=⟨_,aZ,by simp⟩;obtain⟨b',us,hb',hrow,hmem,bz,eG⟩:WcG G ν nx w id (φ id) (.box cs):=h.ob _ _ aZ;rw[bb]at hb';injection hb' with hb';subst hb';obtain⟨q1,t1,t2,t3,t4,_,t5⟩:=Wal h hg t _ ((us.drop off).take t.size) d m [] ((bz.drop off).take _) (λi hi=>by simp at hi) n3 hf;have hlen:=WE _ _ _ _ t1;have bW:off+t.size<=cs.length:=by
  have:=bz.1
  grind [Xan,Xcy,WbV]
 have ge:CS.le (rng b ((ν id).off+off) t.size) (φ id):=λb' o ⟨k0,k1,k2⟩=>eG b' o ⟨k0,by omega,by omega⟩;refine⟨b,q1,rfl,bb,⟨_,?_,?_,t1⟩,t5,⟨cs,b,aZ,bW,bb,rfl,Xg ..⟩,KeptOk.mono (λp hp=>Xe _ hp) _ _ _ hA.kept,?_,?_,?_,?_,?_,?_,?_,?_⟩
 .obtain⟨row,TT,r1,r2⟩:=hrow;exact⟨row,TT,r1,by omega⟩
 .intro j v hj;rw[Xbr]at hj;split at hj
  .rw[Xbq]at hj;rw[Xay];exact hmem _ v hj
  grind
 .have s1:=Wcp h t2 hA.sep t3 (λq hq b o hh=>Wjw b o (hA.tk q hq b o hh)) (λi hi hj=>n5 i hi i hj rfl);refine Xv.2 ⟨λs hs=>?_,s1⟩;obtain⟨p,hp,rfl⟩:=Xw.1 hs;refine CS.disj.mono (FromL.disj h (m:=[id]) (m':=m++A.all) (λi hi hj=>n1 (by simp_all))) (λb o hh=>⟨id,by simp,aC,ge b o hh⟩) (λb o hh=>?_);rcases Xn.1 hp with hp|hp
  .exact FromL.mono (λi hi=>Xl _ hi) b o (t3 p hp b o hh)
  .exact FromL.mono (λi hi=>Xh _ hi) b o (Wjw b o (hA.tk p hp b o hh))
 .intro q hq;rcases Xq.1 hq with rfl|hq
  .exactλb o hh=>⟨id,Xg ..,aC,ge b o hh,λp hp e=>by
    rcases Xq.1 hp with rfl|hp
    .exact hh
    .exact Wi (Xh _ (by rw[←e];exact hA.bx p hp)) n1⟩
  .rcases Xn.1 hq with hq|hq
   .refineλb o hh=>Wow (m:=m) (λi hi=>Xe _ (Xl _ hi)) (λp hp hm=>?_) b o (t3 q hq b o hh)
    rcases Xq.1 hp with rfl|hp
    .simp_all
    .exact n5 _ hm _ (hA.bx p hp) rfl
   .refineλb o hh=>WlK (λi hi=>Xe _ (Xh _ hi)) (λp hp=>?_) b o (hA.tk q hq b o hh)
    grind
 .intro p hp;rcases Xq.1 hp with rfl|hp
  .simp_all
  .exact Xe _ (Xh _ (hA.bx p hp))
 .intro i hi;rcases Xq.1 hi with rfl|hi
  .exact aC
  .rcases Xn.1 hi with hi|hi
   .grind
   .exact hA.live i hi
 .intro i hi;rcases Xn.1 hi with hi|hi
  .exact Xe _ (Xl _ hi)
  .exact Xe _ (Xh _ (hA.mv i hi))
 .intro i hi;rcases Xq.1 hi with rfl|hi
  .exact .inr (Xg ..)
  .rcases Xn.1 hi with hi|hi
   .exact .inl (Xl _ hi)
   .rcases hA.mvk i hi with hi|hi
    .exact .inl (Xh _ hi)
    .exact .inr (Xe _ hi)
 .exact List.Sublist.cons_cons _ (List.Sublist.trans hA.sub (Xga _ _))
 .intro i hi hm;rcases Xq.1 hi with rfl|hi
  .rcases Xn.1 hm with hm|hm
   .exact n1 (Xl _ hm)
   .exact n1 (Xh _ (hA.mv _ hm))
  .rcases Xn.1 hm with hm|hm
   .exact n5 _ hm _ (hA.sub.subset hi) rfl
   .exact hA.dis i hi hm
theorem Wrt(h:HR w0 F G ν φ objs nx w){c:Cell}{y:AVal}{i:Nat}{u:Value}(hy:AValRel G ν nx y u)(he:WtW objs c y=some i):
  ∃r b,c= .own r/\(ν r).blk=some b/\i<(ν r).len/\u= .pointer (some ⟨b,(ν r).off+(i*(ν r).esz+0),none⟩):=by
 unfold WtW at he;split at he
 .rename_i r p off;split at he
  .rename_i e xs j p' aZ;split at he
   .rename_i hp;injection he with he;subst he;have hp:=Xcl hp;subst hp;obtain⟨lv,k1,k2,k3,b,k4,k5,k6,_⟩:p<nx/\Wh0 w (TyRel G w e) e.size (ν r) (ν p) xs j (φ r):=h.ob _ _ aZ;obtain⟨⟨_,b',hb',rfl⟩,_⟩:=hy;rw[k5]at hb';injection hb' with hb';subst hb';exact⟨r,b,rfl,k4,by omega,by rw[k6,k2,Xaz,Xaz]⟩
   .simp at he
  .simp at he
 .rename_i r r' j off;split at he
  .rename_i e xs aZ;split at he
   .rename_i hp;injection he with he;subst he;have hp:=Xcl hp;subst hp;obtain⟨⟨_,hlt,b,hb,rfl⟩,_⟩:=hy;exact⟨r,b,rfl,hb,hlt,rfl⟩
   .simp at he
  .simp at he
 .simp at he
theorem WaN(h:HR w0 F G ν φ objs nx w)(hg:GLe G G'):∀(ps:List PTy) (xs:List AVal) (vs:List Value) (A:Args ps),vs.length=xs.length->
  (∀(j:Nat) (x:AVal) (v:Value),xs[j]?=some x->vs[j]?=some v->AValRel G ν nx x v)->Lent G' w φ objs A.lent->A.all.Nodup->Waj ps xs objs=some A->
  ∃ns ks bx,AOk G' ν φ objs w ps A vs ns ks bx
 | [],xs,vs,A,hlen,hx,hl,aP,hf=>by
  simp only[Waj]at hf;split at hf
  .injection hf with hf;subst hf;have fh:vs= []:=Xaa (by simpa using hlen);exact⟨[],[],[],⟨fh,rfl,rfl⟩,⟨rfl,rfl⟩,List.Pairwise.nil,by simp,by simp,by simp,by simp,by simp,by simp,List.Sublist.refl _,by simp[kids]⟩
  .cases hf
 | .v t agg::ps,xs,vs,A,hlen,hx,hl,aP,hf=>by
  simp only[Waj]at hf;split at hf
  .rename_i x xs;split at hf
   .rename_i d m r A' h1 h2;injection hf with hf;subst hf
    match vs,hlen with
    |v::vs,hlen=>
     cases hc:cellsOf agg x with
     |none=>simp[hc]at h1
     |some cs=>
      simp[hc]at h1;obtain⟨n1,n2,n3⟩:=Xaj.1 aP;obtain⟨q1,g1,g2,g3,g4,g5⟩:=WlR h hg (hx 0 x v rfl rfl) (hl.mono (λi hi=>Xl _ hi)) n1 hc h1;obtain⟨ns,ks,bx,hA⟩:=WaN h hg ps xs vs A' (by simpa using hlen) (λj y u hj hu=>hx (j+1) y u (by simpa using hj) (by simpa using hu)) (hl.mono (λi hi=>Xh _ hi)) n2 h2;refine⟨q1++ns,ks,bx,⟨v,vs,q1,ns,rfl,rfl,g1,hA.args⟩,hA.kept,Wcp h g2 hA.sep g3 (λq hq b o hh=>Wjw b o (hA.tk q hq b o hh)) (λi hi hj=>n3 i hi i hj rfl),λq hq=>?_,λp hp=>Xh _ (hA.bx p hp),λi hi=>?_,λi hi=>?_,λi hi=>?_,λi hi=>?_,List.Sublist.trans hA.sub (Xga _ _),λi hi hm=>?_⟩
      .rcases Xn.1 hq with hq|hq
       .exactλb o hh=>Wow (λi hi=>Xl _ hi) (λp hp hm=>n3 _ hm _ (hA.bx p hp) rfl) b o (g3 q hq b o hh)
       .exactλb o hh=>WlK (λi hi=>Xh _ hi) (λp hp=>.inl hp) b o (hA.tk q hq b o hh)
      .rcases Xn.1 hi with hi|hi
       .exact g4 i hi
       .exact hA.live i hi
      .rcases Xn.1 hi with hi|hi
       .exact g5 i hi
       .exact hA.lent i hi
      .rcases Xn.1 hi with hi|hi
       .exact Xl _ hi
       .exact Xh _ (hA.mv i hi)
      .rcases Xn.1 hi with hi|hi
       .exact .inl (Xl _ hi)
       .rcases hA.mvk i hi with hi|hi
        .exact .inl (Xh _ hi)
        .exact .inr hi
      .rcases Xn.1 hm with hm|hm
       .exact n3 _ hm _ (hA.sub.subset hi) rfl
       .exact hA.dis i hi hm
   .cases hf
  .cases hf
 | .box t::ps,xs,vs,A,hlen,hx,hl,aP,hf=>by
  simp only[Waj]at hf;split at hf
  .rename_i id off xs;split at hf
   .rename_i cs aZ;split at hf
    .rename_i d m A' h1 h2;injection hf with hf;subst hf
     match vs,hlen with
     |v::vs,hlen=>
      obtain⟨n1,n2⟩:=Xai.1 aP;obtain⟨ns,ks,bx,hA⟩:=WaN h hg ps xs vs A' (by simpa using hlen) (λj y u hj hu=>hx (j+1) y u (by simpa using hj) (by simpa using hu)) hl (Xaj.1 n2).2.1 h2;obtain⟨b,q1,rfl,bb,k1,_,k2,k3,k4,k5,k6,k7,k8,k9,k10,qy⟩:=Wqa h hg (hx 0 _ v rfl rfl).1 aZ h1 aP hA;exact⟨_,_,_,⟨b,_,vs,q1,ns,ks,rfl,rfl,rfl,k1,hA.args⟩,⟨_,_,_,_,rfl,rfl,k2,k3⟩,k4,k5,k6,k7,hA.lent,k8,k9,k10,qy⟩
    .cases hf
   .cases hf
  .cases hf
 | .vj _::_,_,_,_,_,_,_,_,hf=>by simp only[Waj]at hf;cases hf
 | .boxal t lf::ps,xs,vs,A,hlen,hx,hl,aP,hf=>by
  simp only[Waj]at hf;split at hf
  .rename_i id off y xs;split at hf
   .rename_i cs aZ;split at hf
    .rename_i d m A' i h1 h2 h3;injection hf with hf;subst hf
     match vs,hlen with
     |v::u::vs,hlen=>
      obtain⟨n1,n2⟩:=Xai.1 aP;obtain⟨ns,ks,bx,hA⟩:=WaN h hg ps xs vs A' (by simpa using hlen) (λj y u hj hu=>hx (j+2) y u (by simpa using hj) (by simpa using hu)) hl (Xaj.1 n2).2.1 h2;obtain⟨b,q1,rfl,bb,k1,kl,k2,k3,k4,k5,k6,k7,k8,k9,k10,qy⟩:=Wqa h hg (hx 0 _ v rfl rfl).1 aZ h1 aP hA;obtain⟨c,hc,h3⟩:=Xbx.1 h3;obtain⟨k,hk,hc⟩:=Xbx.1 hc;obtain⟨r,b',rfl,e1,e2,rfl⟩:=Wrt h (hx 1 y u rfl rfl) h3;obtain⟨pc,e3,e4⟩:=kl lf k r hk hc;exact⟨_,_,_,⟨b,_,b',pc,vs,q1,ns,ks,by rw[e4],rfl,rfl,k1,e3,by rw[e4];exact e1,by rw[e4];exact e2,hA.args⟩,⟨_,_,_,_,rfl,rfl,k2,k3⟩,k4,k5,k6,k7,hA.lent,k8,k9,k10,qy⟩
    .cases hf
   .cases hf
  .cases hf
 | .mut e::ps,xs,vs,A,hlen,hx,hl,aP,hf=>by
  simp only[Waj]at hf;split at hf
  .rename_i id xs;split at hf
   .rename_i e' ys aZ;split at hf
    .rename_i d A' h1 h2;injection hf with hf;subst hf;obtain⟨he,hd⟩:=Way h1;subst he;simp only at hd;subst hd
     match vs,hlen with
     |v::vs,hlen=>
      obtain⟨⟨_,hv⟩,_⟩:=hx 0 _ v rfl rfl;subst hv;obtain⟨n1,n2⟩:=Xai.1 aP;have aC:Live objs id:=⟨_,aZ,by simp⟩;have hown:OwnL w (TyRel G w e') e'.size (ν id) ys (φ id):=h.ob _ _ aZ;obtain⟨ns,ks,bx,hA⟩:=WaN h hg ps xs vs A' (by simpa using hlen) (λj y u hj hu=>hx (j+1) y u (by simpa using hj) (by simpa using hu)) hl n2 h2;refine⟨⟨ν id,φ id⟩::ns,ν id::ks,bx,⟨⟨ν id,φ id⟩,vs,ns,ks,rfl,rfl,rfl,WcZ hg (Same.refl _ w) (λ_ _ hh=>hh) hown,hA.args⟩,⟨id,_,ks,ys,rfl,rfl,aZ,hA.kept⟩,?_,λq hq=>?_,λp hp=>Xe _ (hA.bx p hp),λi hi=>?_,hA.lent,λi hi=>Xe _ (hA.mv i hi),λi hi=>?_,List.Sublist.cons_cons _ hA.sub,λi hi hm=>?_⟩
      .refine Wcp h (n1:=[⟨ν id,φ id⟩]) (m:=[id]) (List.pairwise_singleton _ _) hA.sep (λq hq=>?_) (λq hq b o hh=>Wjw b o (hA.tk q hq b o hh)) (λi hi hj=>n1 (by rw[←Xac.1 hi];exact hj));rw[Xac.1 hq];exact FromL.one (by simp) aC
      .rcases Xq.1 hq with rfl|hq
       .exactλb o hh=>⟨id,Xg ..,aC,hh,λp hp e=>Wi (by rw[←e];exact hA.bx p hp) n1⟩
       .exactλb o hh=>WlK (λi hi=>Xe _ hi) (λp hp=>.inl hp) b o (hA.tk q hq b o hh)
      .rcases Xq.1 hi with rfl|hi
       .exact aC
       .exact hA.live i hi
      .rcases Xq.1 hi with rfl|hi
       .exact .inr (Xg ..)
       .rcases hA.mvk i hi with hi|hi
        .exact .inl hi
        .exact .inr (Xe _ hi)
      .rcases Xq.1 hi with rfl|hi
       .exact n1 (hA.mv _ hm)
       .exact hA.dis i hi hm
    .cases hf
   .cases hf
  .cases hf
 | .clos g n::ps,xs,vs,A,hlen,hx,hl,aP,hf=>by
  simp only[Waj]at hf;split at hf
  .rename_i g' caps xs;split at hf
   .rename_i hc;obtain⟨rfl,hcl⟩:=hc;cases hA:Waj ps (Wkt caps++xs) objs with
    |none=>simp[hA]at hf
    |some A'=>
     simp only[hA,Xbz,Option.some.injEq]at hf;subst hf
     match vs,hlen with
     |v::vs,hlen=>
      obtain⟨⟨cvs,hv,hcv,rF⟩,_⟩:=hx 0 _ v rfl rfl;subst hv;obtain⟨ns,ks,bx,hAk⟩:=WaN h hg ps (Wkt caps++xs) (cvs++vs) A' (by simp[Wkt,hcv];simpa using hlen) (λj y u hj hu=>by
       rw[Xaw]at hj hu;simp only[Wkt,Xab]at hj;rw[hcv]at hu;split at hj
       .rename_i hlt;rw[Wb hlt]at hu;rw[Xas]at hj;obtain⟨id,bv,rfl⟩:=Xy.1 hj;obtain⟨h1,h3,h2⟩:=rF _ id u bv hu;exact⟨⟨h1,h2⟩,h3⟩
       .rename_i hlt;rw[Wa hlt]at hu;exact hx (j-caps.length+1) y u (by simpa using hj) (by simpa using hu)) hl aP hA
      refine⟨ns,ks,bx,⟨cvs,vs,rfl,by rw[hcv];exact hcl,λu hu=>?_,hAk.args⟩,hAk.kept,hAk.sep,hAk.tk,hAk.bx,hAk.live,hAk.lent,hAk.mv,hAk.mvk,hAk.sub,hAk.dis⟩;obtain⟨j,hj⟩:=Xdx hu;have hlt:j<caps.length:=by rw[←hcv];exact(Xad.1 hj).1
      exact(rF j _ u (Xp hlt) hj).2.1
   .cases hf
  .cases hf
 | .kv t agg::ps,xs,vs,A,hlen,hx,hl,aP,hf=>by
  simp only[Waj]at hf;split at hf
  .rename_i x xs;split at hf
   .rename_i d m r A' h1 h2;split at hf
    .rename_i gi;injection hf with hf;subst hf
     match vs,hlen with
     |v::vs,hlen=>
      cases hc:cellsOf agg x with
      |none=>simp[hc]at h1
      |some cs=>
       simp[hc]at h1;obtain⟨n1,n2,n3⟩:=Xaj.1 aP;have be:Lent G' w φ objs r:=hl.mono (λi hi=>Xl _ hi);obtain⟨_,_,_,_,g4,g5⟩:=WlR h hg (hx 0 x v rfl rfl) be n1 hc h1;obtain⟨k1,k2⟩:=Wmu h hg (hx 0 x v rfl rfl) be hc h1 gi;obtain⟨ns,ks,bx,hA⟩:=WaN h hg ps xs vs A' (by simpa using hlen) (λj y u hj hu=>hx (j+1) y u (by simpa using hj) (by simpa using hu)) (hl.mono (λi hi=>Xh _ hi)) n2 h2;have ka:kids (kp0 m++A'.kept)=m++kids A'.kept:=by simp only[kids,Xz];congr 1;exact Wij m
       have gp:∀q∈pcs ν φ m,CS.le q.fp (FromL φ objs m):=λq hq=>by
        obtain⟨i,hi,rfl⟩:=Xw.1 hq;exact FromL.one hi (g4 i hi)
       have gs:Sep (fps (pcs ν φ m)):=by
        rw[Wo7];refine List.pairwise_map.2 (n1.imp_of_mem λ{i j} hi hj hne=>?_)
        exactλb o h1 h2=>hne (h.inj i j b o (g4 i hi) (g4 j hj) h1 h2)
       refine⟨pcs ν φ m++ns,m.map ν++ks,bx,⟨v,vs,pcs ν φ m,ns,ks,rfl,rfl,by rw[Wwo],k1,hA.args⟩,⟨m,A'.kept,ks,rfl,rfl,k2,hA.kept⟩,Wcp h gs hA.sep gp (λq hq b o hh=>Wjw b o (hA.tk q hq b o hh)) (λi hi hj=>n3 i hi i hj rfl),λq hq=>?_,λp hp=>Xh _ (hA.bx p hp),λi hi=>?_,λi hi=>?_,λi hi=>Xh _ (hA.mv i hi),λi hi=>?_,by rw[ka];exact List.Sublist.append (List.Sublist.refl _) hA.sub,λi hi hm=>?_⟩
       .rcases Xn.1 hq with hq|hq
        .exactλb o hh=>Wow (λi hi=>Xl _ hi) (λp hp hm=>n3 _ hm _ (hA.bx p hp) rfl) b o (gp q hq b o hh)
        .exactλb o hh=>WlK (λi hi=>Xh _ hi) (λp hp=>.inl hp) b o (hA.tk q hq b o hh)
       .rcases Xn.1 hi with hi|hi
        .exact g4 i hi
        .exact hA.live i hi
       .rcases Xn.1 hi with hi|hi
        .exact g5 i hi
        .exact hA.lent i hi
       .rw[ka];rcases Xn.1 hi with hi|hi
        .exact .inr (Xl _ hi)
        .rcases hA.mvk i hi with hi|hi
         .exact .inl hi
         .exact .inr (Xh _ hi)
       .rw[ka]at hi;rcases Xn.1 hi with hi|hi
        .exact n3 _ hi _ (hA.mv i hm) rfl
        .exact hA.dis i hi hm
    .cases hf
   .cases hf
  .cases hf
 | .rp t::ps,xs,vs,A,hlen,hx,hl,aP,hf=>by
  simp only[Waj]at hf;split at hf
  .rename_i id off xs;split at hf
   .rename_i cs aZ;split at hf
    .rename_i d r A' h1 h2;split at hf
     case isFalse=>cases hf
     rename_i uN;injection hf with hf;subst hf
     match vs,hlen with
     |v::vs,hlen=>
      obtain⟨ns,ks,bx,hA⟩:=WaN h hg ps xs vs A' (by simpa using hlen) (λj y u hj hu=>hx (j+1) y u (by simpa using hj) (by simpa using hu)) (hl.mono (λi hi=>Xe _ (Xh _ hi))) aP h2;obtain⟨⟨bv,b,bb,rfl⟩,_⟩:=hx 0 _ v rfl rfl;have aC:Live objs id:=⟨_,aZ,by simp⟩;obtain⟨b',us,hb',hrow,hmem,bz,eG⟩:WcG G ν nx w id (φ id) (.box cs):=h.ob _ _ aZ;rw[bb]at hb';injection hb' with hb';subst hb';obtain⟨q1,t1,t2,t3,t4,t5,_⟩:=Wal h hg t _ ((us.drop off).take t.size) d [] r ((bz.drop off).take _) (hl.mono (λi hi=>Xe _ (Xl _ hi))) Xcx h1;have uO:∀p∈q1,Froz G' w p.fp:=λp hp b o v hh=>by
       obtain⟨i,hi,_⟩:=t3 p hp b o hh;simp at hi
      have henc:Enc G' t.ro (WvQ t d) ((us.drop off).take t.size):=Wd7 (λ_ _ _ hh=>hh) t d _ q1 uO t1;have iv:=WE _ _ _ _ t1;have bW:off+t.size<=cs.length:=by
       have:=bz.1;rw[Xan,Xcy]at iv;have:=WbV t;omega
      have aM:WfD G' b ((ν id).off+off) ((us.drop off).take t.size):=λj v hj=>by
       have uP:j<t.size:=by have:=(Xad.1 hj).1;omega
       rw[Xbr,Wb uP,Xbq]at hj;have h3:=hmem _ v hj;rw[←Xay]at h3;exact hl id (Xg ..) aC b _ v (eG b _ ⟨rfl,by omega,by omega⟩) h3
      exact⟨ns,ks,bx,⟨b,(ν id).off+off,(us.drop off).take t.size,vs,rfl,((Wbf t d _ q1 uN).1 t1).1,aM,hA.args⟩,hA.kept,hA.sep,hA.tk,hA.bx,hA.live,λi hi=>by
       rcases Xq.1 hi with rfl|hi
       .exact aC
       .rcases Xn.1 hi with hi|hi
        .exact t5 i hi
        .exact hA.lent i hi,hA.mv,hA.mvk,hA.sub,hA.dis⟩
    .cases hf
   .cases hf
  .rename_i t' d' off xs;split at hf
   .rename_i d A' h1 h2;split at hf
    case isFalse=>cases hf
    rename_i uN;injection hf with hf;subst hf
    match vs,hlen with
    |v::vs,hlen=>
     obtain⟨ns,ks,bx,hA⟩:=WaN h hg ps xs vs A' (by simpa using hlen) (λj y u hj hu=>hx (j+1) y u (by simpa using hj) (by simpa using hu)) hl aP h2;obtain⟨⟨b,o,cs,rfl,e1,e2⟩,_⟩:=hx 0 _ v rfl rfl;have bz:=WaP (ν:=ν) (nx:=nx) t' d' cs e1;obtain⟨q1,t1,t2,t3,t4,t5,_⟩:=Wal h hg t _ ((cs.drop off).take t.size) d [] [] ((bz.drop off).take _) (λi hi=>by simp at hi) Xcx h1;exact⟨ns,ks,bx,⟨b,o+off,(cs.drop off).take t.size,vs,rfl,((Wbf t d _ q1 uN).1 t1).1,λj v hj=>by
      rw[Xbr]at hj;split at hj
      .rw[Xbq]at hj;rw[Xay];exact hg _ _ _ (e2 _ v hj)
      .simp at hj,hA.args⟩,hA.kept,hA.sep,hA.tk,hA.bx,hA.live,hA.lent,hA.mv,hA.mvk,hA.sub,hA.dis⟩
   .cases hf
  .cases hf
end
end Go.Sx
namespace Go.Sx
set_option linter.unusedVariables false
set_option linter.unusedSimpArgs false
theorem Wbq{G G':GH}{w:World}:∀(t:Ty) (d:t.den) (vs:List Value) (ns:List Pc),t.noRo=true->TyRel G w t d vs ns->TyRel G' w t d vs ns
 | .own e,_,_,_,hn,⟨pc,h1,h2,h3⟩=>⟨pc,h1,h2,Wh6 (λx c q hx=>WE e x c q hx) (Same.refl _ w) (λ_ _ hh=>hh) (λx c q _ hx=>Wbq e x c q hn hx) h3⟩
 | .prod a b,_,_,_,hn,⟨v1,v2,n1,n2,h1,h2,h3,h4⟩=>by
  simp only[Ty.noRo,Xi]at hn;exact⟨v1,v2,n1,n2,h1,h2,Wbq a _ _ _ hn.1 h3,Wbq b _ _ _ hn.2 h4⟩
 | .int _,_,_,_,_,h=>h
 | .bool,_,_,_,_,h=>h
 | .str,_,_,_,_,h=>h
 | .slice _,_,_,_,hn,_=>by simp[Ty.noRo]at hn
theorem Ws2{G G':GH}{w:World}{e:Ty}{nu:Nu}{xs:List e.den}{S:CS}(hn:e.noRo=true)(h:OwnL w (TyRel G w e) e.size nu xs S):OwnL w (TyRel G' w e) e.size nu xs S:=
 Wh6 (λx c q hx=>WE e x c q hx) (Same.refl _ w) (λ_ _ hh=>hh) (λx c q _ hx=>Wbq e x c q hn hx) h
theorem WfO{G G':GH}{w:World}{t:Ty}{d:t.den}{b o:Nat}{ns:List Pc}(hn:t.noRo=true)(h:WfA G w t d b o ns):WfA G' w t d b o ns:=by
 obtain⟨us,h1,h2,h3⟩:=h;exact⟨us,h1,h2,Wbq _ _ _ _ hn h3⟩
theorem WsL{G G':GH}{w:World}{t:Ty}{agg:Bool}{d:t.den}{v:Value}{ns:List Pc}(hn:t.noRo=true)(h:WjK G w t agg d v ns):WjK G' w t agg d v ns:=by
 unfold WjK at h⊢;split
 .rename_i ha;rw[Wb ha]at h;obtain⟨us,h1,h2⟩:=h;exact⟨us,h1,Wbq _ _ _ _ hn h2⟩
 .rename_i ha;rw[Wa ha]at h;exact Wbq _ _ _ _ hn h
theorem Wd3{G G':GH}{w:World}:∀(rs:List PTy) (d:Whi rs) (vs:List Value) (ns:List Pc),rs.all PTy.freshR=true->WgP G w rs d vs ns->WgP G' w rs d vs ns
 | [],_,_,_,_,h=>h
 | .v t agg::rs,d,vs,ns,hn,⟨v,vs',n1,n2,h1,h2,h3,h4⟩=>by
  simp only[Xci,Xi]at hn;exact⟨v,vs',n1,n2,h1,h2,WsL hn.1 h3,Wd3 rs _ _ _ hn.2 h4⟩
 | .box t::rs,d,vs,ns,hn,⟨b,o,vs',n1,n2,h1,h2,h3,h5⟩=>by
  simp only[Xci,Xi]at hn;exact⟨b,o,vs',n1,n2,h1,h2,WfO hn.1 h3,Wd3 rs _ _ _ hn.2 h5⟩
 | .mut _::_,_,_,_,_,h=>h.elim
 | .clos _ _::_,_,_,_,_,h=>h.elim
 | .kv _ _::_,_,_,_,_,h=>h.elim
 | .rp _::_,_,_,_,_,h=>h.elim
 | .vj t::rs,d,vs,ns,hn,⟨us,u,vs',n1,n2,h1,h0,h2,h3,h4⟩=>by
  simp only[Xci,Xi]at hn;exact⟨us,u,vs',n1,n2,h1,h0,h2,Wbq _ _ _ _ hn.1 h3,Wd3 rs _ _ _ hn.2 h4⟩
 | .boxal _ _::_,_,_,_,_,h=>h.elim
theorem Wa7{G G':GH}{w:World}:∀(ps:List PTy) (o:Wgg ps) (ks:List Nu) (kf:List CS) (ns:List Pc),ps.all PTy.fresh=true->WbI G w ps o ks kf ns->WbI G' w ps o ks kf ns
 | [],_,_,_,_,_,h=>h
 | .v _ _::ps,o,ks,kf,ns,hn,h=>by
  simp only[Xci,Xi]at hn;exact Wa7 ps o ks kf ns hn.2 h
 | .box t::ps,o,ks,kf,ns,hn,⟨b,off,ks',cT,n1,n2,h1,h2,h3,h4,h5⟩=>by
  simp only[Xci,Xi]at hn;exact⟨b,off,ks',cT,n1,n2,h1,h2,h3,WfO hn.1 h4,Wa7 ps _ _ _ _ hn.2 h5⟩
 | .mut e::ps,o,ks,kf,ns,hn,⟨pc,ks',cT,h1,h2,h3,h4⟩=>by
  simp only[Xci,Xi]at hn;exact⟨pc,ks',cT,h1,h2,Ws2 hn.1 h3,Wa7 ps _ _ _ _ hn.2 h4⟩
 | .clos _ _::ps,o,ks,kf,ns,hn,h=>by
  simp only[Xci,Xi]at hn;exact Wa7 ps o ks kf ns hn.2 h
 | .kv t _::ps,o,ks,kf,ns,hn,⟨n1,ks',cT,us,h1,h2,h3,h4⟩=>by
  simp only[Xci,Xi]at hn;exact⟨n1,ks',cT,us,h1,h2,Wbq _ _ _ _ hn.1 h3,Wa7 ps _ _ _ _ hn.2 h4⟩
 | .rp _::ps,o,ks,kf,ns,hn,h=>by
  simp only[Xci,Xi]at hn;exact Wa7 ps o ks kf ns hn.2 h
 | .vj _::_,_,_,_,_,_,h=>h.elim
 | .boxal t _::ps,o,ks,kf,ns,hn,⟨b,off,ks',cT,n1,n2,h1,h2,h3,h4,h5⟩=>by
  simp only[Xci,Xi]at hn;exact⟨b,off,ks',cT,n1,n2,h1,h2,h3,WfO hn.1 h4,Wa7 ps _ _ _ _ hn.2 h5⟩
theorem WeZ{objs:Wak}:∀(l:List Nat) (id:Nat),id∉l->look (kill objs l) id=look objs id
 | [],id,_=>rfl
 |i::l,id,h=>by
  simp only[kill];rw[WL,Wa (λe=>h (by rw[e];exact Xg ..))];exact WeZ l id λhm=>h (Xe _ hm)
theorem Wmn:∀{l:List CS},Sep l->∀{i j:Nat} {A B:CS} {b o:Nat},l[i]?=some A->l[j]?=some B->A b o->B b o->i=j
 | [],_,i,j,A,B,b,o,hi,_,_,_=>by simp at hi
 |C::l,hs,i,j,A,B,b,o,hi,hj,ha,hb=>by
  obtain⟨h1,h2⟩:=Xv.1 hs;cases i with
  |zero=>
   simp at hi;subst hi;cases j with
   |zero=>rfl
   |succ j=>
    simp at hj;exact(h1 B (Xax hj) b o ha hb).elim
  |succ i=>
   simp at hi;cases j with
   |zero=>
    simp at hj;subst hj;exact(h1 A (Xax hi) b o hb ha).elim
   |succ j=>
    simp at hj;rw[Wmn h2 hi hj ha hb]
section
variable{w0:World}{F:CS}{nt:Slots}{G0 G G':GH}{ν:Nat->Nu}{φ:Nat->CS}{objs:Wak}{nx:Nat}{st ae:St}{a:Act}{w w':World}{P:Program}{T:Tab}
theorem WqV{f g:Nat->Nu}:∀{l:List Nat},(∀i∈l,g i=f i)->l.map f=l.map g:=λ{l} h=>List.map_congr_left λi hi=>(h i hi).symm
theorem Wcr{ν':Nat->Nu}{bx:List (Nat×CS)}:∀(ps:List PTy) (ids:List Kp) (ks:List Nu),(∀i∈kids ids,ν' i=ν i)->KeptOk objs ν bx ps ids ks->KeptOk objs ν' bx ps ids ks
 | [],_,_,_,h=>h
 | .v _ _::ps,ids,ks,hn,h=>Wcr ps ids ks hn h
 | .box t::ps,ids,ks,hn,⟨k,bc,nu,ks',h1,h2,⟨cs,b,g1,g2,g3,g4,g5⟩,h4⟩=>by
  subst h1;have e:=hn k.id (Xg ..);exact⟨k,bc,nu,ks',rfl,h2,⟨cs,b,g1,g2,by rw[e];exact g3,by rw[e];exact g4,by rw[e];exact g5⟩,Wcr ps bc ks' (λi hi=>hn i (Xe _ hi)) h4⟩
 | .mut e::ps,ids,ks,hn,⟨id,bc,ks',ys,h1,h2,h3,h4⟩=>by
  subst h1;exact⟨id,bc,ks',ys,rfl,by rw[hn id (Xg ..)];exact h2,h3,Wcr ps bc ks' (λi hi=>hn i (Xe _ hi)) h4⟩
 | .clos _ _::ps,ids,ks,hn,h=>Wcr ps ids ks hn h
 | .kv t _::ps,ids,ks,hn,⟨i1,i2,ks',h1,h2,h3,h4⟩=>by
  subst h1;have ka:kids (kp0 i1++i2)=i1++kids i2:=by simp only[kids,Xz];congr 1;exact Wij i1
  rw[ka]at hn;exact⟨i1,i2,ks',rfl,by rw[h2,WqV (λi hi=>hn i (Xl _ hi))],h3,Wcr ps i2 ks' (λi hi=>hn i (Xh _ hi)) h4⟩
 | .rp _::ps,ids,ks,hn,h=>Wcr ps ids ks hn h
 | .vj _::_,_,_,_,h=>h.elim
 | .boxal t _::ps,ids,ks,hn,⟨k,bc,nu,ks',h1,h2,⟨cs,b,g1,g2,g3,g4,g5⟩,h4⟩=>by
  subst h1;have e:=hn k.id (Xg ..);exact⟨k,bc,nu,ks',rfl,h2,⟨cs,b,g1,g2,by rw[e];exact g3,by rw[e];exact g4,by rw[e];exact g5⟩,Wcr ps bc ks' (λi hi=>hn i (Xe _ hi)) h4⟩
theorem WtE(hr:Rel w0 F nt G0 G ν st a w):∀(l:List Operand) (xs:List AVal),evs st l=some xs->xs.length=l.length/\
  ∀(j:Nat) (x:AVal) (v:Value),xs[j]?=some x->(l.map a.eval)[j]?=some v->AValRel G ν st.nx x v
 | [],xs,h=>by simp[evs]at h;subst h;exact⟨rfl,λj x v hj=>by simp at hj⟩
 |o::l,xs,h=>by
  simp only[evs]at h;split at h
  .rename_i y ys h1 h2;injection h with h;subst h;obtain⟨h3,h4⟩:=WtE hr l ys h2;refine⟨by simp[h3],λj x v hj hv=>?_⟩;cases j with
   |zero=>simp at hj hv;subst hj hv;exact WQ hr o _ h1
   |succ j=>exact h4 j x v (by simpa using hj) (by simpa using hv)
  .simp at h
theorem Wuy{o:Oper}{c:Call}{f:Operand}{g:FuncId}{caps:List Value}(ho:o.op= .call c)(hc:c.callee= .value f)(hf:a.eval f= .func (.func g) #[] caps.toArray)(rG:WgC P g):
  (execOp a.eval o).run P w= .ok (.enter g (c.args.toList.map a.eval++caps).toArray) w:=by
 obtain⟨fn,h1,h2,h3⟩:=rG;obtain⟨callee,args,argTypes⟩:=c;simp only at hc;subst hc;have e:(#[]++args.map a.eval++caps.toArray)=(args.toList.map a.eval++caps).toArray:=by
  apply Array.ext';simp
 simp only[execOp,ho,resolve,Deferred.ofValue,hf,Sem.run_bind,Sem.run_pure,Result.andThen_ok,invoke,callFunc,run_program,h1,h2,h3,Xbh,Wau,e]
theorem Wuz{b o k:Nat}{vs us:List Value}(hm:Mem w b o vs)(hu:Mem w' b (o+k) us)(hk:k+us.length<=vs.length)(bo:∀j,j<vs.length->¬(k<=j/\j<k+us.length)->w'.cell? ⟨b,o+j,none⟩=w.cell? ⟨b,o+j,none⟩):
  Mem w' b o (vs.take k++us++vs.drop (k+us.length)):=λj v hj=>by
 have gd:∀v',vs[j]?=some v'->¬(k<=j/\j<k+us.length)->w'.cell? ⟨b,o+j,none⟩=some v':=λv' hv hn=>by
  rw[bo j (Xad.1 hv).1 hn];exact hm j v' hv
 have cw:(vs.take k).length=k:=by simp;omega
 rw[Xbo,Xaw,cw]at hj;split at hj
 .rename_i hlt;rw[Xbr,Wb hlt]at hj;exact gd v hj (by omega)
 .rw[Xaw]at hj;split at hj
  .have:=hu (j-k) v hj;rw[show o+j=o+k+(j-k) by omega];exact this
  .rw[Xbq,show k+us.length+(j-k-us.length)=j by omega]at hj;exact gd v hj (by omega)
theorem Wma{Γ:Ctx}(hΓ:Wfw P Γ)(hr:Rel w0 F nt G0 G ν st a w){o:Oper}(hd:∀d,o.dst=some d->nt.Ok d){c:Call}{f:Operand}{g:FuncId}{cvs:List Value}{xs:List AVal}{sg:Sig}{R:Type}{k:St->Option R}{r:R}
  (ho:o.op= .call c) (hc:c.callee= .value f) (rH:a.eval f= .func (.func g) #[] cvs.toArray) (nJ:look Γ g=some sg) (hlen:xs.length=(c.args.toList.map a.eval++cvs).length)
  (hargs:∀(j:Nat) (x:AVal) (v:Value),xs[j]?=some x->(c.args.toList.map a.eval++cvs)[j]?=some v->AValRel G ν st.nx x v)
  (h:WfF sg st xs (λx objs nx=>k (({env:=st.env,objs:=objs,nx:=nx}:St).put o.dst x))=some r) {K:Act->World->Prop} {Q:Exit->Act->World->Prop}
  (hK:∀ae a' w' G' ν',Rel w0 F nt G0 G' ν' ae a' w'->k ae=some r->K a' w'):o.wp P a w K Q:=by
 obtain⟨kc,iW⟩:=hΓ g sg nJ;unfold WfF at h;split at h
 .rename_i A hA;split at h
  .rename_i bq;simp only[Xi]at bq;obtain⟨⟨aP,lE⟩,tY⟩:=bq;have aP:=(Wfc _).1 aP;have lE:=Wnq lE;obtain⟨out,hrun,hk⟩:=sg.law' A.d _ r h;dsimp only at hk;obtain⟨φ,hφ⟩:=hr.h;have ga:=hφ.addG_le A.lent;have hG1w:=hφ.addG_w A.lent;obtain⟨ns,ks,bx,hO⟩:=WaN hφ ga sg.ps _ (c.args.toList.map a.eval++cvs) A hlen.symm hargs (λid bv hl=>(WiK _).mono (FromL.one bv hl)) aP hA;have hTk:∀b o,Of ns b o->Tk φ st.objs bx A.all b o:=λb o ⟨q,hq,hh⟩=>hO.tk q hq b o hh;have hfree:∀q∈ns,∀b off,q.fp b off->Wr0 G w (FromL φ st.objs A.lent) b off=none/\b<w.heap.size:=λq hq b off hh=>by
    obtain⟨i,hi,h1,h2,_⟩:=hO.tk q hq b off hh;refine⟨?_,hφ.bl i b off h1 h2⟩;rw[Wdk (λ⟨j,hj,h3,h4⟩=>by
     have:=hφ.inj i j b off h1 h3 h2 h4;subst this;exact lE _ hj hi)]
    exact hφ.gf i b off h1 h2
   have nK:=kc A.d out hrun _ w _ ns _ hO.args hO.sep hfree hG1w;unfold Oper.wp;rw[Wuy ho hc rH iW,Oper.upon_enter];refine nK.mono λe w' rI=>?_;obtain⟨rv,kf,ms,cD,G2,rfl,hA2⟩:=rI;simp only;have hG3:∃G3:GH,GLe G G3/\(∀b off v,G3 b off=some v->w'.cell? ⟨b,off,none⟩=some v)/\WgP G3 w' sg.rs out.2 rv cD/\WbI G3 w' sg.ps out.1 ks kf ms/\
     GExt w0.heap.size F G0 G3/\(∀S∈kf++fps (ms++cD),∀b off,S b off->G3 b off=none)/\(∀id b off,Live st.objs id->φ id b off->¬Tk φ st.objs bx A.all b off->G3 b off=none):=by
    by_cases hle:A.lent= []
    .have hGG:Wr0 G w (FromL φ st.objs A.lent)=G:=by
      rw[hle];funext b off;exact Wdk (λ⟨i,hi,_⟩=>by simp at hi)
     rw[hGG]at hA2;refine⟨G2,hA2.gx.le,hA2.g,hA2.res,hA2.outs,⟨λb o v hv=>hA2.gx.le b o v (hr.gx.le b o v hv),λb o v hv=>?_⟩,λS hS b off hh=>(hA2.own S hS b off hh).1,λid b off hl hp hn=>?_⟩
     .rcases hA2.gx.new b o v hv with h1|h1|h1
      .exact hr.gx.new b o v h1
      .exact .inr (.inl (Xco hφ.le.size h1))
      .obtain⟨i,hi,h2,h3,_⟩:=hTk b o h1;exact .inr (hφ.own i b o h2 h3)
     .cases hv:G2 b off with
      |none=>rfl
      |some v=>
       rcases hA2.gx.new b off v hv with h1|h1|h1
       .rw[hφ.gf id b off hl hp]at h1;cases h1
       .have:=hφ.bl id b off hl hp;omega
       .exact Wi (hTk b off h1) hn
    .have fD:sg.fresh=true:=by
      rcases Bool.or_eq_true_iff.1 tY with h1|h1
      .exact h1
      .exact Wi (by simpa using h1) hle
     unfold Sig.fresh at fD;simp only[Xi]at fD;refine⟨G,λ_ _ _ hh=>hh,λb o v hv=>hA2.g b o v (hA2.gx.le b o v (ga b o v hv)),Wd3 _ _ _ _ fD.1 hA2.res,Wa7 _ _ _ _ _ fD.2 hA2.outs,hr.gx,λS hS b off hh=>?_,λid b off hl hp _=>hφ.gf id b off hl hp⟩;cases hv:G b off with
     |none=>rfl
     |some v=>
      have:=hA2.gx.le b off v (ga b off v hv);rw[(hA2.own S hS b off hh).1]at this;cases this
   obtain⟨G3,uQ,uR,gT,rJ,uS,uT,uU⟩:=hG3;obtain⟨ν2,hν2⟩:∃ν2:Nat->Nu,ν2= λi=>if i<st.nx then ν i else((nus (ms++cD))[i-st.nx]?).getD ⟨none,0,0,0,0⟩:=⟨_,rfl⟩;obtain⟨φ2,hφ2⟩:∃φ2:Nat->CS,φ2= λi=>if i<st.nx then(λb o=>(∃(j:Nat) (S:CS),(kids A.kept)[j]?=some i/\kf[j]?=some S/\S b o)\/(φ i b o/\¬Tk φ st.objs bx A.all b o))else((fps (ms++cD))[i-st.nx]?).getD (λ_ _=>False):=⟨_,rfl⟩;have hνold:Ws7 st.nx ν ν2:=λi hi=>by rw[hν2];simp[hi]
   have hAt:At ν2 φ2 st.nx (ms++cD):=λj pc hj=>by
    have e1:(nus (ms++cD))[j]?=some pc.nu:=by unfold nus;rw[Xas,hj];rfl
    have e2:(fps (ms++cD))[j]?=some pc.fp:=by unfold fps;rw[Xas,hj];rfl
    rw[hν2,hφ2];simp only;rw[Wa (by omega),Wa (by omega),Xch,e1,e2];exact⟨rfl,rfl⟩
   have iX:∀i∈kids A.kept,i<st.nx:=λi hi=>hφ.lt i (hO.live i (hO.sub.subset hi));have lF:(kids A.kept).Nodup:=aP.sublist hO.sub;obtain⟨y9,za,eV⟩:=Wa4 (ν:=ν2) (φ:=φ2) (bx:=bx) st.objs sg.ps out.1 A.kept ks kf ms (kill st.objs A.moved) st.nx (st.nx+ms.length+cD.length) rJ (Wcr _ _ _ (λi hi=>hνold i (iX i hi)) hO.kept) hAt.left lF (λq hq=>by
    have kW:q.id∈kids A.kept:=Xaq hq;exact⟨iX _ kW,WeZ _ _ (hO.dis _ kW)⟩) (by omega)
   generalize hp:Wao sg.ps out.1 A.kept (kill st.objs A.moved) st.nx=p at*;obtain⟨uO,uV,zb⟩:=Wd5 (ν:=ν2) (φ:=φ2) sg.rs out.2 rv cD p.1 (st.nx+ms.length) (st.nx+ms.length+cD.length) gT (hAt.right rfl) (by omega);rw[y9]at hk;generalize hq:WbE sg.rs out.2 p.1 (st.nx+ms.length)=q at*;have gU:∀id ob,look q.2.1 id=some ob->ob≠ .dead->
     (st.nx<=id/\id<st.nx+ms.length+cD.length/\Wyb G3 ν2 φ2 w' (st.nx+ms.length+cD.length) id ob)\/
     (∃(j:Nat) (S:CS),(kids A.kept)[j]?=some id/\kf[j]?=some S/\WmR G3 ν2 w' st.objs bx (st.nx+ms.length+cD.length) id S ob)\/(look st.objs id=some ob/\id∉A.all):=λid ob hl cI=>by
    rcases uV id ob hl with⟨h1,h2,h3⟩|h1
    .exact .inl ⟨by omega,h2,h3⟩
    .rcases eV id ob h1 with⟨h2,h3,h4⟩|h2|⟨h2,h3⟩
     .exact .inl ⟨h2,by omega,.inl h4⟩
     .exact .inr (.inl h2)
     .obtain⟨h4,h5⟩:=WeH A.moved id ob h2 cI;exact .inr (.inr ⟨h4,λhm=>by rcases hO.mvk id hm with h6|h6;exact h5 h6;exact h3 h6⟩)
   have ar:∀id b off,Live q.2.1 id->φ2 id b off->
     (∃(pos:Nat) (S:CS),(kf++fps (ms++cD))[pos]?=some S/\S b off/\id=(if pos<kf.length then((kids A.kept)[pos]?).getD 0 else st.nx+(pos-kf.length)))\/
     (Live st.objs id/\φ id b off/\¬Tk φ st.objs bx A.all b off/\id<st.nx):=λid b off ⟨ob,hl,cI⟩ hp=>by
    have nL:id<st.nx->Live st.objs id:=λhlt=>by
     rcases gU id ob hl cI with⟨h1,_⟩|⟨j,S,h1,_⟩|⟨h1,_⟩
     .omega
     .exact hO.live id (hO.sub.subset (Xax h1))
     .exact⟨ob,h1,cI⟩
    rw[hφ2]at hp
    try simp only at hp
    by_cases hlt:id<st.nx
    .rw[Wb hlt]at hp;rcases hp with⟨j,S,h1,h2,h3⟩|⟨h1,h2⟩
     .left;have hj:j<kf.length:=(Xad.1 h2).1;refine⟨j,S,by rw[Xct hj];exact h2,h3,?_⟩;rw[Wb hj,h1];rfl
     .exact .inr ⟨nL hlt,h1,h2,hlt⟩
    .rw[Wa hlt]at hp;left;cases hS:(fps (ms++cD))[id-st.nx]? with
     |none=>rw[hS]at hp;exact hp.elim
     |some S=>
      rw[hS]at hp;refine⟨kf.length+(id-st.nx),S,by rw[Xcj (by omega),Xch];exact hS,hp,?_⟩;rw[Wa (by omega)];omega
   have hown:=hA2.own;have iw:∀{pos:Nat} {S:CS},(kf++fps (ms++cD))[pos]?=some S->S∈kf++fps (ms++cD):=λh=>Xax h;have hH:HR w0 F G3 ν2 φ2 q.2.1 (st.nx+ms.length+cD.length) w':={
    g:=uR
    ob:=λid ob hl=>by
     by_cases cI:ob= .dead
     .subst cI;trivial
     .rcases gU id ob hl cI with⟨h1,h2,⟨e,xs,rfl,h3⟩|⟨cs,b,us,rfl,h3,h4,h5,h6,h7⟩⟩|⟨j,S,h1,h2,h3⟩|⟨h1,h2⟩
      .exact h3
      .exact⟨b,us,h3,h4,h5,h6,h7⟩
      .have bv:id∈kids A.kept:=Xax h1;have hlt:=iX id bv;have aC:Live st.objs id:=hO.live id (hO.sub.subset bv);have hSφ:CS.le S (φ2 id):=λb o hh=>by
        rw[hφ2];(try simp only);rw[Wb hlt];exact .inl ⟨j,S,h1,h2,hh⟩
       rcases h3 with⟨kY,off,ds,b,us,g1,rfl,g2,g3,g4,g5,rfl,g6⟩|⟨e,ys,xs,g1,rfl,g2⟩
       .rw[hνold id hlt]at g3 g4 g6 hSφ;obtain⟨b',vs,e1,e2,e3,e4,e5⟩:WcG G ν st.nx w id (φ id) (.box kY):=hφ.ob _ _ g1;rw[g3]at e1;injection e1 with e1;subst e1;have cH:us.length=ds.length:=g5.1;have tR:vs.length=kY.length:=e4.1;have gj:∀o,(ν id).off<=o->o<(ν id).off+kY.length->¬((ν id).off+off<=o/\o<(ν id).off+off+ds.length)->φ id b o/\¬Tk φ st.objs bx A.all b o:=λo k1 k2 k3=>by
         have hφo:=e5 b o ⟨rfl,k1,k2⟩;refine⟨hφo,λ⟨i,hi,k4,k5,k6⟩=>?_⟩;have:=hφ.inj i id b o k4 aC k5 hφo;subst this;obtain⟨_,k7,k8⟩:=k6 _ g6 rfl;exact k3 ⟨k7,k8⟩
        refine⟨b,_,by rw[hνold id hlt];exact g3,by rw[hνold id hlt,Wfj g2];exact hA2.le.rows.row _ _ e2,?_,Wfr (e4.mono uQ hνold (by omega)) g5,?_⟩
        .rw[hνold id hlt];refine Wuz e3 g4 (by omega) (λj hj hn=>?_);obtain⟨k1,k2⟩:=gj ((ν id).off+j) (by omega) (by omega) (λ⟨k3,k4⟩=>hn ⟨by omega,by omega⟩);exact hA2.le.cell b _ (hφ.bl id b _ aC k1) (λnM=>k2 (hTk b _ nM))
        .rw[hνold id hlt,Wfj g2];intro b' o ⟨k0,k1,k2⟩;subst k0;by_cases gV:(ν id).off+off<=o/\o<(ν id).off+off+ds.length
         .exact hSφ b' o ⟨rfl,gV.1,gV.2⟩
         .rw[hφ2];(try simp only);rw[Wb hlt];exact .inr (gj o k1 k2 gV)
       .exact WcZ (λ_ _ _ hh=>hh) (Same.refl _ w') hSφ g2
      .have lw:Live st.objs id:=⟨ob,h1,cI⟩;have hlt:=hφ.lt id lw;have xj:∀b o,φ id b o->¬Tk φ st.objs bx A.all b o:=λb o hp ⟨i,hi,k1,k2,_⟩=>by
        have:=hφ.inj i id b o k1 lw k2 hp;subst this;exact h2 hi
       refine WdJ uQ (hA2.le.same (λb o nM hp=>xj b o hp (hTk b o nM)) (λb o hp=>hφ.bl id b o lw hp)) (λb o hp=>?_) hνold (by omega) hlt ob (hφ.ob id ob h1);rw[hφ2];(try simp only);rw[Wb hlt];exact .inr ⟨hp,xj b o hp⟩
    gf:=λid b off hl hp=>by
     rcases ar id b off hl hp with⟨pos,S,h1,h2,_⟩|⟨h1,h2,h3,_⟩
     .exact uT S (iw h1) b off h2
     .exact uU id b off h1 h2 h3
    inj:=λid bJ b off hl cg hp dC=>by
     have key:∀bJ,Live st.objs bJ->φ bJ b off->¬Tk φ st.objs bx A.all b off->∀(pos:Nat) (S:CS),(kf++fps (ms++cD))[pos]?=some S->S b off->False:=λbJ g1 g2 g3 pos S g4 g5=>by
      rcases(hown S (iw g4) b off g5).2.1 with g6|g6
      .exact g3 (hTk b off g6)
      .have:=hφ.bl bJ b off g1 g2;omega
     rcases ar id b off hl hp with⟨pos,S,h1,h2,he⟩|⟨h1,h2,h3,h4⟩<;>rcases ar bJ b off cg dC with⟨uW,S',jq,jt,lA⟩|⟨jq,jt,cS,h4'⟩
     .have:=Wmn hA2.sep h1 jq h2 jt;subst this;rw[he,lA]
     .exact(key bJ jq jt cS pos S h1 h2).elim
     .exact(key id h1 h2 h3 uW S' jq jt).elim
     .exact hφ.inj id bJ b off h1 jq h2 jt
    own:=λid b off hl hp=>by
     rcases ar id b off hl hp with⟨pos,S,h1,h2,_⟩|⟨h1,h2,h3,_⟩
     .rcases(hown S (iw h1) b off h2).2.1 with h5|h5
      .obtain⟨i,hi,h6,h7,_⟩:=hTk b off h5;exact hφ.own i b off h6 h7
      .exact .inl (Xco hφ.le.size h5)
     .exact hφ.own id b off h1 h2
    lt:=λid ⟨ob,hl,cI⟩=>by
     rcases gU id ob hl cI with⟨_,h2,_⟩|⟨j,S,h1,_⟩|⟨h1,h2⟩
     .exact h2
     .have:=iX id (Xax h1);omega
     .have:=hφ.lt id ⟨ob,h1,cI⟩;omega
    bl:=λid b off hl hp=>by
     rcases ar id b off hl hp with⟨pos,S,h1,h2,_⟩|⟨h1,h2,h3,_⟩
     .exact(hown S (iw h1) b off h2).2.2
     .exact Nat.lt_of_lt_of_le (hφ.bl id b off h1 h2) hA2.le.size
    le:=hφ.le.trans hA2.le (λb off nM=>by
     obtain⟨i,hi,h6,h7,_⟩:=hTk b off nM;exact hφ.own i b off h6 h7)}
   have hR:=hr.on uQ hνold (by omega) ⟨φ2,hH⟩ uS;have hR2:=hR.put (dst:=o.dst) hd (Wt2 zb);rw[uO]at hk;exact hK _ _ _ _ _ hR2 hk
  .cases h
 .cases h
theorem Wxe{Γ:Ctx}(hΓ:Wfw P Γ)(hr:Rel w0 F nt G0 G ν st a w){o:Oper}(hd:∀d,o.dst=some d->nt.Ok d){c:Call}{f:Operand}{g:FuncId}{caps:List Nat}{xs:List AVal}{sg:Sig}{R:Type}{k:St->Option R}{r:R}
  (ho:o.op= .call c) (hc:c.callee= .value f) (hf:ev st f=some (.s (.one (.clos g caps)))) (nN:evs st c.args.toList=some xs) (nJ:look Γ g=some sg)
  (h:WmK sg st (xs++Wkt caps) (λx objs nx=>k (({env:=st.env,objs:=objs,nx:=nx}:St).put o.dst x))=some r) {K:Act->World->Prop} {Q:Exit->Act->World->Prop}
  (hK:∀ae a' w' G' ν',Rel w0 F nt G0 G' ν' ae a' w'->k ae=some r->K a' w'):o.wp P a w K Q:=by
 obtain⟨⟨cvs,rH,hcl,hcv⟩,_⟩:=WQ hr f _ hf;obtain⟨iT,zc⟩:=WtE hr _ _ nN;have hlen:(xs++Wkt caps).length=(c.args.toList.map a.eval++cvs).length:=by simp[iT,Wkt,hcl]
 have hargs:∀(j:Nat) (x:AVal) (v:Value),(xs++Wkt caps)[j]?=some x->(c.args.toList.map a.eval++cvs)[j]?=some v->AValRel G ν st.nx x v:=λj x v hj hv=>by
  rw[Xaw]at hj hv;rw[Xab,←iT]at hv;split at hj
  .rename_i hlt;rw[Wb hlt]at hv;exact zc j x v hj hv
  .rename_i hlt;rw[Wa hlt]at hv;simp only[Wkt,Xas]at hj;cases hcj:caps[j-xs.length]? with
   |none=>simp[hcj]at hj
   |some id=>
    simp[hcj]at hj;subst hj;obtain⟨h1,h3,h2⟩:=hcv _ id v hcj hv;exact⟨⟨h1,h2⟩,h3⟩
 unfold WmK at h;cases tY:sg.fresh with
 |true=>
  rw[tY]at h;exact Wma hΓ hr hd ho hc rH nJ hlen hargs h hK
 |false=>
  rw[tY]at h;simp only[Wc]at h;split at h
  .rename_i A hA;split at h
   .exact Wma hΓ hr hd ho hc rH nJ hlen hargs h hK
   .obtain⟨G1,hz⟩:=hr.frz A.lent;refine Wma hΓ hz.rel hd ho hc rH nJ (by simpa using hlen) (λj x v hj hv=>?_) h hK;rw[Xas]at hj;obtain⟨y,hy,rfl⟩:=Xy.1 hj;exact hz.val y v (hargs j y v hy hv)
  .cases h
end
end Go.Sx
namespace Go.Sx
set_option linter.unusedVariables false
set_option linter.unusedSimpArgs false
section
variable{w0:World}{F:CS}{nt:Slots}{G0 G G':GH}{ν:Nat->Nu}{objs:Wak}{nx:Nat}{st ae:St}{a:Act}{w w':World}{P:Program}{T:Tab}{Γ:Ctx}
theorem Done.wp{o:Oper}{ae:St}(h:Done P w0 F nt G0 o a w ae){K:Act->World->Prop}{Q:Exit->Act->World->Prop}
  (hK:∀a' w' G' ν',Rel w0 F nt G0 G' ν' ae a' w'->K a' w'):o.wp P a w K Q:=by
 obtain⟨n,v,w',G',ν',h1,h2,h3⟩:=h;unfold Oper.wp;rw[h1];rcases h2 with rfl|⟨rfl,rfl⟩
 .exact hK _ _ _ _ h3
 .exact hK _ _ _ _ h3
theorem WnQ{t:TypeId}{x v:AVal}{ae:St}(h:Wc2 T st t x v=some ae):({env:=st.env,objs:=ae.objs,nx:=ae.nx}:St)=ae:=by
 unfold Wc2 at h;split at h
 .split at h
  .split at h
   .injection h with h;subst h;rfl
   .cases h
  .cases h
 .split at h
  .split at h
   .split at h
    .injection h with h;subst h;rfl
    .cases h
   .split at h
    .split at h
     .split at h
      .injection h with h;subst h;rfl
      .cases h
     .cases h
    .cases h
  .cases h
 .cases h
theorem WaW{R:Type}{c:Bool}{x:Option R}{r:R}(h:(bif c then x else none)=some r):c=true/\x=some r:=by
 cases c
 .cases h
 .exact⟨rfl,h⟩
theorem WbT{R:Type}{c:Prop}[Decidable c]{x:Option R}{r:R}(h:(if c then x else none)=some r):c/\x=some r:=by
 split at h
 .exact⟨by assumption,h⟩
 .cases h
theorem Wnk{e:Ty}{ps:List (Nat×AVal)}{R:Type}{k:KV R}{r:R}(h:Wdv st e ps k=some r):
  ∃x ds d m,ps= [(0,x)]/\Wg9 (Whv st.objs (Why e x) x)=some ds/\Waz e ds (WdY st.objs (Why e x))=some (d,m,[])/\WbA m=true/\
   k (.s (.one (.own st.nx))) ((st.nx,.arr e [d])::kill (WdY st.objs (Why e x)) m) (st.nx+1)=some r:=by
 match ps with
 | [p]=>
  simp only[Wdv]at h;obtain⟨hp,h⟩:=WbT h;split at h
  .rename_i ds fW;split at h
   .rename_i d m hf;obtain⟨aP,h⟩:=WbT h;exact⟨p.2,ds,d,m,by rw[←hp],fW,hf,aP,h⟩
   .cases h
  .cases h
 | []=>cases h
 |_::_::_=>cases h
theorem Woq(hT:Wap P T)(hr:Rel w0 F nt G0 G ν st a w){o:Oper}(hd:∀d,o.dst=some d->nt.Ok d){R:Type}{k:St->Option R}{r:R}
  (h:(match Wan T st o.op with|some (c,v)=>bif c then k (({env:=st.env,objs:=st.objs,nx:=st.nx}:St).put o.dst v)else none|none=>none)=some r)
  {K:Act->World->Prop} {Q:Exit->Act->World->Prop} (hK:∀ae a' w' G' ν',Rel w0 F nt G0 G' ν' ae a' w'->k ae=some r->K a' w'):o.wp P a w K Q:=by
 split at h
 .rename_i c v hp;obtain⟨rfl,h⟩:=WaW h;exact(Wue hT hr hd hp).wp λa' w' G' ν' bK=>hK _ _ _ _ _ bK h
 .cases h
theorem WsO(hT:Wap P T)(hΓ:Wfw P Γ)(hr:Rel w0 F nt G0 G ν st a w){o:Oper}(hd:∀d,o.dst=some d->nt.Ok d){A:List (Nat×An)}{R:Type}{k:St->Option R}{r:R}(h:rx1 T Γ A o st k=some r)
  {K:Act->World->Prop} {Q:Exit->Act->World->Prop} (hK:∀ae a' w' G' ν',Rel w0 F nt G0 G' ν' ae a' w'->k ae=some r->K a' w'):o.wp P a w K Q:=by
 unfold rx1 rxe at h;split at h
 .rename_i t ho;split at h
  .rename_i e n et hl;obtain⟨hc,h⟩:=WbT h;simp only[Xi]at hc;exact(Wl4 hT hr hd ho hl hc.1 hc.2).wp λa' w' G' ν' bK=>hK _ _ _ _ _ bK h
  .rename_i te _ hl;obtain⟨hc,h⟩:=WbT h;exact(WrA hT hr hd ho hl hc).wp λa' w' G' ν' bK=>hK _ _ _ _ _ bK h
  .cases h
 .rename_i t x ho;split at h
  .rename_i te cs hl hb;cases hv:ev st x with
   |none=>simp[hv]at hb
   |some v=>
    simp only[hv,Xc]at hb;exact(WvK hr hd ho hv hb).wp λa' w' G' ν' bK=>hK _ _ _ _ _ bK h
  .cases h
 .rename_i t parts ho;split at h
  .rename_i ty fs ps hl ch;obtain⟨hc,h⟩:=WbT h;split at h
   .rename_i cs hf;refine(Wq4 hT hr hd ho hl ch hf ?_).wp λa' w' G' ν' bK=>hK _ _ _ _ _ bK h;intro f hf;have:=Xag.1 hc f hf;split at this
    .rename_i te bB;exact⟨te,bB,this⟩
    .cases this
   .cases h
  .cases h
 .rename_i t n parts ho;split at h
  .rename_i ty et ps hl ch;split at h
   .rename_i te hle;split at h
    .rename_i e _;obtain⟨hc,h1⟩:=WbT h;clear h;simp only[Xi,Wh]at hc;obtain⟨⟨⟨hn,he⟩,hp⟩,hsz⟩:=hc;obtain⟨x,ds,d,m,rfl,fW,hf,aP,h⟩:=Wnk h1;clear h1;subst hn;have aP:=(Wc1 _).1 aP;obtain⟨G1,hz⟩:=hr.frz (Why e x);obtain⟨p1,p2⟩:=WgI hr _ _ ch;have eF:∃y,parts.toList= [(0,y)]/\AValRel G ν st.nx x (a.eval y):=by
      match gK:parts.toList,p1 with
      | [q],_=>
       rw[gK]at p2;obtain⟨q1,q2⟩:=p2 0 _ q rfl rfl;refine⟨q.2,?_,q2⟩;have:q=(0,q.2):=Prod.ext q1.symm rfl;rw[←this]
     obtain⟨y,zd,ze⟩:=eF;exact(WnH hT hz.rel hd ho zd hl hle (hz.val _ _ ze) fW hf aP he hp hsz).wp λa' w' G' ν' bK=>hK _ _ _ _ _ bK h
    split at h
    .rename_i xs hf;obtain⟨hc,h⟩:=WbT h;simp only[Xi,Wh]at hc;obtain⟨G1,hz⟩:=hr.frz (WkO ps);obtain⟨p1,p2⟩:=WgI hr _ _ ch;exact(Wi6 hT hz.rel hd ho hl hle (by simpa [Wlp]using p1) (λj p q hp hq=>by
      simp only[Wlp,Xas]at hp;obtain⟨y,hy,rfl⟩:=Xy.1 hp;exact⟨(p2 j y q hy hq).1,hz.val _ _ (p2 j y q hy hq).2⟩) hf hc.1.1 hc.1.2 hc.2).wp λa' w' G' ν' bK=>hK _ _ _ _ _ bK h
    .cases h
   .cases h
  .cases h
 .rename_i t n c ho;split at h
  .rename_i ty et n' c' hl hn hc;split at h
   .rename_i te hle;obtain⟨k1,lh⟩:∃k,a.eval n= .int k n':=by
     cases hv:ev st n with
     |none=>simp[hv]at hn
     |some v=>simp only[hv,Xc]at hn;exact WfW _ _ _ (WQ hr n _ hv) hn
    obtain⟨k2,gR⟩:∃k,a.eval c= .int k c':=by
     cases hv:ev st c with
     |none=>simp[hv]at hc
     |some v=>simp only[hv,Xc]at hc;exact WfW _ _ _ (WQ hr c _ hv) hc
    split at h
    .obtain⟨lG,h⟩:=WbT h;obtain⟨hb,h⟩:=WaW h;simp only[Xi,Wh]at hb lG;exact(Wi0 hT hr hd ho hl hle lh gR hb.1.1 hb.1.2 hb.2 lG.1 lG.2).wp λa' w' G' ν' bK=>hK _ _ _ _ _ bK h
    .obtain⟨lG,h⟩:=WbT h;obtain⟨hb,h⟩:=WaW h;simp only[Xi,Wh]at hb lG;exact(WjC hT hr hd ho hl hle lh gR hb.1.1 hb.1.2 hb.2 lG.1 lG.2).wp λa' w' G' ν' bK=>hK _ _ _ _ _ bK h
   .cases h
  .cases h
 .rename_i t x y ho;split at h
  .rename_i p v hp hv;split at h
   .rename_i ae hs;split at h
    .rename_i iU;have h:k (({env:=st.env,objs:=ae.objs,nx:=ae.nx}:St).put o.dst (.tup []))=some r:=h;obtain⟨G1,hz⟩:=hr.frz (Wf9 st.objs p v);have bo:=WnQ hs;simp only at bo;rw[bo,iU]at h;exact(WqP hT hz.rel ho iU (AValRel.mono hz.le (λ_ _=>rfl) (Xm _) _ _ (WQ hr x _ hp)) (hz.val _ _ (WQ hr y _ hv)) hs).wp λa' w' G' ν' bK=>hK _ _ _ _ _ bK h
    .cases h
   .cases h
  .cases h
 .rename_i t x lo hi ho;split at h
  .rename_i id hx;split at h
   .rename_i ty et l hh hl aZ qz;split at h
    .rename_i te hle;split at h
     .obtain⟨hp,h⟩:=WbT h;obtain⟨ae,hk,fj⟩:=Wt3 hT hr hd ho hx hl hle hp aZ qz h;exact fj.wp λa' w' G' ν' bK=>hK _ _ _ _ _ bK hk
     .split at h
      .rename_i h' e xs _ aw;obtain⟨⟨he,hp⟩,h⟩:=WbT h;obtain⟨hb,h⟩:=WaW h;simp only[Xi,Wh]at hb;exact(WqO hT hr hd ho hx hl hle hp he aw aZ qz hb.1 hb.2).wp λa' w' G' ν' bK=>hK _ _ _ _ _ bK h
      .rename_i h' e xs i p _ aw;obtain⟨⟨he,hp,uL⟩,h⟩:=WbT h;obtain⟨hb,h⟩:=WaW h;simp only[Xi,Wh]at hb;exact(WjA hT hr hd ho hx hl hle hp he aw uL aZ qz hb.1.1 hb.1.2 hb.2).wp λa' w' G' ν' bK=>hK _ _ _ _ _ bK h
      .cases h
    .cases h
   .cases h
  .rename_i hx;exact Woq hT hr hd (by rw[ho];rw[ho]at h;exact h) hK
 .rename_i c ho;split at h
  .rename_i s x t t2 hc ha dg;split at h
   .rename_i sv xv hs hx;obtain⟨ae,hk,fj⟩:=Woy hT hr hd ho hc ha dg hs hx h;exact fj.wp λa' w' G' ν' bK=>hK _ _ _ _ _ bK hk
   .cases h
  .rename_i x t hc ha dg;split at h
   .rename_i id lo hi hx;split at h
    .rename_i ty et e xs hl aw;split at h
     .rename_i te hle;obtain⟨⟨he,hp,aV⟩,h⟩:=WbT h;exact(WrO hT hr hd ho hc ha dg hx hl hle aw he hp aV).wp λa' w' G' ν' bK=>hK _ _ _ _ _ bK h
     .cases h
    .cases h
   .cases h
  .exact Woq hT hr hd h hK
  .rename_i f args _ hc;split at h
   .rename_i g caps xs hf nN;split at h
    .rename_i sg nJ;exact Wxe hΓ hr hd ho hc hf nN nJ h hK
    .cases h
   .cases h
  .cases h
 .exact Woq hT hr hd h hK
end
end Go.Sx
namespace Go.Sx
set_option linter.unusedVariables false
set_option linter.unusedSimpArgs false
section
variable{w0:World}{F:CS}{nt:Slots}{G0 G G':GH}{ν ν':Nat->Nu}{φ φ':Nat->CS}{objs objs':Wak}{nx ah:Nat}{st ae:St}{a:Act}{w w':World}{P:Program}{T:Tab}{Γ:Ctx}
theorem Rel.rebind(h:Rel w0 F nt G0 G ν st a w){i:Nat}{x:AVal}{v:Value}(hv:a.tmps[i]?=some v)(hx:AValRel G ν st.nx x v):Rel w0 F nt G0 G ν (st.put (some i) x) a w:=
 ⟨h.defers,h.ntm,h.par,λj y hy=>by
  simp only[St.put]at hy;rw[WL]at hy;split at hy
  .rename_i e;subst e;injection hy with hy;subst hy;exact⟨v,hv,hx⟩
  .exact h.env j y hy,h.h,h.gx⟩
theorem CellsRel.set{cs:List Cell}{vs:List Value}(h:CellsRel G ν nx cs vs){off:Nat}{c:Cell}(hc:∀v,vs[off]?=some v->CellRel G ν nx c v):CellsRel G ν nx (cs.set off c) vs:=by
 refine⟨by simp[h.1],λj d v hd hv=>?_⟩;rw[List.getElem?_set]at hd;split at hd
 .rename_i e;subst e;split at hd
  .rename_i hlt;injection hd with hd;subst hd;exact⟨hc v hv,(h.2 off cs[off] v (Xp hlt) hv).2⟩
  .cases hd
 .exact h.2 j d v hd hv
theorem HRel.mk_box(h:HRel w0 F G ν objs nx w){id:Nat}{cs cs':List Cell}(ho:look objs id=some (.box cs))(hl:cs'.length=cs.length)
  (hc:∀vs,CellsRel G ν nx cs vs->CellsRel G ν nx cs' vs):HRel w0 F G ν ((id,.box cs')::objs) nx w:=by
 obtain⟨φ,h⟩:=h;have aC:Live objs id:=⟨_,ho,by simp⟩;obtain⟨b,vs,h1,h2,h3,h4,h5⟩:WcG G ν nx w id (φ id) (.box cs):=h.ob _ _ ho;exact⟨_,h.put (ν':=ν) (m:=[]) (λ_ _=>rfl) (Xm _) (h.lt id aC) (WLe.refl _ w) (λb o hh=>.inl ⟨id,.inl rfl,aC,hh⟩) (λ_=>⟨b,vs,h1,by rw[hl];exact h2,h3,hc _ h4,by rw[hl];exact h5⟩)⟩
theorem HRel.empt(h:HRel w0 F G ν objs nx w){id:Nat}{e e':Ty}(ho:look objs id=some (.arr e' []))(hs:e.size=e'.size):HRel w0 F G ν ((id,.arr e [])::objs) nx w:=by
 obtain⟨φ,h⟩:=h;have aC:Live objs id:=⟨_,ho,by simp⟩;have aw:WcG G ν nx w id (φ id) (.arr e' []):=h.ob _ _ ho;have aw:OwnL w (TyRel G w e') e'.size (ν id) [] (φ id):=aw;refine⟨_,h.put (ν':=ν) (m:=[]) (λ_ _=>rfl) (Xm _) (h.lt id aC) (WLe.refl _ w) (λb o hh=>.inl ⟨id,.inl rfl,aC,hh⟩) (λ_=>?_)⟩;show OwnL w (TyRel G w e) e.size (ν id) [] (φ id);rw[hs];unfold OwnL at*;refine⟨aw.1,aw.2.1,?_⟩;have h3:=aw.2.2;cases hb:(ν id).blk with
 |none=>rfl
 |some b=>
  rw[hb]at h3;obtain⟨a1,a2,a3,cs,ps,a4,a5,a6,a7⟩:=h3;exact⟨a1,a2,a3,cs,ps,by simpa [EncP]using a4,a5,a6,a7⟩
theorem HRel.adopt(h:HRel w0 F G ν objs nx w)(e:Ty):HRel w0 F G (upd ν nx ⟨none,0,0,0,e.size⟩) ((nx,.arr e [])::objs) (nx+1) w:=by
 obtain⟨φ,h⟩:=h;refine⟨_,h.put (m:=[]) (S:=λ_ _=>False) (WfG ν nx _) (Xdh _) (Xbv _) (WLe.refl _ w) (λb o hh=>hh.elim) (λ_=>?_)⟩;show OwnL _ _ _ (upd ν nx ⟨none,0,0,0,e.size⟩ nx) _ _;rw[WbD];exact⟨rfl,rfl,rfl⟩
theorem Wkz(e:Ty):CellRel G (upd ν nx ⟨none,0,0,0,e.size⟩) (nx+1) (.own nx) (.slice none 0 0):=
 ⟨Xbv _,by rw[WbD];rfl⟩
theorem HRel.solo(h:HRel w0 F G ν objs nx w){id lo hi:Nat}{e:Ty}{xs:List e.den}(ho:look objs id=some (.arr e xs))(h1:lo<=hi)(h2:hi<=(ν id).len):
  HRel w0 F G (upd ν nx ((ν id).part lo hi)) ((nx,.arr e ((xs.take hi).drop lo))::(id,.dead)::objs) (nx+1) w:=by
 obtain⟨φ,h⟩:=h;have aC:Live objs id:=⟨_,ho,by simp⟩;have hown:OwnL w (TyRel G w e) e.size (ν id) xs (φ id):=h.ob _ _ ho;refine⟨_,h.put (m:=[id]) (S:=φ id) (WfG ν nx _) (Xdh _) (Xbv _) (WLe.refl _ w) (λb o hh=>.inl ⟨id,.inr (by simp),aC,hh⟩) (λ_=>?_)⟩;show OwnL _ _ _ (upd ν nx ((ν id).part lo hi) nx) _ _;rw[WbD];exact Wm6 hown h1 h2
theorem Wnj{id lo hi:Nat}:CellRel G (upd ν nx ((ν id).part lo hi)) (nx+1) (.own nx) ((ν id).vhdr lo hi):=
 ⟨Xbv _,by rw[WbD,Wlz]⟩
theorem Wpu(h:Rel w0 F nt G0 G ν st a w){p:Nat}(hg:Woe st p=some ae):Rel w0 F nt G0 G ν ae a w:=by
 unfold Woe at hg;split at hg
 .rename_i r _;split at hg
  .rename_i e xs i p' cs aZ fS;split at hg
   .rename_i d m hf;split at hg
    .rename_i bq;injection hg with hg;subst hg;simp only[Xi]at bq;obtain⟨hp,aP⟩:=bq;have hp:=Xcl hp;subst hp;have aP:=(Wc1 _).1 aP;obtain⟨n1,n2⟩:=Xai.1 aP;obtain⟨n3,n4⟩:=Xai.1 n2;obtain⟨φ,hφ⟩:=h.h;have aC:Live st.objs r:=⟨_,aZ,by simp⟩;have eh:Live st.objs p:=⟨_,fS,by simp⟩;obtain⟨lv,hole⟩:p<st.nx/\Wh0 w (TyRel G w e) e.size (ν r) (ν p) xs i (φ r):=hφ.ob _ _ aZ;obtain⟨b,us,hb,hrow,hmem,bz,eG⟩:WcG G ν st.nx w p (φ p) (.box cs):=hφ.ob _ _ fS;obtain⟨ns,t1,t2,t3,t4,_⟩:=Wal (G':=G) hφ (λ_ _ _ hh=>hh) e cs us d m [] bz (λi hi=>by simp at hi) n4 hf;have cH:=WE _ _ _ _ t1;rw[←bz.1,cH]at eG;have hne:r≠p:=λe=>n1 (by rw[e];exact Xg ..);refine h.on (λ_ _ _ hh=>hh) (λ_ _=>rfl) (Xm _) ⟨_,hφ.put (ν':=ν) (S:=λb o=>φ r b o\/FromL φ st.objs (p::m) b o) (λ_ _=>rfl) (Xm _) (hφ.lt r aC) (WLe.refl _ w) (λb o hh=>?_) (λ_=>?_)⟩ h.gx
     .rcases hh with hh|⟨j,hj,h1,h2⟩
      .exact .inl ⟨r,.inl rfl,aC,hh⟩
      .exact .inl ⟨j,.inr hj,h1,h2⟩
     .refine WpI hole t1 hb hmem eG t2 t3 ?_ ?_ ?_ (λb o hh=>.inl hh) (λb o hh=>.inr ⟨p,Xg ..,eh,hh⟩) (λb o hh=>.inr (FromL.mono (λi hi=>Xe _ hi) b o hh))
      .exactλb o h1 h2=>hne (hφ.inj r p b o aC eh h1 h2)
      .exactλb o h1 ⟨j,hj,h2,h3⟩=>by
        have:=hφ.inj r j b o aC h2 h1 h3;subst this;exact n1 (Xe _ hj)
      .exactλb o h1 ⟨j,hj,h2,h3⟩=>by
        have:=hφ.inj p j b o eh h2 h1 h3;subst this;exact n3 hj
    .cases hg
   .cases hg
  .cases hg
 .cases hg
theorem Wj4(h:Rel w0 F nt G0 G ν st a w){r i:Nat}{e:Ty}{xs:List e.den}(aZ:look st.objs r=some (.arr e xs))(hi:i<xs.length)(hg:WnS st r i=some ae):
  ∃ν' b,Rel w0 F nt G0 G ν' ae a w/\st.nx<ae.nx/\(ν r).blk=some b/\(ν' st.nx)=Wcb b ((ν r).off+i*(ν r).esz)/\ae.env=st.env:=by
 unfold WnS at hg;rw[aZ]at hg;simp only[Option.some.injEq]at hg;subst hg;obtain⟨φ,hφ⟩:=h.h;have aC:Live st.objs r:=⟨_,aZ,by simp⟩;have hown:OwnL w (TyRel G w e) e.size (ν r) xs (φ r):=hφ.ob _ _ aZ;obtain⟨g1,g2,g3⟩:=hown;have uX:=hφ.lt r aC;cases hb:(ν r).blk with
 |none=>simp only[hb]at g3;rw[g3]at hi;simp at hi
 |some b=>
  simp only[hb]at g3;obtain⟨g4,g5,g6,cs,ps,g7,g8,g9,tQ⟩:=g3;obtain⟨c1,c,c2,p1,pc,p2,k1,k2,k3,k4,k5⟩:=Wos g7 e.dflt hi;have l1:=Wbc (λx c q hx=>WE e x c q hx) _ _ _ k3;rw[Xan,Xcc (by omega)]at l1;have lc:=WE _ _ _ _ k4;have lo:=W8 _ _ _ _ k4;have e1:(i+1)*e.size=i*e.size+e.size:=Xcf i e.size;have e2:((ν r).cap-(i+1))*e.size+(i+1)*e.size=(ν r).cap*e.size:=by rw[←Xcu];congr 1;omega
  have rK:=WaZ e (xs.getD i e.dflt) (st.nx+1);have cH:=Wcj e (xs.getD i e.dflt) (st.nx+1);rw[k1]at g8;have m1:Mem w b (ν r).off c1:=g8.left;have m2:Mem w b ((ν r).off+i*e.size) c:=(g8.right l1).left;have m3:Mem w b ((ν r).off+(i+1)*e.size) c2:=by
   have:=(g8.right l1).right lc;rw[Xay,←e1]at this;exact this
  obtain⟨q1,q2⟩:=Xv.1 g9;have ge:=tQ _ (Xg ..);have mI:∀p∈p1++(pc++p2),CS.le p.fp (φ r):=λp hp=>tQ _ (Xe _ (Xaq (by rw[k2];exact hp)));have qC:∀p∈p1++(pc++p2),CS.disj (rng b (ν r).off ((ν r).cap*e.size)) p.fp:=λp hp=>q1 _ (Xaq (by rw[k2];exact hp));rw[k2,Xz,Xz]at q2;obtain⟨s1,s2,s3⟩:=Xam.1 q2;obtain⟨s4,s5,s6⟩:=Xam.1 s2;have rA:CS.le (rng b (ν r).off (i*e.size)) (rng b (ν r).off ((ν r).cap*e.size)):=λb o ⟨x0,x1,x2⟩=>⟨x0,by omega,by omega⟩;have rB:CS.le (rng b ((ν r).off+i*e.size) e.size) (rng b (ν r).off ((ν r).cap*e.size)):=λb o ⟨x0,x1,x2⟩=>⟨x0,by omega,by omega⟩;have rC:CS.le (rng b ((ν r).off+(i+1)*e.size) (((ν r).cap-(i+1))*e.size)) (rng b (ν r).off ((ν r).cap*e.size)):=λb o ⟨x0,x1,x2⟩=>⟨x0,by omega,by omega⟩;obtain⟨SR,hSR⟩:∃SR:CS,SR= λb' o=>rng b (ν r).off (i*e.size) b' o\/rng b ((ν r).off+(i+1)*e.size) (((ν r).cap-(i+1))*e.size) b' o\/∃p∈p1++p2,p.fp b' o:=⟨_,rfl⟩;have hSRφ:CS.le SR (φ r):=λb o hh=>by
   rw[hSR]at hh;rcases hh with hh|hh|⟨p,hp,hh⟩
   .exact ge b o (rA b o hh)
   .exact ge b o (rC b o hh)
   .refine mI p ?_ b o hh;rcases Xn.1 hp with hp|hp
    .exact Xl _ hp
    .exact Xh _ (Xh _ hp)
  obtain⟨ν',hν'⟩:∃ν':Nat->Nu,ν'= λj=>if j<st.nx then ν j else if j=st.nx then Wcb b ((ν r).off+i*e.size)else((nus pc)[j-(st.nx+1)]?).getD ⟨none,0,0,0,0⟩:=⟨_,rfl⟩;obtain⟨φ',hφ'⟩:∃φ':Nat->CS,φ'= λj=>if j=r then SR else if j<st.nx then φ j else if j=st.nx then rng b ((ν r).off+i*e.size) e.size else((fps pc)[j-(st.nx+1)]?).getD (λ_ _=>False):=⟨_,rfl⟩;have hνold:Ws7 st.nx ν ν':=λj hj=>by rw[hν'];simp[hj]
  have hνp:ν' st.nx=Wcb b ((ν r).off+i*e.size):=by rw[hν'];simp
  have hφr:φ' r=SR:=by rw[hφ'];simp
  have hφp:φ' st.nx=rng b ((ν r).off+i*e.size) e.size:=by rw[hφ'];simp;omega
  have hφold:∀j,j<st.nx->j≠r->φ' j=φ j:=λj hj hn=>by rw[hφ'];simp[hj,hn]
  have hAt:At ν' φ' (st.nx+1) pc:=λj q hj=>by
   have x1:(nus pc)[j]?=some q.nu:=by unfold nus;rw[Xas,hj];rfl
   have x2:(fps pc)[j]?=some q.fp:=by unfold fps;rw[Xas,hj];rfl
   rw[hν',hφ'];constructor
   .show(if st.nx+1+j<st.nx then _ else if st.nx+1+j=st.nx then _ else _)=_;rw[Wa (by omega),Wa (by omega),Xch,x1];rfl
   .show(if st.nx+1+j=r then _ else if st.nx+1+j<st.nx then _ else if st.nx+1+j=st.nx then _ else _)=_;rw[Wa (by omega),Wa (by omega),Wa (by omega),Xch,x2];rfl
  obtain⟨uc,uo⟩:=Wax (ν:=ν') (φ:=φ') e (xs.getD i e.dflt) (st.nx+1) c pc k4 hAt;have gU:∀id ob,look ((r,Ob.hole e xs i st.nx)::(st.nx,Ob.box (unfold e (xs.getD i e.dflt) (st.nx+1)).1)::((unfold e (xs.getD i e.dflt) (st.nx+1)).2.1++st.objs)) id=some ob->ob≠ .dead->
    (id=r/\ob= .hole e xs i st.nx)\/(id=st.nx/\ob= .box (unfold e (xs.getD i e.dflt) (st.nx+1)).1)\/(st.nx+1<=id/\id<st.nx+1+e.owns/\WrC G ν' φ' w id ob)\/(id≠r/\id<st.nx/\look st.objs id=some ob):=λid ob hl hd=>by
   rw[WL]at hl;split at hl
   .rename_i x;injection hl with hl;exact .inl ⟨x.symm,hl.symm⟩
   .rename_i tS;rw[WL]at hl;split at hl
    .rename_i x;injection hl with hl;exact .inr (.inl ⟨x.symm,hl.symm⟩)
    .rcases WO hl with hl|hl
     .obtain⟨x1,x2,x3⟩:=uo id ob hl;exact .inr (.inr (.inl ⟨x1,x2,x3⟩))
     .exact .inr (.inr (.inr ⟨λx=>tS x.symm,hφ.lt id ⟨ob,hl,hd⟩,hl⟩))
  have fm:∀id b' o,Live ((r,Ob.hole e xs i st.nx)::(st.nx,Ob.box (unfold e (xs.getD i e.dflt) (st.nx+1)).1)::((unfold e (xs.getD i e.dflt) (st.nx+1)).2.1++st.objs)) id->φ' id b' o->
    (id=r/\SR b' o)\/(id=st.nx/\rng b ((ν r).off+i*e.size) e.size b' o)\/(∃(j:Nat) (q:Pc),id=st.nx+1+j/\pc[j]?=some q/\q.fp b' o)\/(id≠r/\id<st.nx/\Live st.objs id/\φ id b' o):=λid b' o ⟨ob,hl,hd⟩ hp=>by
   rcases gU id ob hl hd with⟨rfl,_⟩|⟨rfl,_⟩|⟨x1,x2,_⟩|⟨x1,x2,x3⟩
   .rw[hφr]at hp;exact .inl ⟨rfl,hp⟩
   .rw[hφp]at hp;exact .inr (.inl ⟨rfl,hp⟩)
   .right;right;left;have hlt:id-(st.nx+1)<pc.length:=by omega
    refine⟨id-(st.nx+1),pc[id-(st.nx+1)],by omega,Xp hlt,?_⟩;have:=(hAt (id-(st.nx+1)) _ (Xp hlt)).2;rw[show st.nx+1+(id-(st.nx+1))=id by omega]at this;rw[this]at hp;exact hp
   .rw[hφold id x2 x1]at hp;exact .inr (.inr (.inr ⟨x1,x2,⟨ob,x3,hd⟩,hp⟩))
  have hq:∀(j:Nat) (q:Pc),pc[j]?=some q->q∈p1++(pc++p2):=λj q hj=>Xh _ (Xl _ (Xax hj));have dT:∀id b' o,(id=r/\SR b' o)\/(id=st.nx/\rng b ((ν r).off+i*e.size) e.size b' o)\/(∃(j:Nat) (q:Pc),id=st.nx+1+j/\pc[j]?=some q/\q.fp b' o)->φ r b' o:=λid b' o hh=>by
   rcases hh with⟨_,hh⟩|⟨_,hh⟩|⟨j,q,_,hj,hh⟩
   .exact hSRφ b' o hh
   .exact ge b' o (rB b' o hh)
   .exact mI q (hq j q hj) b' o hh
  have hH:HR w0 F G ν' φ' ((r,Ob.hole e xs i st.nx)::(st.nx,Ob.box (unfold e (xs.getD i e.dflt) (st.nx+1)).1)::((unfold e (xs.getD i e.dflt) (st.nx+1)).2.1++st.objs)) (st.nx+1+e.owns) w:=by
   refine hφ.step (WLe.refl _ w) (λid ob hl hd=>?_) (λid ⟨ob,hl,hd⟩=>?_) (λid b' o fY hp=>?_) (λid b' o fY hp=>?_) (λid bJ b' o hl cg hp dC=>?_)
   .rcases gU id ob hl hd with⟨rfl,rfl⟩|⟨rfl,rfl⟩|⟨x1,x2,e',tZ,rfl,x3⟩|⟨x1,x2,x3⟩
    .refine⟨by omega,?_⟩;rw[hφr,hνold id uX,hνp];refine⟨g1,g2,hi,b,hb,rfl,rfl,g4,g5,g6,c1,c2,p1,p2,k3,k5,m1,m3,?_,λs hs b' o hh=>?_⟩
     .refine Xv.2 ⟨λs hs=>?_,Xv.2 ⟨λs hs=>?_,?_⟩⟩
      .rcases Xq.1 hs with rfl|hs
       .exact WvB (by omega)
       .obtain⟨p,hp,rfl⟩:=Xw.1 hs;refine(qC p ?_).mono rA (λ_ _ hh=>hh);rcases Xn.1 hp with hp|hp
        .exact Xl _ hp
        .exact Xh _ (Xh _ hp)
      .obtain⟨p,hp,rfl⟩:=Xw.1 hs;refine(qC p ?_).mono rC (λ_ _ hh=>hh);rcases Xn.1 hp with hp|hp
       .exact Xl _ hp
       .exact Xh _ (Xh _ hp)
      .rw[Xz];exact Xam.2 ⟨s1,s5,λs hs t ht=>s3 s hs t (Xh _ ht)⟩
     .rw[hSR];rcases Xq.1 hs with rfl|hs
      .exact .inl hh
      .rcases Xq.1 hs with rfl|hs
       .exact .inr (.inl hh)
       .obtain⟨p,hp,rfl⟩:=Xw.1 hs;exact .inr (.inr ⟨p,hp,hh⟩)
    .refine⟨b,c,by rw[hνp];rfl,?_,by rw[hνp];exact m2,uc _ (Xm _),?_⟩
     .rw[hνp,cH];obtain⟨row,TT,y1,y2⟩:=g6;exact⟨row,TT,y1,by show(ν r).off+i*e.size+e.size<=row.size;omega⟩
     .rw[hνp,cH,hφp];exactλ_ _ hh=>hh
    .exact x3
    .rw[hφold id x2 x1];exact WdJ (λ_ _ _ hh=>hh) (Same.refl _ w) (λ_ _ hh=>hh) hνold (by omega) x2 ob (hφ.ob id ob x3)
   .rcases gU id ob hl hd with⟨rfl,_⟩|⟨rfl,_⟩|⟨_,x2,_⟩|⟨_,x2,_⟩<;>omega
   .rcases fm id b' o fY hp with hh|hh|hh|⟨_,_,x3,x4⟩
    .exact .inl ⟨r,aC,dT id b' o (.inl hh)⟩
    .exact .inl ⟨r,aC,dT id b' o (.inr (.inl hh))⟩
    .exact .inl ⟨r,aC,dT id b' o (.inr (.inr hh))⟩
    .exact .inl ⟨id,x3,x4⟩
   .rcases fm id b' o fY hp with hh|hh|hh|⟨_,_,x3,x4⟩
    .exact hφ.bl r b' o aC (dT id b' o (.inl hh))
    .exact hφ.bl r b' o aC (dT id b' o (.inr (.inl hh)))
    .exact hφ.bl r b' o aC (dT id b' o (.inr (.inr hh)))
    .exact hφ.bl id b' o x3 x4
   .have out:∀bJ,bJ≠r->Live st.objs bJ->φ bJ b' o->φ r b' o->False:=λbJ y1 y2 y3 y4=>y1 (hφ.inj bJ r b' o y2 aC y3 y4);have dSP:SR b' o->∀s,(s=rng b ((ν r).off+i*e.size) e.size\/∃q∈pc,s=q.fp)->s b' o->False:=λy1 s y2 y3=>by
     rw[hSR]at y1;rcases y2 with rfl|⟨q,nO,rfl⟩
     .rcases y1 with y1|y1|⟨p,hp,y1⟩
      .obtain⟨z0,z1,z2⟩:=y1;obtain⟨z3,z4,z5⟩:=y3;omega
      .obtain⟨z0,z1,z2⟩:=y1;obtain⟨z3,z4,z5⟩:=y3;omega
      .refine qC p ?_ b' o (rB b' o y3) y1;rcases Xn.1 hp with hp|hp
       .exact Xl _ hp
       .exact Xh _ (Xh _ hp)
     .have rL:q∈p1++(pc++p2):=Xh _ (Xl _ nO);rcases y1 with y1|y1|⟨p,hp,y1⟩
      .exact qC q rL b' o (rA b' o y1) y3
      .exact qC q rL b' o (rC b' o y1) y3
      .rcases Xn.1 hp with hp|hp
       .exact s3 _ (Xaq hp) _ (Xl _ (Xaq nO)) b' o y1 y3
       .exact s6 _ (Xaq nO) _ (Xaq hp) b' o y3 y1
    have dPQ:∀(j:Nat) (q:Pc),pc[j]?=some q->rng b ((ν r).off+i*e.size) e.size b' o->q.fp b' o->False:=λj q hj y1 y2=>qC q (hq j q hj) b' o (rB b' o y1) y2;rcases fm id b' o hl hp with hh|hh|hh|⟨x1,x2,x3,x4⟩<;>rcases fm bJ b' o cg dC with eW|eW|eW|⟨uY,x2',ua,ub⟩
    .rw[hh.1,eW.1]
    .exact(dSP hh.2 _ (.inl rfl) eW.2).elim
    .obtain⟨j,q,_,hj,y⟩:=eW;exact(dSP hh.2 _ (.inr ⟨q,Xax hj,rfl⟩) y).elim
    .exact(out bJ uY ua ub (dT id b' o (.inl hh))).elim
    .exact(dSP eW.2 _ (.inl rfl) hh.2).elim
    .rw[hh.1,eW.1]
    .obtain⟨j,q,_,hj,y⟩:=eW;exact(dPQ j q hj hh.2 y).elim
    .exact(out bJ uY ua ub (dT id b' o (.inr (.inl hh)))).elim
    .obtain⟨j,q,_,hj,y⟩:=hh;exact(dSP eW.2 _ (.inr ⟨q,Xax hj,rfl⟩) y).elim
    .obtain⟨j,q,_,hj,y⟩:=hh;exact(dPQ j q hj eW.2 y).elim
    .obtain⟨j,q,bv,hj,y⟩:=hh;obtain⟨j',q',uZ,hj',y'⟩:=eW;have x1:(fps pc)[j]?=some q.fp:=by unfold fps;rw[Xas,hj];rfl
     have x2:(fps pc)[j']?=some q'.fp:=by unfold fps;rw[Xas,hj'];rfl
     have:=Wmn (l:=fps pc) s4 x1 x2 y y';rw[bv,uZ,this]
    .exact(out bJ uY ua ub (dT id b' o (.inr (.inr hh)))).elim
    .exact(out id x1 x3 x4 (dT bJ b' o (.inl eW))).elim
    .exact(out id x1 x3 x4 (dT bJ b' o (.inr (.inl eW)))).elim
    .exact(out id x1 x3 x4 (dT bJ b' o (.inr (.inr eW)))).elim
    .exact hφ.inj id bJ b' o x3 ua x4 ub
  refine⟨ν',b,?_,?_,rfl,by rw[hνp,g2],rfl⟩
  .have:=h.on (λ_ _ _ hh=>hh) hνold (by omega) ⟨φ',hH⟩ h.gx;rw[rK];exact this
  .show st.nx<(unfold e (xs.getD i e.dflt) (st.nx+1)).2.2;rw[rK];omega
end
end Go.Sx
namespace Go.Sx
set_option linter.unusedVariables false
set_option linter.unusedSimpArgs false
theorem Wdr:∀(l:List Nat) (i j:Nat),Wum i l=some j->l[j]?=some i
 | [],i,j,h=>by cases h
 |k::l,i,j,h=>by
  simp only[Wum]at h;split at h
  .rename_i hb;injection h with h;subst h;have:i=k:=by simpa using hb
   rw[this];rfl
  .cases hp:Wum i l with
   |none=>simp[hp]at h
   |some n=>
    simp[hp]at h;subst h;exact Wdr l i n hp
theorem Wkq{m:List Nat}:∀(l r:List Nat),WmL m l=some r->r.length=l.length/\∀(q j:Nat),r[q]?=some j->∃i,l[q]?=some i/\m[j]?=some i
 | [],r,h=>by simp[WmL]at h;subst h;exact⟨rfl,λq j hq=>by simp at hq⟩
 |i::l,r,h=>by
  simp only[WmL]at h;split at h
  .rename_i j r' h1 h2;injection h with h;subst h;obtain⟨h3,h4⟩:=Wkq l r' h2;refine⟨by simp[h3],λq j' hq=>?_⟩;cases q with
   |zero=>simp at hq;subst hq;exact⟨i,rfl,Wdr m i j h1⟩
   |succ q=>exact h4 q j' (by simpa using hq)
  .cases h
theorem Wci:∀(n:Nat) (todo acc:List Nat) (objs:Wak),acc.Nodup->(Wk6 n todo acc objs).Nodup
 |0,_,_,_,h=>h
 |n+1,[],acc,objs,h=>h
 |n+1,i::l,acc,objs,h=>by
  simp only[Wk6];split
  .exact Wci n l acc objs h
  .rename_i hi;have u0:i∉acc:=λhm=>hi ((WaY i acc).2 hm);have h2:(acc++ [i]).Nodup:=by
    rw[Xaj];refine⟨h,by simp,λx hx y hy=>?_⟩;simp at hy;subst hy
    exactλe=>u0 (e▸hx)
   split
   .exact Wci n _ _ objs h2
   .exact Wci n _ _ objs h2
   .exact Wci n _ _ objs h2
   .exact Wci n _ _ objs h
theorem WhC{m:List Nat}{objs:Wak}:∀(l:List Nat) (j0:Nat) (j:Nat) (ob:Ob),look (Wd9 m objs j0 l) j=some ob->∃i cC,j0<=j/\l[j-j0]?=some i/\look objs i=some cC/\ob=Wss m cC
 | [],j0,j,ob,h=>by cases h
 |i::l,j0,j,ob,h=>by
  simp only[Wd9]at h;have step:look (Wd9 m objs (j0+1) l) j=some ob->∃i' cC,j0<=j/\(i::l)[j-j0]?=some i'/\look objs i'=some cC/\ob=Wss m cC:=λh=>by
   obtain⟨i',cC,h1,h2,h3,h4⟩:=WhC l (j0+1) j ob h;refine⟨i',cC,by omega,?_,h3,h4⟩;rw[show j-j0=(j-(j0+1))+1 by omega];simpa using h2
  split at h
  .rename_i cC ho;rw[WL]at h;split at h
   .rename_i e;subst e;injection h with h;exact⟨i,cC,Xm _,by simp,ho,h.symm⟩
   .exact step h
  .exact step h
theorem WiU{env:List (Nat×AVal)}{f:AVal->AVal}:∀(l:List Nat) (i:Nat) (x:AVal),look ((Wf8 env l).map λp=>(p.1,f p.2)) i=some x->∃y,look env i=some y/\x=f y
 | [],i,x,h=>by cases h
 |j::l,i,x,h=>by
  simp only[Wf8]at h;split at h
  .rename_i y hy;simp only[Xae]at h;rw[WL]at h;split at h
   .rename_i e;subst e;injection h with h;exact⟨y,hy,h.symm⟩
   .exact WiU l i x h
  .exact WiU l i x h
section
variable{w0:World}{F:CS}{nt:Slots}{G0 G G':GH}{ν ν':Nat->Nu}{objs objs':Wak}{nx ah:Nat}{st ae:St}{a:Act}{w w':World}{P:Program}{T:Tab}{Γ:Ctx}
structure Ren(m:List Nat)(ν ν':Nat->Nu)(ah:Nat):Prop where
 nx:∀(i j:Nat),m[j]?=some i->j<ah
 nu:∀(i j:Nat),m[j]?=some i->ν' j=ν i
theorem CellRel.ren{m:List Nat}(hm:Ren m ν ν' ah):∀(c:Cell) (v:Value),CellRel G ν nx c v->CellRel G ν' ah (Wc6 m c) v
 | .val t d,v,h=>h
 | .nils,v,h=>h
 | .rptr t d off,v,h=>h
 | .junk,v,h=>h
 | .own id,v,h=>by
  simp only[Wc6];split
  .rename_i j hj;have hj:=Wdr _ _ _ hj;exact⟨hm.nx _ _ hj,by rw[hm.nu _ _ hj];exact h.2⟩
  .trivial
 | .vw id lo hi,v,h=>by
  simp only[Wc6];split
  .rename_i j hj;have hj:=Wdr _ _ _ hj;exact⟨hm.nx _ _ hj,by rw[hm.nu _ _ hj];exact h.2⟩
  .trivial
 | .aptr id,v,h=>by
  simp only[Wc6];split
  .rename_i j hj;have hj:=Wdr _ _ _ hj;exact⟨hm.nx _ _ hj,by rw[hm.nu _ _ hj];exact h.2⟩
  .trivial
 | .ptr id off,v,h=>by
  simp only[Wc6];split
  .rename_i j hj;have hj:=Wdr _ _ _ hj;exact⟨hm.nx _ _ hj,by rw[hm.nu _ _ hj];exact h.2⟩
  .trivial
 | .eptr id i off,v,h=>by
  simp only[Wc6];split
  .rename_i j hj;have hj:=Wdr _ _ _ hj;exact⟨hm.nx _ _ hj,by rw[hm.nu _ _ hj];exact h.2⟩
  .trivial
 | .clos f caps,v,h=>by
  simp only[Wc6];split
  .rename_i js hj;obtain⟨h1,h2⟩:=Wkq _ _ hj;obtain⟨vs,h3,h4,h5⟩:=h;refine⟨vs,h3,h4.trans h1.symm,λq id u hq hu=>?_⟩;obtain⟨i,h6,h7⟩:=h2 q id hq;obtain⟨h8,h9,cN⟩:=h5 q i u h6 hu;exact⟨hm.nx _ _ h7,h9,by rw[hm.nu _ _ h7];exact cN⟩
  .trivial
theorem CellsRel.ren{m:List Nat}(hm:Ren m ν ν' ah){cs:List Cell}{vs:List Value}(h:CellsRel G ν nx cs vs):CellsRel G ν' ah (cs.map (Wc6 m)) vs:=by
 refine⟨by simp[h.1],λj c v hc hv=>?_⟩;simp only[Xas]at hc;cases hd:cs[j]? with
 |none=>simp[hd]at hc
 |some d=>
  simp[hd]at hc;subst hc;obtain⟨h1,h2⟩:=h.2 j d v hd hv;exact⟨h1.ren hm,h2⟩
theorem AvRel.ren{m:List Nat}(hm:Ren m ν ν' ah):∀(x:AV) (v:Value),AvRel G ν nx x v->AvRel G ν' ah (Wxf m x) v
 | .one c,v,h=>⟨h.1.ren hm,h.2⟩
 | .agg cs,v,⟨vs,h1,h2⟩=>⟨vs,h1,h2.ren hm⟩
theorem AValRel.ren{m:List Nat}(hm:Ren m ν ν' ah):∀(x:AVal) (v:Value),AValRel G ν nx x v->AValRel G ν' ah (Wph m x) v
 | .s x,v,h=>AvRel.ren hm x v h
 | .tup xs,v,⟨vs,h1,h2,h3⟩=>⟨vs,h1,by simp[h2],λj x u hx hu=>by
  simp only[Xas]at hx;cases hd:xs[j]? with
  |none=>simp[hd]at hx
  |some d=>
   simp[hd]at hx;subst hx;exact AvRel.ren hm d u (h3 j d u hd hu)⟩
theorem Wtg(slots:List Nat)(h:Rel w0 F nt G0 G ν st a w):∃ν',Rel w0 F nt G0 G ν' (canon slots st) a w:=by
 obtain⟨m,hm⟩:∃m,m=Wk6 400 ((Wf8 st.env slots).flatMap λp=>Wbd p.2) [] st.objs:=⟨_,rfl⟩;have aP:m.Nodup:=by rw[hm];exact Wci _ _ _ _ (by simp)
 have nP:canon slots st={env:=(Wf8 st.env slots).map λp=>(p.1,Wph m p.2),objs:=Wd9 m st.objs 0 m,nx:=m.length}:=by rw[hm];rfl
 obtain⟨ν',hν'⟩:∃ν':Nat->Nu,ν'= λj=>ν ((m[j]?).getD 0):=⟨_,rfl⟩;have lb:∀(i j:Nat),m[j]?=some i->ν' j=ν i:=λi j hj=>by rw[hν'];simp[hj]
 have rM:∀(j:Nat) (ob:Ob),look (Wd9 m st.objs 0 m) j=some ob->∃i cC,m[j]?=some i/\look st.objs i=some cC/\ob=Wss m cC:=λj ob ho=>by
  obtain⟨i,cC,_,h2,h3,h4⟩:=WhC _ _ _ _ ho;exact⟨i,cC,by simpa using h2,h3,h4⟩
 have rN:Ren m ν ν' m.length:={
  nx:=λi j hj=>(Xad.1 hj).1
  nu:=lb}
 have cx:∀j,Live (Wd9 m st.objs 0 m) j->∃i,m[j]?=some i/\Live st.objs i:=λj ⟨ob,ho,hd⟩=>by
  obtain⟨i,cC,h1,h2,h3⟩:=rM j ob ho;refine⟨i,h1,cC,h2,λcZ=>hd ?_⟩;rw[h3,cZ];rfl
 rw[nP];refine⟨ν',h.defers,h.ntm,h.par,λi x hx=>?_,?_,h.gx⟩
 .obtain⟨y,h1,rfl⟩:=WiU _ _ _ hx;obtain⟨v,h2,h3⟩:=h.env i y h1;exact⟨v,h2,AValRel.ren rN y v h3⟩
 .obtain⟨φ,hφ⟩:=h.h;refine⟨λj=>φ ((m[j]?).getD 0),?_⟩;have mM:∀(i j:Nat),m[j]?=some i->φ ((m[j]?).getD 0)=φ i:=λi j hj=>by simp[hj]
  exact{
   g:=hφ.g
   ob:=λj ob ho=>by
    obtain⟨i,cC,h1,h2,rfl⟩:=rM j ob ho;have:=hφ.ob i cC h2;cases cC with
    |dead=>trivial
    |arr e xs=>
     show OwnL w (TyRel G w e) e.size (ν' j) xs (φ ((m[j]?).getD 0));rw[lb i j h1,mM i j h1];exact this
    |hole e xs k p=>
     simp only[Wss];split
     .rename_i q hq;have hq:=Wdr _ _ _ hq;obtain⟨g1,g2⟩:=this;show q<m.length/\Wh0 w (TyRel G w e) e.size (ν' j) (ν' q) xs k (φ ((m[j]?).getD 0));rw[lb i j h1,mM i j h1,lb p q hq];exact⟨(Xad.1 hq).1,g2⟩
     .trivial
    |box cs=>
     obtain⟨b,vs,h4,h5,h6,h7,h8⟩:=this;refine⟨b,vs,by rw[lb i j h1];exact h4,?_,by rw[lb i j h1];exact h6,h7.ren rN,?_⟩
     .rw[lb i j h1,Xab];exact h5
     .rw[lb i j h1,mM i j h1,Xab];exact h8
   gf:=λj b o hj hp=>by
    obtain⟨i,h1,h2⟩:=cx j hj;rw[mM i j h1]at hp;exact hφ.gf i b o h2 hp
   inj:=λj j' b o hj hj' hp dC=>by
    obtain⟨i,h1,h2⟩:=cx j hj;obtain⟨i',jq,jt⟩:=cx j' hj';rw[mM i j h1]at hp;rw[mM i' j' jq]at dC;have:=hφ.inj i i' b o h2 jt hp dC;subst this;have hlt:=(Xad.1 h1).1;exact(List.getElem?_inj hlt aP).1 (h1.trans jq.symm)
   own:=λj b o hj hp=>by
    obtain⟨i,h1,h2⟩:=cx j hj;rw[mM i j h1]at hp;exact hφ.own i b o h2 hp
   lt:=λj hj=>by
    obtain⟨i,h1,h2⟩:=cx j hj;exact(Xad.1 h1).1
   bl:=λj b o hj hp=>by
    obtain⟨i,h1,h2⟩:=cx j hj;rw[mM i j h1]at hp;exact hφ.bl i b o h2 hp
   le:=hφ.le}
theorem Wj6(h:Rel w0 F nt G0 G ν st a w){r:Nat}{ix:Option Nat}(hg:Wqz st r ix=some (true,ae)):∃ν',Rel w0 F nt G0 G ν' ae a w:=by
 unfold Wqz at hg;split at hg
 .rename_i c i lj;obtain⟨s,hs,hg⟩:=Xy.1 hg;simp only[Prod.mk.injEq]at hg;obtain⟨rfl,rfl⟩:=hg;have hlt:∃(e:Ty) (xs:List e.den),look st.objs r=some (.arr e xs)/\i<xs.length:=by
   unfold WvT at lj;split at lj
   .split at lj
    .rename_i e xs ho;simp only[Option.some.injEq,Prod.mk.injEq]at lj;obtain⟨h1,rfl⟩:=lj;obtain⟨h2,h3⟩:=WdX h1;exact⟨e,xs,ho,by omega⟩
    .cases lj
   .split at lj
    .rename_i e xs n ho hn;simp only[Option.some.injEq,Prod.mk.injEq]at lj;obtain⟨h1,rfl⟩:=lj;obtain⟨h2,h3⟩:=WdX h1;exact⟨e,xs,ho,by omega⟩
    .cases lj
  obtain⟨e,xs,ho,hlt⟩:=hlt;obtain⟨ν',b,h1,_⟩:=Wj4 h ho hlt hs;exact⟨ν',h1⟩
 .cases hg
theorem WnA{g:Ghost}(h:Rel w0 F nt G0 G ν st a w)(hg:WfX g st=some (true,ae)):∃G' ν',Rel w0 F nt G0 G' ν' ae a w:=by
 cases g with
 |canon slots=>
  simp only[WfX]at hg;injection hg with hg;injection hg with _ hg;subst hg;obtain⟨ν',h'⟩:=Wtg slots h;exact⟨G,ν',h'⟩
 |adopt slot e=>
  simp only[WfX]at hg;split at hg
  .rename_i hs;injection hg with hg;injection hg with _ hg;subst hg;obtain⟨v,hv,hr⟩:=h.env _ _ hs;have gy:v= .slice none 0 0:=hr.1;subst gy;have h2:=h.on (λ_ _ _ hh=>hh) (WfG ν st.nx _) (Xdh _) (h.h.adopt e) h.gx;exact⟨G,_,h2.rebind hv ⟨Wkz e,rfl⟩⟩
  .injection hg with hg;injection hg with _ hg;subst hg;exact⟨G,ν,h⟩
  .cases hg
 |freeze slot=>
  simp only[WfX]at hg;split at hg
  .rename_i id hs;split at hg
   .rename_i e xs ho;injection hg with hg;injection hg with _ hg;subst hg;obtain⟨G1,h1,h2,h3,h4⟩:=h.h.freezeL h.gx [id];obtain⟨v,hv,hr⟩:=h.env _ _ hs;have gy:v=(ν id).hdr:=hr.1.2;have h5:=h.on h1 (λ_ _=>rfl) (Xm _) h2 h3;exact⟨G1,ν,h5.rebind hv ⟨⟨v,rfl,gy▸h4 id (by simp) e xs ho⟩,hr.2⟩⟩
   .cases hg
  .cases hg
 |adoptC slot off e=>
  simp only[WfX]at hg;split at hg
  .rename_i id hs;split at hg
   .rename_i cs ho;split at hg
    .rename_i hc;injection hg with hg;injection hg with _ hg;subst hg;have hne:st.nx≠id:=λe=>by
      obtain⟨φ,hφ⟩:=h.h;have:=hφ.lt id ⟨_,ho,by simp⟩;omega
     have h2:=h.h.adopt e;have lD:look ((st.nx,Ob.arr e [])::st.objs) id=some (.box cs):=by rw[WL,Wa hne];exact ho
     have h3:=h2.mk_box lD (cs':=cs.set off (.own st.nx)) (by simp) (λvs fh=>fh.set λv hv=>by
      have:v= .slice none 0 0:=(fh.2 off _ v hc hv).1;subst this;exact Wkz e)
     exact⟨G,_,h.on (λ_ _ _ hh=>hh) (WfG ν st.nx _) (Xdh _) h3 h.gx⟩
    .injection hg with hg;injection hg with _ hg;subst hg;exact⟨G,ν,h⟩
    .cases hg
   .cases hg
  .cases hg
 |freezeC slot off=>
  simp only[WfX]at hg;split at hg
  .rename_i id hs;split at hg
   .rename_i cs ho;split at hg
    .rename_i j hc;split at hg
     .rename_i e xs mN;injection hg with hg;injection hg with _ hg;subst hg;obtain⟨G1,h1,h2,h3,h4⟩:=h.h.freezeL h.gx [j];have hne:j≠id:=λe=>by subst e;rw[ho]at mN;cases mN
      have lD:look ((j,Ob.dead)::st.objs) id=some (.box cs):=by rw[WL,Wa hne];exact ho
      have h5:HRel w0 F G1 ν ((id,.box (cs.set off (.val (.slice e.ro) (WcH e xs))))::(j,.dead)::st.objs) st.nx w:=by
       refine HRel.mk_box h2 lD (by simp) (λvs fh=>fh.set λv hv=>?_);have gy:v=(ν j).hdr:=(fh.2 off _ v hc hv).1.2;exact⟨v,rfl,gy▸h4 j (by simp) e xs mN⟩
      exact⟨G1,ν,h.on h1 (λ_ _=>rfl) (Xm _) h5 h3⟩
     .cases hg
    .injection hg with hg;injection hg with _ hg;subst hg;exact⟨G,ν,h⟩
    .injection hg with hg;injection hg with _ hg;subst hg;exact⟨G,ν,h⟩
    .cases hg
   .cases hg
  .cases hg
 |nest d e=>injection hg with hg;injection hg with _ hg;subst hg;exact⟨G,ν,h⟩
 |view d=>injection hg with hg;injection hg with _ hg;subst hg;exact⟨G,ν,h⟩
 |opn d=>injection hg with hg;injection hg with _ hg;subst hg;exact⟨G,ν,h⟩
 |empt slot e=>
  simp only[WfX]at hg;split at hg
  .split at hg
   .rename_i e' ho;split at hg
    .rename_i hc;injection hg with hg;injection hg with _ hg;subst hg;exact⟨G,ν,h.on (λ_ _ _ hh=>hh) (λ_ _=>rfl) (Xm _) (h.h.empt ho hc.1) h.gx⟩
    .cases hg
   .cases hg
  .cases hg
 |unfE slot=>
  simp only[WfX]at hg;split at hg
  .rename_i r i hs;obtain⟨s,cP,hg⟩:=Xy.1 hg;injection hg with _ hg;subst hg;obtain⟨v,hv,hr⟩:=h.env _ _ hs;have gi:∃(e:Ty) (xs:List e.den),look st.objs r=some (.arr e xs):=by
    unfold WnS at cP;split at cP
    .rename_i e xs ho;exact⟨e,xs,ho⟩
    .cases cP
   obtain⟨e,xs,ho⟩:=gi;obtain⟨⟨_,hlt,b,hb,rfl⟩,_⟩:=hr;obtain⟨S,hown⟩:=h.h.obj ho;obtain⟨ν',b',h1,h2,h3,h4,h5⟩:=Wj4 h ho (by rw[hown.1];exact hlt) cP;rw[hb]at h3;injection h3 with h3;subst h3;refine⟨G,ν',h1.rebind hv ⟨⟨h2,b,by rw[h4];rfl,?_⟩,rfl⟩⟩;rw[h4];rfl
  .cases hg
 |unfS slot ix=>
  simp only[WfX]at hg;split at hg
  .obtain⟨ν',h'⟩:=Wj6 h hg;exact⟨G,ν',h'⟩
  .cases hg
 |unfC slot off ix=>
  simp only[WfX]at hg;split at hg
  .split at hg
   .split at hg
    .obtain⟨ν',h'⟩:=Wj6 h hg;exact⟨G,ν',h'⟩
    .cases hg
   .cases hg
  .cases hg
 |refold slot=>
  simp only[WfX]at hg;split at hg
  .obtain⟨s,cP,hg⟩:=Xy.1 hg;injection hg with _ hg;subst hg;exact⟨G,ν,Wpu h cP⟩
  .cases hg
 |solo slot=>
  simp only[WfX]at hg;split at hg
  .rename_i id lo hi hs;split at hg
   .rename_i e xs ho;injection hg with hg;injection hg with _ hg;subst hg;obtain⟨v,hv,hr⟩:=h.env _ _ hs;obtain⟨⟨_,g1,g2,g3,rfl⟩,_⟩:=hr;have h2:=h.on (λ_ _ _ hh=>hh) (WfG ν st.nx _) (Xdh _) (h.h.solo ho g1 g2) h.gx;exact⟨G,_,h2.rebind hv ⟨Wnj,WpB _ _ _⟩⟩
   .cases hg
  .injection hg with hg;injection hg with _ hg;subst hg;exact⟨G,ν,h⟩
  .cases hg
 |soloC slot off=>
  simp only[WfX]at hg;split at hg
  .rename_i id o hs;split at hg
   .rename_i cs ho;split at hg
    .rename_i j lo hi hc;split at hg
     .rename_i e xs mN;injection hg with hg;injection hg with _ hg;subst hg;have hne:j≠id:=λe=>by subst e;rw[ho]at mN;cases mN
      have u3:st.nx≠id:=λe=>by
       obtain⟨φ,hφ⟩:=h.h;have:=hφ.lt id ⟨_,ho,by simp⟩;omega
      have ar:lo<=hi/\hi<=(ν j).len:=by
       obtain⟨S,b,vs,k1,k2,k3,k4,k5⟩:=h.h.obj ho;have hlt:o+off<vs.length:=by rw[k4.1];exact(Xad.1 hc).1
       obtain⟨⟨_,g1,g2,_⟩,_⟩:=k4.2 _ _ _ hc (Xp hlt);exact⟨g1,g2⟩
      have h2:=h.h.solo mN ar.1 ar.2;have lD:look ((st.nx,Ob.arr e ((xs.take hi).drop lo))::(j,Ob.dead)::st.objs) id=some (.box cs):=by rw[WL,Wa u3,WL,Wa hne];exact ho
      have uu:j<st.nx:=by
       obtain⟨φ,hφ⟩:=h.h;exact hφ.lt j ⟨_,mN,by simp⟩
      have h3:=h2.mk_box lD (cs':=cs.set (o+off) (.own st.nx)) (by simp) (λvs fh=>fh.set λv hv=>by
       obtain⟨_,_,_,_,xk⟩:=(fh.2 _ _ v hc hv).1;rw[WfG ν st.nx _ j uu]at xk;rw[xk];exact Wnj)
      exact⟨G,_,h.on (λ_ _ _ hh=>hh) (WfG ν st.nx _) (Xdh _) h3 h.gx⟩
     .cases hg
    .injection hg with hg;injection hg with _ hg;subst hg;exact⟨G,ν,h⟩
    .cases hg
   .cases hg
  .cases hg
theorem WdC:∀(l:List Ghost) (st ae:St) (G:GH) (ν:Nat->Nu),Rel w0 F nt G0 G ν st a w->Wek l st=some (true,ae)->∃G' ν',Rel w0 F nt G0 G' ν' ae a w
 | [],st,ae,G,ν,h,hg=>by injection hg with hg;injection hg with _ hg;subst hg;exact⟨G,ν,h⟩
 |g::l,st,ae,G,ν,h,hg=>by
  simp only[Wek]at hg;split at hg
  .rename_i c s zf;split at hg
   .rename_i c' s' hl;simp only[Option.some.injEq,Prod.mk.injEq,Xi]at hg;obtain⟨⟨rfl,rfl⟩,rfl⟩:=hg;obtain⟨G1,ν1,h1⟩:=WnA h zf;exact WdC l s s' G1 ν1 h1 hl
   .cases hg
  .cases hg
end
end Go.Sx
namespace Go.Sx
set_option linter.unusedVariables false
set_option linter.unusedSimpArgs false
section
variable{T:Tab}{Γ:Ctx}{env zg:List (Nat×AVal)}{objs objs':Wak}{nx ah:Nat}
theorem WcN{st ai:St}:∀(l:List (Nat×Operand)),(∀p∈l,ev ai p.2=ev st p.2)->WcF ai l=WcF st l
 | [],_=>rfl
 |(i,x)::l,h=>by
  have h1:ev ai x=ev st x:=h (i,x) (Xg ..);simp only[WcF,h1,WcN l λp hp=>h p (Xe _ hp)]
theorem WnC{st ai:St}:∀(l:List Operand),(∀x∈l,ev ai x=ev st x)->evs ai l=evs st l
 | [],_=>rfl
 |x::l,h=>by simp only[evs,h x (Xg ..),WnC l λp hp=>h p (Xe _ hp)]
theorem WhE{st ai:St}:∀(l:List Operand),(∀x∈l,ev ai x=ev st x)->WgW ai l=WgW st l
 | [],_=>rfl
 |x::l,h=>by simp only[WgW,h x (Xg ..),WhE l λp hp=>h p (Xe _ hp)]
theorem WkI{st ai:St}(x:Option Operand)(h:∀y∈x.toList,ev ai y=ev st y):Wmq ai x=Wmq st x:=by
 cases x with
 |none=>rfl
 |some y=>simp only[Wmq,h y (by simp)]
def Wei(st ai:St)(v:AVal):Prop:=∀id∈Wbd v,look ai.objs id=look st.objs id
theorem Woz{st ai:St}{t:TypeId}{v:AVal}(h:Wei st ai v):WhN T ai t v=WhN T st t v:=by
 unfold WhN;cases v with
 |tup xs=>rfl
 |s x=>
  cases x with
  |agg cs=>rfl
  |one c=>
   cases c with
   |ptr id off=>have:=h id (by simp[Wbd,Wfv,Wbp]);simp only[this]
   |eptr id i off=>have:=h id (by simp[Wbd,Wfv,Wbp]);simp only[this]
   |_=>rfl
theorem WmU{st ai:St}{t:TypeId}{v:AVal}(h:Wei st ai v):Wf2 T ai t v=Wf2 T st t v:=by
 unfold Wf2;cases v with
 |tup xs=>rfl
 |s x=>
  cases x with
  |agg cs=>rfl
  |one c=>
   cases c with
   |aptr id=>have:=h id (by simp[Wbd,Wfv,Wbp]);simp only[this]
   |_=>rfl
theorem WmX{st:St}{t:TypeId}{id:Nat}:WjP T st t (.s (.one (.own id)))=match look T t with
  |some ⟨_,false,.slice _⟩=>obL (look st.objs id)
  |_=>none:=by
 unfold WjP;generalize look T t=q;rcases q with _|⟨ty,agg,shape⟩
 .rfl
 .cases ty<;>cases agg<;>cases shape<;>rfl
theorem WoL{st ai:St}{t:TypeId}{v:AVal}(h:∀id,v≠ .s (.one (.own id))):WjP T ai t v=WjP T st t v:=by
 unfold WjP;generalize look T t=q;rcases q with _|⟨ty,agg,shape⟩
 .cases v<;>rfl
 .cases v with
  |tup xs=>cases ty<;>cases agg<;>cases shape<;>rfl
  |s x=>
   cases x with
   |agg cs=>cases ty<;>cases agg<;>cases shape<;>rfl
   |one c=>
    cases c with
    |own id=>exact Wi rfl (h id)
    |val t' d=>cases ty<;>cases agg<;>cases shape<;>cases t'<;>rfl
    |_=>cases ty<;>cases agg<;>cases shape<;>rfl
theorem Wv0(v:AVal):(∃id,v= .s (.one (.own id)))\/∀id,v≠ .s (.one (.own id)):=by
 rcases v with x|xs
 .rcases x with c|cs
  .cases c with
   |own id=>exact .inl ⟨id,rfl⟩
   |_=>exact .inr λid h=>by injection h with h;injection h with h;cases h
  .exact .inr λid h=>by injection h with h;cases h
 .exact .inr λid h=>by cases h
theorem Wrc{st ai:St}{t:TypeId}{v:AVal}(h:Wei st ai v):WjP T ai t v=WjP T st t v:=by
 rcases Wv0 v with⟨id,rfl⟩|hv
 .rw[WmX,WmX,h id (by simp[Wbd,Wfv,Wbp])]
 .exact WoL hv
theorem Wh1{st ai:St}{t:TypeId}{v:AVal}{f:Nat}(h:Wei st ai v):Wcc T ai t v f=Wcc T st t v f:=by
 unfold Wcc;generalize Wgn T t f=q;rcases q with _|⟨off,te⟩
 .cases v<;>rfl
 .cases v with
  |tup xs=>rfl
  |s x=>
   cases x with
   |agg cs=>rfl
   |one c=>
    cases c with
    |ptr id o=>
     have:=h id (by simp[Wbd,Wfv,Wbp]);show(λq:Option Ob=>match q with|some (.box _)=>some (true,AVal.s (.one (.ptr id (o+off))))|_=>none) (look ai.objs id)=(λq:Option Ob=>match q with|some (.box _)=>some (true,AVal.s (.one (.ptr id (o+off))))|_=>none) (look st.objs id);rw[this]
    |eptr id i o=>
     have:=h id (by simp[Wbd,Wfv,Wbp]);show(λq:Option Ob=>match q with|some (.arr _ _)=>some (true,AVal.s (.one (.eptr id i (o+off))))|_=>none) (look ai.objs id)=(λq:Option Ob=>match q with|some (.arr _ _)=>some (true,AVal.s (.one (.eptr id i (o+off))))|_=>none) (look st.objs id);rw[this]
    |_=>rfl
theorem Wh3{st ai:St}{t:TypeId}{v i:AVal}(h:Wei st ai v):Wca T ai t v i=Wca T st t v i:=by
 unfold Wca;generalize look T t=q;generalize asI i=z;rcases q with _|⟨ty,agg,shape⟩
 .rfl
 rcases z with _|n
 .cases shape<;>rfl
 cases shape with
 |slice et=>
  show(match look T et with|some te=>_|none=>_)=(match look T et with|some te=>_|none=>_);generalize look T et=q;rcases q with _|te
  .rfl
  .show(if te.plain=true then _ else _)=(if te.plain=true then _ else _);by_cases hp:te.plain=true
   .rw[Wb hp,Wb hp];cases v with
    |tup xs=>rfl
    |s x=>
     cases x with
     |agg cs=>rfl
     |one c=>
      cases c with
      |own id=>
       have:=h id (by simp[Wbd,Wfv,Wbp]);show obI te n id (look ai.objs id)=obI te n id (look st.objs id);rw[this]
      |vw id lo hi=>
       have:=h id (by simp[Wbd,Wfv,Wbp]);show WxO te n id lo hi (look ai.objs id)=WxO te n id lo hi (look st.objs id);rw[this]
      |val t' d=>cases t'<;>rfl
      |_=>rfl
   .rw[Wa hp,Wa hp]
 |arr k et=>
  show(match look T et with|some te=>_|none=>_)=(match look T et with|some te=>_|none=>_);generalize look T et=q;rcases q with _|te
  .rfl
  .show(if te.plain=true then _ else _)=(if te.plain=true then _ else _);by_cases hp:te.plain=true
   .rw[Wb hp,Wb hp];cases v with
    |tup xs=>rfl
    |s x=>
     cases x with
     |agg cs=>rfl
     |one c=>
      cases c with
      |aptr id=>
       have:=h id (by simp[Wbd,Wfv,Wbp]);show WxD te n k id (look ai.objs id)=WxD te n k id (look st.objs id);rw[this]
      |_=>rfl
   .rw[Wa hp,Wa hp]
 |_=>rfl
theorem WrP{st ai:St}{v:AVal}(h:Wei st ai v):WuB ai v=WuB st v:=by
 rcases Wv0 v with⟨id,rfl⟩|hv
 .exact h id (by simp[Wbd,Wfv,Wbp])
 .unfold WuB;split
  .rename_i id;exact Wi rfl (hv id)
  .rfl
theorem Wox{st ai:St}{s d:TypeId}{v:AVal}(h:Wei st ai v):WjY T ai s d v=WjY T st s d v:=by
 unfold WjY;rw[WrP h]
theorem WqY{st ai:St}{v:AVal}(h:Wei st ai v):Wq7 ai v=Wq7 st v:=by
 unfold Wq7;cases v with
 |tup xs=>rfl
 |s x=>
  cases x with
  |agg cs=>rfl
  |one c=>
   cases c with
   |ptr id off=>have:=h id (by simp[Wbd,Wfv,Wbp]);simp only[this]
   |eptr id i off=>have:=h id (by simp[Wbd,Wfv,Wbp]);simp only[this]
   |aptr id=>have:=h id (by simp[Wbd,Wfv,Wbp]);simp only[this]
   |_=>rfl
theorem Wrx{st ai:St}{op:BinOp}{t:TypeId}{v z:AVal}(h:Wei st ai v):WqQ T ai op t v z=WqQ T st op t v z:=by
 unfold WqQ;split
 .rename_i id;rw[h id (by simp[Wbd,Wfv,Wbp])]
 .rfl
theorem Wb6{α β:Type}{x:Option α}{f g:α->Option β}(h:∀v,x=some v->f v=g v):x.bind f=x.bind g:=by
 cases x with
 |none=>rfl
 |some v=>exact h v rfl
theorem WhR{st ai:St}(op:Op)(hm:∀t x l h m,op≠ .slice t x l h m)(he:∀x∈Wai op,ev ai x=ev st x)(hl:Wxd op=true->∀x∈Wai op,∀v,ev st x=some v->Wei st ai v):Wan T ai op=Wan T st op:=by
 cases op with
 |move x=>simp only[Wan,he x (by simp[Wai])]
 |assign x=>simp only[Wan,he x (by simp[Wai])]
 |pick c a b=>simp only[Wan,he c (by simp[Wai]),he a (by simp[Wai]),he b (by simp[Wai])]
 |load t a=>
  simp only[Wan,he a (by simp[Wai])];exact Wb6 λv hv=>by rw[Woz (hl rfl a (by simp[Wai]) v hv),WmU (hl rfl a (by simp[Wai]) v hv)]
 |nilCheck x=>
  simp only[Wan,he x (by simp[Wai])];exact Wb6 λv hv=>WqY (hl rfl x (by simp[Wai]) v hv)
 |binOp op t x y z=>
  simp only[Wan,he x (by simp[Wai]),he y (by simp[Wai])];split
  .rename_i a b h1 h2;rw[Wrx (hl rfl x (by simp[Wai]) _ h1)]
  .rfl
 |unOp op t x=>simp only[Wan,he x (by simp[Wai])]
 |convert s d x=>
  simp only[Wan,he x (by simp[Wai])];exact Wb6 λv hv=>Wox (hl rfl x (by simp[Wai]) v hv)
 |slice t x l h m=>exact Wi rfl (hm t x l h m)
 |fieldAddr s x f=>
  simp only[Wan,he x (by simp[Wai])];exact Wb6 λv hv=>Wh1 (hl rfl x (by simp[Wai]) v hv)
 |field t x f=>simp only[Wan,he x (by simp[Wai])]
 |indexAddr t x i=>
  simp only[Wan,he x (by simp[Wai]),he i (by simp[Wai])];split
  .rename_i a b h1 h2;exact Wh3 (hl rfl x (by simp[Wai]) _ h1)
  .rfl
 |index t x i=>simp only[Wan,he x (by simp[Wai]),he i (by simp[Wai])]
 |extract t ix=>simp only[Wan,he t (by simp[Wai])]
 |makeFunc f first captured=>
  cases f with
  |func f=>simp only[Wan,WhE (st:=st) (ai:=ai) captured.toList λx hx=>he x (by simp[Wai];right;simpa using hx)]
  |_=>rfl
 |call c=>
  have hargs:∀x∈c.args.toList,ev ai x=ev st x:=λx hx=>he x (Xh _ hx);have nQ:∀x∈c.args.toList,∀v,ev st x=some v->Wei st ai v:=λx hx=>hl rfl x (Xh _ hx);simp only[Wan];split
  .rename_i x t _ ha _;rw[hargs x (by rw[ha];simp)];exact Wb6 λv hv=>Wrc (nQ x (by rw[ha];simp) v hv)
  .rename_i x y _ _ _ ha _;rw[hargs x (by rw[ha];simp),hargs y (by rw[ha];simp)]
  .rename_i x y _ _ _ ha _;rw[hargs x (by rw[ha];simp),hargs y (by rw[ha];simp)]
  .rfl
 |_=>rfl
end
end Go.Sx
namespace Go.Sx
set_option linter.unusedVariables false
set_option linter.unusedSimpArgs false
abbrev Out:=AVal×Wak×Nat
def Wc5(x:AVal)(objs:Wak)(nx:Nat):Option Out:=some (x,objs,nx)
section
variable{T:Tab}{Γ:Ctx}{A:List (Nat×An)}
theorem Wbb{α β:Type}{c:Prop}[Decidable c]{x:Option α}{f:α->Option β}:(if c then x else none).bind f=if c then x.bind f else none:=by split<;>rfl
theorem Wcn{α β:Type}{c:Bool}{x:Option α}{f:α->Option β}:(bif c then x else none).bind f=bif c then x.bind f else none:=by cases c<;>rfl
theorem WfQ{R:Type}(sg:Sig)(st:St)(xs:List AVal)(k:KV R):WfF sg st xs k=(WfF sg st xs Wc5).bind λp=>k p.1 p.2.1 p.2.2:=by
 unfold WfF;split
 .split
  .rw[sg.law,sg.law,Option.bind_assoc];rfl
  .rfl
 .rfl
theorem Wrq{R:Type}(sg:Sig)(st:St)(xs:List AVal)(k:KV R):WmK sg st xs k=(WmK sg st xs Wc5).bind λp=>k p.1 p.2.1 p.2.2:=by
 unfold WmK;cases sg.fresh with
 |true=>exact WfQ _ _ _ _
 |false=>
  simp only[Wc];split
  .split
   .exact WfQ _ _ _ _
   .exact WfQ _ _ _ _
  .rfl
theorem WnZ{R:Type}(st:St)(te:Ty)(s x:AVal)(k:KV R):WeJ st te s x k=(WeJ st te s x Wc5).bind λp=>k p.1 p.2.1 p.2.2:=by
 unfold WeJ;split
 .split
  .split
   .split
    .rw[Wcn];rfl
    .rfl
   .rfl
  .rfl
 .split
  .split
   .split
    .rw[Wbb,Wcn];rfl
    .rfl
   .rfl
  .rfl
 .rfl
theorem Wnb{R:Type}(st:St)(e:Ty)(ps:List (Nat×AVal))(k:KV R):Wdv st e ps k=(Wdv st e ps Wc5).bind λp=>k p.1 p.2.1 p.2.2:=by
 unfold Wdv;split
 .rw[Wbb];split
  .split
   .split
    .rw[Wbb];rfl
    .rfl
   .rfl
  .rfl
 .rfl
theorem Wpa{R:Type}(st:St)(te:Ty)(id:Nat)(l h:Option Int)(k:KV R):WfE st te id l h k=(WfE st te id l h Wc5).bind λp=>k p.1 p.2.1 p.2.2:=by
 unfold WfE;split
 .rw[Wbb,Wcn];rfl
 .rfl
theorem Wlh{R:Type}(st:St)(t t2:TypeId)(s x:AVal)(k:KV R):Wee T st t t2 s x k=(Wee T st t t2 s x Wc5).bind λp=>k p.1 p.2.1 p.2.2:=by
 unfold Wee;split
 .split
  .split
   .cases WvE st s x with
    |false=>exact WnZ _ _ _ _ _
    |true=>
    simp only[Xt,Wc];split
    .rw[Wcn];rfl
    .split
     .split
      .rw[Wcn];rfl
      .rfl
     .rfl
    .split
     .split
      .rw[Wcn];rfl
      .rfl
     .rfl
    .rfl
   .rfl
  .rfl
 .rfl
theorem WwV{R:Type}(p:Option (Bool×AVal))(objs:Wak)(nx:Nat)(k:KV R):(match p with|some (c,v)=>bif c then k v objs nx else none|none=>none)=(match p with|some (c,v)=>bif c then Wc5 v objs nx else none|none=>none).bind λp=>k p.1 p.2.1 p.2.2:=by
 rcases p with _|⟨c,v⟩
 .rfl
 .cases c<;>rfl
theorem Wgt{R:Type}(o:Oper)(st:St)(k:KV R):rxe T Γ A o st k=(rxe T Γ A o st Wc5).bind λp=>k p.1 p.2.1 p.2.2:=by
 unfold rxe;split
 .split
  .rw[Wbb];rfl
  .rw[Wbb];rfl
  .rfl
 .split<;>rfl
 .split
  .split
   .split<;>rfl
   .rfl
  .rfl
 .split
  .split
   .split
    .rw[Wbb];split
     .exact Wnb _ _ _ _
     .rfl
    .split
     .rw[Wbb];rfl
     .rfl
   .rfl
  .rfl
 .split
  .split
   .split
    .rw[Wbb,Wcn];rfl
    .rw[Wbb,Wcn];rfl
   .rfl
  .rfl
 .split
  .split
   .split<;>rfl
   .rfl
  .rfl
 .split
  .split
   .split
    .split
     .rw[Wbb];split
      .exact Wpa _ _ _ _ _ _
      .rfl
     .split
      .rw[Wbb,Wcn];rfl
      .rw[Wbb,Wcn];rfl
      .rfl
    .rfl
   .rfl
  .exact WwV _ _ _ _
 .split
  .split
   .exact Wlh _ _ _ _ _ _
   .rfl
  .split
   .split
    .split
     .rw[Wbb];rfl
     .rfl
    .rfl
   .rfl
  .exact WwV _ _ _ _
  .split
   .split
    .exact Wrq _ _ _ _
    .rfl
   .rfl
  .rfl
 .exact WwV _ _ _ _
end
section
variable{T:Tab}{Γ:Ctx}{A:List (Nat×An)}
theorem Wpv{st:St}{env:List (Nat×AVal)}{t:TypeId}{x v:AVal}:Wc2 T {env:=env,objs:=st.objs,nx:=st.nx} t x v=(Wc2 T st t x v).map λs=>{env:=env,objs:=s.objs,nx:=s.nx}:=by
 unfold Wc2;generalize look T t=q;generalize Wg9 v=z;rcases q with _|te
 .rfl
 rcases z with _|ds
 .rcases x with(c|cs)|xs
  .cases c<;>rfl
  .rfl
  .rfl
 rcases x with(c|cs)|xs
 .cases c with
  |ptr id off=>
   show(match look st.objs id with|some (.box cs)=>_|_=>_)=Xfz _ (match look st.objs id with|some (.box cs)=>_|_=>_);generalize look st.objs id=ob;rcases ob with _|ob
   .rfl
   cases ob with
   |box cs=>
    show(if _ then _ else _)=Xfz _ (if _ then _ else _);split<;>rfl
   |arr e xs=>rfl
   |hole e xs i p=>rfl
   |dead=>rfl
  |eptr id i off=>
   show(match look st.objs id with|some (.arr e xs)=>_|_=>_)=Xfz _ (match look st.objs id with|some (.arr e xs)=>_|_=>_);generalize look st.objs id=ob;rcases ob with _|ob
   .rfl
   cases ob with
   |box cs=>rfl
   |hole e xs i p=>rfl
   |dead=>rfl
   |arr e xs=>
    show(if _ then _ else _)=Xfz _ (if _ then _ else _);by_cases hc:(decide (te.ty.size=ds.length)&&te.plain&&decide (off+ds.length<=e.size)&&e.data)=true
    .rw[Wb hc,Wb hc];generalize Waz e (Wel (split e (Xd xs i e.dflt)) off ds) st.objs=r;rcases r with _|⟨d,m,l⟩
     .rfl
     .cases m<;>cases l<;>rfl
    .rw[Wa hc,Wa hc];by_cases eU:(decide (te.ty.size=ds.length)&&te.plain&&decide (off=0)&&decide (ds.length=e.size))=true
     .rw[Wb eU,Wb eU];generalize Waz e ds st.objs=r;rcases r with _|⟨d,m,l⟩
      .rfl
      .cases l with
       |nil=>
        show(if _ then _ else _)=Xfz _ (if _ then _ else _);split<;>rfl
       |cons _ _=>rfl
     .rw[Wa eU,Wa eU];rfl
  |_=>rfl
 .rfl
 .rfl
theorem Wtv{R:Type}(o:Oper){st:St}{env:List (Nat×AVal)}(k:KV R)(he:∀x∈Wai o.op,ev {env:=env,objs:=st.objs,nx:=st.nx} x=ev st x):
  rxe T Γ A o {env:=env,objs:=st.objs,nx:=st.nx} k=rxe T Γ A o st k:=by
 have bs:(∀t x l h m,o.op≠ .slice t x l h m)->Wan T {env:=env,objs:=st.objs,nx:=st.nx} o.op=Wan T st o.op:=λhm=>WhR o.op hm he (λ_ _ _ _ _ _ _=>rfl);obtain⟨dst,op,type,pos,after,guard⟩:=o;simp only at he bs;cases op with
 |alloc t=>rfl
 |box t x=>simp only[rxe,he x (by simp[Wai])]
 |build t parts=>simp only[rxe,WcN (st:=st) parts.toList λp hp=>he p.2 (by simp only[Wai];exact Xw.2 ⟨p,hp,rfl⟩)]
 |buildSlice t n parts=>
  have e1:∀e ps,Wdv {env:=env,objs:=st.objs,nx:=st.nx} e ps k=Wdv st e ps k:=λ_ _=>rfl;simp only[rxe,e1,WcN (st:=st) parts.toList λp hp=>he p.2 (by simp only[Wai];exact Xw.2 ⟨p,hp,rfl⟩)]
 |makeSlice t n c=>simp only[rxe,he n (by simp[Wai]),he c (by simp[Wai])]
 |store t a x=>
  simp only[rxe,he a (by simp[Wai]),he x (by simp[Wai])];split
  .rename_i p v _ _;have e:=Wpv (T:=T) (st:={env:=st.env,objs:=WdY st.objs (Wf9 st.objs p v),nx:=st.nx}) (env:=env) (t:=t) (x:=p) (v:=Whv st.objs (Wf9 st.objs p v) v);simp only at e;rw[e];cases Wc2 T {env:=st.env,objs:=WdY st.objs (Wf9 st.objs p v),nx:=st.nx} t p (Whv st.objs (Wf9 st.objs p v) v)<;>rfl
  .rfl
 |slice t x lo hi m=>
  have hx:=he x (by simp[Wai]);have aZ:=WkI (st:=st) (ai:={env:=env,objs:=st.objs,nx:=st.nx}) lo λy hy=>he y (by simp only[Wai];exact Xe _ (Xl _ hy));have qz:=WkI (st:=st) (ai:={env:=env,objs:=st.objs,nx:=st.nx}) hi λy hy=>he y (by simp only[Wai];exact Xe _ (Xh _ (Xl _ hy)));cases m with
  |none=>
   have hp:Wan T {env:=env,objs:=st.objs,nx:=st.nx} (.slice t x lo hi none)=Wan T st (.slice t x lo hi none):=by
    simp only[Wan,hx];refine Wb6 λv _=>?_;simp only[Wl6,aZ,qz]
   have e1:∀te id l h,WfE {env:=env,objs:=st.objs,nx:=st.nx} te id l h k=WfE st te id l h k:=λ_ _ _ _=>rfl;simp only[rxe,hx,aZ,qz,hp,e1]
  |some y=>rfl
 |call c=>
  have hargs:=WnC (st:=st) (ai:={env:=env,objs:=st.objs,nx:=st.nx}) c.args.toList λx hx=>he x (by simp only[Wai];exact Xh _ hx);have hp:=bs (λ_ _ _ _ _ h=>by cases h);simp only[rxe];split
  .rename_i s x t t2 hc ha dg;have h1:ev {env:=env,objs:=st.objs,nx:=st.nx} s=ev st s:=he s (by simp only[Wai];rw[ha];exact Xh _ (by simp));have h2:ev {env:=env,objs:=st.objs,nx:=st.nx} x=ev st x:=he x (by simp only[Wai];rw[ha];exact Xh _ (by simp));rw[h1,h2];rfl
  .rename_i x t hc ha dg;have h1:ev {env:=env,objs:=st.objs,nx:=st.nx} x=ev st x:=he x (by simp only[Wai];rw[ha];exact Xh _ (by simp));rw[h1]
  .rw[hp]
  .rename_i f hc;have h1:ev {env:=env,objs:=st.objs,nx:=st.nx} f=ev st f:=he f (by simp only[Wai];rw[hc];exact Xl _ (by simp));rw[h1,hargs];rfl
  .rfl
 |move x=>simp only[rxe,bs (λ_ _ _ _ _ h=>by cases h)]
 |assign x=>simp only[rxe,bs (λ_ _ _ _ _ h=>by cases h)]
 |pick c a b=>simp only[rxe,bs (λ_ _ _ _ _ h=>by cases h)]
 |load t a=>simp only[rxe,bs (λ_ _ _ _ _ h=>by cases h)]
 |nilCheck x=>simp only[rxe,bs (λ_ _ _ _ _ h=>by cases h)]
 |binOp op t x y z=>simp only[rxe,bs (λ_ _ _ _ _ h=>by cases h)]
 |unOp op t x=>simp only[rxe,bs (λ_ _ _ _ _ h=>by cases h)]
 |convert s d x=>simp only[rxe,bs (λ_ _ _ _ _ h=>by cases h)]
 |fieldAddr s x f=>simp only[rxe,bs (λ_ _ _ _ _ h=>by cases h)]
 |field t x f=>simp only[rxe,bs (λ_ _ _ _ _ h=>by cases h)]
 |indexAddr t x i=>simp only[rxe,bs (λ_ _ _ _ _ h=>by cases h)]
 |index t x i=>simp only[rxe,bs (λ_ _ _ _ _ h=>by cases h)]
 |extract t ix=>simp only[rxe,bs (λ_ _ _ _ _ h=>by cases h)]
 |makeFunc f first captured=>simp only[rxe,bs (λ_ _ _ _ _ h=>by cases h)]
 |_=>rfl
def WvS(T:Tab)(o:Oper)(st:St):Option AVal:=match o.op with
 | .build t parts=>match look T t,WcF st parts.toList with
  |some ⟨ty,true,.struct fs⟩,some ps=>
   if fs.all (λf=>match look T f.2 with|some te=>te.plain|none=>false)then
    match Wm8 T fs ps (WeK ty)with
    |some cs=>some (.s (.agg cs))
    |none=>none
   else none
  |_,_=>none
 |op=>match Wan T st op with
  |some (c,v)=>bif c then some v else none
  |none=>none
theorem Wyc(p:Option (Bool×AVal))(objs:Wak)(nx:Nat):(match p with|some (c,v)=>bif c then Wc5 v objs nx else none|none=>none)=(match p with|some (c,v)=>bif c then some v else none|none=>none).bind λv=>Wc5 v objs nx:=by
 rcases p with _|⟨c,v⟩
 .rfl
 .cases c<;>rfl
theorem Wng{o:Oper}(hm:Wa2 o=false)(st:St):rxe T Γ A o st Wc5=(WvS T o st).bind λv=>Wc5 v st.objs st.nx:=by
 obtain⟨dst,op,type,pos,after,guard⟩:=o;cases op with
 |alloc t=>cases hm
 |box t x=>cases hm
 |buildSlice t n parts=>cases hm
 |makeSlice t n c=>cases hm
 |store t a x=>cases hm
 |slice t x lo hi m=>cases hm
 |build t parts=>
  simp only[rxe,WvS];generalize look T t=q;generalize WcF st parts.toList=z;rcases q with _|⟨ty,agg,shape⟩
  .rfl
  rcases z with _|ps
  .cases agg<;>cases shape<;>rfl
  cases agg with
  |false=>rfl
  |true=>
   cases shape with
   |struct fs=>
    show(if _ then _ else _)=Option.bind (if _ then _ else _) _;rw[Wbb];cases Wm8 T fs ps (WeK ty)<;>rfl
   |_=>rfl
 |call c=>
  simp only[rxe,WvS];split
  .rename_i hc _ _;simp only[Wa2,hc]at hm;cases hm
  .rename_i hc _ _;simp only[Wa2,hc]at hm;cases hm
  .exact Wyc _ _ _
  .rename_i hc;simp only[Wa2,hc]at hm;cases hm
  .rename_i h0 h1 h2 h3;have:Wan T st (.call c)=none:=by
    simp only[Wan];split
    .rename_i hc _ _;first|exact Wi hc (h0 _)|exact Wi hc (h1 _)|exact Wi hc (h2 _)|exact Wi hc (h3 _)
    .rename_i hc _ _;first|exact Wi hc (h0 _)|exact Wi hc (h1 _)|exact Wi hc (h2 _)|exact Wi hc (h3 _)
    .rename_i hc _ _;first|exact Wi hc (h0 _)|exact Wi hc (h1 _)|exact Wi hc (h2 _)|exact Wi hc (h3 _)
    .rfl
   rw[this];rfl
 |_=>first|rfl|exact Wyc (Wan T st _) st.objs st.nx
theorem Wro{o:Oper}(hm:Wa2 o=false){st ai:St}(he:∀x∈Wai o.op,ev ai x=ev st x)(hl:Wxd o.op=true->∀x∈Wai o.op,∀v,ev st x=some v->Wei st ai v):WvS T o ai=WvS T o st:=by
 have bs:(∀t x l h m,o.op≠ .slice t x l h m)->Wan T ai o.op=Wan T st o.op:=λhm=>WhR o.op hm he hl;obtain⟨dst,op,type,pos,after,guard⟩:=o;simp only at he bs;cases op with
 |slice t x lo hi m=>cases hm
 |build t parts=>simp only[WvS,WcN (st:=st) parts.toList λp hp=>he p.2 (by simp only[Wai];exact Xw.2 ⟨p,hp,rfl⟩)]
 |_=>simp only[WvS,bs (λ_ _ _ _ _ h=>by cases h)]
theorem Wc4(objs:Wak):∀l,∃pre,kill objs l=pre++objs
 | []=>⟨[],rfl⟩
 |i::l=>by
  obtain⟨pre,h⟩:=Wc4 objs l;exact⟨(i,.dead)::pre,by simp only[kill,h];rfl⟩
theorem Wah:∀(ps:List PTy) (o:Wgg ps) (ids:List Kp) (objs:Wak) (nx:Nat),∃pre,(Wao ps o ids objs nx).1=pre++objs
 | [],_,_,objs,_=>⟨[],rfl⟩
 | .v _ _::ps,o,ids,objs,nx=>Wah ps o ids objs nx
 | .rp _::ps,o,ids,objs,nx=>Wah ps o ids objs nx
 | .box t::ps,o,ids,objs,nx=>by
  cases ids with
  |nil=>exact⟨[],rfl⟩
  |cons k ids=>
   obtain⟨pre,h⟩:=Wah ps o.2 ids ((k.id,WhA (look objs k.id) k.off (unfold t o.1 nx).1)::((unfold t o.1 nx).2.1++objs)) (unfold t o.1 nx).2.2;exact⟨pre++(k.id,WhA (look objs k.id) k.off (unfold t o.1 nx).1)::(unfold t o.1 nx).2.1,by simp only[Wao,h];simp⟩
 | .vj _::ps,o,ids,objs,nx=>Wah ps o ids objs nx
 | .boxal t _::ps,o,ids,objs,nx=>by
  cases ids with
  |nil=>exact⟨[],rfl⟩
  |cons k ids=>
   obtain⟨pre,h⟩:=Wah ps o.2 ids ((k.id,WhA (look objs k.id) k.off (unfold t o.1 nx).1)::((unfold t o.1 nx).2.1++objs)) (unfold t o.1 nx).2.2;exact⟨pre++(k.id,WhA (look objs k.id) k.off (unfold t o.1 nx).1)::(unfold t o.1 nx).2.1,by simp only[Wao,h];simp⟩
 | .mut e::ps,o,ids,objs,nx=>by
  cases ids with
  |nil=>exact⟨[],rfl⟩
  |cons k ids=>
   obtain⟨pre,h⟩:=Wah ps o.2 ids ((k.id,.arr e o.1)::objs) nx;exact⟨pre++ [(k.id,.arr e o.1)],by simp only[Wao,h];simp⟩
 | .clos _ _::ps,o,ids,objs,nx=>Wah ps o ids objs nx
 | .kv t _::ps,o,ids,objs,nx=>by
  obtain⟨pre,h⟩:=Wah ps o.2 (ids.drop t.owns) (WcC t o.1 ((ids.take t.owns).map Kp.id)++objs) nx;exact⟨pre++WcC t o.1 ((ids.take t.owns).map Kp.id),by simp only[Wao,h];simp⟩
theorem Wat:∀(rs:List PTy) (d:Whi rs) (objs:Wak) (nx:Nat),∃pre,(WbE rs d objs nx).2.1=pre++objs
 | [],_,objs,_=>⟨[],rfl⟩
 | .v t agg::rs,d,objs,nx=>by
  obtain⟨pre,h⟩:=Wat rs d.2 ((unfold t d.1 nx).2.1++objs) (unfold t d.1 nx).2.2;exact⟨pre++(unfold t d.1 nx).2.1,by simp only[WbE,h];simp⟩
 | .box t::rs,d,objs,nx=>by
  obtain⟨pre,h⟩:=Wat rs d.2 ((nx,.box (unfold t d.1 (nx+1)).1)::((unfold t d.1 (nx+1)).2.1++objs)) (unfold t d.1 (nx+1)).2.2;exact⟨pre++(nx,.box (unfold t d.1 (nx+1)).1)::(unfold t d.1 (nx+1)).2.1,by simp only[WbE,h];simp⟩
 | .mut _::rs,d,objs,nx=>Wat rs d objs nx
 | .clos _ _::rs,d,objs,nx=>Wat rs d objs nx
 | .kv _ _::rs,d,objs,nx=>Wat rs d objs nx
 | .rp _::rs,d,objs,nx=>Wat rs d objs nx
 | .vj t::rs,d,objs,nx=>by
  obtain⟨pre,h⟩:=Wat rs d.2 ((unfold t d.1 nx).2.1++objs) (unfold t d.1 nx).2.2;exact⟨pre++(unfold t d.1 nx).2.1,by simp only[WbE,h];simp⟩
 | .boxal _ _::rs,d,objs,nx=>Wat rs d objs nx
def Suf(objs:Wak)(r:Option Out):Prop:=∀x objs' nx,r=some (x,objs',nx)->∃pre,objs'=pre++objs
theorem Suf.none{objs:Wak}:Suf objs none:=λ_ _ _ h=>by cases h
theorem Suf.out{objs pre:Wak}{x:AVal}{nx:Nat}:Suf objs (Wc5 x (pre++objs) nx):=λ_ _ _ h=>by
 injection h with h;have:=Wk (λp:Out=>p.2.1) h;exact⟨pre,this.symm⟩
theorem Suf.ite{objs:Wak}{c:Prop}[Decidable c]{r:Option Out}(h:Suf objs r):Suf objs (if c then r else Option.none):=by split;exact h;exact .none
theorem Suf.bif{objs:Wak}{c:Bool}{r:Option Out}(h:Suf objs r):Suf objs (bif c then r else Option.none):=by cases c;exact .none;exact h
theorem WjD{st ae:St}{t:TypeId}{x v:AVal}(h:Wc2 T st t x v=some ae):∃pre,ae.objs=pre++st.objs:=by
 unfold Wc2 at h;split at h
 .split at h
  .split at h
   .injection h with h;subst h;exact⟨[_],rfl⟩
   .cases h
  .cases h
 .split at h
  .split at h
   .split at h
    .injection h with h;subst h;exact⟨[_],rfl⟩
    .cases h
   .split at h
    .split at h
     .rename_i m _;split at h
      .injection h with h;subst h;obtain⟨pre,hp⟩:=Wc4 st.objs m;exact⟨_::pre,by simp only[hp];rfl⟩
      .cases h
     .cases h
    .cases h
  .cases h
 .cases h
theorem Wor(p:Option (Bool×AVal))(objs:Wak)(nx:Nat):Suf objs (match p with|some (c,v)=>bif c then Wc5 v objs nx else none|none=>none):=by
 rcases p with _|⟨c,v⟩
 .exact .none
 .exact Suf.bif (Suf.out (pre:=[]))
theorem Web(sg:Sig)(st:St)(xs:List AVal):Suf st.objs (WfF sg st xs Wc5):=by
 unfold WfF;split
 .rename_i A _;split
  .intro x objs' nx h;rw[sg.law]at h;cases hr:sg.run A.d with
   |none=>rw[hr]at h;cases h
   |some out=>
    rw[hr]at h;simp only[Xc]at h;injection h with h;have h2:=Wk (λp:Out=>p.2.1) h;simp only at h2;obtain⟨p1,e1⟩:=Wc4 st.objs A.moved;obtain⟨p2,e2⟩:=Wah sg.ps out.1 A.kept (kill st.objs A.moved) st.nx;obtain⟨p3,e3⟩:=Wat sg.rs out.2 (Wao sg.ps out.1 A.kept (kill st.objs A.moved) st.nx).1 (Wao sg.ps out.1 A.kept (kill st.objs A.moved) st.nx).2;refine⟨p3++(p2++p1),?_⟩;rw[←h2,e3,e2,e1];simp
  .exact .none
 .exact .none
theorem Suf.over{objs:Wak}{l:List Nat}{r:Option Out}(h:Suf (kill objs l) r):Suf objs r:=λx objs' nx hr=>by
 obtain⟨p1,e1⟩:=h x objs' nx hr;obtain⟨p2,e2⟩:=Wc4 objs l;exact⟨p1++p2,by rw[e1,e2];simp⟩
theorem WnO(sg:Sig)(st:St)(xs:List AVal):Suf st.objs (WmK sg st xs Wc5):=by
 unfold WmK;cases sg.fresh with
 |true=>exact Web _ _ _
 |false=>
  simp only[Wc];split
  .split
   .exact Web _ _ _
   .exact Suf.over (Web sg {env:=st.env,objs:=kill st.objs _,nx:=st.nx} _)
  .exact .none
theorem Wpw{objs:Wak}{x:AVal}{p:Nat×Ob}{l:List Nat}{nx:Nat}:Suf objs (Wc5 x (p::kill objs l) nx):=by
 obtain⟨pre,h⟩:=Wc4 objs l;rw[h];exact Suf.out (pre:=p::pre)
theorem WjG(st:St)(te:Ty)(s x:AVal):Suf st.objs (WeJ st te s x Wc5):=by
 unfold WeJ;split
 .split
  .split
   .split
    .exact Suf.bif Wpw
    .exact .none
   .exact .none
  .exact .none
 .split
  .split
   .split
    .exact Suf.ite (Suf.bif Wpw)
    .exact .none
   .exact .none
  .exact .none
 .exact .none
theorem WjW(st:St)(e:Ty)(ps:List (Nat×AVal)):Suf st.objs (Wdv st e ps Wc5):=by
 unfold Wdv;split
 .refine Suf.ite ?_;split
  .split
   .exact Suf.ite (Suf.over Wpw)
   .exact .none
  .exact .none
 .exact .none
theorem Wl5(st:St)(te:Ty)(id:Nat)(l h:Option Int):Suf st.objs (WfE st te id l h Wc5):=by
 unfold WfE;split
 .exact Suf.ite (Suf.bif (Suf.out (pre:=[])))
 .exact .none
theorem WqM(o:Oper)(st:St):Suf st.objs (rxe T Γ A o st Wc5):=by
 unfold rxe;split
 .split
  .exact Suf.ite (Suf.out (pre:=[_]))
  .exact Suf.ite (Suf.out (pre:=[_]))
  .exact .none
 .split
  .exact Suf.out (pre:=[_])
  .exact .none
 .split
  .split
   .split
    .exact Suf.out (pre:=[])
    .exact .none
   .exact .none
  .exact .none
 .split
  .split
   .split
    .exact Suf.ite (WjW _ _ _)
    .split
     .exact Suf.ite (Suf.over (Suf.out (pre:=[_])))
     .exact .none
   .exact .none
  .exact .none
 .split
  .split
   .split
    .exact Suf.ite (Suf.bif (Suf.out (pre:=[_])))
    .exact Suf.ite (Suf.bif (Suf.out (pre:=[_])))
   .exact .none
  .exact .none
 .split
  .split
   .rename_i ae hs;split
    .obtain⟨pre,h⟩:=WjD hs;rw[h];exact Suf.over Suf.out
    .exact .none
   .exact .none
  .exact .none
 .split
  .split
   .split
    .split
     .exact Suf.ite (Wl5 _ _ _ _ _)
     .split
      .exact Suf.ite (Suf.bif (Suf.out (pre:=[_,_])))
      .exact Suf.ite (Suf.bif (Suf.out (pre:=[_,_,_])))
      .exact .none
    .exact .none
   .exact .none
  .exact Wor _ _ _
 .split
  .split
   .unfold Wee;split
    .split
     .split
      .cases WvE st _ _ with
       |false=>exact WjG _ _ _ _
       |true=>
       simp only[Xt,Wc];split
       .exact Suf.bif (Suf.out (pre:=[_]))
       .split
        .split
         .exact Suf.bif (Suf.out (pre:=[_,_]))
         .exact .none
        .exact .none
       .split
        .split
         .exact Suf.bif (Suf.out (pre:=[_,_]))
         .exact .none
        .exact .none
       .exact .none
      .exact .none
     .exact .none
    .exact .none
   .exact .none
  .split
   .split
    .split
     .exact Suf.ite (Suf.out (pre:=[_]))
     .exact .none
    .exact .none
   .exact .none
  .exact Wor _ _ _
  .split
   .split
    .exact WnO _ _ _
    .exact .none
   .exact .none
  .exact .none
 .exact Wor _ _ _
end
end Go.Sx
