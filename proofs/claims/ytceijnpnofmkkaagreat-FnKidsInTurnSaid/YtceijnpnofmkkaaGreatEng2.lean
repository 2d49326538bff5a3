/- The abstract machine, part 2: a reflective interpreter of the program's code over data, with its soundness over the model. -/
import Derived.Test.YtceijnpnofmkkaaGreatEng1
open Bool renaming and_eq_true→Xi,not_eq_true'→Xaq,not_true→Xx,false_eq_true→Xbg
open List renaming nodup_cons→Xai,getElem?_append_left→Xcj,getD→Xc,getElem?_append_right→Xce,ext_getElem?→Xfj,getElem?_eq_none→Xcr,replicate→Xt,prefix_refl→Xfr,nil_prefix→Xha,prefix_append_right_inj→Xez,length_replicate→Xgc,append_nil→Xcw,getElem?_toArray→Xem,append_assoc→Xbr,getElem?_append→Xav,getElem?_take→Xbl,getElem?_drop→Xbm,getElem?_eq_some_iff→Xad,drop_drop→Xdm,take_append_drop→Xdo,length_take→Xba,mem_cons_self→Xh,mem_cons_of_mem→Xe,mem_map_of_mem→Xap,pairwise_cons→Xy,mem_append_left→Xk,mem_append_right→Xg,length_append→Xz,map_append→Xu,pairwise_append→Xah,mem_append→Xm,mem_map→Xw,mem_cons→Xr,getElem?_of_mem→Xdr,getElem?_eq_getElem→Xq,eq_nil_of_length_eq_zero→Xaa,map_toArray→Xdq,map_cons→Xak,map_nil→Xbp,append→Xf,take_length→Xek,mem_singleton→Xaf,length→Xa,append_inj→Xfw,length_map→Xae,mem_of_mem_take→Xbj,mem_of_mem_drop→Xdw,nodup_append→Xaj,all_eq_true→Xac,nodup_nil→Xdf,length_drop→Xdx,sublist_append_right→Xfk,getElem?_map→Xan,all_cons→Xcf,mem_of_getElem?→Xaw
open Array renaming range→Xcg,foldl_toList→Xff,length_toList→Xas
open Nat renaming succ_mul→Xbv,mul_le_mul_right→Xbf,add_zero→Xax,le_trans→Xco,zero_mul→Xeu,le_refl→Xn,min_eq_left→Xca,add_assoc→Xay,lt_succ_self→Xbq,add_mul→Xcs,eq_of_beq_eq_true→Xcl,add_sub_cancel_left→Xcc,le_succ→Xdd
open Int renaming mul_le_mul_of_nonneg_right→Xev
open Option renaming map_eq_some_iff→Xv,map_some→Xbx,bind_eq_some_iff→Xbs,bind_some→Xd,map→Xfl
namespace Go.Sx
set_option linter.unusedVariables false
set_option linter.unusedSimpArgs false
theorem Wdb:∀l:List Nat,WbF l=true↔l.Nodup
 | []=>by simp[WbF]
 |i::l=>by
  have h:=Whe i l;simp only[WbF,Xi,Xaq,Xai,Wdb l]
  grind
theorem Wsa{α:Type}(l:List α)(d:α):∀(n i:Nat),i<n*l.length->(rep l n)[i]?=some (l.getD (i%l.length) d)
 |0,i,h=>by simp at h
 |n+1,i,h=>by
  rw[rep];by_cases hi:i<l.length
  .grind [Xcj,Nat.mod_eq_of_lt,Xc]
  .have fy:l.length<=i:=by omega
   rw[Xce fy,Wsa l d n (i-l.length) (by grind)];rw[Nat.mod_eq_sub_mod fy]
theorem WgO(z:Array Value)(n:Nat):((Xcg (n*z.size)).map λi=>z[i%z.size]!).toList=rep z.toList n:=by
 apply Xfj;intro i;by_cases hi:i<n*z.size
 .rw[Wsa z.toList default n i (by omega)]
  grind
 grind [Xcr,WlO]
section
variable{w0:World}{F:CS}{nt:Slots}{G0 G:GH}{ν:Nat->Nu}{objs:Waj}{nx:Nat}{st af:St}{a:Act}{w w':World}{P:Program}{T:Tab}
theorem WiE(hh:HRel w0 F G ν objs nx w){e:Ty}(he:e.data=true):
  ∀(l:List (Nat×AVal)) (ps:List (Nat×Value)) (xs ys:List e.den) (vs:Array Value),EncL (Enc G e) xs vs.toList->ps.length=l.length->
   (∀(j:Nat) (p:Nat×AVal) (q:Nat×Value),l[j]?=some p->ps[j]?=some q->p.1=q.1/\AValRel G ν nx p.2 q.2)->WqU e objs l xs=some ys->
   ∃vs',Instr.fill (λi=>some (i*e.size,e.size)) vs ps=some vs'/\EncL (Enc G e) ys vs'.toList/\ys.length=xs.length
 | [],[],xs,ys,vs,hc,_,_,h=>by simp[WqU]at h;subst h;exact⟨vs,rfl,hc,rfl⟩
 |(i,x)::l,[],_,_,_,_,hl,_,_=>by simp at hl
 | [],_::_,_,_,_,_,hl,_,_=>by simp at hl
 |(i,x)::l,(i',v)::ps,xs,ys,vs,hc,hl,hp,h=>by
  obtain⟨hi,hx⟩:=hp 0 _ _ rfl rfl;simp only at hi hx;subst hi;simp only[WqU]at h;split at h
  .rename_i ds gk;split at h
   .rename_i d hf;split at h
    .rename_i hlt;obtain⟨h1,_⟩:=WdI hx gk;have henc:=WmS hh h1 he hf;have hlen:v.cells.toList.length=e.size:=Enc_len _ _ _ henc;have fw:vs.toList.length=xs.length*e.size:=EncL_len (λx c hc=>Enc_len e x c hc) _ _ hc;have bX:i*e.size+e.size<=xs.length*e.size:=by rw[←Xbv];exact Xbf _ hlt
     have dK:=Win v.cells.toList (i*e.size) 0 vs (by simp_all);simp only[Xax]at dK;have dR:=Wkw (λx c hc=>Enc_len e x c hc) xs vs.toList i d v.cells.toList hc hlt henc;obtain⟨vs',h4,h5,h6⟩:=WiE hh he l ps (xs.set i d) ys _ (by rw[dK,hlen];exact dR) (by simp_all) (λj p q hj hq=>hp (j+1) p q (by simp_all) (by simp_all)) h;refine⟨vs',?_,h5,by grind⟩;simp only[Instr.fill];rw[Wa (by simp_all)];rw[←h4];congr 1;rw[←Xff];simp
    grind
   grind
  grind
theorem Wi3(hT:Wao P T)(hr:Rel w0 F nt G0 G ν st a w){o:Oper}(hd:∀d,o.dst=some d->nt.Ok d){t:TypeId}{n:Nat}{parts:Array (Nat×Operand)}(ho:o.op= .buildSlice t n parts)
  {ty:Ty} {et:TypeId} {te:TE} {ps:List (Nat×AVal)} {xs:List te.ty.den} (hl:look T t=some ⟨ty,false,.slice et⟩) (hle:look T et=some te)
  (h1:ps.length=parts.toList.length) (h2:∀(j:Nat) (p:Nat×AVal) (q:Nat×Operand),ps[j]?=some p->parts.toList[j]?=some q->p.1=q.1/\AValRel G ν st.nx p.2 (a.eval q.2))
  (hf:WqU te.ty st.objs ps (Xt n te.ty.dflt)=some xs) (hsz:n*te.ty.size<=16777216) (aV:te.ty.data=true) (hp:te.plain=true):
  Done P w0 F nt G0 o a w (st.new o.dst (.arr te.ty xs) (.s (.one (.own st.nx)))):=by
 have hu:=(hT _ _ hl).und.2.1;obtain⟨z,hz,dC⟩:=Wfc (w:=w) (hT _ _ hle);rw[WbM hp]at dC;have hY:z.cells.size=te.ty.size:=by rw[←Xas,dC,WbE]
 have dL:=WgO z.cells n;rw[hY,dC]at dL;obtain⟨vs',h3,h4,h5⟩:=WiE hr.h aV ps (parts.toList.map λp=>(p.1,a.eval p.2)) _ xs ((Xcg (n*te.ty.size)).map λi=>z.cells[i%te.ty.size]!) (by grind [Whg]) (by simp[h1]) (λj p q hp hq=>by
   grind) hf
 have jk:xs.length=n:=by grind
 have hpos:=WbU te.ty;have hn:n<=16777216:=Xco (Nat.le_mul_of_pos_right n hpos) hsz;have uf:vs'.size=n*te.ty.size:=by
  rw[←Xas,EncL_len (λx c hc=>Enc_len te.ty x c hc) _ _ h4,jk]
 obtain⟨⟨ν',h6⟩,_⟩:=WnF (t:=et) (vs:=vs') hr hd (e:=te.ty) aV (xs:=xs) (cap:=n) (cs:=vs'.toList) (by omega) (by unfold maxLen;omega) uf h4 (Xfr _) w rfl rfl rfl rfl;rw[jk]at h6;refine⟨_,_,_,G,ν',?_,.inl rfl,h6⟩;have ia:(parts.map λx=>match x with|(i,x)=>(i,a.eval x)).toList=parts.toList.map λp=>(p.1,a.eval p.2):=by simp
 simp only[execOp,ho,Instr.buildSlice,Sem.run_bind,Wk hu,Result.andThen_ok,(hT _ _ hle).sizeOf,W2 hp,Wa (show¬n*te.ty.size>2^24 by omega),Sem.run_pure];by_cases h0:n*te.ty.size=0
 .have uV:n=0:=by rcases Nat.mul_eq_zero.1 h0 with h|h<;>omega
  have e1:((Xcg (n*te.ty.size)).map λi=>z.cells[i%te.ty.size]!)= #[]:=by grind
  rw[e1]at h3;have e2:∀zz:Array Value,((Xcg (n*te.ty.size)).map λi=>zz[i%zz.size]!)= #[]:=λzz=>by grind
  simp only[Wb h0,Sem.run_pure,Result.andThen_ok,e2,ia,h3,WcV];rfl
 simp_all [Wa,Sem.run_bind,Result.andThen_ok,Sem.run_pure,WcV]
theorem Wjh(hT:Wao P T)(hr:Rel w0 F nt G0 G ν st a w){o:Oper}(hd:∀d,o.dst=some d->nt.Ok d){t:TypeId}{n c:Operand}(ho:o.op= .makeSlice t n c)
  {ty:Ty} {et:TypeId} {te:TE} {n' c':Int} {k k':IntKind} (hl:look T t=some ⟨ty,false,.slice et⟩) (hle:look T et=some te) (hn:a.eval n= .int k n') (hc:a.eval c= .int k' c')
  (h0:0<=n') (h1:n'<=c') (h2:WN c'.toNat=true) (aV:te.ty.data=true) (hp:te.plain=true):
  Done P w0 F nt G0 o a w (st.new o.dst (.arr te.ty (Xt n'.toNat te.ty.dflt)) (.s (.one (.own st.nx)))):=by
 have hu:=(hT _ _ hl).und.2.1;obtain⟨i,z,hi,hs,hz,dC,n7⟩:=(hT _ _ hle).info;rw[WbM hp]at dC;rw[W2 hp]at hs;have hY:z.cells.size=te.ty.size:=by rw[←Xas,dC,WbE]
 have ar:c'.toNat<=1073741824:=by simpa [WN]using h2
 have dL:=WgO z.cells c'.toNat;rw[hY,dC]at dL;have uW:rep (WbO te.ty) n'.toNat<+:rep (WbO te.ty) c'.toNat:=by
  have:∀(l:List Value) (p q:Nat),rep l p<+:rep l (p+q):=λl p q=>by
   induction p with
   |zero=>exact Xha
   |succ p ih=>grind [Nat.succ_add,rep,Xez]
  have h:=this (WbO te.ty) n'.toNat (c'.toNat-n'.toNat)
  rwa [show n'.toNat+(c'.toNat-n'.toNat)=c'.toNat by omega]at h
 have hb:(i.bytes:Int)*c'<=281474976710656:=by
  have h3:(i.bytes:Int)*c'<=4096*c':=Xev (by omega) (by omega);omega
 have hm:madeCells z.cells (c'.toNat*i.size)=(Xcg (c'.toNat*te.ty.size)).map λi=>z.cells[i%te.ty.size]!:=by
  rw[hs,←hY];rfl
 obtain⟨⟨ν',h6⟩,_⟩:=WnF (t:=et) (vs:=(Xcg (c'.toNat*te.ty.size)).map λi=>z.cells[i%te.ty.size]!) hr hd (e:=te.ty) aV (xs:=Xt n'.toNat te.ty.dflt) (cap:=c'.toNat) (cs:=rep (WbO te.ty) n'.toNat) (by simp;omega) (by unfold maxLen;omega)
  (by simp) (Whg aV _) (by simp_all) w rfl rfl rfl rfl
 rw[Xgc]at h6;refine⟨_,_,_,G,ν',?_,.inl rfl,h6⟩
 grind [execOp,Sem.run_bind,run_make,Result.andThen_ok,Sem.run_pure]
theorem Wi1(hT:Wao P T)(hr:Rel w0 F nt G0 G ν st a w){o:Oper}(hd:∀d,o.dst=some d->nt.Ok d){t:TypeId}{n c:Operand}(ho:o.op= .makeSlice t n c)
  {ty:Ty} {et:TypeId} {te:TE} {e:Ty} {n' c':Int} {k k':IntKind} (hl:look T t=some ⟨ty,false,.slice et⟩) (hle:look T et=some te) (hn:a.eval n= .int k n') (hc:a.eval c= .int k' c')
  (h0:0<=n') (h1:n'<=c') (h2:WN c'.toNat=true) (he:e.ro=te.ty) (hp:te.plain=true):
  Done P w0 F nt G0 o a w (st.new o.dst (.arr e (Xt n'.toNat e.dflt)) (.s (.one (.own st.nx)))):=by
 have hu:=(hT _ _ hl).und.2.1;obtain⟨i,z,hi,hs,hz,dC,n7⟩:=(hT _ _ hle).info;rw[WbM hp]at dC;rw[W2 hp]at hs;have rI:te.ty.size=e.size:=by rw[←he,WbL]
 have hY:z.cells.size=te.ty.size:=by rw[←Xas,dC,WbE]
 have ar:c'.toNat<=1073741824:=by simpa [WN]using h2
 have dL:=WgO z.cells c'.toNat;rw[hY,dC]at dL;have uW:rep (WbO te.ty) n'.toNat<+:rep (WbO te.ty) c'.toNat:=by
  have:∀(l:List Value) (p q:Nat),rep l p<+:rep l (p+q):=λl p q=>by
   induction p with
   |zero=>exact Xha
   |succ p ih=>grind [Nat.succ_add,rep,Xez]
  have h:=this (WbO te.ty) n'.toNat (c'.toNat-n'.toNat)
  rwa [show n'.toNat+(c'.toNat-n'.toNat)=c'.toNat by omega]at h
 have hb:(i.bytes:Int)*c'<=281474976710656:=by
  have h3:(i.bytes:Int)*c'<=4096*c':=Xev (by omega) (by omega);omega
 have hm:madeCells z.cells (c'.toNat*i.size)=(Xcg (c'.toNat*te.ty.size)).map λi=>z.cells[i%te.ty.size]!:=by
  rw[hs,←hY];rfl
 obtain⟨⟨ν',h6⟩,_⟩:=Wh6 (t:=et) (vs:=(Xcg (c'.toNat*te.ty.size)).map λi=>z.cells[i%te.ty.size]!) hr hd [] (e:=e) (xs:=Xt n'.toNat e.dflt) (cap:=c'.toNat) (cs:=rep (WbO te.ty) n'.toNat) (by simp;omega) (by unfold maxLen;omega)
  (by simp[rI]) (λφ _=>by
   obtain⟨ps,g1,g2⟩:=WuD (G:=G) (w:=w) e n'.toNat;rw[he]at g1;exact⟨ps,g1,WmY ps g2,λp hp b o hh=>by simp_all⟩) (by simp_all) w rfl rfl rfl rfl
 rw[Xgc]at h6;refine⟨_,_,_,G,ν',?_,.inl rfl,h6⟩
 grind [execOp,Sem.run_bind,run_make,Result.andThen_ok,Sem.run_pure]
theorem Wl8(hT:Wao P T)(hr:Rel w0 F nt G0 G ν st a w){o:Oper}(hd:∀d,o.dst=some d->nt.Ok d){t:TypeId}{parts:Array (Nat×Operand)}{x:Operand}(ho:o.op= .buildSlice t 1 parts)(ca:parts.toList= [(0,x)])
  {ty:Ty} {et:TypeId} {te:TE} {e:Ty} {xv:AVal} {ds:List Cell} {d:e.den} {m:List Nat} (hl:look T t=some ⟨ty,false,.slice et⟩) (hle:look T et=some te) (hx:AValRel G ν st.nx xv (a.eval x)) (gk:WgT xv=some ds)
  (hf:WaB e ds st.objs=some (d,m,[])) (hm:m.Nodup) (he:e.ro=te.ty) (hp:te.plain=true) (hsz:te.ty.size<=16777216):
  Done P w0 F nt G0 o a w (({env:=st.env,objs:=(st.nx,.arr e [d])::kill st.objs m,nx:=st.nx+1}:St).put o.dst (.s (.one (.own st.nx)))):=by
 have hu:=(hT _ _ hl).und.2.1;obtain⟨z,hz,dC⟩:=Wfc (w:=w) (hT _ _ hle);rw[WbM hp]at dC;have rI:te.ty.size=e.size:=by rw[←he,WbL]
 have hY:z.cells.size=te.ty.size:=by rw[←Xas,dC,WbE]
 have dL:=WgO z.cells 1;rw[hY,dC]at dL;simp only[rep,Xcw,Nat.one_mul]at dL;obtain⟨h1,h2⟩:=WdI hx gk;have dK:∀φ,HR w0 F G ν φ st.objs st.nx w->∃ps,EncP (TyRel G w e) [d] (a.eval x).cells.toList ps/\Sep (ps.map Pc.fp)/\∀p∈ps,CS.le p.fp (FromL φ st.objs m):=λφ hφ=>by
  obtain⟨ns,g1,g2,g3,_⟩:=Wak (G':=G) hφ (λ_ _ _ hh=>hh) e ds _ d m [] h1 (λi hi=>by simp at hi) hm hf;exact⟨ns,Wo1.2 g1,g2,g3⟩
 have hlen:(a.eval x).cells.size=e.size:=by
  obtain⟨φ,hφ⟩:=hr.h;obtain⟨ps,g1,_⟩:=dK φ hφ;have:=WF _ _ _ _ (Wo1.1 g1);simpa using this
 have zl:((Xcg te.ty.size).map λi=>z.cells[i%te.ty.size]!).size=te.ty.size:=by simp
 have dR:=Win (a.eval x).cells.toList 0 0 ((Xcg te.ty.size).map λi=>z.cells[i%te.ty.size]!) (by simp;omega);have gz:((Xcg te.ty.size).map λi=>z.cells[i%te.ty.size]!).toList.length=e.size:=by simp[rI]
 have fw:((a.eval x).cells.toList.zipIdx.foldl (λcs (c,j)=>cs.setIfInBounds (0+j) c) ((Xcg te.ty.size).map λi=>z.cells[i%te.ty.size]!)).toList=(a.eval x).cells.toList:=by
  rw[dR];simp only[Nat.zero_add,List.take_zero,List.nil_append];rw[List.drop_eq_nil_of_le (by rw[gz];simp;omega),Xcw]
 generalize hV:(a.eval x).cells.toList.zipIdx.foldl (λcs (c,j)=>cs.setIfInBounds (0+j) c) ((Xcg te.ty.size).map λi=>z.cells[i%te.ty.size]!)=V at fw;have hVs:V.size=1*e.size:=by rw[←Xas,fw];simp[hlen]
 obtain⟨⟨ν',h6⟩,_⟩:=Wh6 (t:=et) (vs:=V) hr hd m (e:=e) (xs:=[d]) (cap:=1) (cs:=(a.eval x).cells.toList) (by simp) (by unfold maxLen;omega) hVs dK (by rw[fw];exact Xfr _) w rfl rfl rfl rfl;refine⟨_,_,_,G,ν',?_,.inl rfl,h6⟩;have rJ:Instr.fill (λi=>some (i*te.ty.size,te.ty.size)) ((Xcg te.ty.size).map λi=>z.cells[i%te.ty.size]!) [(0,a.eval x)]=some V:=by
  simp only[Instr.fill,Xeu];rw[Wa (by simp;omega),←hV];congr 1;rw[←Xff];simp
 have ia:(parts.map λx=>match x with|(i,x)=>(i,a.eval x)).toList= [(0,a.eval x)]:=by simp[ca]
 have hpos:=WbU te.ty;simp only[execOp,ho,Instr.buildSlice,Sem.run_bind,Wk hu,Result.andThen_ok,(hT _ _ hle).sizeOf,W2 hp,Nat.one_mul,Wa (show¬te.ty.size>2^24 by omega),Wa (show¬te.ty.size=0 by omega),Sem.run_pure,hz,hY,ia,rJ,WcV];rfl
theorem WeL{t:TypeId}{te:TE}(bD:TEok P T t te){b off:Nat}{v:Value}{cur:Array Value}{TT:TypeId}(hg:w.heap[b]?=some (.cells cur TT (0,0)))(hsz:te.size=v.cells.size)(bX:off+v.cells.size<=cur.size)(h1:∀u∈v.cells.toList,u.oneCell'=true):
  (storeVar t ⟨b,off,none⟩ v).run P w= .ok () (w.setRow b (cur.toList.take off++v.cells.toList++cur.toList.drop (off+v.cells.size)).toArray):=by
 have h:=run_storeCells_at P b off TT v.cells.toList 0 cur w hg (by simpa using bX) h1;simp only[Xax,Xas]at h;simp[storeVar,bD.sizeOf,hsz,h]
theorem Wc0{b k:Nat}{vs:Array Value}{T:TypeId}{news:List Value}(h:w.heap[b]?=some (Obj.cells vs T (0,0)))(bX:k+news.length<=vs.size):
  WLe (rng b k news.length) w (w.setRow b (vs.toList.take k++news++vs.toList.drop (k+news.length)).toArray)/\Mem (w.setRow b (vs.toList.take k++news++vs.toList.drop (k+news.length)).toArray) b k news:=by
 have hk:(vs.toList.take k).length=k:=by simp;omega
 constructor
 .refine WLe.setRow h (by simp;omega) (λo hn=>?_);have xo:¬(k<=o/\o<k+news.length):=λ⟨h1,h2⟩=>hn ⟨rfl,h1,h2⟩;simp only[Xem,Xbr];rw[Xav,hk];split
  .rename_i hlt;rw[Xbl,Wb hlt];simp
  .rw[Xav];split
   .omega
   .rw[Xbm,show k+news.length+(o-k-news.length)=o by omega];simp
 .intro j v hj;rw[cell_of_row _ b _ _ T (0,0) (setRow_heap w b vs _ T (0,0) h)];have hlt:j<news.length:=(Xad.1 hj).1;simp only[Xem,Xbr];rw[Xce (by omega),hk,Xcj (by omega),show k+j-k=j by omega];exact hj
theorem Wfe{b o k:Nat}{vs us:List Value}(hm:Mem w b o vs)(hw:WLe (rng b (o+k) us.length) w w')(hu:Mem w' b (o+k) us)(hk:k+us.length<=vs.length):Mem w' b o (vs.take k++us++vs.drop (k+us.length)):=λj v hj=>by
 have gB:∀v',vs[j]?=some v'->¬(k<=j/\j<k+us.length)->w'.cell? ⟨b,o+j,none⟩=some v':=λv' hv hn=>by
  have h1:=hm j v' hv;rw[hw.cell b (o+j) (block_lt_of_cell h1) (λ⟨_,h2,h3⟩=>hn ⟨by omega,by omega⟩)];exact h1
 have cu:(vs.take k).length=k:=by simp;omega
 rw[Xbr,Xav,cu]at hj;split at hj
 .rename_i hlt;rw[Xbl,Wb hlt]at hj;exact gB v hj (by omega)
 .rw[Xav]at hj;split at hj
  .have:=hu (j-k) v hj;rw[show o+j=o+k+(j-k) by omega];exact this
  .rw[Xbm,show k+us.length+(j-k-us.length)=j by omega]at hj;exact gB v hj (by omega)
theorem HR.turn{φ:Nat->CS}(h:HR w0 F G ν φ objs nx w){id:Nat}{ob cA:Ob}{m:List Nat}(ho:look objs id=some ob)(hd:ob≠ .dead){S:CS}(hw:WLe S w w')(hs:CS.le S (φ id))
  (cT:WcG G ν nx w' id (λb o=>φ id b o\/FromL φ objs m b o) cA):HRel w0 F G ν ((id,cA)::kill objs m) nx w':=by
 have hl:Live objs id:=⟨ob,ho,hd⟩;exact⟨_,h.put (ν':=ν) (λ_ _=>rfl) (Xn _) (h.lt id hl) (hw.mono λb o hh=>⟨id,.inl rfl,hl,hs b o hh⟩) (λb o hh=>by
  rcases hh with hh|⟨i,hi,h1,h2⟩
  .exact .inl ⟨id,.inl rfl,hl,hh⟩
  .exact .inl ⟨i,.inr hi,h1,h2⟩) (λ_=>cT)⟩
theorem Wqp(hT:Wao P T)(hr:Rel w0 F nt G0 G ν st a w){o:Oper}{t:TypeId}{x y:Operand}(ho:o.op= .store t x y)(jl:o.dst=none){p v:AVal}(hx:AValRel G ν st.nx p (a.eval x))(hy:AValRel G ν st.nx v (a.eval y))
  (h:Wc1 T st t p v=some af):Done P w0 F nt G0 o a w af:=by
 unfold Wc1 at h;split at h
 .rename_i te id off ds hl gk;obtain⟨ib,lZ⟩:=WdI hy gk;split at h
  .rename_i cs au;split at h
   .rename_i bo;simp only[Xi,Wh]at bo;obtain⟨⟨hs,eB⟩,bX⟩:=bo;injection h with h;subst h;obtain⟨⟨_,b,hb,gh⟩,_⟩:=hx;obtain⟨φ,hφ⟩:=hr.h;obtain⟨b',vs,hb',⟨row,TT,fL,hrow⟩,hmem,bB,eO⟩:=hφ.ob _ _ au;rw[hb]at hb';injection hb' with hb';subst hb';have hlen:(a.eval y).cells.size=ds.length:=by have:=ib.1;simpa using this
    have hrun:=WeL (w:=w) (hT _ _ hl) (b:=b) (off:=(ν id).off+off) (v:=a.eval y) fL (by rw[W2 eB,hlen];exact hs) (by omega) lZ;obtain⟨hw,hm⟩:=Wc0 (k:=(ν id).off+off) (news:=(a.eval y).cells.toList) fL (by simp;omega);simp only[Xas]at hw hm;generalize w.setRow b (row.toList.take ((ν id).off+off)++(a.eval y).cells.toList++row.toList.drop ((ν id).off+off+(a.eval y).cells.size)).toArray=W at hrun hw hm;have cT:HRel w0 F G ν ((id,.box (Wej cs off ds))::st.objs) st.nx W:=by
     refine hφ.turn (m:=[]) au (by simp) hw (λb' o ⟨e,h1,h2⟩=>eO b' o ⟨e,by omega,by omega⟩) ?_;refine⟨b,_,hb,by rw[We9 bX];exact hw.rows.row _ _ ⟨row,TT,fL,hrow⟩,Wfe hmem (us:=(a.eval y).cells.toList) (by rw[Xas];exact hw) hm (by rw[bB.1];simp;omega),Wfa bB ib,λb o hh=>.inl (eO b o (by rw[We9 bX]at hh;exact hh))⟩
    refine⟨.skip,undef,W,G,ν,?_,.inr ⟨rfl,rfl⟩,?_⟩
    .simp only[execOp,ho,gh,Instr.storeAt,Instr.sureAddr,Sem.run_bind,Sem.run_pure,Result.andThen_ok,hrun]
    .rw[jl];exact hr.on (λ_ _ _ hh=>hh) (λ_ _=>rfl) (Xn _) cT hr.gx
   .simp at h
  .simp at h
 .rename_i te id i off ds hl gk;obtain⟨ib,lZ⟩:=WdI hy gk;split at h
  .rename_i e xs au;split at h
   .rename_i bo;simp only[Xi,Wh]at bo;obtain⟨⟨⟨hs,eB⟩,bX⟩,aV⟩:=bo;split at h
    .rename_i d hf;injection h with h;subst h;obtain⟨⟨_,uX,b,hb,gh⟩,_⟩:=hx;obtain⟨φ,hφ⟩:=hr.h;have hown:OwnL w (TyRel G w e) e.size (ν id) xs (φ id):=hφ.ob _ _ au;obtain⟨jk,h4,h5,kA,cs,h7,h8,h9⟩:=WdJ aV hown hb;obtain⟨row,TT,fL,hrow⟩:=kA;have bW:=hown.2.1;have hlt:i<xs.length:=by omega
     have hlen:(a.eval y).cells.toList.length=ds.length:=ib.1;have bS:(a.eval y).cells.size=ds.length:=by simpa using hlen
     have hcl:cs.length=xs.length*e.size:=EncL_len (λx c hc=>Enc_len e x c hc) _ _ h7;have xp:i*e.size+e.size<=xs.length*e.size:=by rw[←Xbv];exact Xbf _ hlt
     have zm:xs.length*e.size<=(ν id).cap*e.size:=Xbf _ h4;have uY:=Wmn (λx c hc=>Enc_len e x c hc) xs cs i e.dflt h7 hlt;have uZ:=Wfa (off:=off) (WaT (G:=G) (ν:=ν) (nx:=st.nx) e _ _ uY) ib;have henc:=WmS hr.h uZ aV hf;have dR:=Wkw (λx c hc=>Enc_len e x c hc) xs cs i d _ h7 hlt henc;have hrun:=WeL (w:=w) (hT _ _ hl) (b:=b) (off:=(ν id).off+(i*e.size+off)) (v:=a.eval y) fL (by rw[W2 eB];omega) (by omega) lZ;obtain⟨hw,hm⟩:=Wc0 (k:=(ν id).off+(i*e.size+off)) (news:=(a.eval y).cells.toList) fL (by omega);simp only[Xas]at hw hm;generalize w.setRow b (row.toList.take ((ν id).off+(i*e.size+off))++(a.eval y).cells.toList++row.toList.drop ((ν id).off+(i*e.size+off)+(a.eval y).cells.size)).toArray=W at hrun hw hm;have oa:cs.take (i*e.size+off)++(a.eval y).cells.toList++cs.drop (i*e.size+off+(a.eval y).cells.toList.length)=
       cs.take (i*e.size)++(((cs.drop (i*e.size)).take e.size).take off++(a.eval y).cells.toList++((cs.drop (i*e.size)).take e.size).drop (off+(a.eval y).cells.toList.length))++cs.drop (i*e.size+e.size):=by
      rw[hlen];have e1:cs.take (i*e.size+off)=cs.take (i*e.size)++((cs.drop (i*e.size)).take e.size).take off:=by
       rw[List.take_take,Xca (by omega),←List.take_add]
      have e2:cs.drop (i*e.size+off+ds.length)=((cs.drop (i*e.size)).take e.size).drop (off+ds.length)++cs.drop (i*e.size+e.size):=by
       rw[List.drop_take,Xdm];have:cs.drop (i*e.size+e.size)=(cs.drop (i*e.size+(off+ds.length))).drop (e.size-(off+ds.length)):=by rw[Xdm];congr 1;omega
       rw[this,Xdo];congr 1;omega
      rw[e1,e2];simp
     have cT:HRel w0 F G ν ((id,.arr e (xs.set i d))::st.objs) st.nx W:=by
      refine hφ.turn (m:=[]) au (by simp) hw (λb' o ⟨e',h1,h2⟩=>h9 b' o ⟨e',by omega,by omega⟩) ?_;refine Wmv aV hb (by simpa using jk) bW (by simpa using h4) h5 (hw.rows.row _ _ ⟨row,TT,fL,hrow⟩) dR ?_ (λb o hh=>.inl (h9 b o hh));rw[←oa];exact Wfe h8 (us:=(a.eval y).cells.toList) (by rw[Xas];exact hw) hm (by omega)
     refine⟨.skip,undef,W,G,ν,?_,.inr ⟨rfl,rfl⟩,?_⟩
     .simp only[execOp,ho,gh,bW,Instr.storeAt,Instr.sureAddr,Sem.run_bind,Sem.run_pure,Result.andThen_ok,hrun]
     .rw[jl];exact hr.on (λ_ _ _ hh=>hh) (λ_ _=>rfl) (Xn _) cT hr.gx
    .simp at h
   .split at h
    .rename_i bo;simp only[Xi,Wh]at bo;obtain⟨⟨⟨hs,eB⟩,u0⟩,zn⟩:=bo;subst u0;split at h
     .rename_i d m hf;split at h
      .rename_i aP;injection h with h;subst h;have aP:(id::m).Nodup:=(Wdb _).1 aP;obtain⟨ug,zo⟩:=Xai.1 aP;obtain⟨⟨_,uX,b,hb,gh⟩,_⟩:=hx;obtain⟨φ,hφ⟩:=hr.h;have hown:OwnL w (TyRel G w e) e.size (ν id) xs (φ id):=hφ.ob _ _ au;have az:Live st.objs id:=⟨_,au,by simp⟩;obtain⟨jk,bW,h3⟩:=hown;simp only[hb]at h3;obtain⟨h4,h5,kA,cs,ps,h7,h8,h9,cP⟩:=h3;obtain⟨row,TT,fL,hrow⟩:=kA;have hlt:i<xs.length:=by omega
       have hlen:(a.eval y).cells.toList.length=ds.length:=ib.1;have bS:(a.eval y).cells.size=ds.length:=by simpa using hlen
       have xp:i*e.size+e.size<=xs.length*e.size:=by rw[←Xbv];exact Xbf _ hlt
       have zm:xs.length*e.size<=(ν id).cap*e.size:=Xbf _ h4;obtain⟨c1,c,c2,p1,pc,p2,g1,g2,g3,g4,g5⟩:=Wn0 h7 e.dflt hlt;have l1:=Wba (λx c q hx=>WF e x c q hx) _ _ _ g3;rw[Xba,Xca (by omega)]at l1;have lc:=WF _ _ _ _ g4;obtain⟨ns,t1,t2,t3,t4,_⟩:=Wak (G':=G) hφ (λ_ _ _ hh=>hh) e ds _ d m [] ib (λi hi=>by simp at hi) zo hf;have hrun:=WeL (w:=w) (hT _ _ hl) (b:=b) (off:=(ν id).off+(i*e.size+0)) (v:=a.eval y) fL (by rw[W2 eB];omega) (by omega) lZ;obtain⟨hw,hm⟩:=Wc0 (k:=(ν id).off+(i*e.size+0)) (news:=(a.eval y).cells.toList) fL (by omega);simp only[Xas]at hw hm;generalize w.setRow b (row.toList.take ((ν id).off+(i*e.size+0))++(a.eval y).cells.toList++row.toList.drop ((ν id).off+(i*e.size+0)+(a.eval y).cells.size)).toArray=W at hrun hw hm;have ic:CS.le (rng b ((ν id).off+(i*e.size+0)) (a.eval y).cells.size) (rng b (ν id).off ((ν id).cap*e.size)):=λb' o ⟨e',k1,k2⟩=>⟨e',by omega,by omega⟩;have gD:=cP _ (Xh ..);have hbl:∀p∈p1++(pc++p2),∀b o,p.fp b o->b<w.heap.size:=λp hp b o hh=>hφ.bl id b o az (cP p.fp (Xe _ (Xap (by rw[g2];exact hp))) b o hh);obtain⟨q1,q2⟩:=Xy.1 h9;have iS:∀p∈p1++(pc++p2),Same p.fp w W:=λp hp=>hw.same ((q1 p.fp (Xap (by rw[g2];exact hp))).mono ic (λ_ _ hh=>hh)) (hbl p hp);have kB:∀p∈ns,Same p.fp w W:=λp hp=>hw.same (λb o k1 k2=>by
        obtain⟨j,hj,k3,k4⟩:=t3 p hp b o k2;have:=hφ.inj id j b o az k3 (gD b o (ic b o k1)) k4;subst this;exact ug hj) (λb o hh=>by
        obtain⟨j,hj,k3,k4⟩:=t3 p hp b o hh;exact hφ.bl j b o k3 k4)
       have hEnc:EncP (TyRel G W e) (xs.set i d) (c1++((a.eval y).cells.toList++c2)) (p1++(ns++p2)):=by
        refine WoT hlt ?_ (WaL (λ_ _ _ hh=>hh) e _ _ _ kB t1) ?_
        .exact WbX (Q:=λq=>Same q.fp w W) (λx c q hq hx=>WaL (λ_ _ _ hh=>hh) e x c q hq hx) _ _ _ (λq hq=>iS q (Xk _ hq)) g3
        .exact WbX (Q:=λq=>Same q.fp w W) (λx c q hq hx=>WaL (λ_ _ _ hh=>hh) e x c q hq hx) _ _ _ (λq hq=>iS q (Xg _ (Xg _ hq))) g5
       have hMem:Mem W b (ν id).off (c1++((a.eval y).cells.toList++c2)):=by
        have:=Wfe h8 (k:=i*e.size+0) (us:=(a.eval y).cells.toList) (by rw[Xas];exact hw) hm (by rw[g1];simp;omega);rw[g1,Xax,List.take_append_of_le_length (by omega),List.take_of_length_le (by omega)]at this;have kC:(c1++(c++c2)).drop (i*e.size+(a.eval y).cells.toList.length)=c2:=by
         rw[←Xbr,show i*e.size+(a.eval y).cells.toList.length=(c1++c).length by rw[Xz];omega,List.drop_left]
        rw[kC,Xbr]at this;exact this
       have cT:HRel w0 F G ν ((id,.arr e (xs.set i d))::kill st.objs m) st.nx W:=by
        refine hφ.turn au (by simp) hw (λb' o hh=>gD b' o (ic b' o hh)) ?_;refine⟨by simpa using jk,bW,?_⟩;simp only[hb];rw[g2,Xu,Xu]at q2 q1;have qA:=Xah.1 q2;have qB:=Xah.1 qA.2.1;have l0:∀p∈ns,∀s,CS.le s (φ id)->CS.disj p.fp s:=λp hp s hs b o k1 k2=>by
         obtain⟨j,hj,k3,k4⟩:=t3 p hp b o k1;have:=hφ.inj id j b o az k3 (hs b o k2) k4;subst this;exact ug hj
        have ca:∀p∈p1++(pc++p2),CS.le p.fp (φ id):=λp hp=>cP p.fp (Xe _ (Xap (by rw[g2];exact hp)));refine⟨by simpa using h4,h5,hw.rows.row _ _ ⟨row,TT,fL,hrow⟩,_,p1++(ns++p2),hEnc,hMem,Xy.2 ⟨λs hs=>?_,?_⟩,λs hs=>?_⟩
        .simp only[Xu,Xm]at hs;rcases hs with hs|hs|hs
         .exact q1 s (Xk _ hs)
         .obtain⟨p,hp,rfl⟩:=Xw.1 hs;exact(l0 p hp _ gD).symm
         .exact q1 s (Xg _ (Xg _ hs))
        .rw[Xu,Xu];refine Wny (Xah.2 ⟨qA.1,qB.2.1,λs hs t ht=>qA.2.2 s hs t (Xg _ ht)⟩) t2 (λs hs t ht=>?_);obtain⟨p,hp,rfl⟩:=Xw.1 hs;rcases Xm.1 ht with ht|ht
         .obtain⟨q,hq,rfl⟩:=Xw.1 ht;exact l0 p hp _ (ca q (Xk _ hq))
         .obtain⟨q,hq,rfl⟩:=Xw.1 ht;exact l0 p hp _ (ca q (Xg _ (Xg _ hq)))
        .intro b o hh;rcases Xr.1 hs with rfl|hs
         .exact .inl (gD b o hh)
         .simp only[Xu,Xm]at hs;rcases hs with hs|hs|hs
          .obtain⟨q,hq,rfl⟩:=Xw.1 hs;exact .inl (ca q (Xk _ hq) b o hh)
          .obtain⟨q,hq,rfl⟩:=Xw.1 hs;exact .inr (t3 q hq b o hh)
          .obtain⟨q,hq,rfl⟩:=Xw.1 hs;exact .inl (ca q (Xg _ (Xg _ hq)) b o hh)
       refine⟨.skip,undef,W,G,ν,?_,.inr ⟨rfl,rfl⟩,?_⟩
       .simp only[execOp,ho,gh,bW,Instr.storeAt,Instr.sureAddr,Sem.run_bind,Sem.run_pure,Result.andThen_ok,hrun]
       .rw[jl];exact hr.on (λ_ _ _ hh=>hh) (λ_ _=>rfl) (Xn _) cT hr.gx
      .simp at h
     .simp at h
    .simp at h
  .simp at h
 .simp at h
end
end Go.Sx
namespace Go.Sx
set_option linter.unusedVariables false
set_option linter.unusedSimpArgs false
theorem Wvh{G:GH}(t:Ty)(d:t.den)(cs:List Value)(h:Enc G t d cs):∀u∈cs,u.oneCell'=true:=λu hu=>by
 obtain⟨j,hj⟩:=Xdr hu;have hc:=WaT (ν:=λ_=>⟨none,0,0,0,0⟩) (nx:=0) t d cs h;have hlt:j<(split t d).length:=by rw[←hc.1];grind
 exact(hc.2 j _ u (Xq hlt) hj).2
theorem WpR{G:GH}{t:Ty}:∀(l:List t.den) (cs:List Value),EncL (Enc G t) l cs->∀u∈cs,u.oneCell'=true
 | [],cs,h,u,hu=>by grind [EncL]
 |x::l,cs,⟨c1,c2,he,h1,h2⟩,u,hu=>by
  subst he;rcases Xm.1 hu with hu|hu
  .grind [Wvh]
  .exact WpR l c2 h2 u hu
theorem Wrx{G:GH}{w:World}(t:Ty)(d:t.den)(cs:List Value)(ps:List Pc)(h:TyRel G w t d cs ps):∀u∈cs,u.oneCell'=true:=λu hu=>by
 obtain⟨j,hj⟩:=Xdr hu;have hc:=WhV (ν:=λ_=>⟨none,0,0,0,0⟩) (nx:=0) t d cs ps h;have hlt:j<(split t d).length:=by rw[←hc.1];grind
 exact(hc.2 j _ u (Xq hlt) hj).2
theorem Wmd{G:GH}{w:World}{t:Ty}:∀(l:List t.den) (cs:List Value) (ps:List Pc),EncP (TyRel G w t) l cs ps->∀u∈cs,u.oneCell'=true
 | [],cs,ps,h,u,hu=>by rw[h.1]at hu;simp at hu
 |x::l,cs,ps,⟨c1,c2,p1,p2,he,hp,h1,h2⟩,u,hu=>by
  subst he;rcases Xm.1 hu with hu|hu
  .grind [Wrx]
  .exact Wmd l c2 p2 h2 u hu
section
variable{w0:World}{F:CS}{nt:Slots}{G0 G:GH}{ν:Nat->Nu}{φ:Nat->CS}{objs:Waj}{nx:Nat}{st af:St}{a:Act}{w w':World}{P:Program}{T:Tab}
structure Src(w0:World)(F:CS)(G:GH)(ν:Nat->Nu)(st:St)(w:World)(e:Ty)(l:List e.den)(m:List Nat)(v:Value)(news:List Value):Prop where
 enc:∀φ,HR w0 F G ν φ st.objs st.nx w->∃ps,EncP (TyRel G w e) l news ps/\Sep (ps.map Pc.fp)/\∀p∈ps,CS.le p.fp (FromL φ st.objs m)
 rd:(v= .slice none 0 0/\l= [])\/∃(p:Addr) (c:Nat),v= .slice (some p) l.length c/\∀(j:Nat) (u:Value),news[j]?=some u->w.cell? (p.add j)=some u
theorem WcO{e:Ty}(he:e.data=true){l:List e.den}{m:List Nat}{v:Value}{news:List Value}(h:EncL (Enc G e) l news)
  (rd:(v= .slice none 0 0/\l= [])\/∃(p:Addr) (c:Nat),v= .slice (some p) l.length c/\∀(j:Nat) (u:Value),news[j]?=some u->w.cell? (p.add j)=some u):Src w0 F G ν st w e l m v news:=
 ⟨λφ _=>⟨[],(EncP_data he l news []).2 ⟨h,rfl⟩,List.Pairwise.nil,by simp⟩,rd⟩
theorem Wiy(hr:Rel w0 F nt G0 G ν st a w){e:Ty}(he:e.data=true){x:AVal}{u:Value}{l:List e.den}(m:List Nat)(hx:AValRel G ν st.nx x u)(h:WvM st e x=some l):∃news,Src w0 F G ν st w e l m u news:=by
 unfold WvM at h;split at h
 .rename_i e' d';obtain⟨jO,hd⟩:=WaC h;subst jO;simp only at hd;subst hd;obtain⟨⟨v,hv,hs⟩,_⟩:=hx;simp at hv;subst hv;rcases hs with⟨rfl,hn⟩|⟨b,off,cap,cs,rfl,h1,h2,h3,h4⟩|⟨a',cap,rfl,hn⟩
  rotate_left 2
  .exact⟨[],WcO he (by rw[hn];rfl) (.inr ⟨a',cap,by grind,λj u hj=>by simp at hj⟩)⟩
  .exact⟨[],WcO he (by rw[hn];rfl) (.inl ⟨rfl,hn⟩)⟩
  .exact⟨cs,WcO he h3 (.inr ⟨⟨b,off,none⟩,cap,rfl,λj u hj=>by rw[Wbc];exact hr.h.g (h4 j u hj)⟩)⟩
 .injection h with h;subst h;obtain⟨hv,_⟩:=hx;simp only[CellRel]at hv;subst hv;exact⟨[],WcO he rfl (.inl ⟨rfl,rfl⟩)⟩
 .rename_i id;split at h
  .rename_i e' xs ho;obtain⟨jO,hd⟩:=WaC h;subst jO;simp only at hd;subst hd;obtain⟨⟨_,hv⟩,_⟩:=hx;subst hv;obtain⟨S,au⟩:=hr.h.obj ho;unfold Nu.hdr;cases hb:(ν id).blk with
   |none=>have:=Wcs au hb;exact⟨[],WcO he (by rw[this];rfl) (.inl ⟨rfl,this⟩)⟩
   |some b=>
    obtain⟨h1,h2,h3,h4,cs,h5,h6,h7⟩:=WdJ he au hb;exact⟨cs,WcO he h5 (.inr ⟨⟨b,(ν id).off,none⟩,(ν id).cap,by rw[h1],λj u hj=>by rw[Wbc];exact h6 j u hj⟩)⟩
  grind
 .rename_i id lo hi;split at h
  .rename_i e' xs ho;obtain⟨ys,hc,h⟩:=Xv.1 h;subst h;obtain⟨jO,hd⟩:=WaC hc;subst jO;simp only at hd;subst hd;obtain⟨⟨_,g1,g2,g3,hv⟩,_⟩:=hx;subst hv;obtain⟨S,au⟩:=hr.h.obj ho;have bW:=au.2.1;have xq:=au.1;unfold Nu.vhdr;cases hb:(ν id).blk with
   |none=>
    have:=Wcs au hb;subst this;exact⟨[],WcO he (by simp;rfl) (.inl ⟨rfl,by simp⟩)⟩
   |some b=>
    obtain⟨h1,h2,h3,h4,cs,h5,h6,h7⟩:=WdJ he au hb;have hl:((xs.take hi).drop lo).length=hi-lo:=by simp;omega
    by_cases oc:(ν id).cap=lo
    .have h0:(xs.take hi).drop lo= []:=Xaa (by omega);exact⟨[],WcO he (by rw[h0];rfl) (.inr ⟨_,_,by rw[hl],λj u hj=>by simp at hj⟩)⟩
    .refine⟨(cs.take (hi*e'.size)).drop (lo*e'.size),WcO he (Weu (λx c hc=>Enc_len e' x c hc) _ _ lo (WeA (λx c hc=>Enc_len e' x c hc) _ _ hi h5)) (.inr ⟨_,_,by rw[hl,Wa oc],λj u hj=>?_⟩)⟩;rw[Xbm,Xbl]at hj;rw[Wbc,bW,Xay];split at hj
     .exact h6 _ u hj
     grind
  grind
 grind
theorem WsP(hr:Rel w0 F nt G0 G ν st a w){dst:Option Tmp}(hd:∀d,dst=some d->nt.Ok d)(e:Ty)(m:List Nat):
  ∃ν',Rel w0 F nt G0 G ν' (({env:=st.env,objs:=(st.nx,.arr e [])::kill st.objs m,nx:=st.nx+1}:St).put dst (.s (.one (.own st.nx)))) (a.put dst (.slice none 0 0)) w:=by
 refine⟨upd ν st.nx ⟨none,0,0,0,e.size⟩,hr.fresh hd m (.arr e []) _ (λ_ _ _=>False) _ _ (λφ _=>WLe.refl _ w) (λφ _ b o hh=>hh.elim) (λφ _=>?_) ⟨⟨Xbq _,by rw[WbH];rfl⟩,rfl⟩⟩;show OwnL _ _ _ (upd ν st.nx ⟨none,0,0,0,e.size⟩ st.nx) _ _;rw[WbH];exact⟨rfl,rfl,rfl⟩
theorem WiL(t ty e TT:TypeId)(i:TypeInfo)(ht:P.underlying t=some (.slice e))(hi:P.info? e=some i)
  (g off sLen sCap:Nat) (cur:Array Value) (hg:w.heap[g]?=some (.cells cur TT (0,0)))
  (p:Addr) (m c:Nat) (news:List Value) (hl:news.length=m*i.size) (rK:∀j u,news[j]?=some u->w.cell? (p.add j)=some u) (h1:∀u∈news,u.oneCell'=true)
  (ar:sLen+m<=sCap) (bX:off+sLen*i.size+news.length<=cur.size):
  (Builtin.append_ #[t,t] ty #[.slice (some ⟨g,off,none⟩) sLen sCap,.slice (some p) m c]).run P w=
   .ok (.slice (some ⟨g,off,none⟩) (sLen+m) sCap) (w.setRow g (cur.toList.take (off+sLen*i.size)++news++cur.toList.drop (off+sLen*i.size+news.length)).toArray):=by
 have hf:=run_firstCells_some (P:=P) w i.size m p m c news hl rK;have aH:=run_storeCells_at P g (off+sLen*i.size) TT news 0 cur w hg (by omega) h1;simp only[Xax]at aH;simp[Builtin.append_,Wk ht,sizeOf,typeInfo,hi,Builtin.lenOf,ar,hf,Wbc,aH]
theorem We1(t ty e:TypeId)(i:TypeInfo)(ht:P.underlying t=some (.slice e))(hi:P.info? e=some i)(base:Option Addr)(n cap:Nat)(h:n<=cap):
  (Builtin.append_ #[t,t] ty #[.slice base n cap,.slice none 0 0]).run P w= .ok (.slice base n cap) w:=by
 cases base<;>simp[Builtin.append_,Wk ht,sizeOf,typeInfo,hi,Builtin.lenOf,h,Builtin.firstCells,storeCells]
theorem Wi4(t ty e:TypeId)(i:TypeInfo)(ht:P.underlying t=some (.slice e))(hi:P.info? e=some i)(p:Addr)(c:Nat):
  (Builtin.append_ #[t,t] ty #[.slice none 0 0,.slice (some p) 0 c]).run P w= .ok (.slice none 0 0) w:=by
 simp[Builtin.append_,Wk ht,sizeOf,typeInfo,hi,Builtin.lenOf,Builtin.firstCells,loadCells,loadCellsFrom]
theorem Wca{o:Oper}{c:Call}(ho:o.op= .call c){s x:Operand}{t:TypeId}(hc:c.callee= .builtin .append)(ha:c.args.toList= [s,x])(de:c.argTypes.toList= [t,t]){v:Value}
  (hrun:(Builtin.append_ #[t,t] o.type #[a.eval s,a.eval x]).run P w= .ok v w'):(execOp a.eval o).run P w= .ok (.value v) w':=by
 obtain⟨callee,args,argTypes⟩:=c;obtain⟨args⟩:=args;obtain⟨argTypes⟩:=argTypes;simp only at hc ha de;subst hc ha de;simp only[execOp,ho,resolve,invoke,builtin,Sem.run_bind,Sem.run_pure,Result.andThen_ok,Xdq,Xak,Xbp,hrun]
theorem WuL(w:World)(need old:Nat)(e:TypeId)(h:WN need=true):need<=grownCap w need old e/\grownCap w need old e<=maxLen:=
 ⟨grownCap_ge w need old e,grownCap_le_maxLen w need old e (by grind [WN,maxLen])⟩
theorem WjJ(hr:Rel w0 F nt G0 G ν st a w){dst:Option Tmp}(hd:∀d,dst=some d->nt.Ok d)(m:List Nat){e:Ty}{xs:List e.den}{cs:List Value}(hl:cs.length=xs.length*e.size)
  (hc:∀φ,HR w0 F G ν φ st.objs st.nx w->∃ps,EncP (TyRel G w e) xs cs ps/\Sep (ps.map Pc.fp)/\∀p∈ps,CS.le p.fp (FromL φ st.objs m)) {cap:Nat} (gZ:xs.length<=cap) (ie:cap<=maxLen) (z:Array Value) (hz:z.size=e.size) (t:TypeId):
  ∃ν',Rel w0 F nt G0 G ν' (({env:=st.env,objs:=(st.nx,.arr e xs)::kill st.objs m,nx:=st.nx+1}:St).put dst (.s (.one (.own st.nx)))) (a.put dst (.slice (some ⟨w.heap.size,0,none⟩) xs.length cap)) (w.drew.alloc (.cells (cs.toArray++Builtin.zeroCells z (cap-xs.length)) t)):=by
 refine(Wh6 hr hd m (e:=e) (xs:=xs) (cap:=cap) (cs:=cs) (vs:=cs.toArray++Builtin.zeroCells z (cap-xs.length)) (t:=t) gZ ie ?_ hc ?_ w.drew rfl rfl rfl rfl).1
 .simp only[Array.size_append,List.size_toArray,size_zeroCells,hz,hl,←Xcs];simp_all
 .simp
structure ElT(P:Program)(t et:TypeId)(e:Ty):Prop where
 u:P.underlying t=some (.slice et)
 i:∃i z,P.info? et=some i/\i.size=e.size/\i.zero=some z/\z.cells.size=e.size/\i.bytes<=4096
theorem elT(hT:Wao P T){t et:TypeId}{ty:Ty}{ag:Bool}{te:TE}{e:Ty}(hl:look T t=some ⟨ty,ag,.slice et⟩)(hle:look T et=some te)(hp:te.plain=true)(he:te.ty.size=e.size):ElT P t et e:=by
 obtain⟨i,z,hi,hsz,hz,dC,n7⟩:=(hT _ _ hle).info;rw[W2 hp]at hsz;rw[WbM hp]at dC;exact⟨(hT _ _ hl).und.2.1,i,z,hi,by rw[hsz,he],hz,by rw[←Xas,dC,WbE,he],n7⟩
theorem WbB(hr:Rel w0 F nt G0 G ν st a w){o:Oper}(hd:∀d,o.dst=some d->nt.Ok d){c:Call}{s x:Operand}{t et:TypeId}{e:Ty}(hE:ElT P t et e)
  (ho:o.op= .call c) (hc:c.callee= .builtin .append) (ha:c.args.toList= [s,x]) (de:c.argTypes.toList= [t,t]) (dh:a.eval s= .slice none 0 0)
  {l:List e.den} {m m':List Nat} {news:List Value} (hx:Src w0 F G ν st w e l m (a.eval x) news) (hm:∀i∈m,i∈m') (ar:WN l.length=true):
  Done P w0 F nt G0 o a w (({env:=st.env,objs:=(st.nx,.arr e l)::kill st.objs m',nx:=st.nx+1}:St).put o.dst (.s (.one (.own st.nx)))):=by
 obtain⟨hu,i,z,hi,hsz,hz,hY,n7⟩:=hE;have u3:l.length<=1073741824:=by grind [WN]
 have hpos:=WbU e;rcases hx.rd with⟨aQ,bH⟩|⟨pa,cc,aQ,an⟩
 .subst bH;obtain⟨ν',hh⟩:=WsP hr hd e m';exact⟨_,_,_,G,ν',Wca ho hc ha de (by simp_all [We1,Xn]),.inl rfl,hh⟩
 .by_cases h0:l.length=0
  .have bH:l= []:=Xaa h0;subst bH;obtain⟨ν',hh⟩:=WsP hr hd e m';exact⟨_,_,_,G,ν',Wca ho hc ha de (by grind [Wi4]),.inl rfl,hh⟩
  .obtain⟨φ,hφ⟩:=hr.h;obtain⟨zp,e0,_⟩:=hx.enc φ hφ;have iT:news.length=l.length*e.size:=Wba (λx c q hx=>WF e x c q hx) _ _ _ e0;obtain⟨m7,fb⟩:=WuL w l.length 0 et ar;obtain⟨ν',hh⟩:=WjJ hr hd m' iT (λφ hφ=>by
    obtain⟨ps,k1,k2,k3⟩:=hx.enc φ hφ;exact⟨ps,k1,k2,λp hp b o hh=>FromL.mono hm b o (k3 p hp b o hh)⟩) m7 fb z.cells hY et
   have xr:l.length*i.bytes<=281474976710656:=by
    have:=Nat.mul_le_mul u3 n7;omega
   refine⟨_,_,_,G,ν',Wca ho hc ha de ?_,.inl rfl,hh⟩
   grind [run_append_nil]
theorem WdH{e:Ty}{nu:Nu}{xs:List e.den}{S:CS}{b k:Nat}(h:OwnL w (TyRel G w e) e.size nu xs S)(hb:nu.blk=some b)(hk:k<=xs.length):
  ∃c1 p1,EncP (TyRel G w e) (xs.take k) c1 p1/\c1.length=k*e.size/\Mem w b nu.off c1/\Sep (rng b nu.off (nu.cap*e.size)::p1.map Pc.fp)/\(∀s∈rng b nu.off (nu.cap*e.size)::p1.map Pc.fp,CS.le s S):=by
 obtain⟨h1,h2,h3⟩:=h;simp only[hb]at h3;obtain⟨h4,h5,h6,cs,ps,h7,h8,h9,cP⟩:=h3;obtain⟨c1,c2,p1,p2,g1,g2,g3,g4⟩:=WeF xs cs ps k h7;have hl:=Wba (λx c q hx=>WF e x c q hx) _ _ _ g3;rw[Xba,Xca hk]at hl;obtain⟨q1,q2⟩:=Xy.1 h9;rw[g2,Xu]at q1 q2 cP;refine⟨c1,p1,g3,hl,by rw[g1]at h8;exact h8.left,Xy.2 ⟨λs hs=>q1 s (Xk _ hs),(Xah.1 q2).1⟩,λs hs=>?_⟩
 grind
theorem Wdr(hr:Rel w0 F nt G0 G ν st a w){o:Oper}(hd:∀d,o.dst=some d->nt.Ok d){c:Call}{s x:Operand}{t et:TypeId}{e:Ty}(hE:ElT P t et e)
  (ho:o.op= .call c) (hc:c.callee= .builtin .append) (ha:c.args.toList= [s,x]) (de:c.argTypes.toList= [t,t])
  {id g k:Nat} {xs:List e.den} (au:look st.objs id=some (.arr e xs)) (aZ:(ν id).blk=some g) (hk:k<=xs.length) (dh:a.eval s= .slice (some ⟨g,(ν id).off,none⟩) k (ν id).cap)
  {l:List e.den} {m:List Nat} {news:List Value} (hx:Src w0 F G ν st w e l m (a.eval x) news) (hm:id∉m) (ar:WN (k+l.length)=true):
  Done P w0 F nt G0 o a w (({env:=st.env,objs:=(st.nx,.arr e (Xf (xs.take k) l))::kill st.objs (id::m),nx:=st.nx+1}:St).put o.dst (.s (.one (.own st.nx)))):=by
 obtain⟨hu,i,z,hi,hsz,hz,hY,n7⟩:=hE;have u3:k+l.length<=1073741824:=by grind [WN]
 have hpos:=WbU e;have hlen:(Xf (xs.take k) l).length=k+l.length:=by show(xs.take k++l).length=_;rw[Xz,Xba,Xca hk]
 obtain⟨φ0,hφ0⟩:=hr.h;have iU:OwnL w (TyRel G w e) e.size (ν id) xs (φ0 id):=hφ0.ob _ _ au;have na:=iU.2.2;simp only[aZ]at na;obtain⟨hxc,ie,⟨row,TT,fL,hrow⟩,_⟩:=na;obtain⟨c1,p10,_,rL,rM,_,_⟩:=WdH iU aZ hk;obtain⟨zp,e0,_⟩:=hx.enc φ0 hφ0;have iT:news.length=l.length*e.size:=Wba (λx c q hx=>WF e x c q hx) _ _ _ e0;have az:Live st.objs id:=⟨_,au,by simp⟩;have rN:∀{c2:List Value},c2.length=k*e.size->Mem w g (ν id).off c2->c2=c1:=λ{c2} h1 h2=>Xfj λj=>by
  by_cases hj:j<k*e.size
  .have qK:j<c2.length:=by omega
   have uh:j<c1.length:=by omega
   have a1:=h2 j _ (Xq qK);have a2:=rM j _ (Xq uh);simp_all
  simp_all
 have inplace:∀(W:World),WLe (rng g ((ν id).off+k*e.size) (l.length*e.size)) w W->Mem W g ((ν id).off+k*e.size) news->k+l.length<=(ν id).cap->
   ∃ν',Rel w0 F nt G0 G ν' (({env:=st.env,objs:=(st.nx,.arr e (Xf (xs.take k) l))::kill st.objs (id::m),nx:=st.nx+1}:St).put o.dst (.s (.one (.own st.nx)))) (a.put o.dst (.slice (some ⟨g,(ν id).off,none⟩) (k+l.length) (ν id).cap)) W:=by
  intro W hW hM bX;have kz:(k+l.length)*e.size<=(ν id).cap*e.size:=Xbf _ bX;rw[Xcs]at kz;have ic:CS.le (rng g ((ν id).off+k*e.size) (l.length*e.size)) (rng g (ν id).off ((ν id).cap*e.size)):=λb o ⟨k0,k1,k2⟩=>⟨k0,by omega,by omega⟩;refine⟨upd ν st.nx ⟨some g,(ν id).off,k+l.length,(ν id).cap,e.size⟩,hr.fresh hd (id::m) (.arr e (Xf (xs.take k) l)) _ (λφ b o=>φ id b o\/FromL φ st.objs m b o) _ _ (λφ hφ=>?_) (λφ hφ b o hh=>?_) (λφ hφ=>?_) ⟨⟨Xbq _,by rw[WbH];rfl⟩,rfl⟩⟩
  .have hown:OwnL w (TyRel G w e) e.size (ν id) xs (φ id):=hφ.ob _ _ au;obtain⟨_,_,_,_,_,_,hle⟩:=WdH hown aZ hk;exact hW.mono λb o hh=>⟨id,.inr (Xh ..),az,hle _ (Xh ..) b o (ic b o hh)⟩
  .rcases hh with hh|⟨j,hj,h1,h2⟩
   .exact .inl ⟨id,.inr (Xh ..),az,hh⟩
   .exact .inl ⟨j,.inr (Xe _ hj),h1,h2⟩
  .have hown:OwnL w (TyRel G w e) e.size (ν id) xs (φ id):=hφ.ob _ _ au;obtain⟨qL,p1,g3,g4,g5,g6,g7⟩:=WdH hown aZ hk;obtain⟨ps,k1,k2,k3⟩:=hx.enc φ hφ;obtain⟨q1,q2⟩:=Xy.1 g6;have gD:=g7 _ (Xh ..);have nc:∀p∈p1,CS.le p.fp (φ id):=λp hp=>g7 _ (Xe _ (Xap hp));have rO:∀p∈ps,∀S,CS.le S (φ id)->CS.disj S p.fp:=λp hp S hS b o h1 h2=>by
    obtain⟨j,hj,h3,h4⟩:=k3 p hp b o h2;have:=hφ.inj id j b o az h3 (hS b o h1) h4;simp_all
   have iS:∀p∈p1,Same p.fp w W:=λp hp=>hW.same ((q1 p.fp (Xap hp)).mono ic (λ_ _ hh=>hh)) (λb o hh=>hφ.bl id b o az (nc p hp b o hh));have kB:∀p∈ps,Same p.fp w W:=λp hp=>hW.same (rO p hp _ (λb o hh=>gD b o (ic b o hh))) (λb o hh=>by
    obtain⟨j,hj,h3,h4⟩:=k3 p hp b o hh;exact hφ.bl j b o h3 h4)
   show OwnL W (TyRel G W e) e.size (upd ν st.nx ⟨some g,(ν id).off,k+l.length,(ν id).cap,e.size⟩ st.nx) _ _;rw[WbH];refine⟨hlen,rfl,by simp_all,ie,hW.rows.row _ _ ⟨row,TT,fL,hrow⟩,qL++news,p1++ps,WdQ _ _ _ _ _ _ ?_ ?_,?_,Xy.2 ⟨λs hs=>?_,?_⟩,λs hs b o hh=>?_⟩
   .exact WbX (Q:=λq=>Same q.fp w W) (λx c q hq hx=>WaL (λ_ _ _ hh=>hh) e x c q hq hx) _ _ _ iS g3
   .exact WbX (Q:=λq=>Same q.fp w W) (λx c q hq hx=>WaL (λ_ _ _ hh=>hh) e x c q hq hx) _ _ _ kB k1
   .refine Mem.app (n:=k*e.size) (λj v hj=>?_) hM g4;have h1:=g5 j v hj;have hj':j<qL.length:=(Xad.1 hj).1;rw[hW.cell g ((ν id).off+j) (block_lt_of_cell h1) (λ⟨_,h2,_⟩=>by omega)];exact h1
   .grind
   .rw[Xu];refine Xah.2 ⟨q2,k2,λs hs t ht=>?_⟩
    grind
   .rcases Xr.1 hs with rfl|hs
    .exact .inl (gD b o hh)
    .rw[Xu]at hs;rcases Xm.1 hs with hs|hs
     .obtain⟨p,hp,rfl⟩:=Xw.1 hs;exact .inl (nc p hp b o hh)
     .obtain⟨q,hq,rfl⟩:=Xw.1 hs;exact .inr (k3 q hq b o hh)
 rcases hx.rd with⟨aQ,bH⟩|⟨pa,cc,aQ,an⟩
 .have hl0:l.length=0:=by simp_all
  have uV:news= []:=Xaa (by simp_all);obtain⟨ν',hh⟩:=inplace w (WLe.refl _ w) (by rw[uV];exactλj v hj=>by simp at hj) (by omega);refine⟨_,_,_,G,ν',Wca ho hc ha de ?_,.inl rfl,hh⟩
  grind [We1]
 .by_cases bX:k+l.length<=(ν id).cap
  .have rP:(k+l.length)*e.size<=(ν id).cap*e.size:=Xbf _ bX;rw[Xcs]at rP;have hrun:=WiL (P:=P) (w:=w) t o.type et TT i hu hi g (ν id).off k (ν id).cap row fL pa l.length cc news (by rw[hsz];exact iT) (λj v hj=>an j v hj) (Wmd _ _ _ e0) bX (by rw[hsz,iT];omega);obtain⟨hw,ma⟩:=Wc0 (k:=(ν id).off+k*i.size) (news:=news) fL (by rw[hsz,iT];omega);generalize w.setRow g (row.toList.take ((ν id).off+k*i.size)++news++row.toList.drop ((ν id).off+k*i.size+news.length)).toArray=W at hrun hw ma;rw[hsz]at hw ma;rw[iT]at hw;obtain⟨ν',hh⟩:=inplace W hw ma bX;exact⟨_,_,_,G,ν',Wca ho hc ha de (by rw[dh,aQ,hrun]),.inl rfl,hh⟩
  .obtain⟨m7,fb⟩:=WuL w (k+l.length) (ν id).cap et ar;have hcl:(c1++news).length=(Xf (xs.take k) l).length*e.size:=by rw[Xz,rL,iT,hlen,Xcs]
   obtain⟨ν',hh⟩:=WjJ hr hd (id::m) (xs:=Xf (xs.take k) l) hcl (λφ hφ=>by
    have hown:OwnL w (TyRel G w e) e.size (ν id) xs (φ id):=hφ.ob _ _ au;obtain⟨qL,p1,g3,g4,g5,g6,g7⟩:=WdH hown aZ hk;obtain⟨ps,k1,k2,k3⟩:=hx.enc φ hφ;have:=rN g4 g5;subst this;obtain⟨q1,q2⟩:=Xy.1 g6;have nc:∀p∈p1,CS.le p.fp (φ id):=λp hp=>g7 _ (Xe _ (Xap hp));refine⟨p1++ps,WdQ _ _ _ _ _ _ g3 k1,?_,λp hp b o hh=>?_⟩
    .rw[Xu];refine Xah.2 ⟨q2,k2,λs hs t ht=>?_⟩;obtain⟨p,hp,rfl⟩:=Xw.1 hs;obtain⟨q,hq,rfl⟩:=Xw.1 ht;intro b o h1 h2;obtain⟨j,hj,h3,h4⟩:=k3 q hq b o h2;have:=hφ.inj id j b o az h3 (nc p hp b o h1) h4;subst this;exact hm hj
    .rcases Xm.1 hp with hp|hp
     .exact⟨id,Xh ..,az,nc p hp b o hh⟩
     .exact FromL.mono (λi hi=>Xe _ hi) b o (k3 p hp b o hh)) (by rw[hlen];exact m7) fb z.cells hY et
   have xr:(k+l.length)*i.bytes<=140737488355328:=by
    have:=Nat.mul_le_mul u3 n7;omega
   have hrun:=run_append_grow (P:=P) w t o.type et i z hu hi hz ⟨g,(ν id).off,none⟩ k (ν id).cap c1 (by rw[hsz];exact rL) (λj v hj=>by rw[Wbc];exact rM j v hj) pa l.length cc news (by rw[hsz];exact iT) (λj v hj=>an j v hj) (by omega) (by omega) (growslice_fits (by omega) xr);refine⟨_,_,_,G,ν',Wca ho hc ha de ?_,.inl rfl,hh⟩;rw[dh,aQ,hrun,hlen];simp
theorem Wls{id:Nat}{e:Ty}{xs:List e.den}(hh:HRel w0 F G ν objs nx w)(au:look objs id=some (.arr e xs)):
  ((ν id).blk=none/\xs= []/\(ν id).hdr= .slice none 0 0)\/∃g,(ν id).blk=some g/\(ν id).hdr= .slice (some ⟨g,(ν id).off,none⟩) xs.length (ν id).cap:=by
 obtain⟨S,ho⟩:=hh.obj au;unfold Nu.hdr;cases hb:(ν id).blk with
 |none=>exact .inl ⟨rfl,Wcs ho hb,rfl⟩
 |some g=>exact .inr ⟨g,rfl,by rw[ho.1]⟩
theorem Wmo(hT:Wao P T)(hr:Rel w0 F nt G0 G ν st a w){o:Oper}(hd:∀d,o.dst=some d->nt.Ok d){c:Call}{s x:Operand}{t et:TypeId}{ty:Ty}{te:TE}{sv xv:AVal}{R:Type}{k:St->Option R}{r:R}
  (hl:look T t=some ⟨ty,false,.slice et⟩) (hle:look T et=some te) (hp:te.plain=true)
  (ho:o.op= .call c) (hc:c.callee= .builtin .append) (ha:c.args.toList= [s,x]) (de:c.argTypes.toList= [t,t]) (hs:ev st s=some sv) (hx:ev st x=some xv)
  (h:WeX st te.ty sv xv (λx objs nx=>k (({env:=st.env,objs:=objs,nx:=nx}:St).put o.dst x))=some r):∃af,k af=some r/\Done P w0 F nt G0 o a w af:=by
 have move:∀(e:Ty) (l:List e.den) (m:List Nat),WtM st e xv=some (l,m)->∃news,Src w0 F G ν st w e l m (a.eval x) news:=λe l m gE=>by
  unfold WtM at gE;split at gE
  .simp only[Option.some.injEq,Prod.mk.injEq]at gE;obtain⟨rfl,rfl⟩:=gE;obtain⟨hv,_⟩:=WR hr x _ hx;exact⟨[],λφ _=>⟨[],⟨rfl,rfl⟩,List.Pairwise.nil,by simp⟩,.inl ⟨hv,rfl⟩⟩
  .rename_i id;split at gE
   .rename_i e' xs au;obtain⟨ys,bq,gE⟩:=Xv.1 gE;have h2:=Prod.mk.inj gE;obtain⟨h3,h4⟩:=h2;subst h3 h4;obtain⟨jO,ig⟩:=WaC bq;subst jO;simp only at ig;subst ig;obtain⟨⟨_,hv⟩,_⟩:=WR hr x _ hx;have az:Live st.objs id:=⟨_,au,by simp⟩;rcases Wls hr.h au with⟨hb,bH,hh⟩|⟨g,hb,hh⟩
    .subst bH;exact⟨[],λφ _=>⟨[],⟨rfl,rfl⟩,List.Pairwise.nil,by simp⟩,.inl ⟨by rw[hv,hh],rfl⟩⟩
    .obtain⟨φ0,hφ0⟩:=hr.h;have iU:OwnL w (TyRel G w e') e'.size (ν id) xs (φ0 id):=hφ0.ob _ _ au;obtain⟨c1,p1,g1,g2,g3,g4,g5⟩:=WdH iU hb (Xn _);refine⟨c1,λφ hφ=>?_,.inr ⟨⟨g,(ν id).off,none⟩,(ν id).cap,by rw[hv,hh],λj u hj=>by rw[Wbc];exact g3 j u hj⟩⟩;have hown:OwnL w (TyRel G w e') e'.size (ν id) xs (φ id):=hφ.ob _ _ au;obtain⟨qL,zq,k1,k2,k3,k4,k5⟩:=WdH hown hb (Xn _);have:qL=c1:=Xfj λj=>by
      by_cases hj:j<xs.length*e'.size
      .have qK:j<qL.length:=by omega
       have uh:j<c1.length:=by omega
       have a1:=k3 j _ (Xq qK);have a2:=g3 j _ (Xq uh);rw[a1]at a2;rw[Xq qK,Xq uh];exact a2
      .rw[Xcr (by omega),Xcr (by omega)]
     subst this;rw[Xek]at k1;exact⟨zq,k1,(Xy.1 k4).2,λp hp b o hh=>⟨id,Xaf.2 rfl,az,k5 _ (Xe _ (Xap hp)) b o hh⟩⟩
   .simp at gE
  .simp at gE
 unfold WeX at h;split at h
 .split at h
  .rename_i e hel;split at h
   .rename_i he;split at h
    .rename_i l m gE;obtain⟨news,cZ⟩:=move e l m gE;cases ar:WN l.length with
     |false=>simp[ar]at h
     |true=>
      simp[ar]at h;obtain⟨dh,_⟩:=WR hr s _ hs;exact⟨_,h,WbB hr hd (elT hT hl hle hp (by rw[←he,WbL])) ho hc ha de dh cZ (λi hi=>hi) ar⟩
    .simp at h
   .simp at h
  .simp at h
 .rename_i id;split at h
  .rename_i e xs au;split at h
   .rename_i he;split at h
    .rename_i l m gE;obtain⟨news,cZ⟩:=move e l m gE;split at h
     .rename_i aP;have aP:=(Xai.1 ((Wdb _).1 aP)).1;cases ar:WN (xs.length+l.length)with
      |false=>simp[ar]at h
      |true=>
       simp[ar]at h;refine⟨_,h,?_⟩;have hE:ElT P t et e:=elT hT hl hle hp (by rw[←he,WbL]);obtain⟨⟨_,dh⟩,_⟩:=WR hr s _ hs;rcases Wls hr.h au with⟨hb,bH,hh⟩|⟨g,hb,hh⟩
       .subst bH;exact WbB hr hd hE ho hc ha de (by rw[dh,hh]) cZ (λi hi=>Xe _ hi) (by simpa [WN]using ar)
       .have:=Wdr hr hd hE ho hc ha de au hb (Xn _) (by rw[dh,hh]) cZ aP ar;rw[Xek]at this;exact this
     .simp at h
    .simp at h
   .simp at h
  .simp at h
 .simp at h
theorem Wof(hT:Wao P T)(hr:Rel w0 F nt G0 G ν st a w){o:Oper}(hd:∀d,o.dst=some d->nt.Ok d){c:Call}{s x:Operand}{t t2:TypeId}{sv xv:AVal}{R:Type}{k:St->Option R}{r:R}
  (ho:o.op= .call c) (hc:c.callee= .builtin .append) (ha:c.args.toList= [s,x]) (de:c.argTypes.toList= [t,t2]) (hs:ev st s=some sv) (hx:ev st x=some xv)
  (h:WdZ T st t t2 sv xv (λx objs nx=>k (({env:=st.env,objs:=objs,nx:=nx}:St).put o.dst x))=some r):∃af,k af=some r/\Done P w0 F nt G0 o a w af:=by
 unfold WdZ at h;split at h
 .rename_i ty et _ hl _;split at h
  .rename_i te hle;split at h
   .rename_i bo;obtain⟨rfl,hp,aV⟩:=bo;have hE:ElT P t et te.ty:=elT hT hl hle hp rfl;cases fe:Wua st sv xv with
    |false=>
     simp only[fe,Bool.not_false,Wc]at h;exact Wmo hT hr hd hl hle hp ho hc ha de hs hx h
    |true=>
    simp only[fe,Xx,We]at h;split at h
    .rename_i l bS;cases ar:WN l.length with
     |false=>simp[ar]at h
     |true=>
      simp[ar]at h;obtain⟨dh,_⟩:=WR hr s _ hs;obtain⟨news,cZ⟩:=Wiy hr aV [] (WR hr x _ hx) bS;exact⟨_,h,WbB (m':=[]) hr hd hE ho hc ha de dh cZ (λi hi=>hi) ar⟩
    .rename_i id l bS;split at h
     .rename_i e0 xs au;split at h
      .rename_i ys bq;obtain⟨he,hy⟩:=Wf2 bq;injection he with he;subst he;simp only at hy;subst hy;cases ar:WN (Xa xs+l.length)with
       |false=>simp[ar]at h
       |true=>
        simp[ar]at h;refine⟨_,h,?_⟩;obtain⟨⟨_,dh⟩,_⟩:=WR hr s _ hs;obtain⟨news,cZ⟩:=Wiy hr aV [] (WR hr x _ hx) bS;rcases Wls hr.h au with⟨hb,bH,hh⟩|⟨g,hb,hh⟩
        .subst bH;exact WbB (m':=[id]) hr hd hE ho hc ha de (by rw[dh,hh]) cZ (λi hi=>by simp at hi) (by simpa [WN]using ar)
        .have:=Wdr hr hd hE ho hc ha de au hb (Xn _) (by rw[dh,hh]) cZ (by simp) ar;rw[Xek]at this;exact this
      .simp at h
     .simp at h
    .rename_i id hi l bS;split at h
     .rename_i e0 xs au;split at h
      .rename_i ys bq;obtain⟨he,hy⟩:=Wf2 bq;injection he with he;subst he;simp only at hy;subst hy;cases ar:WN (hi+l.length)with
       |false=>simp[ar]at h
       |true=>
        simp[ar]at h;refine⟨_,h,?_⟩;obtain⟨⟨_,g1,g2,g3,dh⟩,_⟩:=WR hr s _ hs;obtain⟨news,cZ⟩:=Wiy hr aV [] (WR hr x _ hx) bS;obtain⟨S,hown⟩:=hr.h.obj au;unfold Nu.vhdr at dh;cases hb:(ν id).blk with
        |none=>
         have bH:=Wcs hown hb;simp only[hb]at dh;have h0:=g3 hb;subst h0;show Done P w0 F nt G0 o a w (({env:=st.env,objs:=(st.nx,.arr te.ty l)::(id,.dead)::st.objs,nx:=st.nx+1}:St).put o.dst (.s (.one (.own st.nx))));exact WbB (m':=[id]) hr hd hE ho hc ha de dh cZ (λi hi=>by simp at hi) (by simpa [WN]using ar)
        |some g=>
         simp only[hb,Nat.sub_zero,Xeu,Xax,ite_self]at dh;exact Wdr hr hd hE ho hc ha de au hb (by rw[hown.1];exact g2) dh cZ (by simp) ar
      .simp at h
     .simp at h
    .simp at h
   .simp at h
  .simp at h
 .simp at h
end
end Go.Sx
namespace Go.Sx
set_option linter.unusedVariables false
set_option linter.unusedSimpArgs false
section
variable{w0:World}{F:CS}{nt:Slots}{G0 G:GH}{ν:Nat->Nu}{φ:Nat->CS}{objs:Waj}{nx:Nat}{st af:St}{a:Act}{w w':World}{P:Program}{T:Tab}
theorem Wif{t et:TypeId}{te:TE}{nu:Nu}{n:Nat}{lo hi:Option Int}{vl vh:Option Value}(hu:P.underlying t=some (.slice et))(bD:TEok P T et te)(hp:te.plain=true)(bW:nu.esz=te.ty.size)
  (hc:n<=nu.cap) (hn:n=nu.len) (aZ:nu.blk=none->n=0) (hl:BRel lo vl) (hh:BRel hi vh) (hb:(WcS n lo hi).1=true):
  (Instr.sliceAt t nu.hdr vl vh none).run P w= .ok (nu.vhdr (WcS n lo hi).2.1 (WcS n lo hi).2.2) w/\(WcS n lo hi).2.1<=(WcS n lo hi).2.2/\(WcS n lo hi).2.2<=n:=by
 unfold Nu.hdr Nu.vhdr;cases hk:nu.blk with
 |none=>
  have h0:=aZ hk;subst h0;obtain⟨hr,h3,h4⟩:=WcU (P:=P) (w:=w) (isSlice:=true) (cap:=0) hl hh (Xn _) hb;have e1:(WcS 0 lo hi).2.2=0:=by omega
  have e2:(WcS 0 lo hi).2.1=0:=by omega
  rw[e1,e2]at hr⊢;refine⟨?_,Xn _,Xn _⟩;simp[Instr.sliceAt,Instr.slice,Wk hu,hr,bD.sizeOf]
 |some b=>
  obtain⟨hr,h7,h8⟩:=WcU (P:=P) (w:=w) (isSlice:=true) (cap:=nu.cap) hl hh hc hb;refine⟨?_,h7,h8⟩;rw[←hn];generalize (WcS n lo hi).2.1=p at*;generalize (WcS n lo hi).2.2=q at*;have hsz:te.size=nu.esz:=by rw[W2 hp,bW]
  simp only[Instr.sliceAt,Instr.slice,Sem.run_bind,Wk hu,Result.andThen_ok,hr,bD.sizeOf,Sem.run_pure,hsz,Xbx,Wbc];split<;>rfl
theorem WrP{id:Nat}{e:Ty}{xs:List e.den}{S:CS}(h:WcG G ν nx w id S (.arr e xs)):((ν id).blk=none->xs.length=0)/\((ν id).blk≠none->xs.length<=(ν id).cap):=by
 refine⟨λhb=>by rw[Wcs h hb];rfl,λhb=>?_⟩;obtain⟨_,_,h3⟩:=h
 grind
theorem Wm4{t et:TypeId}{te:TE}{id:Nat}{e:Ty}{xs:List e.den}{S:CS}(ho:WcG G ν nx w id S (.arr e xs)){lo hi:Option Int}{vl vh:Option Value}(hu:P.underlying t=some (.slice et))(bD:TEok P T et te)(hp:te.plain=true)(he:te.ty.size=e.size)
  (hl:BRel lo vl) (hh:BRel hi vh) (hb:(WcS xs.length lo hi).1=true):
  (Instr.sliceAt t (ν id).hdr vl vh none).run P w= .ok ((ν id).vhdr (WcS xs.length lo hi).2.1 (WcS xs.length lo hi).2.2) w/\(WcS xs.length lo hi).2.1<=(WcS xs.length lo hi).2.2/\(WcS xs.length lo hi).2.2<=xs.length:=by
 obtain⟨h1,h2⟩:=WrP ho;have hlen:=ho.1;have bW:=ho.2.1;cases hk:(ν id).blk with
 |some b=>grind [Wif]
 |none=>
  have h0:=h1 hk;have bH:xs= []:=Xaa h0;have e0:(ν id).hdr=(⟨none,(ν id).off,(ν id).len,0,(ν id).esz⟩:Nu).hdr:=by grind [Nu.hdr]
  have e1:∀p q,(ν id).vhdr p q=(⟨none,(ν id).off,(ν id).len,0,(ν id).esz⟩:Nu).vhdr p q:=λp q=>by grind [Nu.vhdr]
  rw[e0,e1];exact Wif hu bD hp (by show(ν id).esz=_;rw[bW,he]) (by omega) hlen (λ_=>h0) hl hh hb
theorem Wg6{o:Oper}{t:TypeId}{x:Operand}{lo hi:Option Operand}{v:Value}(ho:o.op= .slice t x lo hi none)(h:(Instr.sliceAt t (a.eval x) (lo.map a.eval) (hi.map a.eval) none).run P w= .ok v w):(execOp a.eval o).run P w= .ok (.value v) w:=by
 grind [execOp,Sem.run_bind,Result.andThen_ok,Sem.run_pure]
theorem Ws9(hT:Wao P T)(hr:Rel w0 F nt G0 G ν st a w){o:Oper}(hd:∀d,o.dst=some d->nt.Ok d){t et:TypeId}{ty:Ty}{te:TE}{x:Operand}{lo hi:Option Operand}(ho:o.op= .slice t x lo hi none)
  {id:Nat} {l h:Option Int} {R:Type} {k:St->Option R} {r:R} (hx:ev st x=some (.s (.one (.own id)))) (hl:look T t=some ⟨ty,false,.slice et⟩) (hle:look T et=some te) (hp:te.plain=true) (h1:WlT st lo=some l) (h2:WlT st hi=some h)
  (hk:Wfx st te.ty id l h (λx objs nx=>k (({env:=st.env,objs:=objs,nx:=nx}:St).put o.dst x))=some r):∃af,k af=some r/\Done P w0 F nt G0 o a w af:=by
 unfold Wfx at hk;split at hk
 .rename_i e xs au;split at hk
  case isFalse=>simp at hk
  rename_i rI;cases hb:(WcS (Xa xs) l h).1 with
  |false=>simp_all
  |true=>
   simp only[hb,Wc]at hk;refine⟨_,hk,?_⟩;obtain⟨⟨bz,dh⟩,_⟩:=WR hr x _ hx;obtain⟨S,hown⟩:=hr.h.obj au;have hbl:=Wdo hr lo _ h1;have rQ:=Wdo hr hi _ h2;obtain⟨g1,g2,g3⟩:=Wm4 (w:=w) hown (hT _ _ hl).und.2.1 (hT _ _ hle) hp (by rw[rI,WbL]) hbl rQ hb;refine⟨_,_,w,G,ν,Wg6 ho (by simp_all),.inl rfl,hr.put hd ⟨⟨bz,g2,by rw[←hown.1];exact g3,λui=>?_,rfl⟩,Wpr _ _ _⟩⟩
   grind [WrP]
 grind
theorem Wtv(n:Nu)(h:Nat):n.part 0 h=⟨n.blk,n.off,h,n.cap,n.esz⟩:=by
 unfold Nu.part;simp
theorem WwM(n:Nu)(h:Nat):n.vhdr 0 h=(⟨n.blk,n.off,h,n.cap,n.esz⟩:Nu).hdr:=by
 rw[←Wtv,Wku]
theorem Wqz(hT:Wao P T)(hr:Rel w0 F nt G0 G ν st a w){o:Oper}(hd:∀d,o.dst=some d->nt.Ok d){t et:TypeId}{ty:Ty}{x:Operand}{lo hi:Option Operand}(ho:o.op= .slice t x lo hi none)
  {id:Nat} {e:Ty} {xs:List e.den} {te:TE} {h:Int} (hx:ev st x=some (.s (.one (.own id)))) (hl:look T t=some ⟨ty,false,.slice et⟩) (hle:look T et=some te) (hp:te.plain=true) (he:te.ty=e.ro) (au:look st.objs id=some (.arr e xs)) (aS:WlT st lo=some none) (hh:WlT st hi=some (some h))
  (h0:0<=h) (h1:h<=(xs.length:Int)):Done P w0 F nt G0 o a w (({env:=st.env,objs:=(st.nx,.arr e (xs.take h.toNat))::kill st.objs [id],nx:=st.nx+1}:St).put o.dst (.s (.one (.own st.nx)))):=by
 obtain⟨⟨bz,dh⟩,_⟩:=WR hr x _ hx;obtain⟨S,hown⟩:=hr.h.obj au;have hbl:=Wdo hr lo _ aS;have rQ:=Wdo hr hi _ hh;have hb:(WcS xs.length none (some h)).1=true:=by simp[WcS,h0,h1]
 obtain⟨g1,g2,g3⟩:=Wm4 (w:=w) hown (hT _ _ hl).und.2.1 (hT _ _ hle) hp (by rw[he,WbL]) hbl rQ hb;have e1:(WcS xs.length none (some h)).2.1=0:=rfl;have e2:(WcS xs.length none (some h)).2.2=h.toNat:=rfl;rw[e1,e2,WwM]at g1;refine⟨_,_,w,G,upd ν st.nx ((ν id).part 0 h.toNat),Wg6 ho (by rw[dh];exact g1),.inl rfl,?_⟩;have az:Live st.objs id:=⟨_,au,by simp⟩;refine hr.fresh hd [id] (.arr e (xs.take h.toNat)) _ (λφ=>φ id) _ _ (λφ _=>WLe.refl _ w) (λφ _ b o hh=>.inl ⟨id,.inr (Xaf.2 rfl),az,hh⟩) (λφ hφ=>?_) ⟨⟨Xbq _,by rw[WbH,Wtv]⟩,WiY _⟩;show OwnL w (TyRel G w e) e.size (upd ν st.nx ((ν id).part 0 h.toNat) st.nx) (xs.take h.toNat) (φ id);rw[WbH];have hown':OwnL w (TyRel G w e) e.size (ν id) xs (φ id):=hφ.ob _ _ au;have:=Wo7 (lo:=0) (hi:=h.toNat) hown' (Nat.zero_le _) (by rw[←hown'.1];omega);simp_all
theorem Wjw(hT:Wao P T)(hr:Rel w0 F nt G0 G ν st a w){o:Oper}(hd:∀d,o.dst=some d->nt.Ok d){t et:TypeId}{ty:Ty}{x:Operand}{lo hi:Option Operand}(ho:o.op= .slice t x lo hi none)
  {id i p:Nat} {e:Ty} {xs:List e.den} {te:TE} {h:Int} (hx:ev st x=some (.s (.one (.own id)))) (hl:look T t=some ⟨ty,false,.slice et⟩) (hle:look T et=some te) (hp:te.plain=true) (he:te.ty=e.ro) (au:look st.objs id=some (.hole e xs i p)) (u4:WsA (look st.objs p) e.size=true) (aS:WlT st lo=some none) (hh:WlT st hi=some (some h))
  (h0:0<=h) (h1:h<=(xs.length:Int)) (h2:h<=(i:Int)):Done P w0 F nt G0 o a w (({env:=st.env,objs:=(st.nx,.arr e (xs.take h.toNat))::kill st.objs [id,p],nx:=st.nx+1}:St).put o.dst (.s (.one (.own st.nx)))):=by
 obtain⟨⟨bz,dh⟩,_⟩:=WR hr x _ hx;obtain⟨S,lX,hole⟩:=hr.h.obj au;have ge:∃cs,look st.objs p=some (.box cs)/\cs.length=e.size:=by
  unfold WsA at u4
  grind [Xcl]
 obtain⟨pcs,ge,eB⟩:=ge;have hbl:=Wdo hr lo _ aS;have rQ:=Wdo hr hi _ hh;have hb:(WcS xs.length none (some h)).1=true:=by simp[WcS,h0,h1]
 obtain⟨k1,k2,k3,b,k4,k5,k6,k7,k8,k9,_⟩:=hole;obtain⟨g1,g2,g3⟩:=Wif (w:=w) (nu:=ν id) (hT _ _ hl).und.2.1 (hT _ _ hle) hp (by rw[k2,he,WbL]) k7 k1 (λhn=>by simp_all) hbl rQ hb;have e1:(WcS xs.length none (some h)).2.1=0:=rfl;have e2:(WcS xs.length none (some h)).2.2=h.toNat:=rfl;rw[e1,e2,WwM]at g1;refine⟨_,_,w,G,upd ν st.nx ((ν id).part 0 h.toNat),Wg6 ho (by rw[dh];exact g1),.inl rfl,?_⟩;have az:Live st.objs id:=⟨_,au,by simp⟩;have eD:Live st.objs p:=⟨_,ge,by simp⟩;refine hr.fresh hd [id,p] (.arr e (xs.take h.toNat)) _ (λφ b o=>φ id b o\/φ p b o) _ _ (λφ _=>WLe.refl _ w) (λφ _ b o hh=>?_) (λφ hφ=>?_) ⟨⟨Xbq _,by rw[WbH,Wtv]⟩,WiY _⟩
 .rcases hh with hh|hh
  .exact .inl ⟨id,.inr (by simp),az,hh⟩
  .exact .inl ⟨p,.inr (by simp),eD,hh⟩
 .show OwnL w (TyRel G w e) e.size (upd ν st.nx ((ν id).part 0 h.toNat) st.nx) (xs.take h.toNat) _;rw[WbH,Wtv];obtain⟨lX,hole⟩:p<st.nx/\WhM w (TyRel G w e) e.size (ν id) (ν p) xs i (φ id):=hφ.ob _ _ au;obtain⟨_,_,_,b',uj,k5',_,_,_,_,c1,c2,p1,p2,j1,j2,j3,j4,j5,j6⟩:=hole;rw[k4]at uj;injection uj with uj;subst uj;obtain⟨b2,vs,q1,q2,q3,q4,q5⟩:WcG G ν st.nx w p (φ p) (.box pcs):=hφ.ob _ _ ge;rw[k5]at q1;injection q1 with q1;subst q1;rw[eB,k6]at q5;obtain⟨d1,d2,r1,r2,t1,t2,t3,t4⟩:=WeF _ _ _ h.toNat j1;rw[List.take_take,Xca (by omega)]at t3;have gA:=j6 _ (Xh ..);have gC:=j6 _ (Xe _ (Xh ..));obtain⟨s1,s2⟩:=Xy.1 j5;obtain⟨s3,s4⟩:=Xy.1 s2;have cC:∀s∈r1.map Pc.fp,s∈(p1++p2).map Pc.fp:=λs hs=>by simp_all
  have gp:∀s∈r1.map Pc.fp,CS.le s (φ id):=λs hs=>j6 s (Xe _ (Xe _ (cC s hs)));have u5:∀b o,φ id b o->φ p b o->False:=λb o x1 x2=>by
   have:=hφ.inj id p b o az eD x1 x2;simp_all
  refine⟨by simp;omega,k2,?_⟩;simp only[k4];refine⟨by simp;omega,k8,k9,d1,r1,t3,by rw[t1]at j3;exact j3.left,Xy.2 ⟨λs hs=>?_,?_⟩,λs hs=>?_⟩
  .exactλb' o lC gu=>(Wgl (show i<(ν id).cap by omega) (S:=λb o=>¬s b o) (λb o hh gu=>s1 s (Xe _ (cC s hs)) b o hh gu) (λb o hh gu=>u5 b o (gp s hs b o gu) (q5 b o hh)) (λb o hh gu=>s3 s (cC s hs) b o hh gu) b' o lC) gu
  .grind
  .rcases Xr.1 hs with rfl|hs
   .exact Wgl (show i<(ν id).cap by omega) (λb o hh=>.inl (gA b o hh)) (λb o hh=>.inr (q5 b o hh)) (λb o hh=>.inl (gC b o hh))
   .exactλb o hh=>.inl (gp s hs b o hh)
theorem Wqf(hT:Wao P T)(hr:Rel w0 F nt G0 G ν st a w){o:Oper}(hd:∀d,o.dst=some d->nt.Ok d){c:Call}{x:Operand}{t et:TypeId}{ty:Ty}{te:TE}{e:Ty}{xs:List e.den}{id lo hi:Nat}
  (ho:o.op= .call c) (hc:c.callee= .builtin .clear) (ha:c.args.toList= [x]) (de:c.argTypes.toList= [t]) (hx:ev st x=some (.s (.one (.vw id lo hi)))) (hl:look T t=some ⟨ty,false,.slice et⟩) (hle:look T et=some te)
  (au:look st.objs id=some (.arr e xs)) (he:te.ty=e) (hp:te.plain=true) (aV:e.data=true):
  Done P w0 F nt G0 o a w (({env:=st.env,objs:=(id,.arr e (xs.take lo++Xt (hi-lo) e.dflt++xs.drop hi))::st.objs,nx:=st.nx}:St).put o.dst (.tup [])):=by
 have hu:=(hT _ _ hl).und.2.1;obtain⟨⟨bz,g1,g2,g3,hv⟩,_⟩:=WR hr x _ hx;obtain⟨φ,hφ⟩:=hr.h;have hown:OwnL w (TyRel G w e) e.size (ν id) xs (φ id):=hφ.ob _ _ au;have az:Live st.objs id:=⟨_,au,by simp⟩;have rR:∀W,(Builtin.clear_ #[t] o.type #[a.eval x]).run P w= .ok (.tuple #[]) W->(execOp a.eval o).run P w= .ok (.value (.tuple #[])) W:=λW hrun=>by
  obtain⟨callee,args,argTypes⟩:=c;obtain⟨args⟩:=args;obtain⟨argTypes⟩:=argTypes;simp only at hc ha de;subst hc ha de;simp only[execOp,ho,resolve,invoke,builtin,Sem.run_bind,Sem.run_pure,Result.andThen_ok,Xdq,Xak,Xbp,hrun]
 have fz:∀W,(Builtin.clear_ #[t] o.type #[a.eval x]).run P w= .ok (.tuple #[]) W->HRel w0 F G ν ((id,.arr e (xs.take lo++Xt (hi-lo) e.dflt++xs.drop hi))::st.objs) st.nx W->
   Done P w0 F nt G0 o a w (({env:=st.env,objs:=(id,.arr e (xs.take lo++Xt (hi-lo) e.dflt++xs.drop hi))::st.objs,nx:=st.nx}:St).put o.dst (.tup [])):=λW hrun hH=>
  ⟨_,_,W,G,ν,rR W hrun,.inl rfl,(hr.on (λ_ _ _ hh=>hh) (λ_ _=>rfl) (Xn _) hH hr.gx).put hd ⟨[],rfl,rfl,λj x v hj=>by simp at hj⟩⟩
 by_cases h0:hi-lo=0
 .have u6:hi=lo:=by omega
  have e1:xs.take lo++Xt (hi-lo) e.dflt++xs.drop hi=xs:=by
   simp_all
  refine fz w ?_ ?_
  .rw[hv];unfold Nu.vhdr;rw[h0];cases(ν id).blk<;>simp[Builtin.clear_,Wk hu]
  .rw[e1];exact⟨_,hφ.put (m:=[]) (ν':=ν) (λ_ _=>rfl) (Xn _) (hφ.lt id az) (WLe.refl _ w) (λb o hh=>.inl ⟨id,.inl rfl,az,hh⟩) (λ_=>hown)⟩
 .cases aZ:(ν id).blk with
  |none=>simp_all
  |some b=>
   obtain⟨jk,h4,h5,⟨row,TT,fL,hrow⟩,cs,h7,h8,h9⟩:=WdJ aV hown aZ;obtain⟨z,hz,dC⟩:=Wfc (w:=w) (hT _ _ hle);rw[WbM hp,he]at dC;have hY:z.cells.size=e.size:=by rw[←Xas,dC,WbE]
   have bW:=hown.2.1;have hcl:cs.length=xs.length*e.size:=EncL_len (λx c hc=>Enc_len e x c hc) _ _ h7;have xt:(Builtin.zeroCells z.cells (hi-lo)).toList=rep (WbO e) (hi-lo):=by rw[←dC];exact WgO z.cells (hi-lo)
   have df:(rep (WbO e) (hi-lo)).length=(hi-lo)*e.size:=by rw[WlO,WbE]
   have u7:lo*e.size+(hi-lo)*e.size=hi*e.size:=by rw[←Xcs];congr 1;omega
   have uk:hi*e.size<=xs.length*e.size:=Xbf _ (by omega);have xu:xs.length*e.size<=(ν id).cap*e.size:=Xbf _ h4;have dS:∀u∈rep (WbO e) (hi-lo),u.oneCell'=true:=WpR (G:=G) _ _ (Whg aV (hi-lo));have aH:=run_storeCells_at P b ((ν id).off+lo*e.size) TT (rep (WbO e) (hi-lo)) 0 row w fL (by rw[df];omega) dS;simp only[Xax]at aH;obtain⟨hw,hm⟩:=Wc0 (k:=(ν id).off+lo*e.size) (news:=rep (WbO e) (hi-lo)) fL (by rw[df];omega);have hrun:(Builtin.clear_ #[t] o.type #[a.eval x]).run P w= .ok (.tuple #[]) (w.setRow b (row.toList.take ((ν id).off+lo*e.size)++rep (WbO e) (hi-lo)++row.toList.drop ((ν id).off+lo*e.size+(rep (WbO e) (hi-lo)).length)).toArray):=by
    rw[hv];unfold Nu.vhdr;simp only[aZ,bW];rw[Wa (by omega)];obtain⟨n,hn⟩:∃n,hi-lo=n+1:=⟨hi-lo-1,by omega⟩;simp only[Builtin.clear_,Sem.run_bind,Wk hu,Result.andThen_ok,Xem,List.getElem?_cons_zero];rw[hn]at aH xt⊢;simp only[Sem.run_bind,hz,Result.andThen_ok,xt,aH,Sem.run_pure]
   generalize w.setRow b (row.toList.take ((ν id).off+lo*e.size)++rep (WbO e) (hi-lo)++row.toList.drop ((ν id).off+lo*e.size+(rep (WbO e) (hi-lo)).length)).toArray=W at hrun hw hm;refine fz W hrun (hφ.turn (m:=[]) au (by simp) hw (λb' o ⟨k0,k1,k2⟩=>h9 b' o ⟨k0,by omega,by omega⟩) ?_);have nd:(xs.take lo++Xt (hi-lo) e.dflt++xs.drop hi).length=xs.length:=by simp;omega
   have henc:EncL (Enc G e) (xs.take lo++Xt (hi-lo) e.dflt++xs.drop hi) (cs.take (lo*e.size)++rep (WbO e) (hi-lo)++cs.drop (hi*e.size)):=
    Wd9 _ _ _ _ (Wd9 _ _ _ _ (WeA (λx c hc=>Enc_len e x c hc) _ _ lo h7) (Whg aV _)) (Weu (λx c hc=>Enc_len e x c hc) _ _ hi h7)
   refine Wmv aV aZ (by rw[nd];exact jk) bW (by rw[nd];exact h4) h5 (hw.rows.row _ _ ⟨row,TT,fL,hrow⟩) henc ?_ (λb o hh=>.inl (h9 b o hh));have:=Wfe h8 hw hm (by rw[df];omega);rw[df,u7]at this;exact this
end
end Go.Sx
namespace Go.Sx
set_option linter.unusedVariables false
set_option linter.unusedSimpArgs false
def Wje(G:GH)(w:World)(t:Ty)(agg:Bool)(d:t.den)(v:Value)(ns:List Pc):Prop:=
 if agg then∃us:List Value,v= .agg us.toArray/\TyRel G w t d us ns else TyRel G w t d [v] ns
def Wcb(b o:Nat):Nu:=⟨some b,o,0,0,0⟩
def WfC(G:GH)(w:World)(t:Ty)(d:t.den)(b o:Nat)(ns:List Pc):Prop:=∃us,Row w b (o+t.size)/\Mem w b o us/\TyRel G w t d us ns
def fps(ns:List Pc):List CS:=ns.map Pc.fp
def nus(ns:List Pc):List Nu:=ns.map Pc.nu
def Wbw(G:GH)(w:World):(ps:List PTy)->WfA ps->List Value->List Pc->List Nu->Prop
 | [],_,vs,ns,ks=>vs= []/\ns= []/\ks= []
 | .v t agg::ps,d,vs,ns,ks=>∃v vs' n1 n2,vs=v::vs'/\ns=n1++n2/\Wje G w t agg d.1 v n1/\Wbw G w ps d.2 vs' n2 ks
 | .box t::ps,d,vs,ns,ks=>∃b o vs' n1 n2 ks',vs= .pointer (some ⟨b,o,none⟩)::vs'/\ns=⟨Wcb b o,rng b o t.size⟩::(n1++n2)/\ks=Wcb b o::ks'/\WfC G w t d.1 b o n1/\Wbw G w ps d.2 vs' n2 ks'
 | .mut e::ps,d,vs,ns,ks=>∃pc vs' n2 ks',vs=pc.nu.hdr::vs'/\ns=pc::n2/\ks=pc.nu::ks'/\OwnL w (TyRel G w e) e.size pc.nu d.1 pc.fp/\Wbw G w ps d.2 vs' n2 ks'
 | .clos g n::ps,d,vs,ns,ks=>∃cvs vs':List Value,vs= .func (.func g) #[] cvs.toArray::vs'/\cvs.length=n/\(∀u∈cvs,u.oneCell'=true)/\Wbw G w ps d (cvs++vs') ns ks
 | .kv t agg::ps,d,vs,ns,ks=>∃v vs' n1 n2 ks',vs=v::vs'/\ns=n1++n2/\ks=nus n1++ks'/\Wje G w t agg d.1 v n1/\Wbw G w ps d.2 vs' n2 ks'
 | .rp t::ps,d,vs,ns,ks=>∃b o us vs',vs= .pointer (some ⟨b,o,none⟩)::vs'/\Enc G t d.1 us/\WfG G b o us/\Wbw G w ps d.2 vs' ns ks
 | .vj _::_,_,_,_,_=>False
 | .boxal t lf::ps,d,vs,ns,ks=>∃b o b' pc vs' n1 n2 ks',vs= .pointer (some ⟨b,o,none⟩):: .pointer (some ⟨b',pc.nu.off+(d.2.1*pc.nu.esz+0),none⟩)::vs'/\ns=⟨Wcb b o,rng b o t.size⟩::(n1++n2)/\ks=Wcb b o::ks'/\
   WfC G w t d.1 b o n1/\n1[lf]?=some pc/\pc.nu.blk=some b'/\d.2.1<pc.nu.len/\Wbw G w ps d.2.2 vs' n2 ks'
def WbP(G:GH)(w:World):(ps:List PTy)->Wgd ps->List Nu->List CS->List Pc->Prop
 | [],_,ks,kf,ns=>ks= []/\kf= []/\ns= []
 | .v _ _::ps,o,ks,kf,ns=>WbP G w ps o ks kf ns
 | .box t::ps,o,ks,kf,ns=>∃b off ks' cV n1 n2,ks=Wcb b off::ks'/\kf=rng b off t.size::cV/\ns=n1++n2/\WfC G w t o.1 b off n1/\WbP G w ps o.2 ks' cV n2
 | .mut e::ps,o,ks,kf,ns=>∃pc:Pc,∃ks' cV,ks=pc.nu::ks'/\kf=pc.fp::cV/\OwnL w (TyRel G w e) e.size pc.nu o.1 pc.fp/\WbP G w ps o.2 ks' cV ns
 | .clos _ _::ps,o,ks,kf,ns=>WbP G w ps o ks kf ns
 | .kv t _::ps,o,ks,kf,ns=>∃n1 ks' cV us,ks=nus n1++ks'/\kf=fps n1++cV/\TyRel G w t o.1 us n1/\WbP G w ps o.2 ks' cV ns
 | .rp _::ps,o,ks,kf,ns=>WbP G w ps o ks kf ns
 | .vj _::_,_,_,_,_=>False
 | .boxal t _::ps,o,ks,kf,ns=>∃b off ks' cV n1 n2,ks=Wcb b off::ks'/\kf=rng b off t.size::cV/\ns=n1++n2/\WfC G w t o.1 b off n1/\WbP G w ps o.2 ks' cV n2
def Wgt(G:GH)(w:World):(rs:List PTy)->Whd rs->List Value->List Pc->Prop
 | [],_,vs,ns=>vs= []/\ns= []
 | .v t agg::rs,d,vs,ns=>∃v vs' n1 n2,vs=v::vs'/\ns=n1++n2/\Wje G w t agg d.1 v n1/\Wgt G w rs d.2 vs' n2
 | .box t::rs,d,vs,ns=>∃b o vs' n1 n2,vs= .pointer (some ⟨b,o,none⟩)::vs'/\ns=⟨Wcb b o,rng b o t.size⟩::(n1++n2)/\WfC G w t d.1 b o n1/\Wgt G w rs d.2 vs' n2
 | .mut _::_,_,_,_=>False
 | .clos _ _::_,_,_,_=>False
 | .kv _ _::_,_,_,_=>False
 | .rp _::_,_,_,_=>False
 | .vj t::rs,d,vs,ns=>∃us u vs' n1 n2,vs= .agg (us++ [u]).toArray::vs'/\u.oneCell'=true/\ns=n1++n2/\TyRel G w t d.1 us n1/\Wgt G w rs d.2 vs' n2
 | .boxal _ _::_,_,_,_=>False
def Wi2:List Value->Value
 | [v]=>v
 |vs=>.tuple vs.toArray
def Of(ns:List Pc):CS:=λb o=>∃q∈ns,q.fp b o
structure After(sg:Sig)(o:Wgd sg.ps×Whd sg.rs)(G:GH)(w:World)(ns:List Pc)(ks:List Nu)(rv:List Value)(kf:List CS)(ms cD:List Pc)(G':GH)(w':World):Prop where
 res:Wgt G' w' sg.rs o.2 rv cD
 outs:WbP G' w' sg.ps o.1 ks kf ms
 sep:Sep (kf++fps (ms++cD))
 own:∀S∈kf++fps (ms++cD),∀b off,S b off->G' b off=none/\(Of ns b off\/w.heap.size<=b)/\b<w'.heap.size
 gx:GExt w.heap.size (Of ns) G G'
 g:∀b o v,G' b o=some v->w'.cell? ⟨b,o,none⟩=some v
 le:WLe (Of ns) w w'
def Good(P:Program)(k:FuncId)(sg:Sig):Prop:=
 ∀(d:WfA sg.ps) (o:Wgd sg.ps×Whd sg.rs),sg.run d=some o->∀(G:GH) (w:World) (vs:List Value) (ns:List Pc) (ks:List Nu),Wbw G w sg.ps d vs ns ks->Sep (fps ns)->
  (∀q∈ns,∀b off,q.fp b off->G b off=none/\b<w.heap.size)->(∀b o v,G b o=some v->w.cell? ⟨b,o,none⟩=some v)->
  Calls P k vs.toArray w λe w'=>∃rv kf ms cD G',e= .returned (Wi2 rv)/\After sg o G w ns ks rv kf ms cD G' w'
def Wgz(P:Program)(k:FuncId):Prop:=∃fn,P.funcs[k]?=some fn∧fn.body.isNone=false∧(fn.name== "runtime.NumGoroutine")=false
def Wft(P:Program)(Γ:Ctx):Prop:=∀k sg,look Γ k=some sg->Good P k sg/\Wgz P k
section
variable{w0:World}{F:CS}{nt:Slots}{G0 G G':GH}{ν:Nat->Nu}{φ:Nat->CS}{objs:Waj}{nx:Nat}{st af:St}{a:Act}{w w':World}{P:Program}{T:Tab}
theorem WaZ:∀(t:Ty) (d:t.den) (nx:Nat),(unfold t d nx).2.2=nx+t.owns
 | .prod a b,d,nx=>by simp only[unfold,WaZ a,WaZ b,Ty.owns,Xay]
 | .own _,_,_=>rfl
 | .int _,_,_| .bool,_,_| .str,_,_| .slice _,_,_=>rfl
theorem WP{α:Type}{l m:List (Nat×α)}{i:Nat}{x:α}(h:look (l++m) i=some x):look l i=some x\/look m i=some x:=by
 rw[WbN]at h
 grind
def At(ν:Nat->Nu)(φ:Nat->CS)(nx:Nat)(ns:List Pc):Prop:=∀(j:Nat) (pc:Pc),ns[j]?=some pc->ν (nx+j)=pc.nu/\φ (nx+j)=pc.fp
theorem At.left{n1 n2:List Pc}(h:At ν φ nx (n1++n2)):At ν φ nx n1:=λj pc hj=>h j pc (by grind)
theorem At.right{n1 n2:List Pc}{k:Nat}(h:At ν φ nx (n1++n2))(hk:n1.length=k):At ν φ (nx+k) n2:=λj pc hj=>by
 have:=h (k+j) pc (by grind)
 grind
def WqP(G:GH)(ν:Nat->Nu)(φ:Nat->CS)(w:World)(id:Nat)(ob:Ob):Prop:=∃(e:Ty) (xs:List e.den),ob= .arr e xs/\OwnL w (TyRel G w e) e.size (ν id) xs (φ id)
theorem WaA:∀(t:Ty) (d:t.den) (nx:Nat) (vs:List Value) (ns:List Pc),TyRel G w t d vs ns->At ν φ nx ns->
  (∀(ai:Nat),nx+t.owns<=ai->CellsRel G ν ai (unfold t d nx).1 vs)/\
  (∀id ob,look (unfold t d nx).2.1 id=some ob->nx<=id/\id<nx+t.owns/\WqP G ν φ w id ob)
 | .own e,d,nx,vs,ns,⟨pc,h1,h2,h3⟩,hν=>by
  obtain⟨hn,hp⟩:ν nx=pc.nu/\φ nx=pc.fp:=by have:=hν 0 pc (by grind);omega
  refine⟨λai hx=>?_,λid ob hl=>?_⟩
  .rw[h2];refine CellsRel.one ⟨by grind [Ty.owns],by rw[hn]⟩ (WiY _)
  .simp only[unfold]at hl;rw[WH]at hl;split at hl
   .rename_i e1;subst e1;injection hl with hl;subst hl;exact⟨Xn _,by simp[Ty.owns],e,d,rfl,by simp_all⟩
   .simp[look]at hl
 | .prod p q,d,nx,vs,ns,⟨v1,v2,n1,n2,h1,h2,h3,h4⟩,hν=>by
  subst h2;have bc:=W9 p _ _ _ h3;obtain⟨c1,o1⟩:=WaA p d.1 nx v1 n1 h3 hν.left;obtain⟨c2,o2⟩:=WaA q d.2 (nx+p.owns) v2 n2 h4 (hν.right bc);refine⟨λai hx=>?_,λid ob hl=>?_⟩
  .simp only[Ty.owns]at hx;simp only[unfold,WaZ];rw[h1];exact(c1 ai (by omega)).append (c2 ai (by omega))
  .simp only[unfold,WaZ]at hl
   grind [Ty.owns,WP]
 | .int k,d,nx,vs,ns,h,_=>⟨λai _=>WaT (.int k) d vs h.2,λid ob hl=>by simp[unfold,look]at hl⟩
 | .bool,d,nx,vs,ns,h,_=>⟨λai _=>WaT .bool d vs h.2,λid ob hl=>by simp[unfold,look]at hl⟩
 | .str,d,nx,vs,ns,h,_=>⟨λai _=>WaT .str d vs h.2,λid ob hl=>by simp[unfold,look]at hl⟩
 | .slice e,d,nx,vs,ns,h,_=>⟨λai _=>WaT (.slice e) d vs h.2,λid ob hl=>by simp[unfold,look]at hl⟩
theorem Wcj:∀(t:Ty) (d:t.den) (nx:Nat),(unfold t d nx).1.length=t.size
 | .prod a b,d,nx=>by simp only[unfold,Xz,Wcj a,Wcj b,Ty.size]
 | .own _,_,_| .int _,_,_| .bool,_,_| .str,_,_| .slice _,_,_=>rfl
theorem Wkv{t:Ty}{agg:Bool}{d:t.den}{v:Value}{ns:List Pc}{nx ai:Nat}(h:Wje G w t agg d v ns)(hν:At ν φ nx ns)(hx:nx+t.owns<=ai):
  AvRel G ν ai (WwW agg (unfold t d nx).1) v:=by
 unfold Wje at h;unfold WwW;cases agg with
 |true=>
  simp only[Wav]at h⊢;obtain⟨us,rfl,h⟩:=h;exact⟨us,rfl,(WaA t d nx us ns h hν).1 ai hx⟩
 |false=>
  simp only[Xbg,Waw]at h⊢;have hc:=(WaA t d nx [v] ns h hν).1 ai hx;have hl:=hc.1;generalize (unfold t d nx).1=cs at*
  match cs,hl with
  | [c],_=>exact hc.2 0 c v rfl rfl
theorem Wob{t:Ty}{agg:Bool}{d:t.den}{v:Value}{ns:List Pc}(h:Wje G w t agg d v ns):∃us,TyRel G w t d us ns:=by
 grind [Wje]
def Wir(objs:Waj):Ty->List Nat->Prop
 | .own e,ids=>∃(id:Nat) (ys:List e.den),ids= [id]/\look objs id=some (.arr e ys)
 | .prod a b,ids=>∃i1 i2,ids=i1++i2/\Wir objs a i1/\Wir objs b i2
 | .int _,ids=>ids= []
 | .bool,ids=>ids= []
 | .str,ids=>ids= []
 | .slice _,ids=>ids= []
theorem Wff{objs:Waj}:∀(t:Ty) (ids:List Nat),Wir objs t ids->ids.length=t.owns
 | .own e,ids,⟨id,ys,h,_⟩=>by rw[h];rfl
 | .prod a b,ids,⟨i1,i2,h,h1,h2⟩=>by rw[h,Xz,Wff a _ h1,Wff b _ h2];rfl
 | .int _,ids,h=>by have:ids= []:=h;rw[this];rfl
 | .bool,ids,h=>by have:ids= []:=h;rw[this];rfl
 | .str,ids,h=>by have:ids= []:=h;rw[this];rfl
 | .slice _,ids,h=>by have:ids= []:=h;rw[this];rfl
def KeptBox(objs:Waj)(ν:Nat->Nu)(bx:List (Nat×CS))(t:Ty)(k:Kp)(nu:Nu):Prop:=
 ∃cs b,look objs k.id=some (.box cs)/\k.off+t.size<=cs.length/\(ν k.id).blk=some b/\nu=Wcb b ((ν k.id).off+k.off)/\(k.id,rng b ((ν k.id).off+k.off) t.size)∈bx
def KeptOk(objs:Waj)(ν:Nat->Nu)(bx:List (Nat×CS)):List PTy->List Kp->List Nu->Prop
 | [],ids,ks=>ids= []/\ks= []
 | .v _ _::ps,ids,ks=>KeptOk objs ν bx ps ids ks
 | .box t::ps,ids,ks=>∃k ba nu ks',ids=k::ba/\ks=nu::ks'/\KeptBox objs ν bx t k nu/\KeptOk objs ν bx ps ba ks'
 | .mut e::ps,ids,ks=>∃(id:Nat) (ba:List Kp) (ks':List Nu) (ys:List e.den),ids=⟨id,0⟩::ba/\ks=ν id::ks'/\look objs id=some (.arr e ys)/\KeptOk objs ν bx ps ba ks'
 | .clos _ _::ps,ids,ks=>KeptOk objs ν bx ps ids ks
 | .kv t _::ps,ids,ks=>∃i1 i2 ks',ids=kp0 i1++i2/\ks=i1.map ν++ks'/\Wir objs t i1/\KeptOk objs ν bx ps i2 ks'
 | .rp _::ps,ids,ks=>KeptOk objs ν bx ps ids ks
 | .vj _::_,_,_=>False
 | .boxal t _::ps,ids,ks=>∃k ba nu ks',ids=k::ba/\ks=nu::ks'/\KeptBox objs ν bx t k nu/\KeptOk objs ν bx ps ba ks'
theorem KeptBox.mono{bx nf:List (Nat×CS)}{t:Ty}{k:Kp}{nu:Nu}(hb:∀p∈bx,p∈nf)(h:KeptBox objs ν bx t k nu):KeptBox objs ν nf t k nu:=by
 obtain⟨cs,b,h1,h2,h3,h4,h5⟩:=h;exact⟨cs,b,h1,h2,h3,h4,hb _ h5⟩
theorem KeptOk.mono{bx nf:List (Nat×CS)}(hb:∀p∈bx,p∈nf):∀(ps:List PTy) (ids:List Kp) (ks:List Nu),KeptOk objs ν bx ps ids ks->KeptOk objs ν nf ps ids ks
 | [],_,_,h=>h
 | .v _ _::ps,ids,ks,h=>KeptOk.mono hb ps ids ks h
 | .box t::ps,ids,ks,⟨k,ba,nu,ks',h1,h2,h3,h4⟩=>⟨k,ba,nu,ks',h1,h2,h3.mono hb,KeptOk.mono hb ps ba ks' h4⟩
 | .mut e::ps,ids,ks,⟨id,ba,ks',ys,h1,h2,h3,h4⟩=>⟨id,ba,ks',ys,h1,h2,h3,KeptOk.mono hb ps ba ks' h4⟩
 | .clos _ _::ps,ids,ks,h=>KeptOk.mono hb ps ids ks h
 | .kv t _::ps,ids,ks,⟨i1,i2,ks',h1,h2,h3,h4⟩=>⟨i1,i2,ks',h1,h2,h3,KeptOk.mono hb ps i2 ks' h4⟩
 | .rp _::ps,ids,ks,h=>KeptOk.mono hb ps ids ks h
 | .vj _::_,_,_,h=>h.elim
 | .boxal t _::ps,ids,ks,⟨k,ba,nu,ks',h1,h2,h3,h4⟩=>⟨k,ba,nu,ks',h1,h2,h3.mono hb,KeptOk.mono hb ps ba ks' h4⟩
def Wnn(G:GH)(ν:Nat->Nu)(w:World)(aD:Waj)(bx:List (Nat×CS))(ai:Nat)(id:Nat)(S:CS)(ob:Ob):Prop:=
 (∃lD off ds b us,look aD id=some (.box lD)/\ob= .box (Wej lD off ds)/\off+ds.length<=lD.length/\(ν id).blk=some b/\Mem w b ((ν id).off+off) us/\CellsRel G ν ai ds us/\
  S=rng b ((ν id).off+off) ds.length/\(id,rng b ((ν id).off+off) ds.length)∈bx)\/
 (∃(e:Ty) (ys xs:List e.den),look aD id=some (.arr e ys)/\ob= .arr e xs/\OwnL w (TyRel G w e) e.size (ν id) xs S)
theorem Wha(aD:Waj){bx:List (Nat×CS)}{ai:Nat}:∀(t:Ty) (d:t.den) (us:List Value) (ns:List Pc) (ids:List Nat),TyRel G w t d us ns->nus ns=ids.map ν->Wir aD t ids->
  (∀id ob,look (WcD t d ids) id=some ob->∃(j:Nat) (S:CS),ids[j]?=some id/\(fps ns)[j]?=some S/\Wnn G ν w aD bx ai id S ob)/\∀id∈ids,∃ob,look (WcD t d ids) id=some ob
 | .own e,d,us,ns,ids,⟨pc,h1,h2,h3⟩,hn,⟨id,ys,h,aS⟩=>by
  subst h h1;simp only[nus,Xak,Xbp,List.cons.injEq,and_true]at hn;refine⟨λi ob hl=>?_,λi hi=>?_⟩
  .simp only[WcD,WH]at hl;split at hl
   .rename_i e3;subst e3;injection hl with hl;subst hl;exact⟨0,pc.fp,rfl,rfl,.inr ⟨e,ys,d,aS,rfl,by simp_all⟩⟩
   .simp[look]at hl
  simp_all [Xaf,WcD,look]
 | .prod a b,d,us,ns,ids,⟨u1,u2,n1,n2,h1,h2,h3,h4⟩,hn,⟨i1,i2,h,um,mb⟩=>by
  subst h h2;have bc:=W9 a _ _ _ h3;have gw:=Wff a _ um;simp only[nus,Xu]at hn;obtain⟨e1,e2⟩:=Xfw hn (by rw[Xae,Xae,bc,gw]);have t1:(i1++i2).take a.owns=i1:=by simp_all
  have t2:(i1++i2).drop a.owns=i2:=by simp_all
  obtain⟨a1,a2⟩:=Wha aD (bx:=bx) (ai:=ai) a d.1 _ n1 i1 h3 e1 um;obtain⟨b1,b2⟩:=Wha aD (bx:=bx) (ai:=ai) b d.2 _ n2 i2 h4 e2 mb;simp only[WcD,t1,t2];refine⟨λi ob hl=>?_,λi hi=>?_⟩
  .rcases WP hl with hl|hl
   .grind [fps,Xcj,Xad]
   grind [fps,Xce,Xcc,Xae]
  .rcases Xm.1 hi with hi|hi
   .grind [WbN]
   .obtain⟨ob,ho⟩:=b2 i hi;rw[WbN]
    grind
 | .int _,d,us,ns,ids,hr,_,h=>by have:ids= []:=h;grind [WcD,look]
 | .bool,d,us,ns,ids,hr,_,h=>by have:ids= []:=h;grind [WcD,look]
 | .str,d,us,ns,ids,hr,_,h=>by have:ids= []:=h;grind [WcD,look]
 | .slice _,d,us,ns,ids,hr,_,h=>by have:ids= []:=h;grind [WcD,look]
theorem WiN:∀(t:Ty) (d:t.den) (ids:List Nat) (id:Nat) (ob:Ob),look (WcD t d ids) id=some ob->id∈ids
 | .own e,d,ids,id,ob,h=>by
  cases ids with
  |nil=>simp[WcD,look]at h
  |cons i l=>
   grind [WcD,WH,Xh,look]
 | .prod a b,d,ids,id,ob,h=>by
  simp only[WcD]at h;rcases WP h with h|h
  .exact Xbj (WiN a d.1 _ id ob h)
  .exact Xdw (WiN b d.2 _ id ob h)
 | .int _,_,_,_,_,h=>by simp[WcD,look]at h
 | .bool,_,_,_,_,h=>by simp[WcD,look]at h
 | .str,_,_,_,_,h=>by simp[WcD,look]at h
 | .slice _,_,_,_,_,h=>by simp[WcD,look]at h
def kids(l:List Kp):List Nat:=l.map Kp.id
theorem Wh1(l:List Nat):kids (kp0 l)=l:=by simp[kids,kp0,Function.comp_def]
theorem Wa8(aD:Waj){bx:List (Nat×CS)}:∀(ps:List PTy) (o:Wgd ps) (ids:List Kp) (ks:List Nu) (kf:List CS) (ms:List Pc) (objs:Waj) (nx ai:Nat),WbP G w ps o ks kf ms->KeptOk aD ν bx ps ids ks->At ν φ nx ms->
  (kids ids).Nodup->(∀k∈ids,k.id<nx/\look objs k.id=look aD k.id)->nx+ms.length<=ai->
  (Wal ps o ids objs nx).2=nx+ms.length/\kf.length=ids.length/\
  ∀id ob,look (Wal ps o ids objs nx).1 id=some ob->(nx<=id/\id<nx+ms.length/\WqP G ν φ w id ob)\/(∃(j:Nat) (S:CS),(kids ids)[j]?=some id/\kf[j]?=some S/\Wnn G ν w aD bx ai id S ob)\/(look objs id=some ob/\id∉kids ids)
 | [],o,ids,ks,kf,ms,objs,nx,ai,⟨_,h1,h2⟩,hk,_,_,_,_=>by subst h1 h2;obtain⟨hk,_⟩:=hk;subst hk;exact⟨rfl,rfl,λid ob hl=>.inr (.inr ⟨hl,by simp[kids]⟩)⟩
 | .v _ _::ps,o,ids,ks,kf,ms,objs,nx,ai,h,hk,hν,hn,hi,hx=>Wa8 aD ps o ids ks kf ms objs nx ai h hk hν hn hi hx
 | .box t::ps,o,ids,ks,kf,ms,objs,nx,ai,⟨b,off,ks',cV,n1,n2,h1,h2,h3,hb,h5⟩,hk,hν,hn,hi,hx=>putOuts_box aD t ps o.1 o.2 ids ks kf ms objs nx ai (λids ks kf ms objs nx ai=>Wa8 aD ps o.2 ids ks kf ms objs nx ai) ⟨b,off,ks',cV,n1,n2,h1,h2,h3,hb,h5⟩ hk hν hn hi hx
 | .vj _::_,_,_,_,_,_,_,_,_,h,_,_,_,_,_=>h.elim
 | .boxal t _::ps,o,ids,ks,kf,ms,objs,nx,ai,⟨b,off,ks',cV,n1,n2,h1,h2,h3,hb,h5⟩,hk,hν,hn,hi,hx=>putOuts_box aD t ps o.1 o.2 ids ks kf ms objs nx ai (λids ks kf ms objs nx ai=>Wa8 aD ps o.2 ids ks kf ms objs nx ai) ⟨b,off,ks',cV,n1,n2,h1,h2,h3,hb,h5⟩ hk hν hn hi hx
 | .mut e::ps,o,ids,ks,kf,ms,objs,nx,ai,⟨pc,ks',cV,h1,h2,h3,h4⟩,hk,hν,hn,hi,hx=>by
  obtain⟨id,ba,xw,ys,rfl,lE,aS,cu⟩:=hk;rw[h1]at lE;simp only[List.cons.injEq]at lE;obtain⟨hνid,rfl⟩:=lE;subst h2;have aP:=Xai.1 hn;obtain⟨e1,el,e2⟩:=Wa8 aD ps o.2 ba ks' cV ms ((id,.arr e o.1)::objs) nx ai h4 cu hν aP.2 (λk od=>by
   obtain⟨g1,g2⟩:=hi k (Xe _ od);have hne:id≠k.id:=λe=>aP.1 (by grind);simp_all [WH,Wa]) hx
  simp only[Wal];refine⟨e1,by simp[el],λi ob hl=>?_⟩;rcases e2 i ob hl with g|⟨j,S,g1,g2,g3⟩|⟨g,gn⟩
  .grind
  .exact .inr (.inl ⟨j+1,S,g1,g2,g3⟩)
  .rw[WH]at g;split at g
   .rename_i e3;subst e3;injection g with g;subst g;exact .inr (.inl ⟨0,pc.fp,rfl,rfl,.inr ⟨e,ys,o.1,aS,rfl,by simp_all⟩⟩)
   .rename_i hne;exact .inr (.inr ⟨g,λhm=>by rcases Xr.1 hm with hm|hm;exact hne hm.symm;exact gn hm⟩)
 | .clos _ _::ps,o,ids,ks,kf,ms,objs,nx,ai,h,hk,hν,hn,hi,hx=>Wa8 aD ps o ids ks kf ms objs nx ai h hk hν hn hi hx
 | .rp _::ps,o,ids,ks,kf,ms,objs,nx,ai,h,hk,hν,hn,hi,hx=>Wa8 aD ps o ids ks kf ms objs nx ai h hk hν hn hi hx
 | .kv t agg::ps,o,ids,ks,kf,ms,objs,nx,ai,⟨n1,ks',cV,us,h1,h2,h3,h4⟩,⟨i1,i2,xw,bz,rS,ho,cu⟩,hν,hn,hi,hx=>by
  subst bz h2;have bc:=W9 t _ _ _ h3;have gw:=Wff t _ ho;rw[h1]at rS;obtain⟨q1,q2⟩:=Xfw rS (by simp[nus,bc,gw]);subst q2;have kD:(kp0 i1).length=t.owns:=by simp[kp0,gw]
  have t1:((kp0 i1++i2).take t.owns).map Kp.id=i1:=by rw[←kD];simp;exact Wh1 i1
  have t2:(kp0 i1++i2).drop t.owns=i2:=by simp_all
  obtain⟨r1,r2⟩:=Wha (bx:=bx) (ai:=ai) aD t o.1 us n1 i1 h3 q1 ho;have iW:kids (kp0 i1++i2)=i1++kids i2:=by grind [kids,Wh1]
  rw[iW]at hn;obtain⟨m1,m2,m3⟩:=Xaj.1 hn;obtain⟨e1,el,e2⟩:=Wa8 aD ps o.2 i2 ks' cV ms (WcD t o.1 i1++objs) nx ai h4 cu hν m2 (λk od=>by
   obtain⟨g1,g2⟩:=hi k (Xg _ od);refine⟨g1,?_⟩;rw[WbN];cases hq:look (WcD t o.1 i1) k.id with
   |none=>exact g2
   |some ob=>exact Wg rfl (m3 _ (WiN t o.1 i1 _ ob hq) _ (Xap od))) hx
  simp only[Wal,t1,t2];have fe:(fps n1).length=i1.length:=by simp[fps,bc,gw]
  refine⟨e1,by simp_all,λi ob hl=>?_⟩;rw[iW];rcases e2 i ob hl with g|⟨j,S,g1,g2,g3⟩|⟨g,gn⟩
  .grind
  .refine .inr (.inl ⟨i1.length+j,S,?_,?_,g3⟩)
   .grind
   grind
  .rw[WbN]at g;cases hq:look (WcD t o.1 i1) i with
   |some cA=>
    rw[hq]at g;injection g with g;subst g;obtain⟨j,S,g1,g2,g3⟩:=r1 i _ hq;refine .inr (.inl ⟨j,S,?_,?_,g3⟩)
    .grind
    grind
   |none=>
    grind
where
 putOuts_box (aD:Waj) {bx:List (Nat×CS)} (t:Ty) (ps:List PTy) (o1:t.den) (o2:Wgd ps) (ids:List Kp) (ks:List Nu) (kf:List CS) (ms:List Pc) (objs:Waj) (nx ai:Nat)
   (ih:∀(ids:List Kp) (ks:List Nu) (kf:List CS) (ms:List Pc) (objs:Waj) (nx ai:Nat),WbP G w ps o2 ks kf ms->KeptOk aD ν bx ps ids ks->At ν φ nx ms->
    (kids ids).Nodup->(∀k∈ids,k.id<nx/\look objs k.id=look aD k.id)->nx+ms.length<=ai->
    (Wal ps o2 ids objs nx).2=nx+ms.length/\kf.length=ids.length/\
    ∀id ob,look (Wal ps o2 ids objs nx).1 id=some ob->(nx<=id/\id<nx+ms.length/\WqP G ν φ w id ob)\/(∃(j:Nat) (S:CS),(kids ids)[j]?=some id/\kf[j]?=some S/\Wnn G ν w aD bx ai id S ob)\/(look objs id=some ob/\id∉kids ids))
   (h:∃b off ks' cV n1 n2,ks=Wcb b off::ks'/\kf=rng b off t.size::cV/\ms=n1++n2/\WfC G w t o1 b off n1/\WbP G w ps o2 ks' cV n2)
   (hk:∃k ba nu ks',ids=k::ba/\ks=nu::ks'/\KeptBox aD ν bx t k nu/\KeptOk aD ν bx ps ba ks') (hν:At ν φ nx ms)
   (hn:(kids ids).Nodup) (hi:∀k∈ids,k.id<nx/\look objs k.id=look aD k.id) (hx:nx+ms.length<=ai):
   (Wal (.box t::ps) (o1,o2) ids objs nx).2=nx+ms.length/\kf.length=ids.length/\
   ∀id ob,look (Wal (.box t::ps) (o1,o2) ids objs nx).1 id=some ob->(nx<=id/\id<nx+ms.length/\WqP G ν φ w id ob)\/(∃(j:Nat) (S:CS),(kids ids)[j]?=some id/\kf[j]?=some S/\Wnn G ν w aD bx ai id S ob)\/(look objs id=some ob/\id∉kids ids):=by
  obtain⟨b,off,ks',cV,n1,n2,h1,h2,h3,⟨us,_,hmem,gR⟩,h5⟩:=h;obtain⟨k,ba,nu,xw,rfl,lE,⟨lD,b0,aS,bX,aZ,lF,u9⟩,cu⟩:=hk;rw[h1]at lE;simp only[List.cons.injEq]at lE;obtain⟨ui,rfl⟩:=lE;rw[lF]at ui;unfold Wcb at ui;injection ui with vd zr;injection vd with vd;subst vd zr h2 h3;have bc:=W9 t _ _ _ gR;have hlen:(n1++n2).length=t.owns+n2.length:=by rw[Xz,bc]
  obtain⟨c1,xx⟩:=WaA t o1 nx us n1 gR hν.left;have aP:=Xai.1 hn;obtain⟨lG,ii⟩:=hi k (Xh ..);have cI:=Wcj t o1 nx;have gX:Whs (look objs k.id) k.off (unfold t o1 nx).1= .box (Wej lD k.off (unfold t o1 nx).1):=by rw[ii,aS];rfl
  obtain⟨e1,el,e2⟩:=ih ba ks' cV n2 ((k.id,Whs (look objs k.id) k.off (unfold t o1 nx).1)::((unfold t o1 nx).2.1++objs)) (nx+t.owns) ai h5 cu (hν.right bc) aP.2 (λk' od=>by
   obtain⟨g1,g2⟩:=hi k' (Xe _ od);refine⟨by omega,?_⟩;rw[WH,Wa (λe=>aP.1 (by rw[e];exact Xap od)),WbN];cases hq:look (unfold t o1 nx).2.1 k'.id with
   |none=>exact g2
   |some ob=>have:=(xx _ ob hq).1;omega) (by omega)
  simp only[Wal,WaZ];refine⟨by rw[e1,hlen];omega,by simp[el],λi ob hl=>?_⟩;rcases e2 i ob hl with⟨g1,g2,g3⟩|⟨j,S,g1,g2,g3⟩|⟨g,gn⟩
  .exact .inl ⟨by omega,by omega,g3⟩
  .exact .inr (.inl ⟨j+1,S,g1,g2,g3⟩)
  .rw[WH]at g;split at g
   .rename_i e3;subst e3;injection g with g;rw[gX]at g;subst g;refine .inr (.inl ⟨0,_,rfl,rfl,.inl ⟨lD,k.off,_,_,us,aS,rfl,by rw[cI];exact bX,aZ,hmem,c1 ai (by omega),by rw[cI],by rw[cI];exact u9⟩⟩)
   .rename_i hne;rcases WP g with g|g
    .obtain⟨g1,g2,g3⟩:=xx i ob g;exact .inl ⟨g1,by omega,g3⟩
    .exact .inr (.inr ⟨g,λhm=>by rcases Xr.1 hm with hm|hm;exact hne hm.symm;exact gn hm⟩)
def Wwo(G:GH)(ν:Nat->Nu)(φ:Nat->CS)(w:World)(ai:Nat)(id:Nat)(ob:Ob):Prop:=
 WqP G ν φ w id ob\/∃cs b us,ob= .box cs/\(ν id).blk=some b/\Row w b ((ν id).off+cs.length)/\Mem w b (ν id).off us/\CellsRel G ν ai cs us/\CS.le (rng b (ν id).off cs.length) (φ id)
theorem Wd4:∀(rs:List PTy) (d:Whd rs) (vs:List Value) (ns:List Pc) (objs:Waj) (nx ai:Nat),Wgt G w rs d vs ns->At ν φ nx ns->nx+ns.length<=ai->
  (Wby rs d objs nx).2.2=nx+ns.length/\
  (∀id ob,look (Wby rs d objs nx).2.1 id=some ob->(nx<=id/\id<nx+ns.length/\Wwo G ν φ w ai id ob)\/look objs id=some ob)/\
  Wr4 G ν ai (Wby rs d objs nx).1 vs
 | [],d,vs,ns,objs,nx,ai,⟨h1,h2⟩,_,_=>by subst h1 h2;exact⟨rfl,λid ob hl=>.inr hl,rfl,λj x v hj=>by simp[Wby]at hj⟩
 | .v t agg::rs,d,vs,ns,objs,nx,ai,⟨v,vs',n1,n2,h1,h2,h3,h4⟩,hν,hx=>by
  subst h2;obtain⟨us,jM⟩:=Wob h3;have bc:=W9 _ _ _ _ jM;have hlen:(n1++n2).length=t.owns+n2.length:=by rw[Xz,bc]
  obtain⟨_,o1⟩:=WaA t d.1 nx us n1 jM hν.left;obtain⟨e1,e2,e4,e5⟩:=Wd4 rs d.2 vs' n2 ((unfold t d.1 nx).2.1++objs) (nx+t.owns) ai h4 (hν.right bc) (by omega);simp only[Wby,WaZ];refine⟨by rw[e1,hlen];omega,λi ob hl=>?_,?_⟩
  .rcases e2 i ob hl with⟨g1,g2,g3⟩|g
   .exact .inl ⟨by omega,by omega,g3⟩
   .rcases WP g with g|g
    .obtain⟨g1,g2,g3⟩:=o1 i ob g;exact .inl ⟨g1,by omega,.inl g3⟩
    .exact .inr g
  .rw[h1];refine⟨by simp[e4],λj x u hj hu=>?_⟩;cases j with
   |zero=>simp at hj hu;subst hj hu;exact Wkv h3 hν.left (by omega)
   |succ j=>exact e5 j x u (by simpa using hj) (by simpa using hu)
 | .box t::rs,d,vs,ns,objs,nx,ai,⟨b,o,vs',n1,n2,h1,h2,⟨us,hrow,hmem,gR⟩,h5⟩,hν,hx=>by
  subst h2;have bc:=W9 _ _ _ _ gR;have hlen:((⟨Wcb b o,rng b o t.size⟩:Pc)::(n1++n2)).length=1+t.owns+n2.length:=by rw[List.length_cons,Xz,bc];omega
  obtain⟨hν0,hφ0⟩:ν nx=Wcb b o/\φ nx=rng b o t.size:=by have:=hν 0 _ rfl;simpa using this
  have hν1:At ν φ (nx+1) (n1++n2):=hν.right (n1:=[⟨Wcb b o,rng b o t.size⟩]) rfl;obtain⟨c1,o1⟩:=WaA t d.1 (nx+1) us n1 gR hν1.left;obtain⟨e1,e2,e4,e5⟩:=Wd4 rs d.2 vs' n2 ((nx,.box (unfold t d.1 (nx+1)).1)::((unfold t d.1 (nx+1)).2.1++objs)) (nx+1+t.owns) ai h5 (hν1.right bc) (by omega);have cI:=Wcj t d.1 (nx+1);simp only[Wby,WaZ];refine⟨by rw[e1,hlen];omega,λid ob hl=>?_,?_⟩
  .rcases e2 id ob hl with⟨g1,g2,g3⟩|g
   .exact .inl ⟨by omega,by omega,g3⟩
   .rw[WH]at g;split at g
    .rename_i e;subst e;injection g with g;subst g;refine .inl ⟨Xn _,by omega,.inr ⟨_,b,us,rfl,by rw[hν0];rfl,?_,?_,c1 ai (by omega),?_⟩⟩
     .rw[hν0,cI];exact hrow
     .rw[hν0];exact hmem
     .rw[hν0,cI,hφ0];exactλ_ _ hh=>hh
    .rcases WP g with g|g
     .obtain⟨g1,g2,g3⟩:=o1 id ob g;exact .inl ⟨by omega,by omega,.inl g3⟩
     .exact .inr g
  .rw[h1];refine⟨by simp[e4],λj x u hj hu=>?_⟩;cases j with
   |zero=>
    simp at hj hu;subst hj hu;exact⟨⟨by omega,b,by rw[hν0];rfl,by rw[hν0];rfl⟩,rfl⟩
   |succ j=>exact e5 j x u (by simpa using hj) (by simpa using hu)
 | .mut _::_,_,_,_,_,_,_,h,_,_=>h.elim
 | .clos _ _::_,_,_,_,_,_,_,h,_,_=>h.elim
 | .kv _ _::_,_,_,_,_,_,_,h,_,_=>h.elim
 | .rp _::_,_,_,_,_,_,_,h,_,_=>h.elim
 | .vj t::rs,d,vs,ns,objs,nx,ai,⟨us,u,vs',n1,n2,h1,h0,h2,h3,h4⟩,hν,hx=>by
  subst h2;have bc:=W9 _ _ _ _ h3;have hlen:(n1++n2).length=t.owns+n2.length:=by rw[Xz,bc]
  obtain⟨c1,o1⟩:=WaA t d.1 nx us n1 h3 hν.left;obtain⟨e1,e2,e4,e5⟩:=Wd4 rs d.2 vs' n2 ((unfold t d.1 nx).2.1++objs) (nx+t.owns) ai h4 (hν.right bc) (by omega);simp only[Wby,WaZ];refine⟨by rw[e1,hlen];omega,λi ob hl=>?_,?_⟩
  .rcases e2 i ob hl with⟨g1,g2,g3⟩|g
   .exact .inl ⟨by omega,by omega,g3⟩
   .rcases WP g with g|g
    .obtain⟨g1,g2,g3⟩:=o1 i ob g;exact .inl ⟨g1,by omega,.inl g3⟩
    .exact .inr g
  .rw[h1];refine⟨by simp[e4],λj x v hj hv=>?_⟩;cases j with
   |zero=>simp at hj hv;subst hj hv;exact⟨us++ [u],rfl,(c1 ai (by omega)).append (CellsRel.one trivial h0)⟩
   |succ j=>exact e5 j x v (by simpa using hj) (by simpa using hv)
 | .boxal _ _::_,_,_,_,_,_,_,h,_,_=>h.elim
theorem WsB{xs:List AV}{vs:List Value}(h:Wr4 G ν nx xs vs):AValRel G ν nx (WwX xs) (Wi2 vs):=by
 obtain⟨h1,h2⟩:=h
 match xs,vs,h1 with
 | [],[],_=>exact⟨[],rfl,rfl,λj x v hj=>by simp at hj⟩
 | [x],[v],_=>exact h2 0 x v rfl rfl
 |x::y::xs,v::u::vs,h1=>exact⟨v::u::vs,rfl,h1,h2⟩
end
end Go.Sx
namespace Go.Sx
set_option linter.unusedVariables false
set_option linter.unusedSimpArgs false
theorem Wa1(i:Nat):∀l:List Nat,Wcz i l=true↔i∈l
 | []=>by simp[Wcz]
 |j::l=>by
  simp only[Wcz,Bool.or_eq_true,Wa1 i l,Xr];rw[show(Nat.beq i j=true)=(i=j)from by simp]
theorem We4:∀l:List Nat,WbF l=true↔l.Nodup
 | []=>by simp[WbF]
 |i::l=>by
  have h:=Wa1 i l;simp only[WbF,Xi,Xaq,Xai,We4 l]
  grind
theorem WmW{l m:List Nat}(h:Wg3 l m=true):∀i∈l,i∉m:=λi hi hm=>by
 grind [Wg3,Xac,Wa1]
section
variable{w0:World}{F:CS}{nt:Slots}{G0 G G':GH}{ν:Nat->Nu}{φ:Nat->CS}{objs:Waj}{nx:Nat}{st af:St}{a:Act}{w w':World}{P:Program}{T:Tab}
theorem WkH(h:HR w0 F G ν φ objs nx w){t:Ty}{agg:Bool}{x:AVal}{v:Value}{cs:List Cell}{d:t.den}{m l:List Nat}(hg:GLe G G')(hx:AValRel G ν nx x v)(hl:Lent G' w φ objs l)(hm:m.Nodup)
  (hc:cellsOf agg x=some cs) (hf:WaB t cs objs=some (d,m,l)):∃ns,Wje G' w t agg d v ns/\Sep (fps ns)/\(∀p∈ns,CS.le p.fp (FromL φ objs m))/\(∀i∈m,Live objs i)/\(∀i∈l,Live objs i):=by
 unfold cellsOf at hc;split at hc
 .split at hc
  .cases hc
  .rename_i c ha;injection hc with hc;subst hc;obtain⟨ns,h1,h2,h3,h4,h5,_⟩:=Wak h hg t [c] [v] d m l (CellsRel.one hx.1 hx.2) hl hm hf;refine⟨ns,?_,h2,h3,h4,h5⟩;simp_all [Wje,Wa]
 .split at hc
  .rename_i ds ha;injection hc with hc;subst hc;obtain⟨us,rfl,bB⟩:=hx;obtain⟨ns,h1,h2,h3,h4,h5,_⟩:=Wak h hg t ds us d m l bB hl hm hf;refine⟨ns,?_,h2,h3,h4,h5⟩;unfold Wje;simp_all
  .cases hc
 .cases hc
def WwY(objs:Waj)(m:List Nat):Prop:=∀i∈m,∃(e:Ty) (xs:List e.den),look objs i=some (.arr e xs)
theorem Wh0:∀(t:Ty) (cs:List Cell) (d:t.den) (m l:List Nat),WwY objs m->WaB t cs objs=some (d,m,l)->m.length<=t.owns
 | .prod a b,cs,d,m,l,ha,h=>by
  simp only[WaB]at h;split at h
  .rename_i x m1 l1 y m2 l2 h1 h2;simp only[Option.some.injEq,Prod.mk.injEq]at h;obtain⟨rfl,rfl,rfl⟩:=h;have:=Wh0 a _ _ _ _ (λi hi=>ha i (Xk _ hi)) h1;have:=Wh0 b _ _ _ _ (λi hi=>ha i (Xg _ hi)) h2;rw[Xz];show _<=a.owns+b.owns;omega
  grind
 | .own e,cs,d,m,l,ha,h=>by
  simp only[WaB]at h;split at h
  .rename_i id;obtain⟨⟨ys,m'⟩,ho,hf⟩:=Xv.1 h;simp only[Prod.mk.injEq]at hf;obtain⟨rfl,rfl,rfl⟩:=hf;unfold Wul at ho;split at ho
   .obtain⟨zs,_,ho⟩:=Xv.1 ho;obtain⟨_,rfl⟩:=Prod.mk.inj ho;exact Xn 1
   .rename_i e' xs i p aS;split at ho
    .split at ho
     .simp only[Option.some.injEq,Prod.mk.injEq]at ho;obtain⟨_,rfl⟩:=ho;obtain⟨e2,zt,h2⟩:=ha id (Xh ..);simp_all
     grind
    grind
   grind
  .split at h
   .obtain⟨zs,_,h⟩:=Xv.1 h;have h2:=(Prod.mk.inj (Prod.mk.inj h).2).1;subst h2;exact Xn 1
   grind
  .grind
  grind
 | .slice e,cs,d,m,l,_,h=>by
  have hm:m= []:=by
   simp only[WaB]at h
   grind [Xv,Prod.mk.inj]
  simp_all
 | .int k,cs,d,m,l,_,h=>by
  simp only[WaB]at h;split at h
  .obtain⟨q,hq,h⟩:=Xv.1 h;simp_all
  grind
 | .bool,cs,d,m,l,_,h=>by
  simp only[WaB]at h;split at h
  .obtain⟨q,hq,h⟩:=Xv.1 h;simp_all
  grind
 | .str,cs,d,m,l,_,h=>by
  simp only[WaB]at h;split at h
  .obtain⟨q,hq,h⟩:=Xv.1 h;simp_all
  grind
theorem Wfi(h:HR w0 F G ν φ objs nx w)(hg:GLe G G'){t:Ty}(ht:t.owns=0){cs:List Cell}{vs:List Value}{d:t.den}{m l:List Nat}(hc:CellsRel G ν nx cs vs)(hl:Lent G' w φ objs l)(hf:WaB t cs objs=some (d,m,l))(hm:m= []):TyRel G' w t d vs []:=by
 subst hm;obtain⟨ns,h1,_⟩:=Wak h hg t cs vs d [] l hc hl Xdf hf;have:=W9 _ _ _ _ h1;simp_all
def pcs(ν:Nat->Nu)(φ:Nat->CS)(m:List Nat):List Pc:=m.map λi=>⟨ν i,φ i⟩
theorem WvN(m:List Nat):nus (pcs ν φ m)=m.map ν:=by simp[nus,pcs,Function.comp_def]
theorem Wn7(m:List Nat):fps (pcs ν φ m)=m.map φ:=by simp[fps,pcs,Function.comp_def]
theorem We5(h:HR w0 F G ν φ objs nx w)(hg:GLe G G'):∀(t:Ty) (cs:List Cell) (vs:List Value) (d:t.den) (m l:List Nat),CellsRel G ν nx cs vs->Lent G' w φ objs l->(∀c∈cs,WsD c=true)->WwY objs m->
  WaB t cs objs=some (d,m,l)->m.length=t.owns->TyRel G' w t d vs (pcs ν φ m)/\Wir objs t m
 | .prod a b,cs,vs,d,m,l,hc,hl,hw,ha,hf,hm=>by
  have xy:=hf;simp only[WaB]at hf;split at hf
  .rename_i x m1 l1 y m2 l2 h1 h2;simp only[Option.some.injEq,Prod.mk.injEq]at hf;obtain⟨rfl,rfl,rfl⟩:=hf;have xz:WwY objs m1:=λi hi=>ha i (Xk _ hi);have lH:WwY objs m2:=λi hi=>ha i (Xg _ hi);have q1:=Wh0 a _ _ _ _ xz h1;have q2:=Wh0 b _ _ _ _ lH h2;rw[Xz]at hm;have ij:m1.length+m2.length=a.owns+b.owns:=hm;obtain⟨g1,g2⟩:=We5 h hg a _ (vs.take a.size) x m1 l1 (hc.take _) (hl.mono (by simp_all)) (λc hc=>hw c (Xbj hc)) xz h1 (by omega);obtain⟨g3,g4⟩:=We5 h hg b _ (vs.drop a.size) y m2 l2 (hc.drop _) (hl.mono (by simp_all)) (λc hc=>hw c (Xdw hc)) lH h2 (by omega);exact⟨⟨_,_,pcs ν φ m1,pcs ν φ m2,(Xdo a.size vs).symm,by simp[pcs],g1,g3⟩,m1,m2,rfl,g2,g4⟩
  grind
 | .own e,cs,vs,d,m,l,hc,hl,hw,ha,hf,hm=>by
  simp only[WaB]at hf;split at hf
  .rename_i id;obtain⟨v,rfl,⟨_,hv⟩,_⟩:=hc.single;subst hv;obtain⟨⟨ys,m'⟩,ho,hf⟩:=Xv.1 hf;simp only[Prod.mk.injEq]at hf;obtain⟨rfl,rfl,rfl⟩:=hf;unfold Wul at ho;split at ho
   .rename_i e' xs aS;obtain⟨zs,bq,ho⟩:=Xv.1 ho;obtain⟨rfl,rfl⟩:=Prod.mk.inj ho;obtain⟨he,hy⟩:=WaC bq;subst he;simp only at hy;subst hy;have au:OwnL w (TyRel G w e') e'.size (ν id) xs (φ id):=h.ob _ _ aS;exact⟨⟨⟨ν id,φ id⟩,rfl,rfl,Wc5 hg (Same.refl _ w) (λ_ _ hh=>hh) au⟩,id,xs,rfl,aS⟩
   .rename_i e' xs i p aS;split at ho
    .split at ho
     .simp only[Option.some.injEq,Prod.mk.injEq]at ho;obtain⟨_,rfl⟩:=ho;obtain⟨e2,zt,h2⟩:=ha id (Xh ..);simp_all
     grind
    grind
   grind
  .have:=hw _ (Xaf.2 rfl);cases this
  .simp only[Option.some.injEq,Prod.mk.injEq]at hf;obtain⟨rfl,rfl,rfl⟩:=hf;exact Wg hm (by show¬(0=1);omega)
  grind
 | .slice e,cs,vs,d,m,l,hc,hl,hw,ha,hf,hm=>by
  have kE:m= []:=Xaa hm;have:=Wfi h hg (t:=.slice e) rfl hc hl hf kE;subst kE;exact⟨this,rfl⟩
 | .int k,cs,vs,d,m,l,hc,hl,hw,ha,hf,hm=>by
  have kE:m= []:=Xaa hm;have:=Wfi h hg (t:=.int k) rfl hc hl hf kE;subst kE;exact⟨this,rfl⟩
 | .bool,cs,vs,d,m,l,hc,hl,hw,ha,hf,hm=>by
  have kE:m= []:=Xaa hm;have:=Wfi h hg (t:=.bool) rfl hc hl hf kE;subst kE;exact⟨this,rfl⟩
 | .str,cs,vs,d,m,l,hc,hl,hw,ha,hf,hm=>by
  have kE:m= []:=Xaa hm;have:=Wfi h hg (t:=.str) rfl hc hl hf kE;subst kE;exact⟨this,rfl⟩
theorem Wqw{t:Ty}{m:List Nat}{x:AVal}(h:WmH objs t m x=true):m.length=t.owns/\WuT x=true/\WwY objs m:=by
 unfold WmH at h;simp only[Xi,Wh,Xac]at h;obtain⟨⟨h1,h2⟩,h3⟩:=h;refine⟨h1,h2,λi hi=>?_⟩
 grind
theorem Wms(h:HR w0 F G ν φ objs nx w){t:Ty}{agg:Bool}{x:AVal}{v:Value}{cs:List Cell}{d:t.den}{m l:List Nat}(hg:GLe G G')(hx:AValRel G ν nx x v)(hl:Lent G' w φ objs l)
  (hc:cellsOf agg x=some cs) (hf:WaB t cs objs=some (d,m,l)) (ha:WmH objs t m x=true):Wje G' w t agg d v (pcs ν φ m)/\Wir objs t m:=by
 obtain⟨hm,hw,gF⟩:=Wqw ha;unfold cellsOf at hc;split at hc
 .split at hc
  .cases hc
  .rename_i c lY;injection hc with hc;subst hc;obtain⟨h1,h2⟩:=We5 h hg t [c] [v] d m l (CellsRel.one hx.1 hx.2) hl (λc' hQ=>by rw[Xaf.1 hQ];exact hw) gF hf hm;simp_all [Wje,Wa]
 .split at hc
  .rename_i ds lY;injection hc with hc;subst hc;obtain⟨us,rfl,bB⟩:=hx;obtain⟨h1,h2⟩:=We5 h hg t ds us d m l bB hl (λc' hQ=>Xac.1 hw c' hQ) gF hf hm;refine⟨?_,h2⟩;unfold Wje;simp_all
  .cases hc
 .cases hc
def Tk(φ:Nat->CS)(objs:Waj)(bx:List (Nat×CS))(l:List Nat):CS:=λb o=>∃i∈l,Live objs i/\φ i b o/\∀p∈bx,p.1=i->p.2 b o
structure AOk(G':GH)(ν:Nat->Nu)(φ:Nat->CS)(objs:Waj)(w:World)(ps:List PTy)(A:Args ps)(vs:List Value)(ns:List Pc)(ks:List Nu)(bx:List (Nat×CS)):Prop where
 args:Wbw G' w ps A.d vs ns ks
 kept:KeptOk objs ν bx ps A.kept ks
 sep:Sep (fps ns)
 tk:∀q∈ns,CS.le q.fp (Tk φ objs bx A.all)
 bx:∀p∈bx,p.1∈A.all
 live:∀i∈A.all,Live objs i
 lent:∀i∈A.lent,Live objs i
 mv:∀i∈A.moved,i∈A.all
 mvk:∀i∈A.all,i∈A.moved\/i∈kids A.kept
 sub:(kids A.kept).Sublist A.all
 dis:∀i∈kids A.kept,i∉A.moved
theorem Wi5{bx:List (Nat×CS)}{l:List Nat}:CS.le (Tk φ objs bx l) (FromL φ objs l):=λb o ⟨i,hi,h1,h2,_⟩=>⟨i,hi,h1,h2⟩
theorem Wlv{bx nf:List (Nat×CS)}{l l':List Nat}(hl:∀i∈l,i∈l')(hb:∀p∈nf,p∈bx\/p.1∉l):CS.le (Tk φ objs bx l) (Tk φ objs nf l'):=λb o ⟨i,hi,h1,h2,h3⟩=>
 ⟨i,hl i hi,h1,h2,λp hp e=>by
  grind⟩
theorem WnL{bx:List (Nat×CS)}{m l:List Nat}(hm:∀i∈m,i∈l)(hb:∀p∈bx,p.1∉m):CS.le (FromL φ objs m) (Tk φ objs bx l):=λb o ⟨i,hi,h1,h2⟩=>
 ⟨i,hm i hi,h1,h2,λp hp e=>Wg (by simp_all) (hb p hp)⟩
theorem Wcp(h:HR w0 F G ν φ objs nx w){n1 n2:List Pc}{m l:List Nat}(h1:Sep (fps n1))(h2:Sep (fps n2))(g1:∀q∈n1,CS.le q.fp (FromL φ objs m))(g2:∀q∈n2,CS.le q.fp (FromL φ objs l))(hd:∀i∈m,i∉l):Sep (fps (n1++n2)):=by
 unfold fps;rw[Xu];refine WnJ h1 h2 (A:=FromL φ objs m) (B:=FromL φ objs l) (λs hs=>?_) (λs hs=>?_) (FromL.disj h hd)
 .grind
 grind
theorem Wph(h:HR w0 F G ν φ objs nx w)(hg:GLe G G'){t:Ty}{ps:List PTy}{id off:Nat}{cs:List Cell}{d:t.den}{m:List Nat}{A:Args ps}{vs:List Value}{ns:List Pc}{ks:List Nu}{bx:List (Nat×CS)}{v:Value}
  (hv:CellRel G ν nx (.ptr id off) v) (aS:look objs id=some (.box cs)) (hf:WaB t ((cs.drop off).take t.size) objs=some (d,m,[])) (aP:(id::(m++A.all)).Nodup) (hA:AOk G' ν φ objs w ps A vs ns ks bx):
  ∃b n1,v= .pointer (some ⟨b,(ν id).off+off,none⟩)/\(ν id).blk=some b/\WfC G' w t d b ((ν id).off+off) n1/\Leaf ν t ((cs.drop off).take t.size) n1/\
   KeptBox objs ν ((id,rng b ((ν id).off+off) t.size)::bx) t ⟨id,off⟩ (Wcb b ((ν id).off+off))/\KeptOk objs ν ((id,rng b ((ν id).off+off) t.size)::bx) ps A.kept ks/\
   Sep (fps (⟨Wcb b ((ν id).off+off),rng b ((ν id).off+off) t.size⟩::(n1++ns)))/\
   (∀q∈(⟨Wcb b ((ν id).off+off),rng b ((ν id).off+off) t.size⟩:Pc)::(n1++ns),CS.le q.fp (Tk φ objs ((id,rng b ((ν id).off+off) t.size)::bx) (id::(m++A.all))))/\
   (∀p∈(id,rng b ((ν id).off+off) t.size)::bx,p.1∈id::(m++A.all))/\(∀i∈id::(m++A.all),Live objs i)/\
   (∀i∈m++A.moved,i∈id::(m++A.all))/\(∀i∈id::(m++A.all),i∈m++A.moved\/i∈id::kids A.kept)/\(id::kids A.kept).Sublist (id::(m++A.all))/\(∀i∈id::kids A.kept,i∉m++A.moved):=by
 obtain⟨bz,b,aZ,rfl⟩:=hv;obtain⟨n1,n2⟩:=Xai.1 aP;obtain⟨n3,n4,n5⟩:=Xaj.1 n2;have az:Live objs id:=⟨_,aS,by simp⟩;obtain⟨b',us,hb',hrow,hmem,bB,eO⟩:WcG G ν nx w id (φ id) (.box cs):=h.ob _ _ aS;rw[aZ]at hb';injection hb' with hb';subst hb';obtain⟨q1,t1,t2,t3,t4,_,t5⟩:=Wak h hg t _ ((us.drop off).take t.size) d m [] ((bB.drop off).take _) (λi hi=>by simp at hi) n3 hf;have hlen:=WF _ _ _ _ t1;have bX:off+t.size<=cs.length:=by
  have:=bB.1
  grind [Xba,Xdx,WbU]
 have gD:CS.le (rng b ((ν id).off+off) t.size) (φ id):=λb' o ⟨k0,k1,k2⟩=>eO b' o ⟨k0,by omega,by omega⟩;refine⟨b,q1,rfl,aZ,⟨_,?_,?_,t1⟩,t5,⟨cs,b,aS,bX,aZ,rfl,Xh ..⟩,KeptOk.mono (λp hp=>Xe _ hp) _ _ _ hA.kept,?_,?_,?_,?_,?_,?_,?_,?_⟩
 .obtain⟨row,TT,r1,r2⟩:=hrow;exact⟨row,TT,r1,by omega⟩
 .intro j v hj;rw[Xbl]at hj;split at hj
  .rw[Xbm]at hj;rw[Xay];exact hmem _ v hj
  grind
 .have s1:=Wcp h t2 hA.sep t3 (λq hq b o hh=>Wi5 b o (hA.tk q hq b o hh)) (λi hi hj=>n5 i hi i hj rfl);refine Xy.2 ⟨λs hs=>?_,s1⟩;obtain⟨p,hp,rfl⟩:=Xw.1 hs;refine CS.disj.mono (FromL.disj h (m:=[id]) (m':=m++A.all) (λi hi hj=>n1 (by simp_all))) (λb o hh=>⟨id,by simp,az,gD b o hh⟩) (λb o hh=>?_);rcases Xm.1 hp with hp|hp
  .exact FromL.mono (λi hi=>Xk _ hi) b o (t3 p hp b o hh)
  .exact FromL.mono (λi hi=>Xg _ hi) b o (Wi5 b o (hA.tk p hp b o hh))
 .intro q hq;rcases Xr.1 hq with rfl|hq
  .exactλb o hh=>⟨id,Xh ..,az,gD b o hh,λp hp e=>by
    rcases Xr.1 hp with rfl|hp
    .exact hh
    .exact Wg (Xg _ (by rw[←e];exact hA.bx p hp)) n1⟩
  .rcases Xm.1 hq with hq|hq
   .refineλb o hh=>WnL (m:=m) (λi hi=>Xe _ (Xk _ hi)) (λp hp hm=>?_) b o (t3 q hq b o hh)
    rcases Xr.1 hp with rfl|hp
    .simp_all
    .exact n5 _ hm _ (hA.bx p hp) rfl
   .refineλb o hh=>Wlv (λi hi=>Xe _ (Xg _ hi)) (λp hp=>?_) b o (hA.tk q hq b o hh)
    grind
 .intro p hp;rcases Xr.1 hp with rfl|hp
  .simp_all
  .exact Xe _ (Xg _ (hA.bx p hp))
 .intro i hi;rcases Xr.1 hi with rfl|hi
  .exact az
  .rcases Xm.1 hi with hi|hi
   .grind
   .exact hA.live i hi
 .intro i hi;rcases Xm.1 hi with hi|hi
  .exact Xe _ (Xk _ hi)
  .exact Xe _ (Xg _ (hA.mv i hi))
 .intro i hi;rcases Xr.1 hi with rfl|hi
  .exact .inr (Xh ..)
  .rcases Xm.1 hi with hi|hi
   .exact .inl (Xk _ hi)
   .rcases hA.mvk i hi with hi|hi
    .exact .inl (Xg _ hi)
    .exact .inr (Xe _ hi)
 .exact List.Sublist.cons_cons _ (List.Sublist.trans hA.sub (Xfk _ _))
 .intro i hi hm;rcases Xr.1 hi with rfl|hi
  .rcases Xm.1 hm with hm|hm
   .exact n1 (Xk _ hm)
   .exact n1 (Xg _ (hA.mv _ hm))
  .rcases Xm.1 hm with hm|hm
   .exact n5 _ hm _ (hA.sub.subset hi) rfl
   .exact hA.dis i hi hm
theorem WqI(h:HR w0 F G ν φ objs nx w){c:Cell}{y:AVal}{i:Nat}{u:Value}(hy:AValRel G ν nx y u)(he:Ws2 objs c y=some i):
  ∃r b,c= .own r/\(ν r).blk=some b/\i<(ν r).len/\u= .pointer (some ⟨b,(ν r).off+(i*(ν r).esz+0),none⟩):=by
 unfold Ws2 at he;split at he
 .rename_i r p off;split at he
  .rename_i e xs j p' aS;split at he
   .rename_i hp;injection he with he;subst he;have hp:=Xcl hp;subst hp;obtain⟨lX,k1,k2,k3,b,k4,k5,k6,_⟩:p<nx/\WhM w (TyRel G w e) e.size (ν r) (ν p) xs j (φ r):=h.ob _ _ aS;obtain⟨⟨_,b',hb',rfl⟩,_⟩:=hy;rw[k5]at hb';injection hb' with hb';subst hb';exact⟨r,b,rfl,k4,by omega,by rw[k6,k2,Xax,Xax]⟩
   .simp at he
  .simp at he
 .rename_i r r' j off;split at he
  .rename_i e xs aS;split at he
   .rename_i hp;injection he with he;subst he;have hp:=Xcl hp;subst hp;obtain⟨⟨_,hlt,b,hb,rfl⟩,_⟩:=hy;exact⟨r,b,rfl,hb,hlt,rfl⟩
   .simp at he
  .simp at he
 .simp at he
theorem WaR(h:HR w0 F G ν φ objs nx w)(hg:GLe G G'):∀(ps:List PTy) (xs:List AVal) (vs:List Value) (A:Args ps),vs.length=xs.length->
  (∀(j:Nat) (x:AVal) (v:Value),xs[j]?=some x->vs[j]?=some v->AValRel G ν nx x v)->Lent G' w φ objs A.lent->A.all.Nodup->Wai ps xs objs=some A->
  ∃ns ks bx,AOk G' ν φ objs w ps A vs ns ks bx
 | [],xs,vs,A,hlen,hx,hl,aP,hf=>by
  simp only[Wai]at hf;split at hf
  .injection hf with hf;subst hf;have fw:vs= []:=Xaa (by simpa using hlen);exact⟨[],[],[],⟨fw,rfl,rfl⟩,⟨rfl,rfl⟩,List.Pairwise.nil,by simp,by simp,by simp,by simp,by simp,by simp,List.Sublist.refl _,by simp[kids]⟩
  .cases hf
 | .v t agg::ps,xs,vs,A,hlen,hx,hl,aP,hf=>by
  simp only[Wai]at hf;split at hf
  .rename_i x xs;split at hf
   .rename_i d m r A' h1 h2;injection hf with hf;subst hf
    match vs,hlen with
    |v::vs,hlen=>
     cases hc:cellsOf agg x with
     |none=>simp[hc]at h1
     |some cs=>
      simp[hc]at h1;obtain⟨n1,n2,n3⟩:=Xaj.1 aP;obtain⟨q1,g1,g2,g3,g4,g5⟩:=WkH h hg (hx 0 x v rfl rfl) (hl.mono (λi hi=>Xk _ hi)) n1 hc h1;obtain⟨ns,ks,bx,hA⟩:=WaR h hg ps xs vs A' (by simpa using hlen) (λj y u hj hu=>hx (j+1) y u (by simpa using hj) (by simpa using hu)) (hl.mono (λi hi=>Xg _ hi)) n2 h2;refine⟨q1++ns,ks,bx,⟨v,vs,q1,ns,rfl,rfl,g1,hA.args⟩,hA.kept,Wcp h g2 hA.sep g3 (λq hq b o hh=>Wi5 b o (hA.tk q hq b o hh)) (λi hi hj=>n3 i hi i hj rfl),λq hq=>?_,λp hp=>Xg _ (hA.bx p hp),λi hi=>?_,λi hi=>?_,λi hi=>?_,λi hi=>?_,List.Sublist.trans hA.sub (Xfk _ _),λi hi hm=>?_⟩
      .rcases Xm.1 hq with hq|hq
       .exactλb o hh=>WnL (λi hi=>Xk _ hi) (λp hp hm=>n3 _ hm _ (hA.bx p hp) rfl) b o (g3 q hq b o hh)
       .exactλb o hh=>Wlv (λi hi=>Xg _ hi) (λp hp=>.inl hp) b o (hA.tk q hq b o hh)
      .rcases Xm.1 hi with hi|hi
       .exact g4 i hi
       .exact hA.live i hi
      .rcases Xm.1 hi with hi|hi
       .exact g5 i hi
       .exact hA.lent i hi
      .rcases Xm.1 hi with hi|hi
       .exact Xk _ hi
       .exact Xg _ (hA.mv i hi)
      .rcases Xm.1 hi with hi|hi
       .exact .inl (Xk _ hi)
       .rcases hA.mvk i hi with hi|hi
        .exact .inl (Xg _ hi)
        .exact .inr hi
      .rcases Xm.1 hm with hm|hm
       .exact n3 _ hm _ (hA.sub.subset hi) rfl
       .exact hA.dis i hi hm
   .cases hf
  .cases hf
 | .box t::ps,xs,vs,A,hlen,hx,hl,aP,hf=>by
  simp only[Wai]at hf;split at hf
  .rename_i id off xs;split at hf
   .rename_i cs aS;split at hf
    .rename_i d m A' h1 h2;injection hf with hf;subst hf
     match vs,hlen with
     |v::vs,hlen=>
      obtain⟨n1,n2⟩:=Xai.1 aP;obtain⟨ns,ks,bx,hA⟩:=WaR h hg ps xs vs A' (by simpa using hlen) (λj y u hj hu=>hx (j+1) y u (by simpa using hj) (by simpa using hu)) hl (Xaj.1 n2).2.1 h2;obtain⟨b,q1,rfl,aZ,k1,_,k2,k3,k4,k5,k6,k7,k8,k9,k10,qM⟩:=Wph h hg (hx 0 _ v rfl rfl).1 aS h1 aP hA;exact⟨_,_,_,⟨b,_,vs,q1,ns,ks,rfl,rfl,rfl,k1,hA.args⟩,⟨_,_,_,_,rfl,rfl,k2,k3⟩,k4,k5,k6,k7,hA.lent,k8,k9,k10,qM⟩
    .cases hf
   .cases hf
  .cases hf
 | .vj _::_,_,_,_,_,_,_,_,hf=>by simp only[Wai]at hf;cases hf
 | .boxal t lf::ps,xs,vs,A,hlen,hx,hl,aP,hf=>by
  simp only[Wai]at hf;split at hf
  .rename_i id off y xs;split at hf
   .rename_i cs aS;split at hf
    .rename_i d m A' i h1 h2 h3;injection hf with hf;subst hf
     match vs,hlen with
     |v::u::vs,hlen=>
      obtain⟨n1,n2⟩:=Xai.1 aP;obtain⟨ns,ks,bx,hA⟩:=WaR h hg ps xs vs A' (by simpa using hlen) (λj y u hj hu=>hx (j+2) y u (by simpa using hj) (by simpa using hu)) hl (Xaj.1 n2).2.1 h2;obtain⟨b,q1,rfl,aZ,k1,kl,k2,k3,k4,k5,k6,k7,k8,k9,k10,qM⟩:=Wph h hg (hx 0 _ v rfl rfl).1 aS h1 aP hA;obtain⟨c,hc,h3⟩:=Xbs.1 h3;obtain⟨k,hk,hc⟩:=Xbs.1 hc;obtain⟨r,b',rfl,e1,e2,rfl⟩:=WqI h (hx 1 y u rfl rfl) h3;obtain⟨pc,e3,e4⟩:=kl lf k r hk hc;exact⟨_,_,_,⟨b,_,b',pc,vs,q1,ns,ks,by rw[e4],rfl,rfl,k1,e3,by rw[e4];exact e1,by rw[e4];exact e2,hA.args⟩,⟨_,_,_,_,rfl,rfl,k2,k3⟩,k4,k5,k6,k7,hA.lent,k8,k9,k10,qM⟩
    .cases hf
   .cases hf
  .cases hf
 | .mut e::ps,xs,vs,A,hlen,hx,hl,aP,hf=>by
  simp only[Wai]at hf;split at hf
  .rename_i id xs;split at hf
   .rename_i e' ys aS;split at hf
    .rename_i d A' h1 h2;injection hf with hf;subst hf;obtain⟨he,hd⟩:=WaC h1;subst he;simp only at hd;subst hd
     match vs,hlen with
     |v::vs,hlen=>
      obtain⟨⟨_,hv⟩,_⟩:=hx 0 _ v rfl rfl;subst hv;obtain⟨n1,n2⟩:=Xai.1 aP;have az:Live objs id:=⟨_,aS,by simp⟩;have hown:OwnL w (TyRel G w e') e'.size (ν id) ys (φ id):=h.ob _ _ aS;obtain⟨ns,ks,bx,hA⟩:=WaR h hg ps xs vs A' (by simpa using hlen) (λj y u hj hu=>hx (j+1) y u (by simpa using hj) (by simpa using hu)) hl n2 h2;refine⟨⟨ν id,φ id⟩::ns,ν id::ks,bx,⟨⟨ν id,φ id⟩,vs,ns,ks,rfl,rfl,rfl,Wc5 hg (Same.refl _ w) (λ_ _ hh=>hh) hown,hA.args⟩,⟨id,_,ks,ys,rfl,rfl,aS,hA.kept⟩,?_,λq hq=>?_,λp hp=>Xe _ (hA.bx p hp),λi hi=>?_,hA.lent,λi hi=>Xe _ (hA.mv i hi),λi hi=>?_,List.Sublist.cons_cons _ hA.sub,λi hi hm=>?_⟩
      .refine Wcp h (n1:=[⟨ν id,φ id⟩]) (m:=[id]) (List.pairwise_singleton _ _) hA.sep (λq hq=>?_) (λq hq b o hh=>Wi5 b o (hA.tk q hq b o hh)) (λi hi hj=>n1 (by rw[←Xaf.1 hi];exact hj));rw[Xaf.1 hq];exact FromL.one (by simp) az
      .rcases Xr.1 hq with rfl|hq
       .exactλb o hh=>⟨id,Xh ..,az,hh,λp hp e=>Wg (by rw[←e];exact hA.bx p hp) n1⟩
       .exactλb o hh=>Wlv (λi hi=>Xe _ hi) (λp hp=>.inl hp) b o (hA.tk q hq b o hh)
      .rcases Xr.1 hi with rfl|hi
       .exact az
       .exact hA.live i hi
      .rcases Xr.1 hi with rfl|hi
       .exact .inr (Xh ..)
       .rcases hA.mvk i hi with hi|hi
        .exact .inl hi
        .exact .inr (Xe _ hi)
      .rcases Xr.1 hi with rfl|hi
       .exact n1 (hA.mv _ hm)
       .exact hA.dis i hi hm
    .cases hf
   .cases hf
  .cases hf
 | .clos g n::ps,xs,vs,A,hlen,hx,hl,aP,hf=>by
  simp only[Wai]at hf;split at hf
  .rename_i g' caps xs;split at hf
   .rename_i hc;obtain⟨rfl,hcl⟩:=hc;cases hA:Wai ps (Wko caps++xs) objs with
    |none=>simp[hA]at hf
    |some A'=>
     simp only[hA,Xbx,Option.some.injEq]at hf;subst hf
     match vs,hlen with
     |v::vs,hlen=>
      obtain⟨⟨cvs,hv,hcv,rT⟩,_⟩:=hx 0 _ v rfl rfl;subst hv;obtain⟨ns,ks,bx,hAk⟩:=WaR h hg ps (Wko caps++xs) (cvs++vs) A' (by simp[Wko,hcv];simpa using hlen) (λj y u hj hu=>by
       rw[Xav]at hj hu;simp only[Wko,Xae]at hj;rw[hcv]at hu;split at hj
       .rename_i hlt;rw[Wb hlt]at hu;rw[Xan]at hj;obtain⟨id,bz,rfl⟩:=Xv.1 hj;obtain⟨h1,h3,h2⟩:=rT _ id u bz hu;exact⟨⟨h1,h2⟩,h3⟩
       .rename_i hlt;rw[Wa hlt]at hu;exact hx (j-caps.length+1) y u (by simpa using hj) (by simpa using hu)) hl aP hA
      refine⟨ns,ks,bx,⟨cvs,vs,rfl,by rw[hcv];exact hcl,λu hu=>?_,hAk.args⟩,hAk.kept,hAk.sep,hAk.tk,hAk.bx,hAk.live,hAk.lent,hAk.mv,hAk.mvk,hAk.sub,hAk.dis⟩;obtain⟨j,hj⟩:=Xdr hu;have hlt:j<caps.length:=by rw[←hcv];exact(Xad.1 hj).1
      exact(rT j _ u (Xq hlt) hj).2.1
   .cases hf
  .cases hf
 | .kv t agg::ps,xs,vs,A,hlen,hx,hl,aP,hf=>by
  simp only[Wai]at hf;split at hf
  .rename_i x xs;split at hf
   .rename_i d m r A' h1 h2;split at hf
    .rename_i gF;injection hf with hf;subst hf
     match vs,hlen with
     |v::vs,hlen=>
      cases hc:cellsOf agg x with
      |none=>simp[hc]at h1
      |some cs=>
       simp[hc]at h1;obtain⟨n1,n2,n3⟩:=Xaj.1 aP;have bc:Lent G' w φ objs r:=hl.mono (λi hi=>Xk _ hi);obtain⟨_,_,_,_,g4,g5⟩:=WkH h hg (hx 0 x v rfl rfl) bc n1 hc h1;obtain⟨k1,k2⟩:=Wms h hg (hx 0 x v rfl rfl) bc hc h1 gF;obtain⟨ns,ks,bx,hA⟩:=WaR h hg ps xs vs A' (by simpa using hlen) (λj y u hj hu=>hx (j+1) y u (by simpa using hj) (by simpa using hu)) (hl.mono (λi hi=>Xg _ hi)) n2 h2;have iW:kids (kp0 m++A'.kept)=m++kids A'.kept:=by simp only[kids,Xu];congr 1;exact Wh1 m
       have gp:∀q∈pcs ν φ m,CS.le q.fp (FromL φ objs m):=λq hq=>by
        obtain⟨i,hi,rfl⟩:=Xw.1 hq;exact FromL.one hi (g4 i hi)
       have gs:Sep (fps (pcs ν φ m)):=by
        rw[Wn7];refine List.pairwise_map.2 (n1.imp_of_mem λ{i j} hi hj hne=>?_)
        exactλb o h1 h2=>hne (h.inj i j b o (g4 i hi) (g4 j hj) h1 h2)
       refine⟨pcs ν φ m++ns,m.map ν++ks,bx,⟨v,vs,pcs ν φ m,ns,ks,rfl,rfl,by rw[WvN],k1,hA.args⟩,⟨m,A'.kept,ks,rfl,rfl,k2,hA.kept⟩,Wcp h gs hA.sep gp (λq hq b o hh=>Wi5 b o (hA.tk q hq b o hh)) (λi hi hj=>n3 i hi i hj rfl),λq hq=>?_,λp hp=>Xg _ (hA.bx p hp),λi hi=>?_,λi hi=>?_,λi hi=>Xg _ (hA.mv i hi),λi hi=>?_,by rw[iW];exact List.Sublist.append (List.Sublist.refl _) hA.sub,λi hi hm=>?_⟩
       .rcases Xm.1 hq with hq|hq
        .exactλb o hh=>WnL (λi hi=>Xk _ hi) (λp hp hm=>n3 _ hm _ (hA.bx p hp) rfl) b o (gp q hq b o hh)
        .exactλb o hh=>Wlv (λi hi=>Xg _ hi) (λp hp=>.inl hp) b o (hA.tk q hq b o hh)
       .rcases Xm.1 hi with hi|hi
        .exact g4 i hi
        .exact hA.live i hi
       .rcases Xm.1 hi with hi|hi
        .exact g5 i hi
        .exact hA.lent i hi
       .rw[iW];rcases Xm.1 hi with hi|hi
        .exact .inr (Xk _ hi)
        .rcases hA.mvk i hi with hi|hi
         .exact .inl hi
         .exact .inr (Xg _ hi)
       .rw[iW]at hi;rcases Xm.1 hi with hi|hi
        .exact n3 _ hi _ (hA.mv i hm) rfl
        .exact hA.dis i hi hm
    .cases hf
   .cases hf
  .cases hf
 | .rp t::ps,xs,vs,A,hlen,hx,hl,aP,hf=>by
  simp only[Wai]at hf;split at hf
  .rename_i id off xs;split at hf
   .rename_i cs aS;split at hf
    .rename_i d r A' h1 h2;split at hf
     case isFalse=>cases hf
     rename_i ve;injection hf with hf;subst hf
     match vs,hlen with
     |v::vs,hlen=>
      obtain⟨ns,ks,bx,hA⟩:=WaR h hg ps xs vs A' (by simpa using hlen) (λj y u hj hu=>hx (j+1) y u (by simpa using hj) (by simpa using hu)) (hl.mono (λi hi=>Xe _ (Xg _ hi))) aP h2;obtain⟨⟨bz,b,aZ,rfl⟩,_⟩:=hx 0 _ v rfl rfl;have az:Live objs id:=⟨_,aS,by simp⟩;obtain⟨b',us,hb',hrow,hmem,bB,eO⟩:WcG G ν nx w id (φ id) (.box cs):=h.ob _ _ aS;rw[aZ]at hb';injection hb' with hb';subst hb';obtain⟨q1,t1,t2,t3,t4,t5,_⟩:=Wak h hg t _ ((us.drop off).take t.size) d [] r ((bB.drop off).take _) (hl.mono (λi hi=>Xe _ (Xk _ hi))) Xdf h1;have ng:∀p∈q1,Froz G' w p.fp:=λp hp b o v hh=>by
       obtain⟨i,hi,_⟩:=t3 p hp b o hh;simp at hi
      have henc:Enc G' t.ro (WuI t d) ((us.drop off).take t.size):=Wd0 (λ_ _ _ hh=>hh) t d _ q1 ng t1;have dM:=WF _ _ _ _ t1;have bX:off+t.size<=cs.length:=by
       have:=bB.1;rw[Xba,Xdx]at dM;have:=WbU t;omega
      have aH:WfG G' b ((ν id).off+off) ((us.drop off).take t.size):=λj v hj=>by
       have vf:j<t.size:=by have:=(Xad.1 hj).1;omega
       rw[Xbl,Wb vf,Xbm]at hj;have h3:=hmem _ v hj;rw[←Xay]at h3;exact hl id (Xh ..) az b _ v (eO b _ ⟨rfl,by omega,by omega⟩) h3
      exact⟨ns,ks,bx,⟨b,(ν id).off+off,(us.drop off).take t.size,vs,rfl,((Wbi t d _ q1 ve).1 t1).1,aH,hA.args⟩,hA.kept,hA.sep,hA.tk,hA.bx,hA.live,λi hi=>by
       rcases Xr.1 hi with rfl|hi
       .exact az
       .rcases Xm.1 hi with hi|hi
        .exact t5 i hi
        .exact hA.lent i hi,hA.mv,hA.mvk,hA.sub,hA.dis⟩
    .cases hf
   .cases hf
  .rename_i t' d' off xs;split at hf
   .rename_i d A' h1 h2;split at hf
    case isFalse=>cases hf
    rename_i ve;injection hf with hf;subst hf
    match vs,hlen with
    |v::vs,hlen=>
     obtain⟨ns,ks,bx,hA⟩:=WaR h hg ps xs vs A' (by simpa using hlen) (λj y u hj hu=>hx (j+1) y u (by simpa using hj) (by simpa using hu)) hl aP h2;obtain⟨⟨b,o,cs,rfl,e1,e2⟩,_⟩:=hx 0 _ v rfl rfl;have bB:=WaT (ν:=ν) (nx:=nx) t' d' cs e1;obtain⟨q1,t1,t2,t3,t4,t5,_⟩:=Wak h hg t _ ((cs.drop off).take t.size) d [] [] ((bB.drop off).take _) (λi hi=>by simp at hi) Xdf h1;exact⟨ns,ks,bx,⟨b,o+off,(cs.drop off).take t.size,vs,rfl,((Wbi t d _ q1 ve).1 t1).1,λj v hj=>by
      rw[Xbl]at hj;split at hj
      .rw[Xbm]at hj;rw[Xay];exact hg _ _ _ (e2 _ v hj)
      .simp at hj,hA.args⟩,hA.kept,hA.sep,hA.tk,hA.bx,hA.live,hA.lent,hA.mv,hA.mvk,hA.sub,hA.dis⟩
   .cases hf
  .cases hf
end
end Go.Sx
namespace Go.Sx
set_option linter.unusedVariables false
set_option linter.unusedSimpArgs false
theorem Wbr{G G':GH}{w:World}:∀(t:Ty) (d:t.den) (vs:List Value) (ns:List Pc),t.noRo=true->TyRel G w t d vs ns->TyRel G' w t d vs ns
 | .own e,_,_,_,hn,⟨pc,h1,h2,h3⟩=>⟨pc,h1,h2,Wh4 (λx c q hx=>WF e x c q hx) (Same.refl _ w) (λ_ _ hh=>hh) (λx c q _ hx=>Wbr e x c q hn hx) h3⟩
 | .prod a b,_,_,_,hn,⟨v1,v2,n1,n2,h1,h2,h3,h4⟩=>by
  simp only[Ty.noRo,Xi]at hn;exact⟨v1,v2,n1,n2,h1,h2,Wbr a _ _ _ hn.1 h3,Wbr b _ _ _ hn.2 h4⟩
 | .int _,_,_,_,_,h=>h
 | .bool,_,_,_,_,h=>h
 | .str,_,_,_,_,h=>h
 | .slice _,_,_,_,hn,_=>by simp[Ty.noRo]at hn
theorem Wti{G G':GH}{w:World}{e:Ty}{nu:Nu}{xs:List e.den}{S:CS}(hn:e.noRo=true)(h:OwnL w (TyRel G w e) e.size nu xs S):OwnL w (TyRel G' w e) e.size nu xs S:=
 Wh4 (λx c q hx=>WF e x c q hx) (Same.refl _ w) (λ_ _ hh=>hh) (λx c q _ hx=>Wbr e x c q hn hx) h
theorem WfP{G G':GH}{w:World}{t:Ty}{d:t.den}{b o:Nat}{ns:List Pc}(hn:t.noRo=true)(h:WfC G w t d b o ns):WfC G' w t d b o ns:=by
 obtain⟨us,h1,h2,h3⟩:=h;exact⟨us,h1,h2,Wbr _ _ _ _ hn h3⟩
theorem Wrq{G G':GH}{w:World}{t:Ty}{agg:Bool}{d:t.den}{v:Value}{ns:List Pc}(hn:t.noRo=true)(h:Wje G w t agg d v ns):Wje G' w t agg d v ns:=by
 unfold Wje at h⊢;split
 .rename_i ha;rw[Wb ha]at h;obtain⟨us,h1,h2⟩:=h;exact⟨us,h1,Wbr _ _ _ _ hn h2⟩
 .rename_i ha;rw[Wa ha]at h;exact Wbr _ _ _ _ hn h
theorem Wd5{G G':GH}{w:World}:∀(rs:List PTy) (d:Whd rs) (vs:List Value) (ns:List Pc),rs.all PTy.freshR=true->Wgt G w rs d vs ns->Wgt G' w rs d vs ns
 | [],_,_,_,_,h=>h
 | .v t agg::rs,d,vs,ns,hn,⟨v,vs',n1,n2,h1,h2,h3,h4⟩=>by
  simp only[Xcf,Xi]at hn;exact⟨v,vs',n1,n2,h1,h2,Wrq hn.1 h3,Wd5 rs _ _ _ hn.2 h4⟩
 | .box t::rs,d,vs,ns,hn,⟨b,o,vs',n1,n2,h1,h2,h3,h5⟩=>by
  simp only[Xcf,Xi]at hn;exact⟨b,o,vs',n1,n2,h1,h2,WfP hn.1 h3,Wd5 rs _ _ _ hn.2 h5⟩
 | .mut _::_,_,_,_,_,h=>h.elim
 | .clos _ _::_,_,_,_,_,h=>h.elim
 | .kv _ _::_,_,_,_,_,h=>h.elim
 | .rp _::_,_,_,_,_,h=>h.elim
 | .vj t::rs,d,vs,ns,hn,⟨us,u,vs',n1,n2,h1,h0,h2,h3,h4⟩=>by
  simp only[Xcf,Xi]at hn;exact⟨us,u,vs',n1,n2,h1,h0,h2,Wbr _ _ _ _ hn.1 h3,Wd5 rs _ _ _ hn.2 h4⟩
 | .boxal _ _::_,_,_,_,_,h=>h.elim
theorem Wa7{G G':GH}{w:World}:∀(ps:List PTy) (o:Wgd ps) (ks:List Nu) (kf:List CS) (ns:List Pc),ps.all PTy.fresh=true->WbP G w ps o ks kf ns->WbP G' w ps o ks kf ns
 | [],_,_,_,_,_,h=>h
 | .v _ _::ps,o,ks,kf,ns,hn,h=>by
  simp only[Xcf,Xi]at hn;exact Wa7 ps o ks kf ns hn.2 h
 | .box t::ps,o,ks,kf,ns,hn,⟨b,off,ks',cV,n1,n2,h1,h2,h3,h4,h5⟩=>by
  simp only[Xcf,Xi]at hn;exact⟨b,off,ks',cV,n1,n2,h1,h2,h3,WfP hn.1 h4,Wa7 ps _ _ _ _ hn.2 h5⟩
 | .mut e::ps,o,ks,kf,ns,hn,⟨pc,ks',cV,h1,h2,h3,h4⟩=>by
  simp only[Xcf,Xi]at hn;exact⟨pc,ks',cV,h1,h2,Wti hn.1 h3,Wa7 ps _ _ _ _ hn.2 h4⟩
 | .clos _ _::ps,o,ks,kf,ns,hn,h=>by
  simp only[Xcf,Xi]at hn;exact Wa7 ps o ks kf ns hn.2 h
 | .kv t _::ps,o,ks,kf,ns,hn,⟨n1,ks',cV,us,h1,h2,h3,h4⟩=>by
  simp only[Xcf,Xi]at hn;exact⟨n1,ks',cV,us,h1,h2,Wbr _ _ _ _ hn.1 h3,Wa7 ps _ _ _ _ hn.2 h4⟩
 | .rp _::ps,o,ks,kf,ns,hn,h=>by
  simp only[Xcf,Xi]at hn;exact Wa7 ps o ks kf ns hn.2 h
 | .vj _::_,_,_,_,_,_,h=>h.elim
 | .boxal t _::ps,o,ks,kf,ns,hn,⟨b,off,ks',cV,n1,n2,h1,h2,h3,h4,h5⟩=>by
  simp only[Xcf,Xi]at hn;exact⟨b,off,ks',cV,n1,n2,h1,h2,h3,WfP hn.1 h4,Wa7 ps _ _ _ _ hn.2 h5⟩
theorem WeJ{objs:Waj}:∀(l:List Nat) (id:Nat),id∉l->look (kill objs l) id=look objs id
 | [],id,_=>rfl
 |i::l,id,h=>by
  simp only[kill];rw[WH,Wa (λe=>h (by rw[e];exact Xh ..))];exact WeJ l id λhm=>h (Xe _ hm)
theorem Wlc:∀{l:List CS},Sep l->∀{i j:Nat} {A B:CS} {b o:Nat},l[i]?=some A->l[j]?=some B->A b o->B b o->i=j
 | [],_,i,j,A,B,b,o,hi,_,_,_=>by simp at hi
 |C::l,hs,i,j,A,B,b,o,hi,hj,ha,hb=>by
  obtain⟨h1,h2⟩:=Xy.1 hs;cases i with
  |zero=>
   simp at hi;subst hi;cases j with
   |zero=>rfl
   |succ j=>
    simp at hj;exact(h1 B (Xaw hj) b o ha hb).elim
  |succ i=>
   simp at hi;cases j with
   |zero=>
    simp at hj;subst hj;exact(h1 A (Xaw hi) b o hb ha).elim
   |succ j=>
    simp at hj;rw[Wlc h2 hi hj ha hb]
section
variable{w0:World}{F:CS}{nt:Slots}{G0 G G':GH}{ν:Nat->Nu}{φ:Nat->CS}{objs:Waj}{nx:Nat}{st af:St}{a:Act}{w w':World}{P:Program}{T:Tab}
theorem WqX{f g:Nat->Nu}:∀{l:List Nat},(∀i∈l,g i=f i)->l.map f=l.map g:=λ{l} h=>List.map_congr_left λi hi=>(h i hi).symm
theorem Wcu{ν':Nat->Nu}{bx:List (Nat×CS)}:∀(ps:List PTy) (ids:List Kp) (ks:List Nu),(∀i∈kids ids,ν' i=ν i)->KeptOk objs ν bx ps ids ks->KeptOk objs ν' bx ps ids ks
 | [],_,_,_,h=>h
 | .v _ _::ps,ids,ks,hn,h=>Wcu ps ids ks hn h
 | .box t::ps,ids,ks,hn,⟨k,ba,nu,ks',h1,h2,⟨cs,b,g1,g2,g3,g4,g5⟩,h4⟩=>by
  subst h1;have e:=hn k.id (Xh ..);exact⟨k,ba,nu,ks',rfl,h2,⟨cs,b,g1,g2,by rw[e];exact g3,by rw[e];exact g4,by rw[e];exact g5⟩,Wcu ps ba ks' (λi hi=>hn i (Xe _ hi)) h4⟩
 | .mut e::ps,ids,ks,hn,⟨id,ba,ks',ys,h1,h2,h3,h4⟩=>by
  subst h1;exact⟨id,ba,ks',ys,rfl,by rw[hn id (Xh ..)];exact h2,h3,Wcu ps ba ks' (λi hi=>hn i (Xe _ hi)) h4⟩
 | .clos _ _::ps,ids,ks,hn,h=>Wcu ps ids ks hn h
 | .kv t _::ps,ids,ks,hn,⟨i1,i2,ks',h1,h2,h3,h4⟩=>by
  subst h1;have iW:kids (kp0 i1++i2)=i1++kids i2:=by simp only[kids,Xu];congr 1;exact Wh1 i1
  rw[iW]at hn;exact⟨i1,i2,ks',rfl,by rw[h2,WqX (λi hi=>hn i (Xk _ hi))],h3,Wcu ps i2 ks' (λi hi=>hn i (Xg _ hi)) h4⟩
 | .rp _::ps,ids,ks,hn,h=>Wcu ps ids ks hn h
 | .vj _::_,_,_,_,h=>h.elim
 | .boxal t _::ps,ids,ks,hn,⟨k,ba,nu,ks',h1,h2,⟨cs,b,g1,g2,g3,g4,g5⟩,h4⟩=>by
  subst h1;have e:=hn k.id (Xh ..);exact⟨k,ba,nu,ks',rfl,h2,⟨cs,b,g1,g2,by rw[e];exact g3,by rw[e];exact g4,by rw[e];exact g5⟩,Wcu ps ba ks' (λi hi=>hn i (Xe _ hi)) h4⟩
theorem WsJ(hr:Rel w0 F nt G0 G ν st a w):∀(l:List Operand) (xs:List AVal),evs st l=some xs->xs.length=l.length/\
  ∀(j:Nat) (x:AVal) (v:Value),xs[j]?=some x->(l.map a.eval)[j]?=some v->AValRel G ν st.nx x v
 | [],xs,h=>by simp[evs]at h;subst h;exact⟨rfl,λj x v hj=>by simp at hj⟩
 |o::l,xs,h=>by
  simp only[evs]at h;split at h
  .rename_i y ys h1 h2;injection h with h;subst h;obtain⟨h3,h4⟩:=WsJ hr l ys h2;refine⟨by simp[h3],λj x v hj hv=>?_⟩;cases j with
   |zero=>simp at hj hv;subst hj hv;exact WR hr o _ h1
   |succ j=>exact h4 j x v (by simpa using hj) (by simpa using hv)
  .simp at h
theorem WtY{o:Oper}{c:Call}{f:Operand}{g:FuncId}{caps:List Value}(ho:o.op= .call c)(hc:c.callee= .value f)(hf:a.eval f= .func (.func g) #[] caps.toArray)(rU:Wgz P g):
  (execOp a.eval o).run P w= .ok (.enter g (c.args.toList.map a.eval++caps).toArray) w:=by
 obtain⟨fn,h1,h2,h3⟩:=rU;obtain⟨callee,args,argTypes⟩:=c;simp only at hc;subst hc;have e:(#[]++args.map a.eval++caps.toArray)=(args.toList.map a.eval++caps).toArray:=by
  apply Array.ext';simp
 simp only[execOp,ho,resolve,Deferred.ofValue,hf,Sem.run_bind,Sem.run_pure,Result.andThen_ok,invoke,callFunc,run_program,h1,h2,h3,Xbg,Waw,e]
theorem Wts{b o k:Nat}{vs us:List Value}(hm:Mem w b o vs)(hu:Mem w' b (o+k) us)(hk:k+us.length<=vs.length)(bj:∀j,j<vs.length->¬(k<=j/\j<k+us.length)->w'.cell? ⟨b,o+j,none⟩=w.cell? ⟨b,o+j,none⟩):
  Mem w' b o (vs.take k++us++vs.drop (k+us.length)):=λj v hj=>by
 have gB:∀v',vs[j]?=some v'->¬(k<=j/\j<k+us.length)->w'.cell? ⟨b,o+j,none⟩=some v':=λv' hv hn=>by
  rw[bj j (Xad.1 hv).1 hn];exact hm j v' hv
 have cu:(vs.take k).length=k:=by simp;omega
 rw[Xbr,Xav,cu]at hj;split at hj
 .rename_i hlt;rw[Xbl,Wb hlt]at hj;exact gB v hj (by omega)
 .rw[Xav]at hj;split at hj
  .have:=hu (j-k) v hj;rw[show o+j=o+k+(j-k) by omega];exact this
  .rw[Xbm,show k+us.length+(j-k-us.length)=j by omega]at hj;exact gB v hj (by omega)
theorem Wkx{Γ:Ctx}(hΓ:Wft P Γ)(hr:Rel w0 F nt G0 G ν st a w){o:Oper}(hd:∀d,o.dst=some d->nt.Ok d){c:Call}{f:Operand}{g:FuncId}{cvs:List Value}{xs:List AVal}{sg:Sig}{R:Type}{k:St->Option R}{r:R}
  (ho:o.op= .call c) (hc:c.callee= .value f) (rV:a.eval f= .func (.func g) #[] cvs.toArray) (oe:look Γ g=some sg) (hlen:xs.length=(c.args.toList.map a.eval++cvs).length)
  (hargs:∀(j:Nat) (x:AVal) (v:Value),xs[j]?=some x->(c.args.toList.map a.eval++cvs)[j]?=some v->AValRel G ν st.nx x v)
  (h:WfD sg st xs (λx objs nx=>k (({env:=st.env,objs:=objs,nx:=nx}:St).put o.dst x))=some r) {K:Act->World->Prop} {Q:Exit->Act->World->Prop}
  (hK:∀af a' w' G' ν',Rel w0 F nt G0 G' ν' af a' w'->k af=some r->K a' w'):o.wp P a w K Q:=by
 obtain⟨kF,jm⟩:=hΓ g sg oe;unfold WfD at h;split at h
 .rename_i A hA;split at h
  .rename_i bo;simp only[Xi]at bo;obtain⟨⟨aP,mc⟩,uq⟩:=bo;have aP:=(We4 _).1 aP;have mc:=WmW mc;obtain⟨out,hrun,hk⟩:=sg.law' A.d _ r h;dsimp only at hk;obtain⟨φ,hφ⟩:=hr.h;have gy:=hφ.addG_le A.lent;have hG1w:=hφ.addG_w A.lent;obtain⟨ns,ks,bx,hO⟩:=WaR hφ gy sg.ps _ (c.args.toList.map a.eval++cvs) A hlen.symm hargs (λid bz hl=>(WiX _).mono (FromL.one bz hl)) aP hA;have hTk:∀b o,Of ns b o->Tk φ st.objs bx A.all b o:=λb o ⟨q,hq,hh⟩=>hO.tk q hq b o hh;have hfree:∀q∈ns,∀b off,q.fp b off->Wq4 G w (FromL φ st.objs A.lent) b off=none/\b<w.heap.size:=λq hq b off hh=>by
    obtain⟨i,hi,h1,h2,_⟩:=hO.tk q hq b off hh;refine⟨?_,hφ.bl i b off h1 h2⟩;rw[Wdm (λ⟨j,hj,h3,h4⟩=>by
     have:=hφ.inj i j b off h1 h3 h2 h4;subst this;exact mc _ hj hi)]
    exact hφ.gf i b off h1 h2
   have og:=kF A.d out hrun _ w _ ns _ hO.args hO.sep hfree hG1w;unfold Oper.wp;rw[WtY ho hc rV jm,Oper.upon_enter];refine og.mono λe w' rW=>?_;obtain⟨rv,kf,ms,cD,G2,rfl,hA2⟩:=rW;simp only;have hG3:∃G3:GH,GLe G G3/\(∀b off v,G3 b off=some v->w'.cell? ⟨b,off,none⟩=some v)/\Wgt G3 w' sg.rs out.2 rv cD/\WbP G3 w' sg.ps out.1 ks kf ms/\
     GExt w0.heap.size F G0 G3/\(∀S∈kf++fps (ms++cD),∀b off,S b off->G3 b off=none)/\(∀id b off,Live st.objs id->φ id b off->¬Tk φ st.objs bx A.all b off->G3 b off=none):=by
    by_cases hle:A.lent= []
    .have hGG:Wq4 G w (FromL φ st.objs A.lent)=G:=by
      rw[hle];funext b off;exact Wdm (λ⟨i,hi,_⟩=>by simp at hi)
     rw[hGG]at hA2;refine⟨G2,hA2.gx.le,hA2.g,hA2.res,hA2.outs,⟨λb o v hv=>hA2.gx.le b o v (hr.gx.le b o v hv),λb o v hv=>?_⟩,λS hS b off hh=>(hA2.own S hS b off hh).1,λid b off hl hp hn=>?_⟩
     .rcases hA2.gx.new b o v hv with h1|h1|h1
      .exact hr.gx.new b o v h1
      .exact .inr (.inl (Xco hφ.le.size h1))
      .obtain⟨i,hi,h2,h3,_⟩:=hTk b o h1;exact .inr (hφ.own i b o h2 h3)
     .cases hv:G2 b off with
      |none=>rfl
      |some v=>
       rcases hA2.gx.new b off v hv with h1|h1|h1
       .rw[hφ.gf id b off hl hp]at h1;cases h1
       .have:=hφ.bl id b off hl hp;omega
       .exact Wg (hTk b off h1) hn
    .have fM:sg.fresh=true:=by
      rcases Bool.or_eq_true_iff.1 uq with h1|h1
      .exact h1
      .exact Wg (by simpa using h1) hle
     unfold Sig.fresh at fM;simp only[Xi]at fM;refine⟨G,λ_ _ _ hh=>hh,λb o v hv=>hA2.g b o v (hA2.gx.le b o v (gy b o v hv)),Wd5 _ _ _ _ fM.1 hA2.res,Wa7 _ _ _ _ _ fM.2 hA2.outs,hr.gx,λS hS b off hh=>?_,λid b off hl hp _=>hφ.gf id b off hl hp⟩;cases hv:G b off with
     |none=>rfl
     |some v=>
      have:=hA2.gx.le b off v (gy b off v hv);rw[(hA2.own S hS b off hh).1]at this;cases this
   obtain⟨G3,vg,vi,ik,rX,vk,vm,vn⟩:=hG3;obtain⟨ν2,hν2⟩:∃ν2:Nat->Nu,ν2= λi=>if i<st.nx then ν i else((nus (ms++cD))[i-st.nx]?).getD ⟨none,0,0,0,0⟩:=⟨_,rfl⟩;obtain⟨φ2,hφ2⟩:∃φ2:Nat->CS,φ2= λi=>if i<st.nx then(λb o=>(∃(j:Nat) (S:CS),(kids A.kept)[j]?=some i/\kf[j]?=some S/\S b o)\/(φ i b o/\¬Tk φ st.objs bx A.all b o))else((fps (ms++cD))[i-st.nx]?).getD (λ_ _=>False):=⟨_,rfl⟩;have hνold:WsS st.nx ν ν2:=λi hi=>by rw[hν2];simp[hi]
   have hAt:At ν2 φ2 st.nx (ms++cD):=λj pc hj=>by
    have e1:(nus (ms++cD))[j]?=some pc.nu:=by unfold nus;rw[Xan,hj];rfl
    have e2:(fps (ms++cD))[j]?=some pc.fp:=by unfold fps;rw[Xan,hj];rfl
    rw[hν2,hφ2];simp only;rw[Wa (by omega),Wa (by omega),Xcc,e1,e2];exact⟨rfl,rfl⟩
   have jn:∀i∈kids A.kept,i<st.nx:=λi hi=>hφ.lt i (hO.live i (hO.sub.subset hi));have md:(kids A.kept).Nodup:=aP.sublist hO.sub;obtain⟨xA,zu,ff⟩:=Wa8 (ν:=ν2) (φ:=φ2) (bx:=bx) st.objs sg.ps out.1 A.kept ks kf ms (kill st.objs A.moved) st.nx (st.nx+ms.length+cD.length) rX (Wcu _ _ _ (λi hi=>hνold i (jn i hi)) hO.kept) hAt.left md (λq hq=>by
    have lA:q.id∈kids A.kept:=Xap hq;exact⟨jn _ lA,WeJ _ _ (hO.dis _ lA)⟩) (by omega)
   generalize hp:Wal sg.ps out.1 A.kept (kill st.objs A.moved) st.nx=p at*;obtain⟨ng,vo,zv⟩:=Wd4 (ν:=ν2) (φ:=φ2) sg.rs out.2 rv cD p.1 (st.nx+ms.length) (st.nx+ms.length+cD.length) ik (hAt.right rfl) (by omega);rw[xA]at hk;generalize hq:Wby sg.rs out.2 p.1 (st.nx+ms.length)=q at*;have il:∀id ob,look q.2.1 id=some ob->ob≠ .dead->
     (st.nx<=id/\id<st.nx+ms.length+cD.length/\Wwo G3 ν2 φ2 w' (st.nx+ms.length+cD.length) id ob)\/
     (∃(j:Nat) (S:CS),(kids A.kept)[j]?=some id/\kf[j]?=some S/\Wnn G3 ν2 w' st.objs bx (st.nx+ms.length+cD.length) id S ob)\/(look st.objs id=some ob/\id∉A.all):=λid ob hl cJ=>by
    rcases vo id ob hl with⟨h1,h2,h3⟩|h1
    .exact .inl ⟨by omega,h2,h3⟩
    .rcases ff id ob h1 with⟨h2,h3,h4⟩|h2|⟨h2,h3⟩
     .exact .inl ⟨h2,by omega,.inl h4⟩
     .exact .inr (.inl h2)
     .obtain⟨h4,h5⟩:=WeT A.moved id ob h2 cJ;exact .inr (.inr ⟨h4,λhm=>by rcases hO.mvk id hm with h6|h6;exact h5 h6;exact h3 h6⟩)
   have an:∀id b off,Live q.2.1 id->φ2 id b off->
     (∃(pos:Nat) (S:CS),(kf++fps (ms++cD))[pos]?=some S/\S b off/\id=(if pos<kf.length then((kids A.kept)[pos]?).getD 0 else st.nx+(pos-kf.length)))\/
     (Live st.objs id/\φ id b off/\¬Tk φ st.objs bx A.all b off/\id<st.nx):=λid b off ⟨ob,hl,cJ⟩ hp=>by
    have oh:id<st.nx->Live st.objs id:=λhlt=>by
     rcases il id ob hl cJ with⟨h1,_⟩|⟨j,S,h1,_⟩|⟨h1,_⟩
     .omega
     .exact hO.live id (hO.sub.subset (Xaw h1))
     .exact⟨ob,h1,cJ⟩
    rw[hφ2]at hp
    try simp only at hp
    by_cases hlt:id<st.nx
    .rw[Wb hlt]at hp;rcases hp with⟨j,S,h1,h2,h3⟩|⟨h1,h2⟩
     .left;have hj:j<kf.length:=(Xad.1 h2).1;refine⟨j,S,by rw[Xcj hj];exact h2,h3,?_⟩;rw[Wb hj,h1];rfl
     .exact .inr ⟨oh hlt,h1,h2,hlt⟩
    .rw[Wa hlt]at hp;left;cases hS:(fps (ms++cD))[id-st.nx]? with
     |none=>rw[hS]at hp;exact hp.elim
     |some S=>
      rw[hS]at hp;refine⟨kf.length+(id-st.nx),S,by rw[Xce (by omega),Xcc];exact hS,hp,?_⟩;rw[Wa (by omega)];omega
   have hown:=hA2.own;have iX:∀{pos:Nat} {S:CS},(kf++fps (ms++cD))[pos]?=some S->S∈kf++fps (ms++cD):=λh=>Xaw h;have hH:HR w0 F G3 ν2 φ2 q.2.1 (st.nx+ms.length+cD.length) w':={
    g:=vi
    ob:=λid ob hl=>by
     by_cases cJ:ob= .dead
     .subst cJ;trivial
     .rcases il id ob hl cJ with⟨h1,h2,⟨e,xs,rfl,h3⟩|⟨cs,b,us,rfl,h3,h4,h5,h6,h7⟩⟩|⟨j,S,h1,h2,h3⟩|⟨h1,h2⟩
      .exact h3
      .exact⟨b,us,h3,h4,h5,h6,h7⟩
      .have bz:id∈kids A.kept:=Xaw h1;have hlt:=jn id bz;have az:Live st.objs id:=hO.live id (hO.sub.subset bz);have hSφ:CS.le S (φ2 id):=λb o hh=>by
        rw[hφ2];(try simp only);rw[Wb hlt];exact .inl ⟨j,S,h1,h2,hh⟩
       rcases h3 with⟨lD,off,ds,b,us,g1,rfl,g2,g3,g4,g5,rfl,g6⟩|⟨e,ys,xs,g1,rfl,g2⟩
       .rw[hνold id hlt]at g3 g4 g6 hSφ;obtain⟨b',vs,e1,e2,e3,e4,e5⟩:WcG G ν st.nx w id (φ id) (.box lD):=hφ.ob _ _ g1;rw[g3]at e1;injection e1 with e1;subst e1;have cI:us.length=ds.length:=g5.1;have uf:vs.length=lD.length:=e4.1;have gG:∀o,(ν id).off<=o->o<(ν id).off+lD.length->¬((ν id).off+off<=o/\o<(ν id).off+off+ds.length)->φ id b o/\¬Tk φ st.objs bx A.all b o:=λo k1 k2 k3=>by
         have hφo:=e5 b o ⟨rfl,k1,k2⟩;refine⟨hφo,λ⟨i,hi,k4,k5,k6⟩=>?_⟩;have:=hφ.inj i id b o k4 az k5 hφo;subst this;obtain⟨_,k7,k8⟩:=k6 _ g6 rfl;exact k3 ⟨k7,k8⟩
        refine⟨b,_,by rw[hνold id hlt];exact g3,by rw[hνold id hlt,We9 g2];exact hA2.le.rows.row _ _ e2,?_,Wfa (e4.mono vg hνold (by omega)) g5,?_⟩
        .rw[hνold id hlt];refine Wts e3 g4 (by omega) (λj hj hn=>?_);obtain⟨k1,k2⟩:=gG ((ν id).off+j) (by omega) (by omega) (λ⟨k3,k4⟩=>hn ⟨by omega,by omega⟩);exact hA2.le.cell b _ (hφ.bl id b _ az k1) (λoi=>k2 (hTk b _ oi))
        .rw[hνold id hlt,We9 g2];intro b' o ⟨k0,k1,k2⟩;subst k0;by_cases im:(ν id).off+off<=o/\o<(ν id).off+off+ds.length
         .exact hSφ b' o ⟨rfl,im.1,im.2⟩
         .rw[hφ2];(try simp only);rw[Wb hlt];exact .inr (gG o k1 k2 im)
       .exact Wc5 (λ_ _ _ hh=>hh) (Same.refl _ w') hSφ g2
      .have lB:Live st.objs id:=⟨ob,h1,cJ⟩;have hlt:=hφ.lt id lB;have xB:∀b o,φ id b o->¬Tk φ st.objs bx A.all b o:=λb o hp ⟨i,hi,k1,k2,_⟩=>by
        have:=hφ.inj i id b o k1 lB k2 hp;subst this;exact h2 hi
       refine WdF vg (hA2.le.same (λb o oi hp=>xB b o hp (hTk b o oi)) (λb o hp=>hφ.bl id b o lB hp)) (λb o hp=>?_) hνold (by omega) hlt ob (hφ.ob id ob h1);rw[hφ2];(try simp only);rw[Wb hlt];exact .inr ⟨hp,xB b o hp⟩
    gf:=λid b off hl hp=>by
     rcases an id b off hl hp with⟨pos,S,h1,h2,_⟩|⟨h1,h2,h3,_⟩
     .exact vm S (iX h1) b off h2
     .exact vn id b off h1 h2 h3
    inj:=λid bK b off hl bS hp dv=>by
     have key:∀bK,Live st.objs bK->φ bK b off->¬Tk φ st.objs bx A.all b off->∀(pos:Nat) (S:CS),(kf++fps (ms++cD))[pos]?=some S->S b off->False:=λbK g1 g2 g3 pos S g4 g5=>by
      rcases(hown S (iX g4) b off g5).2.1 with g6|g6
      .exact g3 (hTk b off g6)
      .have:=hφ.bl bK b off g1 g2;omega
     rcases an id b off hl hp with⟨pos,S,h1,h2,he⟩|⟨h1,h2,h3,h4⟩<;>rcases an bK b off bS dv with⟨vp,S',iQ,jN,jO⟩|⟨iQ,jN,cU,h4'⟩
     .have:=Wlc hA2.sep h1 iQ h2 jN;subst this;rw[he,jO]
     .exact(key bK iQ jN cU pos S h1 h2).elim
     .exact(key id h1 h2 h3 vp S' iQ jN).elim
     .exact hφ.inj id bK b off h1 iQ h2 jN
    own:=λid b off hl hp=>by
     rcases an id b off hl hp with⟨pos,S,h1,h2,_⟩|⟨h1,h2,h3,_⟩
     .rcases(hown S (iX h1) b off h2).2.1 with h5|h5
      .obtain⟨i,hi,h6,h7,_⟩:=hTk b off h5;exact hφ.own i b off h6 h7
      .exact .inl (Xco hφ.le.size h5)
     .exact hφ.own id b off h1 h2
    lt:=λid ⟨ob,hl,cJ⟩=>by
     rcases il id ob hl cJ with⟨_,h2,_⟩|⟨j,S,h1,_⟩|⟨h1,h2⟩
     .exact h2
     .have:=jn id (Xaw h1);omega
     .have:=hφ.lt id ⟨ob,h1,cJ⟩;omega
    bl:=λid b off hl hp=>by
     rcases an id b off hl hp with⟨pos,S,h1,h2,_⟩|⟨h1,h2,h3,_⟩
     .exact(hown S (iX h1) b off h2).2.2
     .exact Nat.lt_of_lt_of_le (hφ.bl id b off h1 h2) hA2.le.size
    le:=hφ.le.trans hA2.le (λb off oi=>by
     obtain⟨i,hi,h6,h7,_⟩:=hTk b off oi;exact hφ.own i b off h6 h7)}
   have hR:=hr.on vg hνold (by omega) ⟨φ2,hH⟩ vk;have hR2:=hR.put (dst:=o.dst) hd (WsB zv);rw[ng]at hk;exact hK _ _ _ _ _ hR2 hk
  .cases h
 .cases h
theorem WvR{Γ:Ctx}(hΓ:Wft P Γ)(hr:Rel w0 F nt G0 G ν st a w){o:Oper}(hd:∀d,o.dst=some d->nt.Ok d){c:Call}{f:Operand}{g:FuncId}{caps:List Nat}{xs:List AVal}{sg:Sig}{R:Type}{k:St->Option R}{r:R}
  (ho:o.op= .call c) (hc:c.callee= .value f) (hf:ev st f=some (.s (.one (.clos g caps)))) (oj:evs st c.args.toList=some xs) (oe:look Γ g=some sg)
  (h:Wnv sg st (xs++Wko caps) (λx objs nx=>k (({env:=st.env,objs:=objs,nx:=nx}:St).put o.dst x))=some r) {K:Act->World->Prop} {Q:Exit->Act->World->Prop}
  (hK:∀af a' w' G' ν',Rel w0 F nt G0 G' ν' af a' w'->k af=some r->K a' w'):o.wp P a w K Q:=by
 obtain⟨⟨cvs,rV,hcl,hcv⟩,_⟩:=WR hr f _ hf;obtain⟨jk,zw⟩:=WsJ hr _ _ oj;have hlen:(xs++Wko caps).length=(c.args.toList.map a.eval++cvs).length:=by simp[jk,Wko,hcl]
 have hargs:∀(j:Nat) (x:AVal) (v:Value),(xs++Wko caps)[j]?=some x->(c.args.toList.map a.eval++cvs)[j]?=some v->AValRel G ν st.nx x v:=λj x v hj hv=>by
  rw[Xav]at hj hv;rw[Xae,←jk]at hv;split at hj
  .rename_i hlt;rw[Wb hlt]at hv;exact zw j x v hj hv
  .rename_i hlt;rw[Wa hlt]at hv;simp only[Wko,Xan]at hj;cases hcj:caps[j-xs.length]? with
   |none=>simp[hcj]at hj
   |some id=>
    simp[hcj]at hj;subst hj;obtain⟨h1,h3,h2⟩:=hcv _ id v hcj hv;exact⟨⟨h1,h2⟩,h3⟩
 unfold Wnv at h;cases uq:sg.fresh with
 |true=>
  rw[uq]at h;exact Wkx hΓ hr hd ho hc rV oe hlen hargs h hK
 |false=>
  rw[uq]at h;simp only[We]at h;split at h
  .rename_i A hA;split at h
   .exact Wkx hΓ hr hd ho hc rV oe hlen hargs h hK
   .obtain⟨G1,hz⟩:=hr.frz A.lent;refine Wkx hΓ hz.rel hd ho hc rV oe (by simpa using hlen) (λj x v hj hv=>?_) h hK;rw[Xan]at hj;obtain⟨y,hy,rfl⟩:=Xv.1 hj;exact hz.val y v (hargs j y v hy hv)
  .cases h
end
end Go.Sx
namespace Go.Sx
set_option linter.unusedVariables false
set_option linter.unusedSimpArgs false
section
variable{w0:World}{F:CS}{nt:Slots}{G0 G G':GH}{ν:Nat->Nu}{objs:Waj}{nx:Nat}{st af:St}{a:Act}{w w':World}{P:Program}{T:Tab}{Γ:Ctx}
theorem Done.wp{o:Oper}{af:St}(h:Done P w0 F nt G0 o a w af){K:Act->World->Prop}{Q:Exit->Act->World->Prop}
  (hK:∀a' w' G' ν',Rel w0 F nt G0 G' ν' af a' w'->K a' w'):o.wp P a w K Q:=by
 obtain⟨n,v,w',G',ν',h1,h2,h3⟩:=h;unfold Oper.wp;rw[h1];rcases h2 with rfl|⟨rfl,rfl⟩
 .exact hK _ _ _ _ h3
 .exact hK _ _ _ _ h3
theorem Wl3{t:TypeId}{x v:AVal}{af:St}(h:Wc1 T st t x v=some af):({env:=st.env,objs:=af.objs,nx:=af.nx}:St)=af:=by
 unfold Wc1 at h;split at h
 .split at h
  .split at h
   .injection h with h;subst h;rfl
   .cases h
  .cases h
 .split at h
  .split at h
   .split at h
    .injection h with h;subst h;rfl
    .cases h
   .split at h
    .split at h
     .split at h
      .injection h with h;subst h;rfl
      .cases h
     .cases h
    .cases h
  .cases h
 .cases h
theorem WaY{R:Type}{c:Bool}{x:Option R}{r:R}(h:(bif c then x else none)=some r):c=true/\x=some r:=by
 cases c
 .cases h
 .exact⟨rfl,h⟩
theorem Wb6{R:Type}{c:Prop}[Decidable c]{x:Option R}{r:R}(h:(if c then x else none)=some r):c/\x=some r:=by
 split at h
 .exact⟨by assumption,h⟩
 .cases h
theorem Wl7{e:Ty}{ps:List (Nat×AVal)}{R:Type}{k:KV R}{r:R}(h:Wdt st e ps k=some r):
  ∃x ds d m,ps= [(0,x)]/\WgT (Whk st.objs (Whm e x) x)=some ds/\WaB e ds (WdP st.objs (Whm e x))=some (d,m,[])/\WbF m=true/\
   k (.s (.one (.own st.nx))) ((st.nx,.arr e [d])::kill (WdP st.objs (Whm e x)) m) (st.nx+1)=some r:=by
 match ps with
 | [p]=>
  simp only[Wdt]at h;obtain⟨hp,h⟩:=Wb6 h;split at h
  .rename_i ds gk;split at h
   .rename_i d m hf;obtain⟨aP,h⟩:=Wb6 h;exact⟨p.2,ds,d,m,by rw[←hp],gk,hf,aP,h⟩
   .cases h
  .cases h
 | []=>cases h
 |_::_::_=>cases h
theorem Wn5(hT:Wao P T)(hr:Rel w0 F nt G0 G ν st a w){o:Oper}(hd:∀d,o.dst=some d->nt.Ok d){R:Type}{k:St->Option R}{r:R}
  (h:(match Wam T st o.op with|some (c,v)=>bif c then k (({env:=st.env,objs:=st.objs,nx:=st.nx}:St).put o.dst v)else none|none=>none)=some r)
  {K:Act->World->Prop} {Q:Exit->Act->World->Prop} (hK:∀af a' w' G' ν',Rel w0 F nt G0 G' ν' af a' w'->k af=some r->K a' w'):o.wp P a w K Q:=by
 split at h
 .rename_i c v hp;obtain⟨rfl,h⟩:=WaY h;exact(WrJ hT hr hd hp).wp λa' w' G' ν' bL=>hK _ _ _ _ _ bL h
 .cases h
theorem Wrs(hT:Wao P T)(hΓ:Wft P Γ)(hr:Rel w0 F nt G0 G ν st a w){o:Oper}(hd:∀d,o.dst=some d->nt.Ok d){A:List (Nat×An)}{R:Type}{k:St->Option R}{r:R}(h:rx1 T Γ A o st k=some r)
  {K:Act->World->Prop} {Q:Exit->Act->World->Prop} (hK:∀af a' w' G' ν',Rel w0 F nt G0 G' ν' af a' w'->k af=some r->K a' w'):o.wp P a w K Q:=by
 unfold rx1 rxe at h;split at h
 .rename_i t ho;split at h
  .rename_i e n et hl;obtain⟨hc,h⟩:=Wb6 h;simp only[Xi]at hc;exact(Wlg hT hr hd ho hl hc.1 hc.2).wp λa' w' G' ν' bL=>hK _ _ _ _ _ bL h
  .rename_i te _ hl;obtain⟨hc,h⟩:=Wb6 h;exact(Wp4 hT hr hd ho hl hc).wp λa' w' G' ν' bL=>hK _ _ _ _ _ bL h
  .cases h
 .rename_i t x ho;split at h
  .rename_i te cs hl hb;cases hv:ev st x with
   |none=>simp[hv]at hb
   |some v=>
    simp only[hv,Xd]at hb;exact(Wt3 hr hd ho hv hb).wp λa' w' G' ν' bL=>hK _ _ _ _ _ bL h
  .cases h
 .rename_i t parts ho;split at h
  .rename_i ty fs ps hl ca;obtain⟨hc,h⟩:=Wb6 h;split at h
   .rename_i cs hf;refine(Wqu hT hr hd ho hl ca hf ?_).wp λa' w' G' ν' bL=>hK _ _ _ _ _ bL h;intro f hf;have:=Xac.1 hc f hf;split at this
    .rename_i te bD;exact⟨te,bD,this⟩
    .cases this
   .cases h
  .cases h
 .rename_i t n parts ho;split at h
  .rename_i ty et ps hl ca;split at h
   .rename_i te hle;split at h
    .rename_i e _;obtain⟨hc,h1⟩:=Wb6 h;clear h;simp only[Xi,Wh]at hc;obtain⟨⟨⟨hn,he⟩,hp⟩,hsz⟩:=hc;obtain⟨x,ds,d,m,rfl,gk,hf,aP,h⟩:=Wl7 h1;clear h1;subst hn;have aP:=(Wdb _).1 aP;obtain⟨G1,hz⟩:=hr.frz (Whm e x);obtain⟨p1,p2⟩:=Wgn hr _ _ ca;have eB:∃y,parts.toList= [(0,y)]/\AValRel G ν st.nx x (a.eval y):=by
      match hP:parts.toList,p1 with
      | [q],_=>
       rw[hP]at p2;obtain⟨q1,q2⟩:=p2 0 _ q rfl rfl;refine⟨q.2,?_,q2⟩;have:q=(0,q.2):=Prod.ext q1.symm rfl;rw[←this]
     obtain⟨y,zx,zy⟩:=eB;exact(Wl8 hT hz.rel hd ho zx hl hle (hz.val _ _ zy) gk hf aP he hp hsz).wp λa' w' G' ν' bL=>hK _ _ _ _ _ bL h
    split at h
    .rename_i xs hf;obtain⟨hc,h⟩:=Wb6 h;simp only[Xi,Wh]at hc;obtain⟨G1,hz⟩:=hr.frz (WlJ ps);obtain⟨p1,p2⟩:=Wgn hr _ _ ca;exact(Wi3 hT hz.rel hd ho hl hle (by simpa [Wkr]using p1) (λj p q hp hq=>by
      simp only[Wkr,Xan]at hp;obtain⟨y,hy,rfl⟩:=Xv.1 hp;exact⟨(p2 j y q hy hq).1,hz.val _ _ (p2 j y q hy hq).2⟩) hf hc.1.1 hc.1.2 hc.2).wp λa' w' G' ν' bL=>hK _ _ _ _ _ bL h
    .cases h
   .cases h
  .cases h
 .rename_i t n c ho;split at h
  .rename_i ty et n' c' hl hn hc;split at h
   .rename_i te hle;obtain⟨k1,lG⟩:∃k,a.eval n= .int k n':=by
     cases hv:ev st n with
     |none=>simp[hv]at hn
     |some v=>simp only[hv,Xd]at hn;exact WfO _ _ _ (WR hr n _ hv) hn
    obtain⟨k2,ii⟩:∃k,a.eval c= .int k c':=by
     cases hv:ev st c with
     |none=>simp[hv]at hc
     |some v=>simp only[hv,Xd]at hc;exact WfO _ _ _ (WR hr c _ hv) hc
    split at h
    .obtain⟨me,h⟩:=Wb6 h;obtain⟨hb,h⟩:=WaY h;simp only[Xi,Wh]at hb me;exact(Wi1 hT hr hd ho hl hle lG ii hb.1.1 hb.1.2 hb.2 me.1 me.2).wp λa' w' G' ν' bL=>hK _ _ _ _ _ bL h
    .obtain⟨me,h⟩:=Wb6 h;obtain⟨hb,h⟩:=WaY h;simp only[Xi,Wh]at hb me;exact(Wjh hT hr hd ho hl hle lG ii hb.1.1 hb.1.2 hb.2 me.1 me.2).wp λa' w' G' ν' bL=>hK _ _ _ _ _ bL h
   .cases h
  .cases h
 .rename_i t x y ho;split at h
  .rename_i p v hp hv;split at h
   .rename_i af hs;split at h
    .rename_i jl;have h:k (({env:=st.env,objs:=af.objs,nx:=af.nx}:St).put o.dst (.tup []))=some r:=h;obtain⟨G1,hz⟩:=hr.frz (Wf6 st.objs p v);have bj:=Wl3 hs;simp only at bj;rw[bj,jl]at h;exact(Wqp hT hz.rel ho jl (AValRel.mono hz.le (λ_ _=>rfl) (Xn _) _ _ (WR hr x _ hp)) (hz.val _ _ (WR hr y _ hv)) hs).wp λa' w' G' ν' bL=>hK _ _ _ _ _ bL h
    .cases h
   .cases h
  .cases h
 .rename_i t x lo hi ho;split at h
  .rename_i id hx;split at h
   .rename_i ty et l hh hl aS qN;split at h
    .rename_i te hle;split at h
     .obtain⟨hp,h⟩:=Wb6 h;obtain⟨af,hk,fz⟩:=Ws9 hT hr hd ho hx hl hle hp aS qN h;exact fz.wp λa' w' G' ν' bL=>hK _ _ _ _ _ bL hk
     .split at h
      .rename_i h' e xs _ au;obtain⟨⟨he,hp⟩,h⟩:=Wb6 h;obtain⟨hb,h⟩:=WaY h;simp only[Xi,Wh]at hb;exact(Wqz hT hr hd ho hx hl hle hp he au aS qN hb.1 hb.2).wp λa' w' G' ν' bL=>hK _ _ _ _ _ bL h
      .rename_i h' e xs i p _ au;obtain⟨⟨he,hp,u9⟩,h⟩:=Wb6 h;obtain⟨hb,h⟩:=WaY h;simp only[Xi,Wh]at hb;exact(Wjw hT hr hd ho hx hl hle hp he au u9 aS qN hb.1.1 hb.1.2 hb.2).wp λa' w' G' ν' bL=>hK _ _ _ _ _ bL h
      .cases h
    .cases h
   .cases h
  .rename_i hx;exact Wn5 hT hr hd (by rw[ho];rw[ho]at h;exact h) hK
 .rename_i c ho;split at h
  .rename_i s x t t2 hc ha de;split at h
   .rename_i sv xv hs hx;obtain⟨af,hk,fz⟩:=Wof hT hr hd ho hc ha de hs hx h;exact fz.wp λa' w' G' ν' bL=>hK _ _ _ _ _ bL hk
   .cases h
  .rename_i x t hc ha de;split at h
   .rename_i id lo hi hx;split at h
    .rename_i ty et e xs hl au;split at h
     .rename_i te hle;obtain⟨⟨he,hp,aV⟩,h⟩:=Wb6 h;exact(Wqf hT hr hd ho hc ha de hx hl hle au he hp aV).wp λa' w' G' ν' bL=>hK _ _ _ _ _ bL h
     .cases h
    .cases h
   .cases h
  .exact Wn5 hT hr hd h hK
  .rename_i f args _ hc;split at h
   .rename_i g caps xs hf oj;split at h
    .rename_i sg oe;exact WvR hΓ hr hd ho hc hf oj oe h hK
    .cases h
   .cases h
  .cases h
 .exact Wn5 hT hr hd h hK
end
end Go.Sx
namespace Go.Sx
set_option linter.unusedVariables false
set_option linter.unusedSimpArgs false
section
variable{w0:World}{F:CS}{nt:Slots}{G0 G G':GH}{ν ν':Nat->Nu}{φ φ':Nat->CS}{objs objs':Waj}{nx ai:Nat}{st af:St}{a:Act}{w w':World}{P:Program}{T:Tab}{Γ:Ctx}
theorem Rel.rebind(h:Rel w0 F nt G0 G ν st a w){i:Nat}{x:AVal}{v:Value}(hv:a.tmps[i]?=some v)(hx:AValRel G ν st.nx x v):Rel w0 F nt G0 G ν (st.put (some i) x) a w:=
 ⟨h.defers,h.ntm,h.par,λj y hy=>by
  simp only[St.put]at hy;rw[WH]at hy;split at hy
  .rename_i e;subst e;injection hy with hy;subst hy;exact⟨v,hv,hx⟩
  .exact h.env j y hy,h.h,h.gx⟩
theorem CellsRel.set{cs:List Cell}{vs:List Value}(h:CellsRel G ν nx cs vs){off:Nat}{c:Cell}(hc:∀v,vs[off]?=some v->CellRel G ν nx c v):CellsRel G ν nx (cs.set off c) vs:=by
 refine⟨by simp[h.1],λj d v hd hv=>?_⟩;rw[List.getElem?_set]at hd;split at hd
 .rename_i e;subst e;split at hd
  .rename_i hlt;injection hd with hd;subst hd;exact⟨hc v hv,(h.2 off cs[off] v (Xq hlt) hv).2⟩
  .cases hd
 .exact h.2 j d v hd hv
theorem HRel.mk_box(h:HRel w0 F G ν objs nx w){id:Nat}{cs cs':List Cell}(ho:look objs id=some (.box cs))(hl:cs'.length=cs.length)
  (hc:∀vs,CellsRel G ν nx cs vs->CellsRel G ν nx cs' vs):HRel w0 F G ν ((id,.box cs')::objs) nx w:=by
 obtain⟨φ,h⟩:=h;have az:Live objs id:=⟨_,ho,by simp⟩;obtain⟨b,vs,h1,h2,h3,h4,h5⟩:WcG G ν nx w id (φ id) (.box cs):=h.ob _ _ ho;exact⟨_,h.put (ν':=ν) (m:=[]) (λ_ _=>rfl) (Xn _) (h.lt id az) (WLe.refl _ w) (λb o hh=>.inl ⟨id,.inl rfl,az,hh⟩) (λ_=>⟨b,vs,h1,by rw[hl];exact h2,h3,hc _ h4,by rw[hl];exact h5⟩)⟩
theorem HRel.empt(h:HRel w0 F G ν objs nx w){id:Nat}{e e':Ty}(ho:look objs id=some (.arr e' []))(hs:e.size=e'.size):HRel w0 F G ν ((id,.arr e [])::objs) nx w:=by
 obtain⟨φ,h⟩:=h;have az:Live objs id:=⟨_,ho,by simp⟩;have au:WcG G ν nx w id (φ id) (.arr e' []):=h.ob _ _ ho;have au:OwnL w (TyRel G w e') e'.size (ν id) [] (φ id):=au;refine⟨_,h.put (ν':=ν) (m:=[]) (λ_ _=>rfl) (Xn _) (h.lt id az) (WLe.refl _ w) (λb o hh=>.inl ⟨id,.inl rfl,az,hh⟩) (λ_=>?_)⟩;show OwnL w (TyRel G w e) e.size (ν id) [] (φ id);rw[hs];unfold OwnL at*;refine⟨au.1,au.2.1,?_⟩;have h3:=au.2.2;cases hb:(ν id).blk with
 |none=>rfl
 |some b=>
  rw[hb]at h3;obtain⟨a1,a2,a3,cs,ps,a4,a5,a6,a7⟩:=h3;exact⟨a1,a2,a3,cs,ps,by simpa [EncP]using a4,a5,a6,a7⟩
theorem HRel.adopt(h:HRel w0 F G ν objs nx w)(e:Ty):HRel w0 F G (upd ν nx ⟨none,0,0,0,e.size⟩) ((nx,.arr e [])::objs) (nx+1) w:=by
 obtain⟨φ,h⟩:=h;refine⟨_,h.put (m:=[]) (S:=λ_ _=>False) (Wfw ν nx _) (Xdd _) (Xbq _) (WLe.refl _ w) (λb o hh=>hh.elim) (λ_=>?_)⟩;show OwnL _ _ _ (upd ν nx ⟨none,0,0,0,e.size⟩ nx) _ _;rw[WbH];exact⟨rfl,rfl,rfl⟩
theorem Wj1(e:Ty):CellRel G (upd ν nx ⟨none,0,0,0,e.size⟩) (nx+1) (.own nx) (.slice none 0 0):=
 ⟨Xbq _,by rw[WbH];rfl⟩
theorem HRel.solo(h:HRel w0 F G ν objs nx w){id lo hi:Nat}{e:Ty}{xs:List e.den}(ho:look objs id=some (.arr e xs))(h1:lo<=hi)(h2:hi<=(ν id).len):
  HRel w0 F G (upd ν nx ((ν id).part lo hi)) ((nx,.arr e ((xs.take hi).drop lo))::(id,.dead)::objs) (nx+1) w:=by
 obtain⟨φ,h⟩:=h;have az:Live objs id:=⟨_,ho,by simp⟩;have hown:OwnL w (TyRel G w e) e.size (ν id) xs (φ id):=h.ob _ _ ho;refine⟨_,h.put (m:=[id]) (S:=φ id) (Wfw ν nx _) (Xdd _) (Xbq _) (WLe.refl _ w) (λb o hh=>.inl ⟨id,.inr (by simp),az,hh⟩) (λ_=>?_)⟩;show OwnL _ _ _ (upd ν nx ((ν id).part lo hi) nx) _ _;rw[WbH];exact Wm9 hown h1 h2
theorem Wm8{id lo hi:Nat}:CellRel G (upd ν nx ((ν id).part lo hi)) (nx+1) (.own nx) ((ν id).vhdr lo hi):=
 ⟨Xbq _,by rw[WbH,Wku]⟩
theorem WoG(h:Rel w0 F nt G0 G ν st a w){p:Nat}(hg:WnY st p=some af):Rel w0 F nt G0 G ν af a w:=by
 unfold WnY at hg;split at hg
 .rename_i r _;split at hg
  .rename_i e xs i p' cs aS ge;split at hg
   .rename_i d m hf;split at hg
    .rename_i bo;injection hg with hg;subst hg;simp only[Xi]at bo;obtain⟨hp,aP⟩:=bo;have hp:=Xcl hp;subst hp;have aP:=(Wdb _).1 aP;obtain⟨n1,n2⟩:=Xai.1 aP;obtain⟨n3,n4⟩:=Xai.1 n2;obtain⟨φ,hφ⟩:=h.h;have az:Live st.objs r:=⟨_,aS,by simp⟩;have eD:Live st.objs p:=⟨_,ge,by simp⟩;obtain⟨lX,hole⟩:p<st.nx/\WhM w (TyRel G w e) e.size (ν r) (ν p) xs i (φ r):=hφ.ob _ _ aS;obtain⟨b,us,hb,hrow,hmem,bB,eO⟩:WcG G ν st.nx w p (φ p) (.box cs):=hφ.ob _ _ ge;obtain⟨ns,t1,t2,t3,t4,_⟩:=Wak (G':=G) hφ (λ_ _ _ hh=>hh) e cs us d m [] bB (λi hi=>by simp at hi) n4 hf;have cI:=WF _ _ _ _ t1;rw[←bB.1,cI]at eO;have hne:r≠p:=λe=>n1 (by rw[e];exact Xh ..);refine h.on (λ_ _ _ hh=>hh) (λ_ _=>rfl) (Xn _) ⟨_,hφ.put (ν':=ν) (S:=λb o=>φ r b o\/FromL φ st.objs (p::m) b o) (λ_ _=>rfl) (Xn _) (hφ.lt r az) (WLe.refl _ w) (λb o hh=>?_) (λ_=>?_)⟩ h.gx
     .rcases hh with hh|⟨j,hj,h1,h2⟩
      .exact .inl ⟨r,.inl rfl,az,hh⟩
      .exact .inl ⟨j,.inr hj,h1,h2⟩
     .refine Wpp hole t1 hb hmem eO t2 t3 ?_ ?_ ?_ (λb o hh=>.inl hh) (λb o hh=>.inr ⟨p,Xh ..,eD,hh⟩) (λb o hh=>.inr (FromL.mono (λi hi=>Xe _ hi) b o hh))
      .exactλb o h1 h2=>hne (hφ.inj r p b o az eD h1 h2)
      .exactλb o h1 ⟨j,hj,h2,h3⟩=>by
        have:=hφ.inj r j b o az h2 h1 h3;subst this;exact n1 (Xe _ hj)
      .exactλb o h1 ⟨j,hj,h2,h3⟩=>by
        have:=hφ.inj p j b o eD h2 h1 h3;subst this;exact n3 hj
    .cases hg
   .cases hg
  .cases hg
 .cases hg
theorem WjY(h:Rel w0 F nt G0 G ν st a w){r i:Nat}{e:Ty}{xs:List e.den}(aS:look st.objs r=some (.arr e xs))(hi:i<xs.length)(hg:Wl1 st r i=some af):
  ∃ν' b,Rel w0 F nt G0 G ν' af a w/\st.nx<af.nx/\(ν r).blk=some b/\(ν' st.nx)=Wcb b ((ν r).off+i*(ν r).esz)/\af.env=st.env:=by
 unfold Wl1 at hg;rw[aS]at hg;simp only[Option.some.injEq]at hg;subst hg;obtain⟨φ,hφ⟩:=h.h;have az:Live st.objs r:=⟨_,aS,by simp⟩;have hown:OwnL w (TyRel G w e) e.size (ν r) xs (φ r):=hφ.ob _ _ aS;obtain⟨g1,g2,g3⟩:=hown;have vq:=hφ.lt r az;cases hb:(ν r).blk with
 |none=>simp only[hb]at g3;rw[g3]at hi;simp at hi
 |some b=>
  simp only[hb]at g3;obtain⟨g4,g5,g6,cs,ps,g7,g8,g9,ue⟩:=g3;obtain⟨c1,c,c2,p1,pc,p2,k1,k2,k3,k4,k5⟩:=Wn0 g7 e.dflt hi;have l1:=Wba (λx c q hx=>WF e x c q hx) _ _ _ k3;rw[Xba,Xca (by omega)]at l1;have lc:=WF _ _ _ _ k4;have lo:=W9 _ _ _ _ k4;have e1:(i+1)*e.size=i*e.size+e.size:=Xbv i e.size;have e2:((ν r).cap-(i+1))*e.size+(i+1)*e.size=(ν r).cap*e.size:=by rw[←Xcs];congr 1;omega
  have rY:=WaZ e (xs.getD i e.dflt) (st.nx+1);have cI:=Wcj e (xs.getD i e.dflt) (st.nx+1);rw[k1]at g8;have m1:Mem w b (ν r).off c1:=g8.left;have m2:Mem w b ((ν r).off+i*e.size) c:=(g8.right l1).left;have m3:Mem w b ((ν r).off+(i+1)*e.size) c2:=by
   have:=(g8.right l1).right lc;rw[Xay,←e1]at this;exact this
  obtain⟨q1,q2⟩:=Xy.1 g9;have gD:=ue _ (Xh ..);have nc:∀p∈p1++(pc++p2),CS.le p.fp (φ r):=λp hp=>ue _ (Xe _ (Xap (by rw[k2];exact hp)));have qO:∀p∈p1++(pc++p2),CS.disj (rng b (ν r).off ((ν r).cap*e.size)) p.fp:=λp hp=>q1 _ (Xap (by rw[k2];exact hp));rw[k2,Xu,Xu]at q2;obtain⟨s1,s2,s3⟩:=Xah.1 q2;obtain⟨s4,s5,s6⟩:=Xah.1 s2;have rA:CS.le (rng b (ν r).off (i*e.size)) (rng b (ν r).off ((ν r).cap*e.size)):=λb o ⟨x0,x1,x2⟩=>⟨x0,by omega,by omega⟩;have rB:CS.le (rng b ((ν r).off+i*e.size) e.size) (rng b (ν r).off ((ν r).cap*e.size)):=λb o ⟨x0,x1,x2⟩=>⟨x0,by omega,by omega⟩;have rC:CS.le (rng b ((ν r).off+(i+1)*e.size) (((ν r).cap-(i+1))*e.size)) (rng b (ν r).off ((ν r).cap*e.size)):=λb o ⟨x0,x1,x2⟩=>⟨x0,by omega,by omega⟩;obtain⟨SR,hSR⟩:∃SR:CS,SR= λb' o=>rng b (ν r).off (i*e.size) b' o\/rng b ((ν r).off+(i+1)*e.size) (((ν r).cap-(i+1))*e.size) b' o\/∃p∈p1++p2,p.fp b' o:=⟨_,rfl⟩;have hSRφ:CS.le SR (φ r):=λb o hh=>by
   rw[hSR]at hh;rcases hh with hh|hh|⟨p,hp,hh⟩
   .exact gD b o (rA b o hh)
   .exact gD b o (rC b o hh)
   .refine nc p ?_ b o hh;rcases Xm.1 hp with hp|hp
    .exact Xk _ hp
    .exact Xg _ (Xg _ hp)
  obtain⟨ν',hν'⟩:∃ν':Nat->Nu,ν'= λj=>if j<st.nx then ν j else if j=st.nx then Wcb b ((ν r).off+i*e.size)else((nus pc)[j-(st.nx+1)]?).getD ⟨none,0,0,0,0⟩:=⟨_,rfl⟩;obtain⟨φ',hφ'⟩:∃φ':Nat->CS,φ'= λj=>if j=r then SR else if j<st.nx then φ j else if j=st.nx then rng b ((ν r).off+i*e.size) e.size else((fps pc)[j-(st.nx+1)]?).getD (λ_ _=>False):=⟨_,rfl⟩;have hνold:WsS st.nx ν ν':=λj hj=>by rw[hν'];simp[hj]
  have hνp:ν' st.nx=Wcb b ((ν r).off+i*e.size):=by rw[hν'];simp
  have hφr:φ' r=SR:=by rw[hφ'];simp
  have hφp:φ' st.nx=rng b ((ν r).off+i*e.size) e.size:=by rw[hφ'];simp;omega
  have hφold:∀j,j<st.nx->j≠r->φ' j=φ j:=λj hj hn=>by rw[hφ'];simp[hj,hn]
  have hAt:At ν' φ' (st.nx+1) pc:=λj q hj=>by
   have x1:(nus pc)[j]?=some q.nu:=by unfold nus;rw[Xan,hj];rfl
   have x2:(fps pc)[j]?=some q.fp:=by unfold fps;rw[Xan,hj];rfl
   rw[hν',hφ'];constructor
   .show(if st.nx+1+j<st.nx then _ else if st.nx+1+j=st.nx then _ else _)=_;rw[Wa (by omega),Wa (by omega),Xcc,x1];rfl
   .show(if st.nx+1+j=r then _ else if st.nx+1+j<st.nx then _ else if st.nx+1+j=st.nx then _ else _)=_;rw[Wa (by omega),Wa (by omega),Wa (by omega),Xcc,x2];rfl
  obtain⟨uc,uo⟩:=WaA (ν:=ν') (φ:=φ') e (xs.getD i e.dflt) (st.nx+1) c pc k4 hAt;have il:∀id ob,look ((r,Ob.hole e xs i st.nx)::(st.nx,Ob.box (unfold e (xs.getD i e.dflt) (st.nx+1)).1)::((unfold e (xs.getD i e.dflt) (st.nx+1)).2.1++st.objs)) id=some ob->ob≠ .dead->
    (id=r/\ob= .hole e xs i st.nx)\/(id=st.nx/\ob= .box (unfold e (xs.getD i e.dflt) (st.nx+1)).1)\/(st.nx+1<=id/\id<st.nx+1+e.owns/\WqP G ν' φ' w id ob)\/(id≠r/\id<st.nx/\look st.objs id=some ob):=λid ob hl hd=>by
   rw[WH]at hl;split at hl
   .rename_i x;injection hl with hl;exact .inl ⟨x.symm,hl.symm⟩
   .rename_i ug;rw[WH]at hl;split at hl
    .rename_i x;injection hl with hl;exact .inr (.inl ⟨x.symm,hl.symm⟩)
    .rcases WP hl with hl|hl
     .obtain⟨x1,x2,x3⟩:=uo id ob hl;exact .inr (.inr (.inl ⟨x1,x2,x3⟩))
     .exact .inr (.inr (.inr ⟨λx=>ug x.symm,hφ.lt id ⟨ob,hl,hd⟩,hl⟩))
  have fA:∀id b' o,Live ((r,Ob.hole e xs i st.nx)::(st.nx,Ob.box (unfold e (xs.getD i e.dflt) (st.nx+1)).1)::((unfold e (xs.getD i e.dflt) (st.nx+1)).2.1++st.objs)) id->φ' id b' o->
    (id=r/\SR b' o)\/(id=st.nx/\rng b ((ν r).off+i*e.size) e.size b' o)\/(∃(j:Nat) (q:Pc),id=st.nx+1+j/\pc[j]?=some q/\q.fp b' o)\/(id≠r/\id<st.nx/\Live st.objs id/\φ id b' o):=λid b' o ⟨ob,hl,hd⟩ hp=>by
   rcases il id ob hl hd with⟨rfl,_⟩|⟨rfl,_⟩|⟨x1,x2,_⟩|⟨x1,x2,x3⟩
   .rw[hφr]at hp;exact .inl ⟨rfl,hp⟩
   .rw[hφp]at hp;exact .inr (.inl ⟨rfl,hp⟩)
   .right;right;left;have hlt:id-(st.nx+1)<pc.length:=by omega
    refine⟨id-(st.nx+1),pc[id-(st.nx+1)],by omega,Xq hlt,?_⟩;have:=(hAt (id-(st.nx+1)) _ (Xq hlt)).2;rw[show st.nx+1+(id-(st.nx+1))=id by omega]at this;rw[this]at hp;exact hp
   .rw[hφold id x2 x1]at hp;exact .inr (.inr (.inr ⟨x1,x2,⟨ob,x3,hd⟩,hp⟩))
  have hq:∀(j:Nat) (q:Pc),pc[j]?=some q->q∈p1++(pc++p2):=λj q hj=>Xg _ (Xk _ (Xaw hj));have dT:∀id b' o,(id=r/\SR b' o)\/(id=st.nx/\rng b ((ν r).off+i*e.size) e.size b' o)\/(∃(j:Nat) (q:Pc),id=st.nx+1+j/\pc[j]?=some q/\q.fp b' o)->φ r b' o:=λid b' o hh=>by
   rcases hh with⟨_,hh⟩|⟨_,hh⟩|⟨j,q,_,hj,hh⟩
   .exact hSRφ b' o hh
   .exact gD b' o (rB b' o hh)
   .exact nc q (hq j q hj) b' o hh
  have hH:HR w0 F G ν' φ' ((r,Ob.hole e xs i st.nx)::(st.nx,Ob.box (unfold e (xs.getD i e.dflt) (st.nx+1)).1)::((unfold e (xs.getD i e.dflt) (st.nx+1)).2.1++st.objs)) (st.nx+1+e.owns) w:=by
   refine hφ.step (WLe.refl _ w) (λid ob hl hd=>?_) (λid ⟨ob,hl,hd⟩=>?_) (λid b' o gt hp=>?_) (λid b' o gt hp=>?_) (λid bK b' o hl bS hp dv=>?_)
   .rcases il id ob hl hd with⟨rfl,rfl⟩|⟨rfl,rfl⟩|⟨x1,x2,e',ur,rfl,x3⟩|⟨x1,x2,x3⟩
    .refine⟨by omega,?_⟩;rw[hφr,hνold id vq,hνp];refine⟨g1,g2,hi,b,hb,rfl,rfl,g4,g5,g6,c1,c2,p1,p2,k3,k5,m1,m3,?_,λs hs b' o hh=>?_⟩
     .refine Xy.2 ⟨λs hs=>?_,Xy.2 ⟨λs hs=>?_,?_⟩⟩
      .rcases Xr.1 hs with rfl|hs
       .exact WtF (by omega)
       .obtain⟨p,hp,rfl⟩:=Xw.1 hs;refine(qO p ?_).mono rA (λ_ _ hh=>hh);rcases Xm.1 hp with hp|hp
        .exact Xk _ hp
        .exact Xg _ (Xg _ hp)
      .obtain⟨p,hp,rfl⟩:=Xw.1 hs;refine(qO p ?_).mono rC (λ_ _ hh=>hh);rcases Xm.1 hp with hp|hp
       .exact Xk _ hp
       .exact Xg _ (Xg _ hp)
      .rw[Xu];exact Xah.2 ⟨s1,s5,λs hs t ht=>s3 s hs t (Xg _ ht)⟩
     .rw[hSR];rcases Xr.1 hs with rfl|hs
      .exact .inl hh
      .rcases Xr.1 hs with rfl|hs
       .exact .inr (.inl hh)
       .obtain⟨p,hp,rfl⟩:=Xw.1 hs;exact .inr (.inr ⟨p,hp,hh⟩)
    .refine⟨b,c,by rw[hνp];rfl,?_,by rw[hνp];exact m2,uc _ (Xn _),?_⟩
     .rw[hνp,cI];obtain⟨row,TT,y1,y2⟩:=g6;exact⟨row,TT,y1,by show(ν r).off+i*e.size+e.size<=row.size;omega⟩
     .rw[hνp,cI,hφp];exactλ_ _ hh=>hh
    .exact x3
    .rw[hφold id x2 x1];exact WdF (λ_ _ _ hh=>hh) (Same.refl _ w) (λ_ _ hh=>hh) hνold (by omega) x2 ob (hφ.ob id ob x3)
   .rcases il id ob hl hd with⟨rfl,_⟩|⟨rfl,_⟩|⟨_,x2,_⟩|⟨_,x2,_⟩<;>omega
   .rcases fA id b' o gt hp with hh|hh|hh|⟨_,_,x3,x4⟩
    .exact .inl ⟨r,az,dT id b' o (.inl hh)⟩
    .exact .inl ⟨r,az,dT id b' o (.inr (.inl hh))⟩
    .exact .inl ⟨r,az,dT id b' o (.inr (.inr hh))⟩
    .exact .inl ⟨id,x3,x4⟩
   .rcases fA id b' o gt hp with hh|hh|hh|⟨_,_,x3,x4⟩
    .exact hφ.bl r b' o az (dT id b' o (.inl hh))
    .exact hφ.bl r b' o az (dT id b' o (.inr (.inl hh)))
    .exact hφ.bl r b' o az (dT id b' o (.inr (.inr hh)))
    .exact hφ.bl id b' o x3 x4
   .have out:∀bK,bK≠r->Live st.objs bK->φ bK b' o->φ r b' o->False:=λbK y1 y2 y3 y4=>y1 (hφ.inj bK r b' o y2 az y3 y4);have dSP:SR b' o->∀s,(s=rng b ((ν r).off+i*e.size) e.size\/∃q∈pc,s=q.fp)->s b' o->False:=λy1 s y2 y3=>by
     rw[hSR]at y1;rcases y2 with rfl|⟨q,mf,rfl⟩
     .rcases y1 with y1|y1|⟨p,hp,y1⟩
      .obtain⟨z0,z1,z2⟩:=y1;obtain⟨z3,z4,z5⟩:=y3;omega
      .obtain⟨z0,z1,z2⟩:=y1;obtain⟨z3,z4,z5⟩:=y3;omega
      .refine qO p ?_ b' o (rB b' o y3) y1;rcases Xm.1 hp with hp|hp
       .exact Xk _ hp
       .exact Xg _ (Xg _ hp)
     .have rZ:q∈p1++(pc++p2):=Xg _ (Xk _ mf);rcases y1 with y1|y1|⟨p,hp,y1⟩
      .exact qO q rZ b' o (rA b' o y1) y3
      .exact qO q rZ b' o (rC b' o y1) y3
      .rcases Xm.1 hp with hp|hp
       .exact s3 _ (Xap hp) _ (Xk _ (Xap mf)) b' o y1 y3
       .exact s6 _ (Xap mf) _ (Xap hp) b' o y3 y1
    have dPQ:∀(j:Nat) (q:Pc),pc[j]?=some q->rng b ((ν r).off+i*e.size) e.size b' o->q.fp b' o->False:=λj q hj y1 y2=>qO q (hq j q hj) b' o (rB b' o y1) y2;rcases fA id b' o hl hp with hh|hh|hh|⟨x1,x2,x3,x4⟩<;>rcases fA bK b' o bS dv with fg|fg|fg|⟨vr,x2',ut,uu⟩
    .rw[hh.1,fg.1]
    .exact(dSP hh.2 _ (.inl rfl) fg.2).elim
    .obtain⟨j,q,_,hj,y⟩:=fg;exact(dSP hh.2 _ (.inr ⟨q,Xaw hj,rfl⟩) y).elim
    .exact(out bK vr ut uu (dT id b' o (.inl hh))).elim
    .exact(dSP fg.2 _ (.inl rfl) hh.2).elim
    .rw[hh.1,fg.1]
    .obtain⟨j,q,_,hj,y⟩:=fg;exact(dPQ j q hj hh.2 y).elim
    .exact(out bK vr ut uu (dT id b' o (.inr (.inl hh)))).elim
    .obtain⟨j,q,_,hj,y⟩:=hh;exact(dSP fg.2 _ (.inr ⟨q,Xaw hj,rfl⟩) y).elim
    .obtain⟨j,q,_,hj,y⟩:=hh;exact(dPQ j q hj fg.2 y).elim
    .obtain⟨j,q,bz,hj,y⟩:=hh;obtain⟨j',q',vt,hj',y'⟩:=fg;have x1:(fps pc)[j]?=some q.fp:=by unfold fps;rw[Xan,hj];rfl
     have x2:(fps pc)[j']?=some q'.fp:=by unfold fps;rw[Xan,hj'];rfl
     have:=Wlc (l:=fps pc) s4 x1 x2 y y';rw[bz,vt,this]
    .exact(out bK vr ut uu (dT id b' o (.inr (.inr hh)))).elim
    .exact(out id x1 x3 x4 (dT bK b' o (.inl fg))).elim
    .exact(out id x1 x3 x4 (dT bK b' o (.inr (.inl fg)))).elim
    .exact(out id x1 x3 x4 (dT bK b' o (.inr (.inr fg)))).elim
    .exact hφ.inj id bK b' o x3 ut x4 uu
  refine⟨ν',b,?_,?_,rfl,by rw[hνp,g2],rfl⟩
  .have:=h.on (λ_ _ _ hh=>hh) hνold (by omega) ⟨φ',hH⟩ h.gx;rw[rY];exact this
  .show st.nx<(unfold e (xs.getD i e.dflt) (st.nx+1)).2.2;rw[rY];omega
end
end Go.Sx
namespace Go.Sx
set_option linter.unusedVariables false
set_option linter.unusedSimpArgs false
theorem Wdq:∀(l:List Nat) (i j:Nat),Wrz i l=some j->l[j]?=some i
 | [],i,j,h=>by cases h
 |k::l,i,j,h=>by
  simp only[Wrz]at h;split at h
  .rename_i hb;injection h with h;subst h;have:i=k:=by simpa using hb
   rw[this];rfl
  .cases hp:Wrz i l with
   |none=>simp[hp]at h
   |some n=>
    simp[hp]at h;subst h;exact Wdq l i n hp
theorem WjR{m:List Nat}:∀(l r:List Nat),Wmb m l=some r->r.length=l.length/\∀(q j:Nat),r[q]?=some j->∃i,l[q]?=some i/\m[j]?=some i
 | [],r,h=>by simp[Wmb]at h;subst h;exact⟨rfl,λq j hq=>by simp at hq⟩
 |i::l,r,h=>by
  simp only[Wmb]at h;split at h
  .rename_i j r' h1 h2;injection h with h;subst h;obtain⟨h3,h4⟩:=WjR l r' h2;refine⟨by simp[h3],λq j' hq=>?_⟩;cases q with
   |zero=>simp at hq;subst hq;exact⟨i,rfl,Wdq m i j h1⟩
   |succ q=>exact h4 q j' (by simpa using hq)
  .cases h
theorem Wcg:∀(n:Nat) (todo acc:List Nat) (objs:Waj),acc.Nodup->(WkU n todo acc objs).Nodup
 |0,_,_,_,h=>h
 |n+1,[],acc,objs,h=>h
 |n+1,i::l,acc,objs,h=>by
  simp only[WkU];split
  .exact Wcg n l acc objs h
  .rename_i hi;have vu:i∉acc:=λhm=>hi ((Wa1 i acc).2 hm);have h2:(acc++ [i]).Nodup:=by
    rw[Xaj];refine⟨h,by simp,λx hx y hy=>?_⟩;simp at hy;subst hy
    exactλe=>vu (e▸hx)
   split
   .exact Wcg n _ _ objs h2
   .exact Wcg n _ _ objs h2
   .exact Wcg n _ _ objs h2
   .exact Wcg n _ _ objs h
theorem Whl{m:List Nat}{objs:Waj}:∀(l:List Nat) (j0:Nat) (j:Nat) (ob:Ob),look (Weg m objs j0 l) j=some ob->∃i cA,j0<=j/\l[j-j0]?=some i/\look objs i=some cA/\ob=Wrm m cA
 | [],j0,j,ob,h=>by cases h
 |i::l,j0,j,ob,h=>by
  simp only[Weg]at h;have step:look (Weg m objs (j0+1) l) j=some ob->∃i' cA,j0<=j/\(i::l)[j-j0]?=some i'/\look objs i'=some cA/\ob=Wrm m cA:=λh=>by
   obtain⟨i',cA,h1,h2,h3,h4⟩:=Whl l (j0+1) j ob h;refine⟨i',cA,by omega,?_,h3,h4⟩;rw[show j-j0=(j-(j0+1))+1 by omega];simpa using h2
  split at h
  .rename_i cA ho;rw[WH]at h;split at h
   .rename_i e;subst e;injection h with h;exact⟨i,cA,Xn _,by simp,ho,h.symm⟩
   .exact step h
  .exact step h
theorem WiM{env:List (Nat×AVal)}{f:AVal->AVal}:∀(l:List Nat) (i:Nat) (x:AVal),look ((WfV env l).map λp=>(p.1,f p.2)) i=some x->∃y,look env i=some y/\x=f y
 | [],i,x,h=>by cases h
 |j::l,i,x,h=>by
  simp only[WfV]at h;split at h
  .rename_i y hy;simp only[Xak]at h;rw[WH]at h;split at h
   .rename_i e;subst e;injection h with h;exact⟨y,hy,h.symm⟩
   .exact WiM l i x h
  .exact WiM l i x h
section
variable{w0:World}{F:CS}{nt:Slots}{G0 G G':GH}{ν ν':Nat->Nu}{objs objs':Waj}{nx ai:Nat}{st af:St}{a:Act}{w w':World}{P:Program}{T:Tab}{Γ:Ctx}
structure Ren(m:List Nat)(ν ν':Nat->Nu)(ai:Nat):Prop where
 nx:∀(i j:Nat),m[j]?=some i->j<ai
 nu:∀(i j:Nat),m[j]?=some i->ν' j=ν i
theorem CellRel.ren{m:List Nat}(hm:Ren m ν ν' ai):∀(c:Cell) (v:Value),CellRel G ν nx c v->CellRel G ν' ai (WcX m c) v
 | .val t d,v,h=>h
 | .nils,v,h=>h
 | .rptr t d off,v,h=>h
 | .junk,v,h=>h
 | .own id,v,h=>by
  simp only[WcX];split
  .rename_i j hj;have hj:=Wdq _ _ _ hj;exact⟨hm.nx _ _ hj,by rw[hm.nu _ _ hj];exact h.2⟩
  .trivial
 | .vw id lo hi,v,h=>by
  simp only[WcX];split
  .rename_i j hj;have hj:=Wdq _ _ _ hj;exact⟨hm.nx _ _ hj,by rw[hm.nu _ _ hj];exact h.2⟩
  .trivial
 | .aptr id,v,h=>by
  simp only[WcX];split
  .rename_i j hj;have hj:=Wdq _ _ _ hj;exact⟨hm.nx _ _ hj,by rw[hm.nu _ _ hj];exact h.2⟩
  .trivial
 | .ptr id off,v,h=>by
  simp only[WcX];split
  .rename_i j hj;have hj:=Wdq _ _ _ hj;exact⟨hm.nx _ _ hj,by rw[hm.nu _ _ hj];exact h.2⟩
  .trivial
 | .eptr id i off,v,h=>by
  simp only[WcX];split
  .rename_i j hj;have hj:=Wdq _ _ _ hj;exact⟨hm.nx _ _ hj,by rw[hm.nu _ _ hj];exact h.2⟩
  .trivial
 | .clos f caps,v,h=>by
  simp only[WcX];split
  .rename_i js hj;obtain⟨h1,h2⟩:=WjR _ _ hj;obtain⟨vs,h3,h4,h5⟩:=h;refine⟨vs,h3,h4.trans h1.symm,λq id u hq hu=>?_⟩;obtain⟨i,h6,h7⟩:=h2 q id hq;obtain⟨h8,h9,cP⟩:=h5 q i u h6 hu;exact⟨hm.nx _ _ h7,h9,by rw[hm.nu _ _ h7];exact cP⟩
  .trivial
theorem CellsRel.ren{m:List Nat}(hm:Ren m ν ν' ai){cs:List Cell}{vs:List Value}(h:CellsRel G ν nx cs vs):CellsRel G ν' ai (cs.map (WcX m)) vs:=by
 refine⟨by simp[h.1],λj c v hc hv=>?_⟩;simp only[Xan]at hc;cases hd:cs[j]? with
 |none=>simp[hd]at hc
 |some d=>
  simp[hd]at hc;subst hc;obtain⟨h1,h2⟩:=h.2 j d v hd hv;exact⟨h1.ren hm,h2⟩
theorem AvRel.ren{m:List Nat}(hm:Ren m ν ν' ai):∀(x:AV) (v:Value),AvRel G ν nx x v->AvRel G ν' ai (Wvy m x) v
 | .one c,v,h=>⟨h.1.ren hm,h.2⟩
 | .agg cs,v,⟨vs,h1,h2⟩=>⟨vs,h1,h2.ren hm⟩
theorem AValRel.ren{m:List Nat}(hm:Ren m ν ν' ai):∀(x:AVal) (v:Value),AValRel G ν nx x v->AValRel G ν' ai (WnO m x) v
 | .s x,v,h=>AvRel.ren hm x v h
 | .tup xs,v,⟨vs,h1,h2,h3⟩=>⟨vs,h1,by simp[h2],λj x u hx hu=>by
  simp only[Xan]at hx;cases hd:xs[j]? with
  |none=>simp[hd]at hx
  |some d=>
   simp[hd]at hx;subst hx;exact AvRel.ren hm d u (h3 j d u hd hu)⟩
theorem Wso(slots:List Nat)(h:Rel w0 F nt G0 G ν st a w):∃ν',Rel w0 F nt G0 G ν' (canon slots st) a w:=by
 obtain⟨m,hm⟩:∃m,m=WkU 400 ((WfV st.env slots).flatMap λp=>Wbb p.2) [] st.objs:=⟨_,rfl⟩;have aP:m.Nodup:=by rw[hm];exact Wcg _ _ _ _ (by simp)
 have ol:canon slots st={env:=(WfV st.env slots).map λp=>(p.1,WnO m p.2),objs:=Weg m st.objs 0 m,nx:=m.length}:=by rw[hm];rfl
 obtain⟨ν',hν'⟩:∃ν':Nat->Nu,ν'= λj=>ν ((m[j]?).getD 0):=⟨_,rfl⟩;have lF:∀(i j:Nat),m[j]?=some i->ν' j=ν i:=λi j hj=>by rw[hν'];simp[hj]
 have r9:∀(j:Nat) (ob:Ob),look (Weg m st.objs 0 m) j=some ob->∃i cA,m[j]?=some i/\look st.objs i=some cA/\ob=Wrm m cA:=λj ob ho=>by
  obtain⟨i,cA,_,h2,h3,h4⟩:=Whl _ _ _ _ ho;exact⟨i,cA,by simpa using h2,h3,h4⟩
 have sa:Ren m ν ν' m.length:={
  nx:=λi j hj=>(Xad.1 hj).1
  nu:=lF}
 have cx:∀j,Live (Weg m st.objs 0 m) j->∃i,m[j]?=some i/\Live st.objs i:=λj ⟨ob,ho,hd⟩=>by
  obtain⟨i,cA,h1,h2,h3⟩:=r9 j ob ho;refine⟨i,h1,cA,h2,λcQ=>hd ?_⟩;rw[h3,cQ];rfl
 rw[ol];refine⟨ν',h.defers,h.ntm,h.par,λi x hx=>?_,?_,h.gx⟩
 .obtain⟨y,h1,rfl⟩:=WiM _ _ _ hx;obtain⟨v,h2,h3⟩:=h.env i y h1;exact⟨v,h2,AValRel.ren sa y v h3⟩
 .obtain⟨φ,hφ⟩:=h.h;refine⟨λj=>φ ((m[j]?).getD 0),?_⟩;have nh:∀(i j:Nat),m[j]?=some i->φ ((m[j]?).getD 0)=φ i:=λi j hj=>by simp[hj]
  exact{
   g:=hφ.g
   ob:=λj ob ho=>by
    obtain⟨i,cA,h1,h2,rfl⟩:=r9 j ob ho;have:=hφ.ob i cA h2;cases cA with
    |dead=>trivial
    |arr e xs=>
     show OwnL w (TyRel G w e) e.size (ν' j) xs (φ ((m[j]?).getD 0));rw[lF i j h1,nh i j h1];exact this
    |hole e xs k p=>
     simp only[Wrm];split
     .rename_i q hq;have hq:=Wdq _ _ _ hq;obtain⟨g1,g2⟩:=this;show q<m.length/\WhM w (TyRel G w e) e.size (ν' j) (ν' q) xs k (φ ((m[j]?).getD 0));rw[lF i j h1,nh i j h1,lF p q hq];exact⟨(Xad.1 hq).1,g2⟩
     .trivial
    |box cs=>
     obtain⟨b,vs,h4,h5,h6,h7,h8⟩:=this;refine⟨b,vs,by rw[lF i j h1];exact h4,?_,by rw[lF i j h1];exact h6,h7.ren sa,?_⟩
     .rw[lF i j h1,Xae];exact h5
     .rw[lF i j h1,nh i j h1,Xae];exact h8
   gf:=λj b o hj hp=>by
    obtain⟨i,h1,h2⟩:=cx j hj;rw[nh i j h1]at hp;exact hφ.gf i b o h2 hp
   inj:=λj j' b o hj hj' hp dv=>by
    obtain⟨i,h1,h2⟩:=cx j hj;obtain⟨i',iQ,jN⟩:=cx j' hj';rw[nh i j h1]at hp;rw[nh i' j' iQ]at dv;have:=hφ.inj i i' b o h2 jN hp dv;subst this;have hlt:=(Xad.1 h1).1;exact(List.getElem?_inj hlt aP).1 (h1.trans iQ.symm)
   own:=λj b o hj hp=>by
    obtain⟨i,h1,h2⟩:=cx j hj;rw[nh i j h1]at hp;exact hφ.own i b o h2 hp
   lt:=λj hj=>by
    obtain⟨i,h1,h2⟩:=cx j hj;exact(Xad.1 h1).1
   bl:=λj b o hj hp=>by
    obtain⟨i,h1,h2⟩:=cx j hj;rw[nh i j h1]at hp;exact hφ.bl i b o h2 hp
   le:=hφ.le}
theorem WjQ(h:Rel w0 F nt G0 G ν st a w){r:Nat}{ix:Option Nat}(hg:Wpf st r ix=some (true,af)):∃ν',Rel w0 F nt G0 G ν' af a w:=by
 unfold Wpf at hg;split at hg
 .rename_i c i lI;obtain⟨s,hs,hg⟩:=Xv.1 hg;simp only[Prod.mk.injEq]at hg;obtain⟨rfl,rfl⟩:=hg;have hlt:∃(e:Ty) (xs:List e.den),look st.objs r=some (.arr e xs)/\i<xs.length:=by
   unfold Wu0 at lI;split at lI
   .split at lI
    .rename_i e xs ho;simp only[Option.some.injEq,Prod.mk.injEq]at lI;obtain⟨h1,rfl⟩:=lI;obtain⟨h2,h3⟩:=WdN h1;exact⟨e,xs,ho,by omega⟩
    .cases lI
   .split at lI
    .rename_i e xs n ho hn;simp only[Option.some.injEq,Prod.mk.injEq]at lI;obtain⟨h1,rfl⟩:=lI;obtain⟨h2,h3⟩:=WdN h1;exact⟨e,xs,ho,by omega⟩
    .cases lI
  obtain⟨e,xs,ho,hlt⟩:=hlt;obtain⟨ν',b,h1,_⟩:=WjY h ho hlt hs;exact⟨ν',h1⟩
 .cases hg
theorem Wl2{g:Ghost}(h:Rel w0 F nt G0 G ν st a w)(hg:Wf7 g st=some (true,af)):∃G' ν',Rel w0 F nt G0 G' ν' af a w:=by
 cases g with
 |canon slots=>
  simp only[Wf7]at hg;injection hg with hg;injection hg with _ hg;subst hg;obtain⟨ν',h'⟩:=Wso slots h;exact⟨G,ν',h'⟩
 |adopt slot e=>
  simp only[Wf7]at hg;split at hg
  .rename_i hs;injection hg with hg;injection hg with _ hg;subst hg;obtain⟨v,hv,hr⟩:=h.env _ _ hs;have gS:v= .slice none 0 0:=hr.1;subst gS;have h2:=h.on (λ_ _ _ hh=>hh) (Wfw ν st.nx _) (Xdd _) (h.h.adopt e) h.gx;exact⟨G,_,h2.rebind hv ⟨Wj1 e,rfl⟩⟩
  .injection hg with hg;injection hg with _ hg;subst hg;exact⟨G,ν,h⟩
  .cases hg
 |freeze slot=>
  simp only[Wf7]at hg;split at hg
  .rename_i id hs;split at hg
   .rename_i e xs ho;injection hg with hg;injection hg with _ hg;subst hg;obtain⟨G1,h1,h2,h3,h4⟩:=h.h.freezeL h.gx [id];obtain⟨v,hv,hr⟩:=h.env _ _ hs;have gS:v=(ν id).hdr:=hr.1.2;have h5:=h.on h1 (λ_ _=>rfl) (Xn _) h2 h3;exact⟨G1,ν,h5.rebind hv ⟨⟨v,rfl,gS▸h4 id (by simp) e xs ho⟩,hr.2⟩⟩
   .cases hg
  .cases hg
 |adoptC slot off e=>
  simp only[Wf7]at hg;split at hg
  .rename_i id hs;split at hg
   .rename_i cs ho;split at hg
    .rename_i hc;injection hg with hg;injection hg with _ hg;subst hg;have hne:st.nx≠id:=λe=>by
      obtain⟨φ,hφ⟩:=h.h;have:=hφ.lt id ⟨_,ho,by simp⟩;omega
     have h2:=h.h.adopt e;have mb:look ((st.nx,Ob.arr e [])::st.objs) id=some (.box cs):=by rw[WH,Wa hne];exact ho
     have h3:=h2.mk_box mb (cs':=cs.set off (.own st.nx)) (by simp) (λvs fw=>fw.set λv hv=>by
      have:v= .slice none 0 0:=(fw.2 off _ v hc hv).1;subst this;exact Wj1 e)
     exact⟨G,_,h.on (λ_ _ _ hh=>hh) (Wfw ν st.nx _) (Xdd _) h3 h.gx⟩
    .injection hg with hg;injection hg with _ hg;subst hg;exact⟨G,ν,h⟩
    .cases hg
   .cases hg
  .cases hg
 |freezeC slot off=>
  simp only[Wf7]at hg;split at hg
  .rename_i id hs;split at hg
   .rename_i cs ho;split at hg
    .rename_i j hc;split at hg
     .rename_i e xs ni;injection hg with hg;injection hg with _ hg;subst hg;obtain⟨G1,h1,h2,h3,h4⟩:=h.h.freezeL h.gx [j];have hne:j≠id:=λe=>by subst e;rw[ho]at ni;cases ni
      have mb:look ((j,Ob.dead)::st.objs) id=some (.box cs):=by rw[WH,Wa hne];exact ho
      have h5:HRel w0 F G1 ν ((id,.box (cs.set off (.val (.slice e.ro) (WcE e xs))))::(j,.dead)::st.objs) st.nx w:=by
       refine HRel.mk_box h2 mb (by simp) (λvs fw=>fw.set λv hv=>?_);have gS:v=(ν j).hdr:=(fw.2 off _ v hc hv).1.2;exact⟨v,rfl,gS▸h4 j (by simp) e xs ni⟩
      exact⟨G1,ν,h.on h1 (λ_ _=>rfl) (Xn _) h5 h3⟩
     .cases hg
    .injection hg with hg;injection hg with _ hg;subst hg;exact⟨G,ν,h⟩
    .injection hg with hg;injection hg with _ hg;subst hg;exact⟨G,ν,h⟩
    .cases hg
   .cases hg
  .cases hg
 |nest d e=>injection hg with hg;injection hg with _ hg;subst hg;exact⟨G,ν,h⟩
 |view d=>injection hg with hg;injection hg with _ hg;subst hg;exact⟨G,ν,h⟩
 |opn d=>injection hg with hg;injection hg with _ hg;subst hg;exact⟨G,ν,h⟩
 |empt slot e=>
  simp only[Wf7]at hg;split at hg
  .split at hg
   .rename_i e' ho;split at hg
    .rename_i hc;injection hg with hg;injection hg with _ hg;subst hg;exact⟨G,ν,h.on (λ_ _ _ hh=>hh) (λ_ _=>rfl) (Xn _) (h.h.empt ho hc.1) h.gx⟩
    .cases hg
   .cases hg
  .cases hg
 |unfE slot=>
  simp only[Wf7]at hg;split at hg
  .rename_i r i hs;obtain⟨s,ct,hg⟩:=Xv.1 hg;injection hg with _ hg;subst hg;obtain⟨v,hv,hr⟩:=h.env _ _ hs;have gF:∃(e:Ty) (xs:List e.den),look st.objs r=some (.arr e xs):=by
    unfold Wl1 at ct;split at ct
    .rename_i e xs ho;exact⟨e,xs,ho⟩
    .cases ct
   obtain⟨e,xs,ho⟩:=gF;obtain⟨⟨_,hlt,b,hb,rfl⟩,_⟩:=hr;obtain⟨S,hown⟩:=h.h.obj ho;obtain⟨ν',b',h1,h2,h3,h4,h5⟩:=WjY h ho (by rw[hown.1];exact hlt) ct;rw[hb]at h3;injection h3 with h3;subst h3;refine⟨G,ν',h1.rebind hv ⟨⟨h2,b,by rw[h4];rfl,?_⟩,rfl⟩⟩;rw[h4];rfl
  .cases hg
 |unfS slot ix=>
  simp only[Wf7]at hg;split at hg
  .obtain⟨ν',h'⟩:=WjQ h hg;exact⟨G,ν',h'⟩
  .cases hg
 |unfC slot off ix=>
  simp only[Wf7]at hg;split at hg
  .split at hg
   .split at hg
    .obtain⟨ν',h'⟩:=WjQ h hg;exact⟨G,ν',h'⟩
    .cases hg
   .cases hg
  .cases hg
 |refold slot=>
  simp only[Wf7]at hg;split at hg
  .obtain⟨s,ct,hg⟩:=Xv.1 hg;injection hg with _ hg;subst hg;exact⟨G,ν,WoG h ct⟩
  .cases hg
 |solo slot=>
  simp only[Wf7]at hg;split at hg
  .rename_i id lo hi hs;split at hg
   .rename_i e xs ho;injection hg with hg;injection hg with _ hg;subst hg;obtain⟨v,hv,hr⟩:=h.env _ _ hs;obtain⟨⟨_,g1,g2,g3,rfl⟩,_⟩:=hr;have h2:=h.on (λ_ _ _ hh=>hh) (Wfw ν st.nx _) (Xdd _) (h.h.solo ho g1 g2) h.gx;exact⟨G,_,h2.rebind hv ⟨Wm8,Wpr _ _ _⟩⟩
   .cases hg
  .injection hg with hg;injection hg with _ hg;subst hg;exact⟨G,ν,h⟩
  .cases hg
 |soloC slot off=>
  simp only[Wf7]at hg;split at hg
  .rename_i id o hs;split at hg
   .rename_i cs ho;split at hg
    .rename_i j lo hi hc;split at hg
     .rename_i e xs ni;injection hg with hg;injection hg with _ hg;subst hg;have hne:j≠id:=λe=>by subst e;rw[ho]at ni;cases ni
      have vv:st.nx≠id:=λe=>by
       obtain⟨φ,hφ⟩:=h.h;have:=hφ.lt id ⟨_,ho,by simp⟩;omega
      have an:lo<=hi/\hi<=(ν j).len:=by
       obtain⟨S,b,vs,k1,k2,k3,k4,k5⟩:=h.h.obj ho;have hlt:o+off<vs.length:=by rw[k4.1];exact(Xad.1 hc).1
       obtain⟨⟨_,g1,g2,_⟩,_⟩:=k4.2 _ _ _ hc (Xq hlt);exact⟨g1,g2⟩
      have h2:=h.h.solo ni an.1 an.2;have mb:look ((st.nx,Ob.arr e ((xs.take hi).drop lo))::(j,Ob.dead)::st.objs) id=some (.box cs):=by rw[WH,Wa vv,WH,Wa hne];exact ho
      have uP:j<st.nx:=by
       obtain⟨φ,hφ⟩:=h.h;exact hφ.lt j ⟨_,ni,by simp⟩
      have h3:=h2.mk_box mb (cs':=cs.set (o+off) (.own st.nx)) (by simp) (λvs fw=>fw.set λv hv=>by
       obtain⟨_,_,_,_,xC⟩:=(fw.2 _ _ v hc hv).1;rw[Wfw ν st.nx _ j uP]at xC;rw[xC];exact Wm8)
      exact⟨G,_,h.on (λ_ _ _ hh=>hh) (Wfw ν st.nx _) (Xdd _) h3 h.gx⟩
     .cases hg
    .injection hg with hg;injection hg with _ hg;subst hg;exact⟨G,ν,h⟩
    .cases hg
   .cases hg
  .cases hg
theorem Wdz:∀(l:List Ghost) (st af:St) (G:GH) (ν:Nat->Nu),Rel w0 F nt G0 G ν st a w->Wel l st=some (true,af)->∃G' ν',Rel w0 F nt G0 G' ν' af a w
 | [],st,af,G,ν,h,hg=>by injection hg with hg;injection hg with _ hg;subst hg;exact⟨G,ν,h⟩
 |g::l,st,af,G,ν,h,hg=>by
  simp only[Wel]at hg;split at hg
  .rename_i c s zA;split at hg
   .rename_i c' s' hl;simp only[Option.some.injEq,Prod.mk.injEq,Xi]at hg;obtain⟨⟨rfl,rfl⟩,rfl⟩:=hg;obtain⟨G1,ν1,h1⟩:=Wl2 h zA;exact Wdz l s s' G1 ν1 h1 hl
   .cases hg
  .cases hg
end
end Go.Sx
namespace Go.Sx
set_option linter.unusedVariables false
set_option linter.unusedSimpArgs false
section
variable{T:Tab}{Γ:Ctx}{env zB:List (Nat×AVal)}{objs objs':Waj}{nx ai:Nat}
theorem WcR{st aj:St}:∀(l:List (Nat×Operand)),(∀p∈l,ev aj p.2=ev st p.2)->WcI aj l=WcI st l
 | [],_=>rfl
 |(i,x)::l,h=>by
  have h1:ev aj x=ev st x:=h (i,x) (Xh ..);simp only[WcI,h1,WcR l λp hp=>h p (Xe _ hp)]
theorem Wml{st aj:St}:∀(l:List Operand),(∀x∈l,ev aj x=ev st x)->evs aj l=evs st l
 | [],_=>rfl
 |x::l,h=>by simp only[evs,h x (Xh ..),Wml l λp hp=>h p (Xe _ hp)]
theorem WhC{st aj:St}:∀(l:List Operand),(∀x∈l,ev aj x=ev st x)->WgC aj l=WgC st l
 | [],_=>rfl
 |x::l,h=>by simp only[WgC,h x (Xh ..),WhC l λp hp=>h p (Xe _ hp)]
theorem Wj8{st aj:St}(x:Option Operand)(h:∀y∈x.toList,ev aj y=ev st y):WlT aj x=WlT st x:=by
 cases x with
 |none=>rfl
 |some y=>simp only[WlT,h y (by simp)]
def Wek(st aj:St)(v:AVal):Prop:=∀id∈Wbb v,look aj.objs id=look st.objs id
theorem Wow{st aj:St}{t:TypeId}{v:AVal}(h:Wek st aj v):Wht T aj t v=Wht T st t v:=by
 unfold Wht;cases v with
 |tup xs=>rfl
 |s x=>
  cases x with
  |agg cs=>rfl
  |one c=>
   cases c with
   |ptr id off=>have:=h id (by simp[Wbb,Wfs,Wbo]);simp only[this]
   |eptr id i off=>have:=h id (by simp[Wbb,Wfs,Wbo]);simp only[this]
   |_=>rfl
theorem WmK{st aj:St}{t:TypeId}{v:AVal}(h:Wek st aj v):WfK T aj t v=WfK T st t v:=by
 unfold WfK;cases v with
 |tup xs=>rfl
 |s x=>
  cases x with
  |agg cs=>rfl
  |one c=>
   cases c with
   |aptr id=>have:=h id (by simp[Wbb,Wfs,Wbo]);simp only[this]
   |_=>rfl
theorem Wnc{st:St}{t:TypeId}{id:Nat}:Wjn T st t (.s (.one (.own id)))=match look T t with
  |some ⟨_,false,.slice _⟩=>obL (look st.objs id)
  |_=>none:=by
 unfold Wjn;generalize look T t=q;rcases q with _|⟨ty,agg,shape⟩
 .rfl
 .cases ty<;>cases agg<;>cases shape<;>rfl
theorem Wou{st aj:St}{t:TypeId}{v:AVal}(h:∀id,v≠ .s (.one (.own id))):Wjn T aj t v=Wjn T st t v:=by
 unfold Wjn;generalize look T t=q;rcases q with _|⟨ty,agg,shape⟩
 .cases v<;>rfl
 .cases v with
  |tup xs=>cases ty<;>cases agg<;>cases shape<;>rfl
  |s x=>
   cases x with
   |agg cs=>cases ty<;>cases agg<;>cases shape<;>rfl
   |one c=>
    cases c with
    |own id=>exact Wg rfl (h id)
    |val t' d=>cases ty<;>cases agg<;>cases shape<;>cases t'<;>rfl
    |_=>cases ty<;>cases agg<;>cases shape<;>rfl
theorem Wu2(v:AVal):(∃id,v= .s (.one (.own id)))\/∀id,v≠ .s (.one (.own id)):=by
 rcases v with x|xs
 .rcases x with c|cs
  .cases c with
   |own id=>exact .inl ⟨id,rfl⟩
   |_=>exact .inr λid h=>by injection h with h;injection h with h;cases h
  .exact .inr λid h=>by injection h with h;cases h
 .exact .inr λid h=>by cases h
theorem WpW{st aj:St}{t:TypeId}{v:AVal}(h:Wek st aj v):Wjn T aj t v=Wjn T st t v:=by
 rcases Wu2 v with⟨id,rfl⟩|hv
 .rw[Wnc,Wnc,h id (by simp[Wbb,Wfs,Wbo])]
 .exact Wou hv
theorem WhL{st aj:St}{t:TypeId}{v:AVal}{f:Nat}(h:Wek st aj v):Wch T aj t v f=Wch T st t v f:=by
 unfold Wch;generalize WgM T t f=q;rcases q with _|⟨off,te⟩
 .cases v<;>rfl
 .cases v with
  |tup xs=>rfl
  |s x=>
   cases x with
   |agg cs=>rfl
   |one c=>
    cases c with
    |ptr id o=>
     have:=h id (by simp[Wbb,Wfs,Wbo]);show(λq:Option Ob=>match q with|some (.box _)=>some (true,AVal.s (.one (.ptr id (o+off))))|_=>none) (look aj.objs id)=(λq:Option Ob=>match q with|some (.box _)=>some (true,AVal.s (.one (.ptr id (o+off))))|_=>none) (look st.objs id);rw[this]
    |eptr id i o=>
     have:=h id (by simp[Wbb,Wfs,Wbo]);show(λq:Option Ob=>match q with|some (.arr _ _)=>some (true,AVal.s (.one (.eptr id i (o+off))))|_=>none) (look aj.objs id)=(λq:Option Ob=>match q with|some (.arr _ _)=>some (true,AVal.s (.one (.eptr id i (o+off))))|_=>none) (look st.objs id);rw[this]
    |_=>rfl
theorem WhQ{st aj:St}{t:TypeId}{v i:AVal}(h:Wek st aj v):Wcf T aj t v i=Wcf T st t v i:=by
 unfold Wcf;generalize look T t=q;generalize asI i=z;rcases q with _|⟨ty,agg,shape⟩
 .rfl
 rcases z with _|n
 .cases shape<;>rfl
 cases shape with
 |slice et=>
  show(match look T et with|some te=>_|none=>_)=(match look T et with|some te=>_|none=>_);generalize look T et=q;rcases q with _|te
  .rfl
  .show(if te.plain=true then _ else _)=(if te.plain=true then _ else _);by_cases hp:te.plain=true
   .rw[Wb hp,Wb hp];cases v with
    |tup xs=>rfl
    |s x=>
     cases x with
     |agg cs=>rfl
     |one c=>
      cases c with
      |own id=>
       have:=h id (by simp[Wbb,Wfs,Wbo]);show obI te n id (look aj.objs id)=obI te n id (look st.objs id);rw[this]
      |vw id lo hi=>
       have:=h id (by simp[Wbb,Wfs,Wbo]);show Wwv te n id lo hi (look aj.objs id)=Wwv te n id lo hi (look st.objs id);rw[this]
      |val t' d=>cases t'<;>rfl
      |_=>rfl
   .rw[Wa hp,Wa hp]
 |arr k et=>
  show(match look T et with|some te=>_|none=>_)=(match look T et with|some te=>_|none=>_);generalize look T et=q;rcases q with _|te
  .rfl
  .show(if te.plain=true then _ else _)=(if te.plain=true then _ else _);by_cases hp:te.plain=true
   .rw[Wb hp,Wb hp];cases v with
    |tup xs=>rfl
    |s x=>
     cases x with
     |agg cs=>rfl
     |one c=>
      cases c with
      |aptr id=>
       have:=h id (by simp[Wbb,Wfs,Wbo]);show Wwd te n k id (look aj.objs id)=Wwd te n k id (look st.objs id);rw[this]
      |_=>rfl
   .rw[Wa hp,Wa hp]
 |_=>rfl
theorem Wqa{st aj:St}{v:AVal}(h:Wek st aj v):Wup aj v=Wup st v:=by
 rcases Wu2 v with⟨id,rfl⟩|hv
 .exact h id (by simp[Wbb,Wfs,Wbo])
 .unfold Wup;split
  .rename_i id;exact Wg rfl (hv id)
  .rfl
theorem Woh{st aj:St}{s d:TypeId}{v:AVal}(h:Wek st aj v):WjB T aj s d v=WjB T st s d v:=by
 unfold WjB;rw[Wqa h]
theorem WqK{st aj:St}{v:AVal}(h:Wek st aj v):WqJ aj v=WqJ st v:=by
 unfold WqJ;cases v with
 |tup xs=>rfl
 |s x=>
  cases x with
  |agg cs=>rfl
  |one c=>
   cases c with
   |ptr id off=>have:=h id (by simp[Wbb,Wfs,Wbo]);simp only[this]
   |eptr id i off=>have:=h id (by simp[Wbb,Wfs,Wbo]);simp only[this]
   |aptr id=>have:=h id (by simp[Wbb,Wfs,Wbo]);simp only[this]
   |_=>rfl
theorem WqV{st aj:St}{op:BinOp}{t:TypeId}{v z:AVal}(h:Wek st aj v):Wqb T aj op t v z=Wqb T st op t v z:=by
 unfold Wqb;split
 .rename_i id;rw[h id (by simp[Wbb,Wfs,Wbo])]
 .rfl
theorem Wb8{α β:Type}{x:Option α}{f g:α->Option β}(h:∀v,x=some v->f v=g v):x.bind f=x.bind g:=by
 cases x with
 |none=>rfl
 |some v=>exact h v rfl
theorem Whv{st aj:St}(op:Op)(hm:∀t x l h m,op≠ .slice t x l h m)(he:∀x∈Wag op,ev aj x=ev st x)(hl:Wv7 op=true->∀x∈Wag op,∀v,ev st x=some v->Wek st aj v):Wam T aj op=Wam T st op:=by
 cases op with
 |move x=>simp only[Wam,he x (by simp[Wag])]
 |assign x=>simp only[Wam,he x (by simp[Wag])]
 |pick c a b=>simp only[Wam,he c (by simp[Wag]),he a (by simp[Wag]),he b (by simp[Wag])]
 |load t a=>
  simp only[Wam,he a (by simp[Wag])];exact Wb8 λv hv=>by rw[Wow (hl rfl a (by simp[Wag]) v hv),WmK (hl rfl a (by simp[Wag]) v hv)]
 |nilCheck x=>
  simp only[Wam,he x (by simp[Wag])];exact Wb8 λv hv=>WqK (hl rfl x (by simp[Wag]) v hv)
 |binOp op t x y z=>
  simp only[Wam,he x (by simp[Wag]),he y (by simp[Wag])];split
  .rename_i a b h1 h2;rw[WqV (hl rfl x (by simp[Wag]) _ h1)]
  .rfl
 |unOp op t x=>simp only[Wam,he x (by simp[Wag])]
 |convert s d x=>
  simp only[Wam,he x (by simp[Wag])];exact Wb8 λv hv=>Woh (hl rfl x (by simp[Wag]) v hv)
 |slice t x l h m=>exact Wg rfl (hm t x l h m)
 |fieldAddr s x f=>
  simp only[Wam,he x (by simp[Wag])];exact Wb8 λv hv=>WhL (hl rfl x (by simp[Wag]) v hv)
 |field t x f=>simp only[Wam,he x (by simp[Wag])]
 |indexAddr t x i=>
  simp only[Wam,he x (by simp[Wag]),he i (by simp[Wag])];split
  .rename_i a b h1 h2;exact WhQ (hl rfl x (by simp[Wag]) _ h1)
  .rfl
 |index t x i=>simp only[Wam,he x (by simp[Wag]),he i (by simp[Wag])]
 |extract t ix=>simp only[Wam,he t (by simp[Wag])]
 |makeFunc f first captured=>
  cases f with
  |func f=>simp only[Wam,WhC (st:=st) (aj:=aj) captured.toList λx hx=>he x (by simp[Wag];right;simpa using hx)]
  |_=>rfl
 |call c=>
  have hargs:∀x∈c.args.toList,ev aj x=ev st x:=λx hx=>he x (Xg _ hx);have om:∀x∈c.args.toList,∀v,ev st x=some v->Wek st aj v:=λx hx=>hl rfl x (Xg _ hx);simp only[Wam];split
  .rename_i x t _ ha _;rw[hargs x (by rw[ha];simp)];exact Wb8 λv hv=>WpW (om x (by rw[ha];simp) v hv)
  .rename_i x y _ _ _ ha _;rw[hargs x (by rw[ha];simp),hargs y (by rw[ha];simp)]
  .rename_i x y _ _ _ ha _;rw[hargs x (by rw[ha];simp),hargs y (by rw[ha];simp)]
  .rfl
 |_=>rfl
end
end Go.Sx
namespace Go.Sx
set_option linter.unusedVariables false
set_option linter.unusedSimpArgs false
abbrev Out:=AVal×Waj×Nat
def Wdc(x:AVal)(objs:Waj)(nx:Nat):Option Out:=some (x,objs,nx)
section
variable{T:Tab}{Γ:Ctx}{A:List (Nat×An)}
theorem Wbe{α β:Type}{c:Prop}[Decidable c]{x:Option α}{f:α->Option β}:(if c then x else none).bind f=if c then x.bind f else none:=by split<;>rfl
theorem Wcm{α β:Type}{c:Bool}{x:Option α}{f:α->Option β}:(bif c then x else none).bind f=bif c then x.bind f else none:=by cases c<;>rfl
theorem Wf8{R:Type}(sg:Sig)(st:St)(xs:List AVal)(k:KV R):WfD sg st xs k=(WfD sg st xs Wdc).bind λp=>k p.1 p.2.1 p.2.2:=by
 unfold WfD;split
 .split
  .rw[sg.law,sg.law,Option.bind_assoc];rfl
  .rfl
 .rfl
theorem WpZ{R:Type}(sg:Sig)(st:St)(xs:List AVal)(k:KV R):Wnv sg st xs k=(Wnv sg st xs Wdc).bind λp=>k p.1 p.2.1 p.2.2:=by
 unfold Wnv;cases sg.fresh with
 |true=>exact Wf8 _ _ _ _
 |false=>
  simp only[We];split
  .split
   .exact Wf8 _ _ _ _
   .exact Wf8 _ _ _ _
  .rfl
theorem Wmh{R:Type}(st:St)(te:Ty)(s x:AVal)(k:KV R):WeX st te s x k=(WeX st te s x Wdc).bind λp=>k p.1 p.2.1 p.2.2:=by
 unfold WeX;split
 .split
  .split
   .split
    .rw[Wcm];rfl
    .rfl
   .rfl
  .rfl
 .split
  .split
   .split
    .rw[Wbe,Wcm];rfl
    .rfl
   .rfl
  .rfl
 .rfl
theorem Wm1{R:Type}(st:St)(e:Ty)(ps:List (Nat×AVal))(k:KV R):Wdt st e ps k=(Wdt st e ps Wdc).bind λp=>k p.1 p.2.1 p.2.2:=by
 unfold Wdt;split
 .rw[Wbe];split
  .split
   .split
    .rw[Wbe];rfl
    .rfl
   .rfl
  .rfl
 .rfl
theorem Wn4{R:Type}(st:St)(te:Ty)(id:Nat)(l h:Option Int)(k:KV R):Wfx st te id l h k=(Wfx st te id l h Wdc).bind λp=>k p.1 p.2.1 p.2.2:=by
 unfold Wfx;split
 .rw[Wbe,Wcm];rfl
 .rfl
theorem WlI{R:Type}(st:St)(t t2:TypeId)(s x:AVal)(k:KV R):WdZ T st t t2 s x k=(WdZ T st t t2 s x Wdc).bind λp=>k p.1 p.2.1 p.2.2:=by
 unfold WdZ;split
 .split
  .split
   .cases Wua st s x with
    |false=>exact Wmh _ _ _ _ _
    |true=>
    simp only[Xx,We];split
    .rw[Wcm];rfl
    .split
     .split
      .rw[Wcm];rfl
      .rfl
     .rfl
    .split
     .split
      .rw[Wcm];rfl
      .rfl
     .rfl
    .rfl
   .rfl
  .rfl
 .rfl
theorem Wvd{R:Type}(p:Option (Bool×AVal))(objs:Waj)(nx:Nat)(k:KV R):(match p with|some (c,v)=>bif c then k v objs nx else none|none=>none)=(match p with|some (c,v)=>bif c then Wdc v objs nx else none|none=>none).bind λp=>k p.1 p.2.1 p.2.2:=by
 rcases p with _|⟨c,v⟩
 .rfl
 .cases c<;>rfl
theorem WgB{R:Type}(o:Oper)(st:St)(k:KV R):rxe T Γ A o st k=(rxe T Γ A o st Wdc).bind λp=>k p.1 p.2.1 p.2.2:=by
 unfold rxe;split
 .split
  .rw[Wbe];rfl
  .rw[Wbe];rfl
  .rfl
 .split<;>rfl
 .split
  .split
   .split<;>rfl
   .rfl
  .rfl
 .split
  .split
   .split
    .rw[Wbe];split
     .exact Wm1 _ _ _ _
     .rfl
    .split
     .rw[Wbe];rfl
     .rfl
   .rfl
  .rfl
 .split
  .split
   .split
    .rw[Wbe,Wcm];rfl
    .rw[Wbe,Wcm];rfl
   .rfl
  .rfl
 .split
  .split
   .split<;>rfl
   .rfl
  .rfl
 .split
  .split
   .split
    .split
     .rw[Wbe];split
      .exact Wn4 _ _ _ _ _ _
      .rfl
     .split
      .rw[Wbe,Wcm];rfl
      .rw[Wbe,Wcm];rfl
      .rfl
    .rfl
   .rfl
  .exact Wvd _ _ _ _
 .split
  .split
   .exact WlI _ _ _ _ _ _
   .rfl
  .split
   .split
    .split
     .rw[Wbe];rfl
     .rfl
    .rfl
   .rfl
  .exact Wvd _ _ _ _
  .split
   .split
    .exact WpZ _ _ _ _
    .rfl
   .rfl
  .rfl
 .exact Wvd _ _ _ _
end
section
variable{T:Tab}{Γ:Ctx}{A:List (Nat×An)}
theorem Woc{st:St}{env:List (Nat×AVal)}{t:TypeId}{x v:AVal}:Wc1 T {env:=env,objs:=st.objs,nx:=st.nx} t x v=(Wc1 T st t x v).map λs=>{env:=env,objs:=s.objs,nx:=s.nx}:=by
 unfold Wc1;generalize look T t=q;generalize WgT v=z;rcases q with _|te
 .rfl
 rcases z with _|ds
 .rcases x with(c|cs)|xs
  .cases c<;>rfl
  .rfl
  .rfl
 rcases x with(c|cs)|xs
 .cases c with
  |ptr id off=>
   show(match look st.objs id with|some (.box cs)=>_|_=>_)=Xfl _ (match look st.objs id with|some (.box cs)=>_|_=>_);generalize look st.objs id=ob;rcases ob with _|ob
   .rfl
   cases ob with
   |box cs=>
    show(if _ then _ else _)=Xfl _ (if _ then _ else _);split<;>rfl
   |arr e xs=>rfl
   |hole e xs i p=>rfl
   |dead=>rfl
  |eptr id i off=>
   show(match look st.objs id with|some (.arr e xs)=>_|_=>_)=Xfl _ (match look st.objs id with|some (.arr e xs)=>_|_=>_);generalize look st.objs id=ob;rcases ob with _|ob
   .rfl
   cases ob with
   |box cs=>rfl
   |hole e xs i p=>rfl
   |dead=>rfl
   |arr e xs=>
    show(if _ then _ else _)=Xfl _ (if _ then _ else _);by_cases hc:(decide (te.ty.size=ds.length)&&te.plain&&decide (off+ds.length<=e.size)&&e.data)=true
    .rw[Wb hc,Wb hc];generalize WaB e (Wej (split e (Xc xs i e.dflt)) off ds) st.objs=r;rcases r with _|⟨d,m,l⟩
     .rfl
     .cases m<;>cases l<;>rfl
    .rw[Wa hc,Wa hc];by_cases fb:(decide (te.ty.size=ds.length)&&te.plain&&decide (off=0)&&decide (ds.length=e.size))=true
     .rw[Wb fb,Wb fb];generalize WaB e ds st.objs=r;rcases r with _|⟨d,m,l⟩
      .rfl
      .cases l with
       |nil=>
        show(if _ then _ else _)=Xfl _ (if _ then _ else _);split<;>rfl
       |cons _ _=>rfl
     .rw[Wa fb,Wa fb];rfl
  |_=>rfl
 .rfl
 .rfl
theorem WrI{R:Type}(o:Oper){st:St}{env:List (Nat×AVal)}(k:KV R)(he:∀x∈Wag o.op,ev {env:=env,objs:=st.objs,nx:=st.nx} x=ev st x):
  rxe T Γ A o {env:=env,objs:=st.objs,nx:=st.nx} k=rxe T Γ A o st k:=by
 have bs:(∀t x l h m,o.op≠ .slice t x l h m)->Wam T {env:=env,objs:=st.objs,nx:=st.nx} o.op=Wam T st o.op:=λhm=>Whv o.op hm he (λ_ _ _ _ _ _ _=>rfl);obtain⟨dst,op,type,pos,after,guard⟩:=o;simp only at he bs;cases op with
 |alloc t=>rfl
 |box t x=>simp only[rxe,he x (by simp[Wag])]
 |build t parts=>simp only[rxe,WcR (st:=st) parts.toList λp hp=>he p.2 (by simp only[Wag];exact Xw.2 ⟨p,hp,rfl⟩)]
 |buildSlice t n parts=>
  have e1:∀e ps,Wdt {env:=env,objs:=st.objs,nx:=st.nx} e ps k=Wdt st e ps k:=λ_ _=>rfl;simp only[rxe,e1,WcR (st:=st) parts.toList λp hp=>he p.2 (by simp only[Wag];exact Xw.2 ⟨p,hp,rfl⟩)]
 |makeSlice t n c=>simp only[rxe,he n (by simp[Wag]),he c (by simp[Wag])]
 |store t a x=>
  simp only[rxe,he a (by simp[Wag]),he x (by simp[Wag])];split
  .rename_i p v _ _;have e:=Woc (T:=T) (st:={env:=st.env,objs:=WdP st.objs (Wf6 st.objs p v),nx:=st.nx}) (env:=env) (t:=t) (x:=p) (v:=Whk st.objs (Wf6 st.objs p v) v);simp only at e;rw[e];cases Wc1 T {env:=st.env,objs:=WdP st.objs (Wf6 st.objs p v),nx:=st.nx} t p (Whk st.objs (Wf6 st.objs p v) v)<;>rfl
  .rfl
 |slice t x lo hi m=>
  have hx:=he x (by simp[Wag]);have aS:=Wj8 (st:=st) (aj:={env:=env,objs:=st.objs,nx:=st.nx}) lo λy hy=>he y (by simp only[Wag];exact Xe _ (Xk _ hy));have qN:=Wj8 (st:=st) (aj:={env:=env,objs:=st.objs,nx:=st.nx}) hi λy hy=>he y (by simp only[Wag];exact Xe _ (Xg _ (Xk _ hy)));cases m with
  |none=>
   have hp:Wam T {env:=env,objs:=st.objs,nx:=st.nx} (.slice t x lo hi none)=Wam T st (.slice t x lo hi none):=by
    simp only[Wam,hx];refine Wb8 λv _=>?_;simp only[WlH,aS,qN]
   have e1:∀te id l h,Wfx {env:=env,objs:=st.objs,nx:=st.nx} te id l h k=Wfx st te id l h k:=λ_ _ _ _=>rfl;simp only[rxe,hx,aS,qN,hp,e1]
  |some y=>rfl
 |call c=>
  have hargs:=Wml (st:=st) (aj:={env:=env,objs:=st.objs,nx:=st.nx}) c.args.toList λx hx=>he x (by simp only[Wag];exact Xg _ hx);have hp:=bs (λ_ _ _ _ _ h=>by cases h);simp only[rxe];split
  .rename_i s x t t2 hc ha de;have h1:ev {env:=env,objs:=st.objs,nx:=st.nx} s=ev st s:=he s (by simp only[Wag];rw[ha];exact Xg _ (by simp));have h2:ev {env:=env,objs:=st.objs,nx:=st.nx} x=ev st x:=he x (by simp only[Wag];rw[ha];exact Xg _ (by simp));rw[h1,h2];rfl
  .rename_i x t hc ha de;have h1:ev {env:=env,objs:=st.objs,nx:=st.nx} x=ev st x:=he x (by simp only[Wag];rw[ha];exact Xg _ (by simp));rw[h1]
  .rw[hp]
  .rename_i f hc;have h1:ev {env:=env,objs:=st.objs,nx:=st.nx} f=ev st f:=he f (by simp only[Wag];rw[hc];exact Xk _ (by simp));rw[h1,hargs];rfl
  .rfl
 |move x=>simp only[rxe,bs (λ_ _ _ _ _ h=>by cases h)]
 |assign x=>simp only[rxe,bs (λ_ _ _ _ _ h=>by cases h)]
 |pick c a b=>simp only[rxe,bs (λ_ _ _ _ _ h=>by cases h)]
 |load t a=>simp only[rxe,bs (λ_ _ _ _ _ h=>by cases h)]
 |nilCheck x=>simp only[rxe,bs (λ_ _ _ _ _ h=>by cases h)]
 |binOp op t x y z=>simp only[rxe,bs (λ_ _ _ _ _ h=>by cases h)]
 |unOp op t x=>simp only[rxe,bs (λ_ _ _ _ _ h=>by cases h)]
 |convert s d x=>simp only[rxe,bs (λ_ _ _ _ _ h=>by cases h)]
 |fieldAddr s x f=>simp only[rxe,bs (λ_ _ _ _ _ h=>by cases h)]
 |field t x f=>simp only[rxe,bs (λ_ _ _ _ _ h=>by cases h)]
 |indexAddr t x i=>simp only[rxe,bs (λ_ _ _ _ _ h=>by cases h)]
 |index t x i=>simp only[rxe,bs (λ_ _ _ _ _ h=>by cases h)]
 |extract t ix=>simp only[rxe,bs (λ_ _ _ _ _ h=>by cases h)]
 |makeFunc f first captured=>simp only[rxe,bs (λ_ _ _ _ _ h=>by cases h)]
 |_=>rfl
def Wu1(T:Tab)(o:Oper)(st:St):Option AVal:=match o.op with
 | .build t parts=>match look T t,WcI st parts.toList with
  |some ⟨ty,true,.struct fs⟩,some ps=>
   if fs.all (λf=>match look T f.2 with|some te=>te.plain|none=>false)then
    match WmP T fs ps (We2 ty)with
    |some cs=>some (.s (.agg cs))
    |none=>none
   else none
  |_,_=>none
 |op=>match Wam T st op with
  |some (c,v)=>bif c then some v else none
  |none=>none
theorem Wwl(p:Option (Bool×AVal))(objs:Waj)(nx:Nat):(match p with|some (c,v)=>bif c then Wdc v objs nx else none|none=>none)=(match p with|some (c,v)=>bif c then some v else none|none=>none).bind λv=>Wdc v objs nx:=by
 rcases p with _|⟨c,v⟩
 .rfl
 .cases c<;>rfl
theorem Wmg{o:Oper}(hm:Wa5 o=false)(st:St):rxe T Γ A o st Wdc=(Wu1 T o st).bind λv=>Wdc v st.objs st.nx:=by
 obtain⟨dst,op,type,pos,after,guard⟩:=o;cases op with
 |alloc t=>cases hm
 |box t x=>cases hm
 |buildSlice t n parts=>cases hm
 |makeSlice t n c=>cases hm
 |store t a x=>cases hm
 |slice t x lo hi m=>cases hm
 |build t parts=>
  simp only[rxe,Wu1];generalize look T t=q;generalize WcI st parts.toList=z;rcases q with _|⟨ty,agg,shape⟩
  .rfl
  rcases z with _|ps
  .cases agg<;>cases shape<;>rfl
  cases agg with
  |false=>rfl
  |true=>
   cases shape with
   |struct fs=>
    show(if _ then _ else _)=Option.bind (if _ then _ else _) _;rw[Wbe];cases WmP T fs ps (We2 ty)<;>rfl
   |_=>rfl
 |call c=>
  simp only[rxe,Wu1];split
  .rename_i hc _ _;simp only[Wa5,hc]at hm;cases hm
  .rename_i hc _ _;simp only[Wa5,hc]at hm;cases hm
  .exact Wwl _ _ _
  .rename_i hc;simp only[Wa5,hc]at hm;cases hm
  .rename_i h0 h1 h2 h3;have:Wam T st (.call c)=none:=by
    simp only[Wam];split
    .rename_i hc _ _;first|exact Wg hc (h0 _)|exact Wg hc (h1 _)|exact Wg hc (h2 _)|exact Wg hc (h3 _)
    .rename_i hc _ _;first|exact Wg hc (h0 _)|exact Wg hc (h1 _)|exact Wg hc (h2 _)|exact Wg hc (h3 _)
    .rename_i hc _ _;first|exact Wg hc (h0 _)|exact Wg hc (h1 _)|exact Wg hc (h2 _)|exact Wg hc (h3 _)
    .rfl
   rw[this];rfl
 |_=>first|rfl|exact Wwl (Wam T st _) st.objs st.nx
theorem Wp6{o:Oper}(hm:Wa5 o=false){st aj:St}(he:∀x∈Wag o.op,ev aj x=ev st x)(hl:Wv7 o.op=true->∀x∈Wag o.op,∀v,ev st x=some v->Wek st aj v):Wu1 T o aj=Wu1 T o st:=by
 have bs:(∀t x l h m,o.op≠ .slice t x l h m)->Wam T aj o.op=Wam T st o.op:=λhm=>Whv o.op hm he hl;obtain⟨dst,op,type,pos,after,guard⟩:=o;simp only at he bs;cases op with
 |slice t x lo hi m=>cases hm
 |build t parts=>simp only[Wu1,WcR (st:=st) parts.toList λp hp=>he p.2 (by simp only[Wag];exact Xw.2 ⟨p,hp,rfl⟩)]
 |_=>simp only[Wu1,bs (λ_ _ _ _ _ h=>by cases h)]
theorem WcZ(objs:Waj):∀l,∃pre,kill objs l=pre++objs
 | []=>⟨[],rfl⟩
 |i::l=>by
  obtain⟨pre,h⟩:=WcZ objs l;exact⟨(i,.dead)::pre,by simp only[kill,h];rfl⟩
theorem Wah:∀(ps:List PTy) (o:Wgd ps) (ids:List Kp) (objs:Waj) (nx:Nat),∃pre,(Wal ps o ids objs nx).1=pre++objs
 | [],_,_,objs,_=>⟨[],rfl⟩
 | .v _ _::ps,o,ids,objs,nx=>Wah ps o ids objs nx
 | .rp _::ps,o,ids,objs,nx=>Wah ps o ids objs nx
 | .box t::ps,o,ids,objs,nx=>by
  cases ids with
  |nil=>exact⟨[],rfl⟩
  |cons k ids=>
   obtain⟨pre,h⟩:=Wah ps o.2 ids ((k.id,Whs (look objs k.id) k.off (unfold t o.1 nx).1)::((unfold t o.1 nx).2.1++objs)) (unfold t o.1 nx).2.2;exact⟨pre++(k.id,Whs (look objs k.id) k.off (unfold t o.1 nx).1)::(unfold t o.1 nx).2.1,by simp only[Wal,h];simp⟩
 | .vj _::ps,o,ids,objs,nx=>Wah ps o ids objs nx
 | .boxal t _::ps,o,ids,objs,nx=>by
  cases ids with
  |nil=>exact⟨[],rfl⟩
  |cons k ids=>
   obtain⟨pre,h⟩:=Wah ps o.2 ids ((k.id,Whs (look objs k.id) k.off (unfold t o.1 nx).1)::((unfold t o.1 nx).2.1++objs)) (unfold t o.1 nx).2.2;exact⟨pre++(k.id,Whs (look objs k.id) k.off (unfold t o.1 nx).1)::(unfold t o.1 nx).2.1,by simp only[Wal,h];simp⟩
 | .mut e::ps,o,ids,objs,nx=>by
  cases ids with
  |nil=>exact⟨[],rfl⟩
  |cons k ids=>
   obtain⟨pre,h⟩:=Wah ps o.2 ids ((k.id,.arr e o.1)::objs) nx;exact⟨pre++ [(k.id,.arr e o.1)],by simp only[Wal,h];simp⟩
 | .clos _ _::ps,o,ids,objs,nx=>Wah ps o ids objs nx
 | .kv t _::ps,o,ids,objs,nx=>by
  obtain⟨pre,h⟩:=Wah ps o.2 (ids.drop t.owns) (WcD t o.1 ((ids.take t.owns).map Kp.id)++objs) nx;exact⟨pre++WcD t o.1 ((ids.take t.owns).map Kp.id),by simp only[Wal,h];simp⟩
theorem Wau:∀(rs:List PTy) (d:Whd rs) (objs:Waj) (nx:Nat),∃pre,(Wby rs d objs nx).2.1=pre++objs
 | [],_,objs,_=>⟨[],rfl⟩
 | .v t agg::rs,d,objs,nx=>by
  obtain⟨pre,h⟩:=Wau rs d.2 ((unfold t d.1 nx).2.1++objs) (unfold t d.1 nx).2.2;exact⟨pre++(unfold t d.1 nx).2.1,by simp only[Wby,h];simp⟩
 | .box t::rs,d,objs,nx=>by
  obtain⟨pre,h⟩:=Wau rs d.2 ((nx,.box (unfold t d.1 (nx+1)).1)::((unfold t d.1 (nx+1)).2.1++objs)) (unfold t d.1 (nx+1)).2.2;exact⟨pre++(nx,.box (unfold t d.1 (nx+1)).1)::(unfold t d.1 (nx+1)).2.1,by simp only[Wby,h];simp⟩
 | .mut _::rs,d,objs,nx=>Wau rs d objs nx
 | .clos _ _::rs,d,objs,nx=>Wau rs d objs nx
 | .kv _ _::rs,d,objs,nx=>Wau rs d objs nx
 | .rp _::rs,d,objs,nx=>Wau rs d objs nx
 | .vj t::rs,d,objs,nx=>by
  obtain⟨pre,h⟩:=Wau rs d.2 ((unfold t d.1 nx).2.1++objs) (unfold t d.1 nx).2.2;exact⟨pre++(unfold t d.1 nx).2.1,by simp only[Wby,h];simp⟩
 | .boxal _ _::rs,d,objs,nx=>Wau rs d objs nx
def Suf(objs:Waj)(r:Option Out):Prop:=∀x objs' nx,r=some (x,objs',nx)->∃pre,objs'=pre++objs
theorem Suf.none{objs:Waj}:Suf objs none:=λ_ _ _ h=>by cases h
theorem Suf.out{objs pre:Waj}{x:AVal}{nx:Nat}:Suf objs (Wdc x (pre++objs) nx):=λ_ _ _ h=>by
 injection h with h;have:=Wl (λp:Out=>p.2.1) h;exact⟨pre,this.symm⟩
theorem Suf.ite{objs:Waj}{c:Prop}[Decidable c]{r:Option Out}(h:Suf objs r):Suf objs (if c then r else Option.none):=by split;exact h;exact .none
theorem Suf.bif{objs:Waj}{c:Bool}{r:Option Out}(h:Suf objs r):Suf objs (bif c then r else Option.none):=by cases c;exact .none;exact h
theorem Wjt{st af:St}{t:TypeId}{x v:AVal}(h:Wc1 T st t x v=some af):∃pre,af.objs=pre++st.objs:=by
 unfold Wc1 at h;split at h
 .split at h
  .split at h
   .injection h with h;subst h;exact⟨[_],rfl⟩
   .cases h
  .cases h
 .split at h
  .split at h
   .split at h
    .injection h with h;subst h;exact⟨[_],rfl⟩
    .cases h
   .split at h
    .split at h
     .rename_i m _;split at h
      .injection h with h;subst h;obtain⟨pre,hp⟩:=WcZ st.objs m;exact⟨_::pre,by simp only[hp];rfl⟩
      .cases h
     .cases h
    .cases h
  .cases h
 .cases h
theorem Wn9(p:Option (Bool×AVal))(objs:Waj)(nx:Nat):Suf objs (match p with|some (c,v)=>bif c then Wdc v objs nx else none|none=>none):=by
 rcases p with _|⟨c,v⟩
 .exact .none
 .exact Suf.bif (Suf.out (pre:=[]))
theorem WdV(sg:Sig)(st:St)(xs:List AVal):Suf st.objs (WfD sg st xs Wdc):=by
 unfold WfD;split
 .rename_i A _;split
  .intro x objs' nx h;rw[sg.law]at h;cases hr:sg.run A.d with
   |none=>rw[hr]at h;cases h
   |some out=>
    rw[hr]at h;simp only[Xd]at h;injection h with h;have h2:=Wl (λp:Out=>p.2.1) h;simp only at h2;obtain⟨p1,e1⟩:=WcZ st.objs A.moved;obtain⟨p2,e2⟩:=Wah sg.ps out.1 A.kept (kill st.objs A.moved) st.nx;obtain⟨p3,e3⟩:=Wau sg.rs out.2 (Wal sg.ps out.1 A.kept (kill st.objs A.moved) st.nx).1 (Wal sg.ps out.1 A.kept (kill st.objs A.moved) st.nx).2;refine⟨p3++(p2++p1),?_⟩;rw[←h2,e3,e2,e1];simp
  .exact .none
 .exact .none
theorem Suf.over{objs:Waj}{l:List Nat}{r:Option Out}(h:Suf (kill objs l) r):Suf objs r:=λx objs' nx hr=>by
 obtain⟨p1,e1⟩:=h x objs' nx hr;obtain⟨p2,e2⟩:=WcZ objs l;exact⟨p1++p2,by rw[e1,e2];simp⟩
theorem Wno(sg:Sig)(st:St)(xs:List AVal):Suf st.objs (Wnv sg st xs Wdc):=by
 unfold Wnv;cases sg.fresh with
 |true=>exact WdV _ _ _
 |false=>
  simp only[We];split
  .split
   .exact WdV _ _ _
   .exact Suf.over (WdV sg {env:=st.env,objs:=kill st.objs _,nx:=st.nx} _)
  .exact .none
theorem Woq{objs:Waj}{x:AVal}{p:Nat×Ob}{l:List Nat}{nx:Nat}:Suf objs (Wdc x (p::kill objs l) nx):=by
 obtain⟨pre,h⟩:=WcZ objs l;rw[h];exact Suf.out (pre:=p::pre)
theorem Wjr(st:St)(te:Ty)(s x:AVal):Suf st.objs (WeX st te s x Wdc):=by
 unfold WeX;split
 .split
  .split
   .split
    .exact Suf.bif Woq
    .exact .none
   .exact .none
  .exact .none
 .split
  .split
   .split
    .exact Suf.ite (Suf.bif Woq)
    .exact .none
   .exact .none
  .exact .none
 .exact .none
theorem Wjs(st:St)(e:Ty)(ps:List (Nat×AVal)):Suf st.objs (Wdt st e ps Wdc):=by
 unfold Wdt;split
 .refine Suf.ite ?_;split
  .split
   .exact Suf.ite (Suf.over Woq)
   .exact .none
  .exact .none
 .exact .none
theorem Wlj(st:St)(te:Ty)(id:Nat)(l h:Option Int):Suf st.objs (Wfx st te id l h Wdc):=by
 unfold Wfx;split
 .exact Suf.ite (Suf.bif (Suf.out (pre:=[])))
 .exact .none
theorem WqO(o:Oper)(st:St):Suf st.objs (rxe T Γ A o st Wdc):=by
 unfold rxe;split
 .split
  .exact Suf.ite (Suf.out (pre:=[_]))
  .exact Suf.ite (Suf.out (pre:=[_]))
  .exact .none
 .split
  .exact Suf.out (pre:=[_])
  .exact .none
 .split
  .split
   .split
    .exact Suf.out (pre:=[])
    .exact .none
   .exact .none
  .exact .none
 .split
  .split
   .split
    .exact Suf.ite (Wjs _ _ _)
    .split
     .exact Suf.ite (Suf.over (Suf.out (pre:=[_])))
     .exact .none
   .exact .none
  .exact .none
 .split
  .split
   .split
    .exact Suf.ite (Suf.bif (Suf.out (pre:=[_])))
    .exact Suf.ite (Suf.bif (Suf.out (pre:=[_])))
   .exact .none
  .exact .none
 .split
  .split
   .rename_i af hs;split
    .obtain⟨pre,h⟩:=Wjt hs;rw[h];exact Suf.over Suf.out
    .exact .none
   .exact .none
  .exact .none
 .split
  .split
   .split
    .split
     .exact Suf.ite (Wlj _ _ _ _ _)
     .split
      .exact Suf.ite (Suf.bif (Suf.out (pre:=[_,_])))
      .exact Suf.ite (Suf.bif (Suf.out (pre:=[_,_,_])))
      .exact .none
    .exact .none
   .exact .none
  .exact Wn9 _ _ _
 .split
  .split
   .unfold WdZ;split
    .split
     .split
      .cases Wua st _ _ with
       |false=>exact Wjr _ _ _ _
       |true=>
       simp only[Xx,We];split
       .exact Suf.bif (Suf.out (pre:=[_]))
       .split
        .split
         .exact Suf.bif (Suf.out (pre:=[_,_]))
         .exact .none
        .exact .none
       .split
        .split
         .exact Suf.bif (Suf.out (pre:=[_,_]))
         .exact .none
        .exact .none
       .exact .none
      .exact .none
     .exact .none
    .exact .none
   .exact .none
  .split
   .split
    .split
     .exact Suf.ite (Suf.out (pre:=[_]))
     .exact .none
    .exact .none
   .exact .none
  .exact Wn9 _ _ _
  .split
   .split
    .exact Wno _ _ _
    .exact .none
   .exact .none
  .exact .none
 .exact Wn9 _ _ _
end
end Go.Sx
