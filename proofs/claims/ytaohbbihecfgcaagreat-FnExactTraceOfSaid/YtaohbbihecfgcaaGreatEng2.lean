/- The abstract machine, part 2: a reflective interpreter of the program's code over data, with its soundness over the model. -/
import Derived.Test.YtaohbbihecfgcaaGreatEng1
open Bool renaming and_eq_true→Xi,not_eq_true'→Xao,not_true→Xo,false_eq_true→Xbc
open List renaming nodup_cons→Xac,getElem?_append_left→Xco,getD→Xc,getElem?_append_right→Xcd,ext_getElem?→Xfe,getElem?_eq_none→Xcn,replicate→Xp,prefix_refl→Xfn,nil_prefix→Xgr,prefix_append_right_inj→Xet,length_replicate→Xfy,append_nil→Xbp,getElem?_toArray→Xee,append_assoc→Xaw,getElem?_append→Xau,getElem?_take→Xbm,getElem?_drop→Xbl,getElem?_eq_some_iff→Xaa,drop_drop→Xdl,take_append_drop→Xdm,length_take→Xbh,mem_cons_self→Xj,mem_cons_of_mem→Xf,mem_map_of_mem→Xam,pairwise_cons→Xt,mem_append_left→Xm,mem_append_right→Xh,length_append→Xw,map_append→Xy,pairwise_append→Xah,mem_append→Xn,mem_map→Xv,mem_cons→Xr,getElem?_of_mem→Xdp,getElem?_eq_getElem→Xs,eq_nil_of_length_eq_zero→Xz,map_toArray→Xdq,map_cons→Xaf,map_nil→Xce,append→Xg,take_length→Xed,mem_singleton→Xag,length→Xb,append_inj→Xft,length_map→Xx,mem_of_mem_take→Xcj,mem_of_mem_drop→Xel,nodup_append→Xad,all_eq_true→Xae,nodup_nil→Xdd,length_drop→Xds,sublist_append_right→Xfi,getElem?_map→Xan,all_cons→Xcl,mem_of_getElem?→Xas
open Array renaming range→Xcg,foldl_toList→Xeu,length_toList→Xar
open Nat renaming succ_mul→Xbx,mul_le_mul_right→Xbf,add_zero→Xbd,le_trans→Xbe,zero_mul→Xem,le_refl→Xl,min_eq_left→Xbz,add_assoc→Xay,lt_succ_self→Xbs,add_mul→Xcp,eq_of_beq_eq_true→Xch,add_sub_cancel_left→Xcb,le_succ→Xdc
open Int renaming mul_le_mul_of_nonneg_right→Xei
open Option renaming map_eq_some_iff→Xu,map_some→Xby,bind_eq_some_iff→Xbt,bind_some→Xd,map→Xfh
namespace Go.Sx
set_option linter.unusedVariables false
set_option linter.unusedSimpArgs false
theorem WcM:∀l:List Nat,Wbe l=true↔l.Nodup
 | []=>by simp[Wbe]
 |i::l=>by
  have h:=WgP i l;simp only[Wbe,Xi,Xao,Xac,WcM l]
  grind
theorem WrC{α:Type}(l:List α)(d:α):∀(n i:Nat),i<n*l.length->(rep l n)[i]?=some (l.getD (i%l.length) d)
 |0,i,h=>by simp at h
 |n+1,i,h=>by
  rw[rep];by_cases hi:i<l.length
  .grind [Xco,Nat.mod_eq_of_lt,Xc]
  .have cW:l.length<=i:=by omega
   rw[Xcd cW,WrC l d n (i-l.length) (by grind)];rw[Nat.mod_eq_sub_mod cW]
theorem Wf1(z:Array Value)(n:Nat):((Xcg (n*z.size)).map λi=>z[i%z.size]!).toList=rep z.toList n:=by
 apply Xfe;intro i;by_cases hi:i<n*z.size
 .rw[WrC z.toList default n i (by omega)]
  grind
 grind [Xcn,WkY]
section
variable{w0:World}{F:CS}{nt:Slots}{G0 G:GH}{ν:Nat->Nu}{objs:W9}{nx:Nat}{st af:St}{a:Act}{w w':World}{P:Program}{T:Tab}
theorem Wib(hh:HRel w0 F G ν objs nx w){e:Ty}(he:e.data=true):
  ∀(l:List (Nat×AVal)) (ps:List (Nat×Value)) (xs ys:List e.den) (vs:Array Value),EncL (Enc G e) xs vs.toList->ps.length=l.length->
   (∀(j:Nat) (p:Nat×AVal) (q:Nat×Value),l[j]?=some p->ps[j]?=some q->p.1=q.1/\AValRel G ν nx p.2 q.2)->Wpa e objs l xs=some ys->
   ∃vs',Instr.fill (λi=>some (i*e.size,e.size)) vs ps=some vs'/\EncL (Enc G e) ys vs'.toList/\ys.length=xs.length
 | [],[],xs,ys,vs,hc,_,_,h=>by simp[Wpa]at h;subst h;exact⟨vs,rfl,hc,rfl⟩
 |(i,x)::l,[],_,_,_,_,hl,_,_=>by simp at hl
 | [],_::_,_,_,_,_,hl,_,_=>by simp at hl
 |(i,x)::l,(i',v)::ps,xs,ys,vs,hc,hl,hp,h=>by
  obtain⟨hi,hx⟩:=hp 0 _ _ rfl rfl;simp only at hi hx;subst hi;simp only[Wpa]at h;split at h
  .rename_i ds gr;split at h
   .rename_i d hf;split at h
    .rename_i hlt;obtain⟨h1,_⟩:=Wdi hx gr;have henc:=Wlk hh h1 he hf;have hlen:v.cells.toList.length=e.size:=Enc_len _ _ _ henc;have fy:vs.toList.length=xs.length*e.size:=EncL_len (λx c hc=>Enc_len e x c hc) _ _ hc;have ce:i*e.size+e.size<=xs.length*e.size:=by rw[←Xbx];exact Xbf _ hlt
     have dT:=WhN v.cells.toList (i*e.size) 0 vs (by simp_all);simp only[Xbd]at dT;have fI:=Wkb (λx c hc=>Enc_len e x c hc) xs vs.toList i d v.cells.toList hc hlt henc;obtain⟨vs',h4,h5,h6⟩:=Wib hh he l ps (xs.set i d) ys _ (by rw[dT,hlen];exact fI) (by simp_all) (λj p q hj hq=>hp (j+1) p q (by simp_all) (by simp_all)) h;refine⟨vs',?_,h5,by grind⟩;simp only[Instr.fill];rw[Wb (by simp_all)];rw[←h4];congr 1;rw[←Xeu];simp
    grind
   grind
  grind
theorem Wh4(hT:Waf P T)(hr:Rel w0 F nt G0 G ν st a w){o:Oper}(hd:∀d,o.dst=some d->nt.Ok d){t:TypeId}{n:Nat}{parts:Array (Nat×Operand)}(ho:o.op= .buildSlice t n parts)
  {ty:Ty} {et:TypeId} {te:TE} {ps:List (Nat×AVal)} {xs:List te.ty.den} (hl:Wq T t=some ⟨ty,false,.slice et⟩) (hle:Wq T et=some te)
  (h1:ps.length=parts.toList.length) (h2:∀(j:Nat) (p:Nat×AVal) (q:Nat×Operand),ps[j]?=some p->parts.toList[j]?=some q->p.1=q.1/\AValRel G ν st.nx p.2 (a.eval q.2))
  (hf:Wpa te.ty st.objs ps (Xp n te.ty.dflt)=some xs) (hsz:n*te.ty.size<=16777216) (aX:te.ty.data=true) (hp:te.plain=true):
  Done P w0 F nt G0 o a w (st.new o.dst (.arr te.ty xs) (.s (.one (.own st.nx)))):=by
 have hu:=(hT _ _ hl).und.2.1;obtain⟨z,hz,dK⟩:=WeR (w:=w) (hT _ _ hle);rw[Wbk hp]at dK;have gL:z.cells.size=te.ty.size:=by rw[←Xar,dK,Wbc]
 have dU:=Wf1 z.cells n;rw[gL,dK]at dU;obtain⟨vs',h3,h4,h5⟩:=Wib hr.h aX ps (parts.toList.map λp=>(p.1,a.eval p.2)) _ xs ((Xcg (n*te.ty.size)).map λi=>z.cells[i%te.ty.size]!) (by grind [WgN]) (by simp[h1]) (λj p q hp hq=>by
   grind) hf
 have iu:xs.length=n:=by grind
 have hpos:=Wbu te.ty;have hn:n<=16777216:=Xbe (Nat.le_mul_of_pos_right n hpos) hsz;have kI:vs'.size=n*te.ty.size:=by
  rw[←Xar,EncL_len (λx c hc=>Enc_len te.ty x c hc) _ _ h4,iu]
 obtain⟨⟨ν',h6⟩,_⟩:=Wn2 (t:=et) (vs:=vs') hr hd (e:=te.ty) aX (xs:=xs) (cap:=n) (cs:=vs'.toList) (by omega) (by unfold maxLen;omega) kI h4 (Xfn _) w rfl rfl rfl rfl;rw[iu]at h6;refine⟨_,_,_,G,ν',?_,.inl rfl,h6⟩;have gM:(parts.map λx=>match x with|(i,x)=>(i,a.eval x)).toList=parts.toList.map λp=>(p.1,a.eval p.2):=by simp
 simp only[execOp,ho,Instr.buildSlice,Sem.run_bind,Wl hu,Result.andThen_ok,(hT _ _ hle).sizeOf,WW hp,Wb (show¬n*te.ty.size>2^24 by omega),Sem.run_pure];by_cases h0:n*te.ty.size=0
 .have ol:n=0:=by rcases Nat.mul_eq_zero.1 h0 with h|h<;>omega
  have e1:((Xcg (n*te.ty.size)).map λi=>z.cells[i%te.ty.size]!)= #[]:=by grind
  rw[e1]at h3;have e2:∀zz:Array Value,((Xcg (n*te.ty.size)).map λi=>zz[i%zz.size]!)= #[]:=λzz=>by grind
  simp only[Wf h0,Sem.run_pure,Result.andThen_ok,e2,gM,h3,Wcy];rfl
 simp_all [Wb,Sem.run_bind,Result.andThen_ok,Sem.run_pure,Wcy]
theorem Wjf(hT:Waf P T)(hr:Rel w0 F nt G0 G ν st a w){o:Oper}(hd:∀d,o.dst=some d->nt.Ok d){t:TypeId}{n c:Operand}(ho:o.op= .makeSlice t n c)
  {ty:Ty} {et:TypeId} {te:TE} {n' c':Int} {k k':IntKind} (hl:Wq T t=some ⟨ty,false,.slice et⟩) (hle:Wq T et=some te) (hn:a.eval n= .int k n') (hc:a.eval c= .int k' c')
  (h0:0<=n') (h1:n'<=c') (h2:Wz c'.toNat=true) (aX:te.ty.data=true) (hp:te.plain=true):
  Done P w0 F nt G0 o a w (st.new o.dst (.arr te.ty (Xp n'.toNat te.ty.dflt)) (.s (.one (.own st.nx)))):=by
 have hu:=(hT _ _ hl).und.2.1;obtain⟨i,z,hi,hs,hz,dK,lj⟩:=(hT _ _ hle).info;rw[Wbk hp]at dK;rw[WW hp]at hs;have gL:z.cells.size=te.ty.size:=by rw[←Xar,dK,Wbc]
 have ao:c'.toNat<=1073741824:=by simpa [Wz]using h2
 have dU:=Wf1 z.cells c'.toNat;rw[gL,dK]at dU;have pe:rep (Wbp te.ty) n'.toNat<+:rep (Wbp te.ty) c'.toNat:=by
  have:∀(l:List Value) (p q:Nat),rep l p<+:rep l (p+q):=λl p q=>by
   induction p with
   |zero=>exact Xgr
   |succ p ih=>grind [Nat.succ_add,rep,Xet]
  have h:=this (Wbp te.ty) n'.toNat (c'.toNat-n'.toNat)
  rwa [show n'.toNat+(c'.toNat-n'.toNat)=c'.toNat by omega]at h
 have hb:(i.bytes:Int)*c'<=281474976710656:=by
  have h3:(i.bytes:Int)*c'<=4096*c':=Xei (by omega) (by omega);omega
 have hm:madeCells z.cells (c'.toNat*i.size)=(Xcg (c'.toNat*te.ty.size)).map λi=>z.cells[i%te.ty.size]!:=by
  rw[hs,←gL];rfl
 obtain⟨⟨ν',h6⟩,_⟩:=Wn2 (t:=et) (vs:=(Xcg (c'.toNat*te.ty.size)).map λi=>z.cells[i%te.ty.size]!) hr hd (e:=te.ty) aX (xs:=Xp n'.toNat te.ty.dflt) (cap:=c'.toNat) (cs:=rep (Wbp te.ty) n'.toNat) (by simp;omega) (by unfold maxLen;omega)
  (by simp) (WgN aX _) (by simp_all) w rfl rfl rfl rfl
 rw[Xfy]at h6;refine⟨_,_,_,G,ν',?_,.inl rfl,h6⟩
 grind [execOp,Sem.run_bind,run_make,Result.andThen_ok,Sem.run_pure]
theorem Wh6(hT:Waf P T)(hr:Rel w0 F nt G0 G ν st a w){o:Oper}(hd:∀d,o.dst=some d->nt.Ok d){t:TypeId}{n c:Operand}(ho:o.op= .makeSlice t n c)
  {ty:Ty} {et:TypeId} {te:TE} {e:Ty} {n' c':Int} {k k':IntKind} (hl:Wq T t=some ⟨ty,false,.slice et⟩) (hle:Wq T et=some te) (hn:a.eval n= .int k n') (hc:a.eval c= .int k' c')
  (h0:0<=n') (h1:n'<=c') (h2:Wz c'.toNat=true) (he:e.ro=te.ty) (hp:te.plain=true):
  Done P w0 F nt G0 o a w (st.new o.dst (.arr e (Xp n'.toNat e.dflt)) (.s (.one (.own st.nx)))):=by
 have hu:=(hT _ _ hl).und.2.1;obtain⟨i,z,hi,hs,hz,dK,lj⟩:=(hT _ _ hle).info;rw[Wbk hp]at dK;rw[WW hp]at hs;have mI:te.ty.size=e.size:=by rw[←he,Wbi]
 have gL:z.cells.size=te.ty.size:=by rw[←Xar,dK,Wbc]
 have ao:c'.toNat<=1073741824:=by simpa [Wz]using h2
 have dU:=Wf1 z.cells c'.toNat;rw[gL,dK]at dU;have pe:rep (Wbp te.ty) n'.toNat<+:rep (Wbp te.ty) c'.toNat:=by
  have:∀(l:List Value) (p q:Nat),rep l p<+:rep l (p+q):=λl p q=>by
   induction p with
   |zero=>exact Xgr
   |succ p ih=>grind [Nat.succ_add,rep,Xet]
  have h:=this (Wbp te.ty) n'.toNat (c'.toNat-n'.toNat)
  rwa [show n'.toNat+(c'.toNat-n'.toNat)=c'.toNat by omega]at h
 have hb:(i.bytes:Int)*c'<=281474976710656:=by
  have h3:(i.bytes:Int)*c'<=4096*c':=Xei (by omega) (by omega);omega
 have hm:madeCells z.cells (c'.toNat*i.size)=(Xcg (c'.toNat*te.ty.size)).map λi=>z.cells[i%te.ty.size]!:=by
  rw[hs,←gL];rfl
 obtain⟨⟨ν',h6⟩,_⟩:=Wht (t:=et) (vs:=(Xcg (c'.toNat*te.ty.size)).map λi=>z.cells[i%te.ty.size]!) hr hd [] (e:=e) (xs:=Xp n'.toNat e.dflt) (cap:=c'.toNat) (cs:=rep (Wbp te.ty) n'.toNat) (by simp;omega) (by unfold maxLen;omega)
  (by simp[mI]) (λφ _=>by
   obtain⟨ps,g1,g2⟩:=WsZ (G:=G) (w:=w) e n'.toNat;rw[he]at g1;exact⟨ps,g1,WmG ps g2,λp hp b o hh=>by simp_all⟩) (by simp_all) w rfl rfl rfl rfl
 rw[Xfy]at h6;refine⟨_,_,_,G,ν',?_,.inl rfl,h6⟩
 grind [execOp,Sem.run_bind,run_make,Result.andThen_ok,Sem.run_pure]
theorem Wmk(hT:Waf P T)(hr:Rel w0 F nt G0 G ν st a w){o:Oper}(hd:∀d,o.dst=some d->nt.Ok d){t:TypeId}{parts:Array (Nat×Operand)}{x:Operand}(ho:o.op= .buildSlice t 1 parts)(bT:parts.toList= [(0,x)])
  {ty:Ty} {et:TypeId} {te:TE} {e:Ty} {xv:AVal} {ds:List Cell} {d:e.den} {m:List Nat} (hl:Wq T t=some ⟨ty,false,.slice et⟩) (hle:Wq T et=some te) (hx:AValRel G ν st.nx xv (a.eval x)) (gr:WgC xv=some ds)
  (hf:Waq e ds st.objs=some (d,m,[])) (hm:m.Nodup) (he:e.ro=te.ty) (hp:te.plain=true) (hsz:te.ty.size<=16777216):
  Done P w0 F nt G0 o a w (({env:=st.env,objs:=(st.nx,.arr e [d])::kill st.objs m,nx:=st.nx+1}:St).put o.dst (.s (.one (.own st.nx)))):=by
 have hu:=(hT _ _ hl).und.2.1;obtain⟨z,hz,dK⟩:=WeR (w:=w) (hT _ _ hle);rw[Wbk hp]at dK;have mI:te.ty.size=e.size:=by rw[←he,Wbi]
 have gL:z.cells.size=te.ty.size:=by rw[←Xar,dK,Wbc]
 have dU:=Wf1 z.cells 1;rw[gL,dK]at dU;simp only[rep,Xbp,Nat.one_mul]at dU;obtain⟨h1,h2⟩:=Wdi hx gr;have dT:∀φ,HR w0 F G ν φ st.objs st.nx w->∃ps,EncP (TyRel G w e) [d] (a.eval x).cells.toList ps/\Sep (ps.map Pc.fp)/\∀p∈ps,CS.le p.fp (FromL φ st.objs m):=λφ hφ=>by
  obtain⟨ns,g1,g2,g3,_⟩:=Wab (G':=G) hφ (λ_ _ _ hh=>hh) e ds _ d m [] h1 (λi hi=>by simp at hi) hm hf;exact⟨ns,Wow.2 g1,g2,g3⟩
 have hlen:(a.eval x).cells.size=e.size:=by
  obtain⟨φ,hφ⟩:=hr.h;obtain⟨ps,g1,_⟩:=dT φ hφ;have:=WD _ _ _ _ (Wow.1 g1);simpa using this
 have ss:((Xcg te.ty.size).map λi=>z.cells[i%te.ty.size]!).size=te.ty.size:=by simp
 have fI:=WhN (a.eval x).cells.toList 0 0 ((Xcg te.ty.size).map λi=>z.cells[i%te.ty.size]!) (by simp;omega);have mJ:((Xcg te.ty.size).map λi=>z.cells[i%te.ty.size]!).toList.length=e.size:=by simp[mI]
 have fy:((a.eval x).cells.toList.zipIdx.foldl (λcs (c,j)=>cs.setIfInBounds (0+j) c) ((Xcg te.ty.size).map λi=>z.cells[i%te.ty.size]!)).toList=(a.eval x).cells.toList:=by
  rw[fI];simp only[Nat.zero_add,List.take_zero,List.nil_append];rw[List.drop_eq_nil_of_le (by rw[mJ];simp;omega),Xbp]
 generalize hV:(a.eval x).cells.toList.zipIdx.foldl (λcs (c,j)=>cs.setIfInBounds (0+j) c) ((Xcg te.ty.size).map λi=>z.cells[i%te.ty.size]!)=V at fy;have hVs:V.size=1*e.size:=by rw[←Xar,fy];simp[hlen]
 obtain⟨⟨ν',h6⟩,_⟩:=Wht (t:=et) (vs:=V) hr hd m (e:=e) (xs:=[d]) (cap:=1) (cs:=(a.eval x).cells.toList) (by simp) (by unfold maxLen;omega) hVs dT (by rw[fy];exact Xfn _) w rfl rfl rfl rfl;refine⟨_,_,_,G,ν',?_,.inl rfl,h6⟩;have mK:Instr.fill (λi=>some (i*te.ty.size,te.ty.size)) ((Xcg te.ty.size).map λi=>z.cells[i%te.ty.size]!) [(0,a.eval x)]=some V:=by
  simp only[Instr.fill,Xem];rw[Wb (by simp;omega),←hV];congr 1;rw[←Xeu];simp
 have gM:(parts.map λx=>match x with|(i,x)=>(i,a.eval x)).toList= [(0,a.eval x)]:=by simp[bT]
 have hpos:=Wbu te.ty;simp only[execOp,ho,Instr.buildSlice,Sem.run_bind,Wl hu,Result.andThen_ok,(hT _ _ hle).sizeOf,WW hp,Nat.one_mul,Wb (show¬te.ty.size>2^24 by omega),Wb (show¬te.ty.size=0 by omega),Sem.run_pure,hz,gL,gM,mK,Wcy];rfl
theorem Wec{t:TypeId}{te:TE}(bD:TEok P T t te){b off:Nat}{v:Value}{cur:Array Value}{TT:TypeId}(hg:w.heap[b]?=some (.cells cur TT (0,0)))(hsz:te.size=v.cells.size)(ce:off+v.cells.size<=cur.size)(h1:∀u∈v.cells.toList,u.oneCell'=true):
  (storeVar t ⟨b,off,none⟩ v).run P w= .ok () (w.setRow b (cur.toList.take off++v.cells.toList++cur.toList.drop (off+v.cells.size)).toArray):=by
 have h:=run_storeCells_at P b off TT v.cells.toList 0 cur w hg (by simpa using ce) h1;simp only[Xbd,Xar]at h;simp[storeVar,bD.sizeOf,hsz,h]
theorem WcG{b k:Nat}{vs:Array Value}{T:TypeId}{news:List Value}(h:w.heap[b]?=some (Obj.cells vs T (0,0)))(ce:k+news.length<=vs.size):
  WLe (rng b k news.length) w (w.setRow b (vs.toList.take k++news++vs.toList.drop (k+news.length)).toArray)/\Mem (w.setRow b (vs.toList.take k++news++vs.toList.drop (k+news.length)).toArray) b k news:=by
 have hk:(vs.toList.take k).length=k:=by simp;omega
 constructor
 .refine WLe.setRow h (by simp;omega) (λo hn=>?_);have om:¬(k<=o/\o<k+news.length):=λ⟨h1,h2⟩=>hn ⟨rfl,h1,h2⟩;simp only[Xee,Xaw];rw[Xau,hk];split
  .rename_i hlt;rw[Xbm,Wf hlt];simp
  .rw[Xau];split
   .omega
   .rw[Xbl,show k+news.length+(o-k-news.length)=o by omega];simp
 .intro j v hj;rw[cell_of_row _ b _ _ T (0,0) (setRow_heap w b vs _ T (0,0) h)];have hlt:j<news.length:=(Xaa.1 hj).1;simp only[Xee,Xaw];rw[Xcd (by omega),hk,Xco (by omega),show k+j-k=j by omega];exact hj
theorem WeQ{b o k:Nat}{vs us:List Value}(hm:Mem w b o vs)(hw:WLe (rng b (o+k) us.length) w w')(hu:Mem w' b (o+k) us)(hk:k+us.length<=vs.length):Mem w' b o (vs.take k++us++vs.drop (k+us.length)):=λj v hj=>by
 have ge:∀v',vs[j]?=some v'->¬(k<=j/\j<k+us.length)->w'.cell? ⟨b,o+j,none⟩=some v':=λv' hv hn=>by
  have h1:=hm j v' hv;rw[hw.cell b (o+j) (block_lt_of_cell h1) (λ⟨_,h2,h3⟩=>hn ⟨by omega,by omega⟩)];exact h1
 have iP:(vs.take k).length=k:=by simp;omega
 rw[Xaw,Xau,iP]at hj;split at hj
 .rename_i hlt;rw[Xbm,Wf hlt]at hj;exact ge v hj (by omega)
 .rw[Xau]at hj;split at hj
  .have:=hu (j-k) v hj;rw[show o+j=o+k+(j-k) by omega];exact this
  .rw[Xbl,show k+us.length+(j-k-us.length)=j by omega]at hj;exact ge v hj (by omega)
theorem HR.turn{φ:Nat->CS}(h:HR w0 F G ν φ objs nx w){id:Nat}{ob cK:Ob}{m:List Nat}(ho:Wq objs id=some ob)(hd:ob≠ .dead){S:CS}(hw:WLe S w w')(hs:CS.le S (φ id))
  (cJ:Wch G ν nx w' id (λb o=>φ id b o\/FromL φ objs m b o) cK):HRel w0 F G ν ((id,cK)::kill objs m) nx w':=by
 have hl:Live objs id:=⟨ob,ho,hd⟩;exact⟨_,h.put (ν':=ν) (λ_ _=>rfl) (Xl _) (h.lt id hl) (hw.mono λb o hh=>⟨id,.inl rfl,hl,hs b o hh⟩) (λb o hh=>by
  rcases hh with hh|⟨i,hi,h1,h2⟩
  .exact .inl ⟨id,.inl rfl,hl,hh⟩
  .exact .inl ⟨i,.inr hi,h1,h2⟩) (λ_=>cJ)⟩
theorem WpO(hT:Waf P T)(hr:Rel w0 F nt G0 G ν st a w){o:Oper}{t:TypeId}{x y:Operand}(ho:o.op= .store t x y)(iv:o.dst=none){p v:AVal}(hx:AValRel G ν st.nx p (a.eval x))(hy:AValRel G ν st.nx v (a.eval y))
  (h:WcF T st t p v=some af):Done P w0 F nt G0 o a w af:=by
 unfold WcF at h;split at h
 .rename_i te id off ds hl gr;obtain⟨gN,kb⟩:=Wdi hy gr;split at h
  .rename_i cs az;split at h
   .rename_i bq;simp only[Xi,Wi]at bq;obtain⟨⟨hs,eE⟩,ce⟩:=bq;injection h with h;subst h;obtain⟨⟨_,b,hb,iw⟩,_⟩:=hx;obtain⟨φ,hφ⟩:=hr.h;obtain⟨b',vs,hb',⟨row,TT,fJ,hrow⟩,hmem,bA,fi⟩:=hφ.ob _ _ az;rw[hb]at hb';injection hb' with hb';subst hb';have hlen:(a.eval y).cells.size=ds.length:=by have:=gN.1;simpa using this
    have hrun:=Wec (w:=w) (hT _ _ hl) (b:=b) (off:=(ν id).off+off) (v:=a.eval y) fJ (by rw[WW eE,hlen];exact hs) (by omega) kb;obtain⟨hw,hm⟩:=WcG (k:=(ν id).off+off) (news:=(a.eval y).cells.toList) fJ (by simp;omega);simp only[Xar]at hw hm;generalize w.setRow b (row.toList.take ((ν id).off+off)++(a.eval y).cells.toList++row.toList.drop ((ν id).off+off+(a.eval y).cells.size)).toArray=W at hrun hw hm;have cJ:HRel w0 F G ν ((id,.box (WdZ cs off ds))::st.objs) st.nx W:=by
     refine hφ.turn (m:=[]) az (by simp) hw (λb' o ⟨e,h1,h2⟩=>fi b' o ⟨e,by omega,by omega⟩) ?_;refine⟨b,_,hb,by rw[WeD ce];exact hw.rows.row _ _ ⟨row,TT,fJ,hrow⟩,WeQ hmem (us:=(a.eval y).cells.toList) (by rw[Xar];exact hw) hm (by rw[bA.1];simp;omega),WeM bA gN,λb o hh=>.inl (fi b o (by rw[WeD ce]at hh;exact hh))⟩
    refine⟨.skip,undef,W,G,ν,?_,.inr ⟨rfl,rfl⟩,?_⟩
    .simp only[execOp,ho,iw,Instr.storeAt,Instr.sureAddr,Sem.run_bind,Sem.run_pure,Result.andThen_ok,hrun]
    .rw[iv];exact hr.on (λ_ _ _ hh=>hh) (λ_ _=>rfl) (Xl _) cJ hr.gx
   .simp at h
  .simp at h
 .rename_i te id i off ds hl gr;obtain⟨gN,kb⟩:=Wdi hy gr;split at h
  .rename_i e xs az;split at h
   .rename_i bq;simp only[Xi,Wi]at bq;obtain⟨⟨⟨hs,eE⟩,ce⟩,aX⟩:=bq;split at h
    .rename_i d hf;injection h with h;subst h;obtain⟨⟨_,pf,b,hb,iw⟩,_⟩:=hx;obtain⟨φ,hφ⟩:=hr.h;have hown:OwnL w (TyRel G w e) e.size (ν id) xs (φ id):=hφ.ob _ _ az;obtain⟨iu,h4,h5,jn,cs,h7,h8,h9⟩:=Wdp aX hown hb;obtain⟨row,TT,fJ,hrow⟩:=jn;have cd:=hown.2.1;have hlt:i<xs.length:=by omega
     have hlen:(a.eval y).cells.toList.length=ds.length:=gN.1;have da:(a.eval y).cells.size=ds.length:=by simpa using hlen
     have hcl:cs.length=xs.length*e.size:=EncL_len (λx c hc=>Enc_len e x c hc) _ _ h7;have su:i*e.size+e.size<=xs.length*e.size:=by rw[←Xbx];exact Xbf _ hlt
     have sw:xs.length*e.size<=(ν id).cap*e.size:=Xbf _ h4;have mL:=WmD (λx c hc=>Enc_len e x c hc) xs cs i e.dflt h7 hlt;have pg:=WeM (off:=off) (Waw (G:=G) (ν:=ν) (nx:=st.nx) e _ _ mL) gN;have henc:=Wlk hr.h pg aX hf;have fI:=Wkb (λx c hc=>Enc_len e x c hc) xs cs i d _ h7 hlt henc;have hrun:=Wec (w:=w) (hT _ _ hl) (b:=b) (off:=(ν id).off+(i*e.size+off)) (v:=a.eval y) fJ (by rw[WW eE];omega) (by omega) kb;obtain⟨hw,hm⟩:=WcG (k:=(ν id).off+(i*e.size+off)) (news:=(a.eval y).cells.toList) fJ (by omega);simp only[Xar]at hw hm;generalize w.setRow b (row.toList.take ((ν id).off+(i*e.size+off))++(a.eval y).cells.toList++row.toList.drop ((ν id).off+(i*e.size+off)+(a.eval y).cells.size)).toArray=W at hrun hw hm;have ll:cs.take (i*e.size+off)++(a.eval y).cells.toList++cs.drop (i*e.size+off+(a.eval y).cells.toList.length)=
       cs.take (i*e.size)++(((cs.drop (i*e.size)).take e.size).take off++(a.eval y).cells.toList++((cs.drop (i*e.size)).take e.size).drop (off+(a.eval y).cells.toList.length))++cs.drop (i*e.size+e.size):=by
      rw[hlen];have e1:cs.take (i*e.size+off)=cs.take (i*e.size)++((cs.drop (i*e.size)).take e.size).take off:=by
       rw[List.take_take,Xbz (by omega),←List.take_add]
      have e2:cs.drop (i*e.size+off+ds.length)=((cs.drop (i*e.size)).take e.size).drop (off+ds.length)++cs.drop (i*e.size+e.size):=by
       rw[List.drop_take,Xdl];have:cs.drop (i*e.size+e.size)=(cs.drop (i*e.size+(off+ds.length))).drop (e.size-(off+ds.length)):=by rw[Xdl];congr 1;omega
       rw[this,Xdm];congr 1;omega
      rw[e1,e2];simp
     have cJ:HRel w0 F G ν ((id,.arr e (xs.set i d))::st.objs) st.nx W:=by
      refine hφ.turn (m:=[]) az (by simp) hw (λb' o ⟨e',h1,h2⟩=>h9 b' o ⟨e',by omega,by omega⟩) ?_;refine WmO aX hb (by simpa using iu) cd (by simpa using h4) h5 (hw.rows.row _ _ ⟨row,TT,fJ,hrow⟩) fI ?_ (λb o hh=>.inl (h9 b o hh));rw[←ll];exact WeQ h8 (us:=(a.eval y).cells.toList) (by rw[Xar];exact hw) hm (by omega)
     refine⟨.skip,undef,W,G,ν,?_,.inr ⟨rfl,rfl⟩,?_⟩
     .simp only[execOp,ho,iw,cd,Instr.storeAt,Instr.sureAddr,Sem.run_bind,Sem.run_pure,Result.andThen_ok,hrun]
     .rw[iv];exact hr.on (λ_ _ _ hh=>hh) (λ_ _=>rfl) (Xl _) cJ hr.gx
    .simp at h
   .split at h
    .rename_i bq;simp only[Xi,Wi]at bq;obtain⟨⟨⟨hs,eE⟩,pi⟩,sy⟩:=bq;subst pi;split at h
     .rename_i d m hf;split at h
      .rename_i aS;injection h with h;subst h;have aS:(id::m).Nodup:=(WcM _).1 aS;obtain⟨oo,sA⟩:=Xac.1 aS;obtain⟨⟨_,pf,b,hb,iw⟩,_⟩:=hx;obtain⟨φ,hφ⟩:=hr.h;have hown:OwnL w (TyRel G w e) e.size (ν id) xs (φ id):=hφ.ob _ _ az;have aJ:Live st.objs id:=⟨_,az,by simp⟩;obtain⟨iu,cd,h3⟩:=hown;simp only[hb]at h3;obtain⟨h4,h5,jn,cs,ps,h7,h8,h9,cu⟩:=h3;obtain⟨row,TT,fJ,hrow⟩:=jn;have hlt:i<xs.length:=by omega
       have hlen:(a.eval y).cells.toList.length=ds.length:=gN.1;have da:(a.eval y).cells.size=ds.length:=by simpa using hlen
       have su:i*e.size+e.size<=xs.length*e.size:=by rw[←Xbx];exact Xbf _ hlt
       have sw:xs.length*e.size<=(ν id).cap*e.size:=Xbf _ h4;obtain⟨c1,c,c2,p1,pc,p2,g1,g2,g3,g4,g5⟩:=Wn0 h7 e.dflt hlt;have l1:=WaQ (λx c q hx=>WD e x c q hx) _ _ _ g3;rw[Xbh,Xbz (by omega)]at l1;have lc:=WD _ _ _ _ g4;obtain⟨ns,t1,t2,t3,t4,_⟩:=Wab (G':=G) hφ (λ_ _ _ hh=>hh) e ds _ d m [] gN (λi hi=>by simp at hi) sA hf;have hrun:=Wec (w:=w) (hT _ _ hl) (b:=b) (off:=(ν id).off+(i*e.size+0)) (v:=a.eval y) fJ (by rw[WW eE];omega) (by omega) kb;obtain⟨hw,hm⟩:=WcG (k:=(ν id).off+(i*e.size+0)) (news:=(a.eval y).cells.toList) fJ (by omega);simp only[Xar]at hw hm;generalize w.setRow b (row.toList.take ((ν id).off+(i*e.size+0))++(a.eval y).cells.toList++row.toList.drop ((ν id).off+(i*e.size+0)+(a.eval y).cells.size)).toArray=W at hrun hw hm;have gO:CS.le (rng b ((ν id).off+(i*e.size+0)) (a.eval y).cells.size) (rng b (ν id).off ((ν id).cap*e.size)):=λb' o ⟨e',k1,k2⟩=>⟨e',by omega,by omega⟩;have gg:=cu _ (Xj ..);have hbl:∀p∈p1++(pc++p2),∀b o,p.fp b o->b<w.heap.size:=λp hp b o hh=>hφ.bl id b o aJ (cu p.fp (Xf _ (Xam (by rw[g2];exact hp))) b o hh);obtain⟨q1,q2⟩:=Xt.1 h9;have hZ:∀p∈p1++(pc++p2),Same p.fp w W:=λp hp=>hw.same ((q1 p.fp (Xam (by rw[g2];exact hp))).mono gO (λ_ _ hh=>hh)) (hbl p hp);have jo:∀p∈ns,Same p.fp w W:=λp hp=>hw.same (λb o k1 k2=>by
        obtain⟨j,hj,k3,k4⟩:=t3 p hp b o k2;have:=hφ.inj id j b o aJ k3 (gg b o (gO b o k1)) k4;subst this;exact oo hj) (λb o hh=>by
        obtain⟨j,hj,k3,k4⟩:=t3 p hp b o hh;exact hφ.bl j b o k3 k4)
       have hEnc:EncP (TyRel G W e) (xs.set i d) (c1++((a.eval y).cells.toList++c2)) (p1++(ns++p2)):=by
        refine WoU hlt ?_ (Wau (λ_ _ _ hh=>hh) e _ _ _ jo t1) ?_
        .exact WbE (Q:=λq=>Same q.fp w W) (λx c q hq hx=>Wau (λ_ _ _ hh=>hh) e x c q hq hx) _ _ _ (λq hq=>hZ q (Xm _ hq)) g3
        .exact WbE (Q:=λq=>Same q.fp w W) (λx c q hq hx=>Wau (λ_ _ _ hh=>hh) e x c q hq hx) _ _ _ (λq hq=>hZ q (Xh _ (Xh _ hq))) g5
       have hMem:Mem W b (ν id).off (c1++((a.eval y).cells.toList++c2)):=by
        have:=WeQ h8 (k:=i*e.size+0) (us:=(a.eval y).cells.toList) (by rw[Xar];exact hw) hm (by rw[g1];simp;omega);rw[g1,Xbd,List.take_append_of_le_length (by omega),List.take_of_length_le (by omega)]at this;have mM:(c1++(c++c2)).drop (i*e.size+(a.eval y).cells.toList.length)=c2:=by
         rw[←Xaw,show i*e.size+(a.eval y).cells.toList.length=(c1++c).length by rw[Xw];omega,List.drop_left]
        rw[mM,Xaw]at this;exact this
       have cJ:HRel w0 F G ν ((id,.arr e (xs.set i d))::kill st.objs m) st.nx W:=by
        refine hφ.turn az (by simp) hw (λb' o hh=>gg b' o (gO b' o hh)) ?_;refine⟨by simpa using iu,cd,?_⟩;simp only[hb];rw[g2,Xy,Xy]at q2 q1;have qA:=Xah.1 q2;have qB:=Xah.1 qA.2.1;have pj:∀p∈ns,∀s,CS.le s (φ id)->CS.disj p.fp s:=λp hp s hs b o k1 k2=>by
         obtain⟨j,hj,k3,k4⟩:=t3 p hp b o k1;have:=hφ.inj id j b o aJ k3 (hs b o k2) k4;subst this;exact oo hj
        have bT:∀p∈p1++(pc++p2),CS.le p.fp (φ id):=λp hp=>cu p.fp (Xf _ (Xam (by rw[g2];exact hp)));refine⟨by simpa using h4,h5,hw.rows.row _ _ ⟨row,TT,fJ,hrow⟩,_,p1++(ns++p2),hEnc,hMem,Xt.2 ⟨λs hs=>?_,?_⟩,λs hs=>?_⟩
        .simp only[Xy,Xn]at hs;rcases hs with hs|hs|hs
         .exact q1 s (Xm _ hs)
         .obtain⟨p,hp,rfl⟩:=Xv.1 hs;exact(pj p hp _ gg).symm
         .exact q1 s (Xh _ (Xh _ hs))
        .rw[Xy,Xy];refine Wln (Xah.2 ⟨qA.1,qB.2.1,λs hs t ht=>qA.2.2 s hs t (Xh _ ht)⟩) t2 (λs hs t ht=>?_);obtain⟨p,hp,rfl⟩:=Xv.1 hs;rcases Xn.1 ht with ht|ht
         .obtain⟨q,hq,rfl⟩:=Xv.1 ht;exact pj p hp _ (bT q (Xm _ hq))
         .obtain⟨q,hq,rfl⟩:=Xv.1 ht;exact pj p hp _ (bT q (Xh _ (Xh _ hq)))
        .intro b o hh;rcases Xr.1 hs with rfl|hs
         .exact .inl (gg b o hh)
         .simp only[Xy,Xn]at hs;rcases hs with hs|hs|hs
          .obtain⟨q,hq,rfl⟩:=Xv.1 hs;exact .inl (bT q (Xm _ hq) b o hh)
          .obtain⟨q,hq,rfl⟩:=Xv.1 hs;exact .inr (t3 q hq b o hh)
          .obtain⟨q,hq,rfl⟩:=Xv.1 hs;exact .inl (bT q (Xh _ (Xh _ hq)) b o hh)
       refine⟨.skip,undef,W,G,ν,?_,.inr ⟨rfl,rfl⟩,?_⟩
       .simp only[execOp,ho,iw,cd,Instr.storeAt,Instr.sureAddr,Sem.run_bind,Sem.run_pure,Result.andThen_ok,hrun]
       .rw[iv];exact hr.on (λ_ _ _ hh=>hh) (λ_ _=>rfl) (Xl _) cJ hr.gx
      .simp at h
     .simp at h
    .simp at h
  .simp at h
 .simp at h
end
end Go.Sx
namespace Go.Sx
set_option linter.unusedVariables false
set_option linter.unusedSimpArgs false
theorem WtI{G:GH}(t:Ty)(d:t.den)(cs:List Value)(h:Enc G t d cs):∀u∈cs,u.oneCell'=true:=λu hu=>by
 obtain⟨j,hj⟩:=Xdp hu;have hc:=Waw (ν:=λ_=>⟨none,0,0,0,0⟩) (nx:=0) t d cs h;have hlt:j<(split t d).length:=by rw[←hc.1];grind
 exact(hc.2 j _ u (Xs hlt) hj).2
theorem WoS{G:GH}{t:Ty}:∀(l:List t.den) (cs:List Value),EncL (Enc G t) l cs->∀u∈cs,u.oneCell'=true
 | [],cs,h,u,hu=>by grind [EncL]
 |x::l,cs,⟨c1,c2,he,h1,h2⟩,u,hu=>by
  subst he;rcases Xn.1 hu with hu|hu
  .grind [WtI]
  .exact WoS l c2 h2 u hu
theorem WqY{G:GH}{w:World}(t:Ty)(d:t.den)(cs:List Value)(ps:List Pc)(h:TyRel G w t d cs ps):∀u∈cs,u.oneCell'=true:=λu hu=>by
 obtain⟨j,hj⟩:=Xdp hu;have hc:=Whs (ν:=λ_=>⟨none,0,0,0,0⟩) (nx:=0) t d cs ps h;have hlt:j<(split t d).length:=by rw[←hc.1];grind
 exact(hc.2 j _ u (Xs hlt) hj).2
theorem WlE{G:GH}{w:World}{t:Ty}:∀(l:List t.den) (cs:List Value) (ps:List Pc),EncP (TyRel G w t) l cs ps->∀u∈cs,u.oneCell'=true
 | [],cs,ps,h,u,hu=>by rw[h.1]at hu;simp at hu
 |x::l,cs,ps,⟨c1,c2,p1,p2,he,hp,h1,h2⟩,u,hu=>by
  subst he;rcases Xn.1 hu with hu|hu
  .grind [WqY]
  .exact WlE l c2 p2 h2 u hu
section
variable{w0:World}{F:CS}{nt:Slots}{G0 G:GH}{ν:Nat->Nu}{φ:Nat->CS}{objs:W9}{nx:Nat}{st af:St}{a:Act}{w w':World}{P:Program}{T:Tab}
structure Src(w0:World)(F:CS)(G:GH)(ν:Nat->Nu)(st:St)(w:World)(e:Ty)(l:List e.den)(m:List Nat)(v:Value)(news:List Value):Prop where
 enc:∀φ,HR w0 F G ν φ st.objs st.nx w->∃ps,EncP (TyRel G w e) l news ps/\Sep (ps.map Pc.fp)/\∀p∈ps,CS.le p.fp (FromL φ st.objs m)
 rd:(v= .slice none 0 0/\l= [])\/∃(p:Addr) (c:Nat),v= .slice (some p) l.length c/\∀(j:Nat) (u:Value),news[j]?=some u->w.cell? (p.add j)=some u
theorem Wcv{e:Ty}(he:e.data=true){l:List e.den}{m:List Nat}{v:Value}{news:List Value}(h:EncL (Enc G e) l news)
  (rd:(v= .slice none 0 0/\l= [])\/∃(p:Addr) (c:Nat),v= .slice (some p) l.length c/\∀(j:Nat) (u:Value),news[j]?=some u->w.cell? (p.add j)=some u):Src w0 F G ν st w e l m v news:=
 ⟨λφ _=>⟨[],(EncP_data he l news []).2 ⟨h,rfl⟩,List.Pairwise.nil,by simp⟩,rd⟩
theorem WhA(hr:Rel w0 F nt G0 G ν st a w){e:Ty}(he:e.data=true){x:AVal}{u:Value}{l:List e.den}(m:List Nat)(hx:AValRel G ν st.nx x u)(h:WtL st e x=some l):∃news,Src w0 F G ν st w e l m u news:=by
 unfold WtL at h;split at h
 .rename_i e' d';obtain⟨kc,hd⟩:=Wap h;subst kc;simp only at hd;subst hd;obtain⟨⟨v,hv,hs⟩,_⟩:=hx;simp at hv;subst hv;rcases hs with⟨rfl,hn⟩|⟨b,off,cap,cs,rfl,h1,h2,h3,h4⟩|⟨a',cap,rfl,hn⟩
  rotate_left 2
  .exact⟨[],Wcv he (by rw[hn];rfl) (.inr ⟨a',cap,by grind,λj u hj=>by simp at hj⟩)⟩
  .exact⟨[],Wcv he (by rw[hn];rfl) (.inl ⟨rfl,hn⟩)⟩
  .exact⟨cs,Wcv he h3 (.inr ⟨⟨b,off,none⟩,cap,rfl,λj u hj=>by rw[WaP];exact hr.h.g (h4 j u hj)⟩)⟩
 .injection h with h;subst h;obtain⟨hv,_⟩:=hx;simp only[CellRel]at hv;subst hv;exact⟨[],Wcv he rfl (.inl ⟨rfl,rfl⟩)⟩
 .rename_i id;split at h
  .rename_i e' xs ho;obtain⟨kc,hd⟩:=Wap h;subst kc;simp only at hd;subst hd;obtain⟨⟨_,hv⟩,_⟩:=hx;subst hv;obtain⟨S,az⟩:=hr.h.obj ho;unfold Nu.hdr;cases hb:(ν id).blk with
   |none=>have:=Wb8 az hb;exact⟨[],Wcv he (by rw[this];rfl) (.inl ⟨rfl,this⟩)⟩
   |some b=>
    obtain⟨h1,h2,h3,h4,cs,h5,h6,h7⟩:=Wdp he az hb;exact⟨cs,Wcv he h5 (.inr ⟨⟨b,(ν id).off,none⟩,(ν id).cap,by rw[h1],λj u hj=>by rw[WaP];exact h6 j u hj⟩)⟩
  grind
 .rename_i id lo hi;split at h
  .rename_i e' xs ho;obtain⟨ys,hc,h⟩:=Xu.1 h;subst h;obtain⟨kc,hd⟩:=Wap hc;subst kc;simp only at hd;subst hd;obtain⟨⟨_,g1,g2,g3,hv⟩,_⟩:=hx;subst hv;obtain⟨S,az⟩:=hr.h.obj ho;have cd:=az.2.1;have rh:=az.1;unfold Nu.vhdr;cases hb:(ν id).blk with
   |none=>
    have:=Wb8 az hb;subst this;exact⟨[],Wcv he (by simp;rfl) (.inl ⟨rfl,by simp⟩)⟩
   |some b=>
    obtain⟨h1,h2,h3,h4,cs,h5,h6,h7⟩:=Wdp he az hb;have hl:((xs.take hi).drop lo).length=hi-lo:=by simp;omega
    by_cases pk:(ν id).cap=lo
    .have h0:(xs.take hi).drop lo= []:=Xz (by omega);exact⟨[],Wcv he (by rw[h0];rfl) (.inr ⟨_,_,by rw[hl],λj u hj=>by simp at hj⟩)⟩
    .refine⟨(cs.take (hi*e'.size)).drop (lo*e'.size),Wcv he (WeA (λx c hc=>Enc_len e' x c hc) _ _ lo (Wew (λx c hc=>Enc_len e' x c hc) _ _ hi h5)) (.inr ⟨_,_,by rw[hl,Wb pk],λj u hj=>?_⟩)⟩;rw[Xbl,Xbm]at hj;rw[WaP,cd,Xay];split at hj
     .exact h6 _ u hj
     grind
  grind
 grind
theorem Wqk(hr:Rel w0 F nt G0 G ν st a w){dst:Option Tmp}(hd:∀d,dst=some d->nt.Ok d)(e:Ty)(m:List Nat):
  ∃ν',Rel w0 F nt G0 G ν' (({env:=st.env,objs:=(st.nx,.arr e [])::kill st.objs m,nx:=st.nx+1}:St).put dst (.s (.one (.own st.nx)))) (a.put dst (.slice none 0 0)) w:=by
 refine⟨upd ν st.nx ⟨none,0,0,0,e.size⟩,hr.fresh hd m (.arr e []) _ (λ_ _ _=>False) _ _ (λφ _=>WLe.refl _ w) (λφ _ b o hh=>hh.elim) (λφ _=>?_) ⟨⟨Xbs _,by rw[Wa8];rfl⟩,rfl⟩⟩;show OwnL _ _ _ (upd ν st.nx ⟨none,0,0,0,e.size⟩ st.nx) _ _;rw[Wa8];exact⟨rfl,rfl,rfl⟩
theorem WhX(t ty e TT:TypeId)(i:TypeInfo)(ht:P.underlying t=some (.slice e))(hi:P.info? e=some i)
  (g off sLen sCap:Nat) (cur:Array Value) (hg:w.heap[g]?=some (.cells cur TT (0,0)))
  (p:Addr) (m c:Nat) (news:List Value) (hl:news.length=m*i.size) (mN:∀j u,news[j]?=some u->w.cell? (p.add j)=some u) (h1:∀u∈news,u.oneCell'=true)
  (ao:sLen+m<=sCap) (ce:off+sLen*i.size+news.length<=cur.size):
  (Builtin.append_ #[t,t] ty #[.slice (some ⟨g,off,none⟩) sLen sCap,.slice (some p) m c]).run P w=
   .ok (.slice (some ⟨g,off,none⟩) (sLen+m) sCap) (w.setRow g (cur.toList.take (off+sLen*i.size)++news++cur.toList.drop (off+sLen*i.size+news.length)).toArray):=by
 have hf:=run_firstCells_some (P:=P) w i.size m p m c news hl mN;have be:=run_storeCells_at P g (off+sLen*i.size) TT news 0 cur w hg (by omega) h1;simp only[Xbd]at be;simp[Builtin.append_,Wl ht,sizeOf,typeInfo,hi,Builtin.lenOf,ao,hf,WaP,be]
theorem Weo(t ty e:TypeId)(i:TypeInfo)(ht:P.underlying t=some (.slice e))(hi:P.info? e=some i)(base:Option Addr)(n cap:Nat)(h:n<=cap):
  (Builtin.append_ #[t,t] ty #[.slice base n cap,.slice none 0 0]).run P w= .ok (.slice base n cap) w:=by
 cases base<;>simp[Builtin.append_,Wl ht,sizeOf,typeInfo,hi,Builtin.lenOf,h,Builtin.firstCells,storeCells]
theorem Wh8(t ty e:TypeId)(i:TypeInfo)(ht:P.underlying t=some (.slice e))(hi:P.info? e=some i)(p:Addr)(c:Nat):
  (Builtin.append_ #[t,t] ty #[.slice none 0 0,.slice (some p) 0 c]).run P w= .ok (.slice none 0 0) w:=by
 simp[Builtin.append_,Wl ht,sizeOf,typeInfo,hi,Builtin.lenOf,Builtin.firstCells,loadCells,loadCellsFrom]
theorem WbL{o:Oper}{c:Call}(ho:o.op= .call c){s x:Operand}{t:TypeId}(hc:c.callee= .builtin .append)(ha:c.args.toList= [s,x])(de:c.argTypes.toList= [t,t]){v:Value}
  (hrun:(Builtin.append_ #[t,t] o.type #[a.eval s,a.eval x]).run P w= .ok v w'):(execOp a.eval o).run P w= .ok (.value v) w':=by
 obtain⟨callee,args,argTypes⟩:=c;obtain⟨args⟩:=args;obtain⟨argTypes⟩:=argTypes;simp only at hc ha de;subst hc ha de;simp only[execOp,ho,resolve,invoke,builtin,Sem.run_bind,Sem.run_pure,Result.andThen_ok,Xdq,Xaf,Xce,hrun]
theorem Wtg(w:World)(need old:Nat)(e:TypeId)(h:Wz need=true):need<=grownCap w need old e/\grownCap w need old e<=maxLen:=
 ⟨grownCap_ge w need old e,grownCap_le_maxLen w need old e (by grind [Wz,maxLen])⟩
theorem WjF(hr:Rel w0 F nt G0 G ν st a w){dst:Option Tmp}(hd:∀d,dst=some d->nt.Ok d)(m:List Nat){e:Ty}{xs:List e.den}{cs:List Value}(hl:cs.length=xs.length*e.size)
  (hc:∀φ,HR w0 F G ν φ st.objs st.nx w->∃ps,EncP (TyRel G w e) xs cs ps/\Sep (ps.map Pc.fp)/\∀p∈ps,CS.le p.fp (FromL φ st.objs m)) {cap:Nat} (gJ:xs.length<=cap) (iy:cap<=maxLen) (z:Array Value) (hz:z.size=e.size) (t:TypeId):
  ∃ν',Rel w0 F nt G0 G ν' (({env:=st.env,objs:=(st.nx,.arr e xs)::kill st.objs m,nx:=st.nx+1}:St).put dst (.s (.one (.own st.nx)))) (a.put dst (.slice (some ⟨w.heap.size,0,none⟩) xs.length cap)) (w.drew.alloc (.cells (cs.toArray++Builtin.zeroCells z (cap-xs.length)) t)):=by
 refine(Wht hr hd m (e:=e) (xs:=xs) (cap:=cap) (cs:=cs) (vs:=cs.toArray++Builtin.zeroCells z (cap-xs.length)) (t:=t) gJ iy ?_ hc ?_ w.drew rfl rfl rfl rfl).1
 .simp only[Array.size_append,List.size_toArray,size_zeroCells,hz,hl,←Xcp];simp_all
 .simp
structure ElT(P:Program)(t et:TypeId)(e:Ty):Prop where
 u:P.underlying t=some (.slice et)
 i:∃i z,P.info? et=some i/\i.size=e.size/\i.zero=some z/\z.cells.size=e.size/\i.bytes<=4096
theorem elT(hT:Waf P T){t et:TypeId}{ty:Ty}{ag:Bool}{te:TE}{e:Ty}(hl:Wq T t=some ⟨ty,ag,.slice et⟩)(hle:Wq T et=some te)(hp:te.plain=true)(he:te.ty.size=e.size):ElT P t et e:=by
 obtain⟨i,z,hi,hsz,hz,dK,lj⟩:=(hT _ _ hle).info;rw[WW hp]at hsz;rw[Wbk hp]at dK;exact⟨(hT _ _ hl).und.2.1,i,z,hi,by rw[hsz,he],hz,by rw[←Xar,dK,Wbc,he],lj⟩
theorem Wbb(hr:Rel w0 F nt G0 G ν st a w){o:Oper}(hd:∀d,o.dst=some d->nt.Ok d){c:Call}{s x:Operand}{t et:TypeId}{e:Ty}(hE:ElT P t et e)
  (ho:o.op= .call c) (hc:c.callee= .builtin .append) (ha:c.args.toList= [s,x]) (de:c.argTypes.toList= [t,t]) (di:a.eval s= .slice none 0 0)
  {l:List e.den} {m m':List Nat} {news:List Value} (hx:Src w0 F G ν st w e l m (a.eval x) news) (hm:∀i∈m,i∈m') (ao:Wz l.length=true):
  Done P w0 F nt G0 o a w (({env:=st.env,objs:=(st.nx,.arr e l)::kill st.objs m',nx:=st.nx+1}:St).put o.dst (.s (.one (.own st.nx)))):=by
 obtain⟨hu,i,z,hi,hsz,hz,gL,lj⟩:=hE;have pm:l.length<=1073741824:=by grind [Wz]
 have hpos:=Wbu e;rcases hx.rd with⟨aG,bu⟩|⟨pa,cc,aG,bm⟩
 .subst bu;obtain⟨ν',hh⟩:=Wqk hr hd e m';exact⟨_,_,_,G,ν',WbL ho hc ha de (by simp_all [Weo,Xl]),.inl rfl,hh⟩
 .by_cases h0:l.length=0
  .have bu:l= []:=Xz h0;subst bu;obtain⟨ν',hh⟩:=Wqk hr hd e m';exact⟨_,_,_,G,ν',WbL ho hc ha de (by grind [Wh8]),.inl rfl,hh⟩
  .obtain⟨φ,hφ⟩:=hr.h;obtain⟨sB,e0,_⟩:=hx.enc φ hφ;have iQ:news.length=l.length*e.size:=WaQ (λx c q hx=>WD e x c q hx) _ _ _ e0;obtain⟨oj,ka⟩:=Wtg w l.length 0 et ao;obtain⟨ν',hh⟩:=WjF hr hd m' iQ (λφ hφ=>by
    obtain⟨ps,k1,k2,k3⟩:=hx.enc φ hφ;exact⟨ps,k1,k2,λp hp b o hh=>FromL.mono hm b o (k3 p hp b o hh)⟩) oj ka z.cells gL et
   have ri:l.length*i.bytes<=281474976710656:=by
    have:=Nat.mul_le_mul pm lj;omega
   refine⟨_,_,_,G,ν',WbL ho hc ha de ?_,.inl rfl,hh⟩
   grind [run_append_nil]
theorem Wdm{e:Ty}{nu:Nu}{xs:List e.den}{S:CS}{b k:Nat}(h:OwnL w (TyRel G w e) e.size nu xs S)(hb:nu.blk=some b)(hk:k<=xs.length):
  ∃c1 p1,EncP (TyRel G w e) (xs.take k) c1 p1/\c1.length=k*e.size/\Mem w b nu.off c1/\Sep (rng b nu.off (nu.cap*e.size)::p1.map Pc.fp)/\(∀s∈rng b nu.off (nu.cap*e.size)::p1.map Pc.fp,CS.le s S):=by
 obtain⟨h1,h2,h3⟩:=h;simp only[hb]at h3;obtain⟨h4,h5,h6,cs,ps,h7,h8,h9,cu⟩:=h3;obtain⟨c1,c2,p1,p2,g1,g2,g3,g4⟩:=Wev xs cs ps k h7;have hl:=WaQ (λx c q hx=>WD e x c q hx) _ _ _ g3;rw[Xbh,Xbz hk]at hl;obtain⟨q1,q2⟩:=Xt.1 h9;rw[g2,Xy]at q1 q2 cu;refine⟨c1,p1,g3,hl,by rw[g1]at h8;exact h8.left,Xt.2 ⟨λs hs=>q1 s (Xm _ hs),(Xah.1 q2).1⟩,λs hs=>?_⟩
 grind
theorem Wdg(hr:Rel w0 F nt G0 G ν st a w){o:Oper}(hd:∀d,o.dst=some d->nt.Ok d){c:Call}{s x:Operand}{t et:TypeId}{e:Ty}(hE:ElT P t et e)
  (ho:o.op= .call c) (hc:c.callee= .builtin .append) (ha:c.args.toList= [s,x]) (de:c.argTypes.toList= [t,t])
  {id g k:Nat} {xs:List e.den} (az:Wq st.objs id=some (.arr e xs)) (bf:(ν id).blk=some g) (hk:k<=xs.length) (di:a.eval s= .slice (some ⟨g,(ν id).off,none⟩) k (ν id).cap)
  {l:List e.den} {m:List Nat} {news:List Value} (hx:Src w0 F G ν st w e l m (a.eval x) news) (hm:id∉m) (ao:Wz (k+l.length)=true):
  Done P w0 F nt G0 o a w (({env:=st.env,objs:=(st.nx,.arr e (Xg (xs.take k) l))::kill st.objs (id::m),nx:=st.nx+1}:St).put o.dst (.s (.one (.own st.nx)))):=by
 obtain⟨hu,i,z,hi,hsz,hz,gL,lj⟩:=hE;have pm:k+l.length<=1073741824:=by grind [Wz]
 have hpos:=Wbu e;have hlen:(Xg (xs.take k) l).length=k+l.length:=by show(xs.take k++l).length=_;rw[Xw,Xbh,Xbz hk]
 obtain⟨φ0,hφ0⟩:=hr.h;have ia:OwnL w (TyRel G w e) e.size (ν id) xs (φ0 id):=hφ0.ob _ _ az;have kJ:=ia.2.2;simp only[bf]at kJ;obtain⟨hxc,iy,⟨row,TT,fJ,hrow⟩,_⟩:=kJ;obtain⟨c1,p10,_,mO,mP,_,_⟩:=Wdm ia bf hk;obtain⟨sB,e0,_⟩:=hx.enc φ0 hφ0;have iQ:news.length=l.length*e.size:=WaQ (λx c q hx=>WD e x c q hx) _ _ _ e0;have aJ:Live st.objs id:=⟨_,az,by simp⟩;have mQ:∀{c2:List Value},c2.length=k*e.size->Mem w g (ν id).off c2->c2=c1:=λ{c2} h1 h2=>Xfe λj=>by
  by_cases hj:j<k*e.size
  .have kK:j<c2.length:=by omega
   have oq:j<c1.length:=by omega
   have a1:=h2 j _ (Xs kK);have a2:=mP j _ (Xs oq);simp_all
  simp_all
 have inplace:∀(W:World),WLe (rng g ((ν id).off+k*e.size) (l.length*e.size)) w W->Mem W g ((ν id).off+k*e.size) news->k+l.length<=(ν id).cap->
   ∃ν',Rel w0 F nt G0 G ν' (({env:=st.env,objs:=(st.nx,.arr e (Xg (xs.take k) l))::kill st.objs (id::m),nx:=st.nx+1}:St).put o.dst (.s (.one (.own st.nx)))) (a.put o.dst (.slice (some ⟨g,(ν id).off,none⟩) (k+l.length) (ν id).cap)) W:=by
  intro W hW hM ce;have jk:(k+l.length)*e.size<=(ν id).cap*e.size:=Xbf _ ce;rw[Xcp]at jk;have gO:CS.le (rng g ((ν id).off+k*e.size) (l.length*e.size)) (rng g (ν id).off ((ν id).cap*e.size)):=λb o ⟨k0,k1,k2⟩=>⟨k0,by omega,by omega⟩;refine⟨upd ν st.nx ⟨some g,(ν id).off,k+l.length,(ν id).cap,e.size⟩,hr.fresh hd (id::m) (.arr e (Xg (xs.take k) l)) _ (λφ b o=>φ id b o\/FromL φ st.objs m b o) _ _ (λφ hφ=>?_) (λφ hφ b o hh=>?_) (λφ hφ=>?_) ⟨⟨Xbs _,by rw[Wa8];rfl⟩,rfl⟩⟩
  .have hown:OwnL w (TyRel G w e) e.size (ν id) xs (φ id):=hφ.ob _ _ az;obtain⟨_,_,_,_,_,_,hle⟩:=Wdm hown bf hk;exact hW.mono λb o hh=>⟨id,.inr (Xj ..),aJ,hle _ (Xj ..) b o (gO b o hh)⟩
  .rcases hh with hh|⟨j,hj,h1,h2⟩
   .exact .inl ⟨id,.inr (Xj ..),aJ,hh⟩
   .exact .inl ⟨j,.inr (Xf _ hj),h1,h2⟩
  .have hown:OwnL w (TyRel G w e) e.size (ν id) xs (φ id):=hφ.ob _ _ az;obtain⟨mg,p1,g3,g4,g5,g6,g7⟩:=Wdm hown bf hk;obtain⟨ps,k1,k2,k3⟩:=hx.enc φ hφ;obtain⟨q1,q2⟩:=Xt.1 g6;have gg:=g7 _ (Xj ..);have kL:∀p∈p1,CS.le p.fp (φ id):=λp hp=>g7 _ (Xf _ (Xam hp));have mR:∀p∈ps,∀S,CS.le S (φ id)->CS.disj S p.fp:=λp hp S hS b o h1 h2=>by
    obtain⟨j,hj,h3,h4⟩:=k3 p hp b o h2;have:=hφ.inj id j b o aJ h3 (hS b o h1) h4;simp_all
   have hZ:∀p∈p1,Same p.fp w W:=λp hp=>hW.same ((q1 p.fp (Xam hp)).mono gO (λ_ _ hh=>hh)) (λb o hh=>hφ.bl id b o aJ (kL p hp b o hh));have jo:∀p∈ps,Same p.fp w W:=λp hp=>hW.same (mR p hp _ (λb o hh=>gg b o (gO b o hh))) (λb o hh=>by
    obtain⟨j,hj,h3,h4⟩:=k3 p hp b o hh;exact hφ.bl j b o h3 h4)
   show OwnL W (TyRel G W e) e.size (upd ν st.nx ⟨some g,(ν id).off,k+l.length,(ν id).cap,e.size⟩ st.nx) _ _;rw[Wa8];refine⟨hlen,rfl,by simp_all,iy,hW.rows.row _ _ ⟨row,TT,fJ,hrow⟩,mg++news,p1++ps,WdM _ _ _ _ _ _ ?_ ?_,?_,Xt.2 ⟨λs hs=>?_,?_⟩,λs hs b o hh=>?_⟩
   .exact WbE (Q:=λq=>Same q.fp w W) (λx c q hq hx=>Wau (λ_ _ _ hh=>hh) e x c q hq hx) _ _ _ hZ g3
   .exact WbE (Q:=λq=>Same q.fp w W) (λx c q hq hx=>Wau (λ_ _ _ hh=>hh) e x c q hq hx) _ _ _ jo k1
   .refine Mem.app (n:=k*e.size) (λj v hj=>?_) hM g4;have h1:=g5 j v hj;have hj':j<mg.length:=(Xaa.1 hj).1;rw[hW.cell g ((ν id).off+j) (block_lt_of_cell h1) (λ⟨_,h2,_⟩=>by omega)];exact h1
   .grind
   .rw[Xy];refine Xah.2 ⟨q2,k2,λs hs t ht=>?_⟩
    grind
   .rcases Xr.1 hs with rfl|hs
    .exact .inl (gg b o hh)
    .rw[Xy]at hs;rcases Xn.1 hs with hs|hs
     .obtain⟨p,hp,rfl⟩:=Xv.1 hs;exact .inl (kL p hp b o hh)
     .obtain⟨q,hq,rfl⟩:=Xv.1 hs;exact .inr (k3 q hq b o hh)
 rcases hx.rd with⟨aG,bu⟩|⟨pa,cc,aG,bm⟩
 .have hl0:l.length=0:=by simp_all
  have ol:news= []:=Xz (by simp_all);obtain⟨ν',hh⟩:=inplace w (WLe.refl _ w) (by rw[ol];exactλj v hj=>by simp at hj) (by omega);refine⟨_,_,_,G,ν',WbL ho hc ha de ?_,.inl rfl,hh⟩
  grind [Weo]
 .by_cases ce:k+l.length<=(ν id).cap
  .have pn:(k+l.length)*e.size<=(ν id).cap*e.size:=Xbf _ ce;rw[Xcp]at pn;have hrun:=WhX (P:=P) (w:=w) t o.type et TT i hu hi g (ν id).off k (ν id).cap row fJ pa l.length cc news (by rw[hsz];exact iQ) (λj v hj=>bm j v hj) (WlE _ _ _ e0) ce (by rw[hsz,iQ];omega);obtain⟨hw,kd⟩:=WcG (k:=(ν id).off+k*i.size) (news:=news) fJ (by rw[hsz,iQ];omega);generalize w.setRow g (row.toList.take ((ν id).off+k*i.size)++news++row.toList.drop ((ν id).off+k*i.size+news.length)).toArray=W at hrun hw kd;rw[hsz]at hw kd;rw[iQ]at hw;obtain⟨ν',hh⟩:=inplace W hw kd ce;exact⟨_,_,_,G,ν',WbL ho hc ha de (by rw[di,aG,hrun]),.inl rfl,hh⟩
  .obtain⟨oj,ka⟩:=Wtg w (k+l.length) (ν id).cap et ao;have hcl:(c1++news).length=(Xg (xs.take k) l).length*e.size:=by rw[Xw,mO,iQ,hlen,Xcp]
   obtain⟨ν',hh⟩:=WjF hr hd (id::m) (xs:=Xg (xs.take k) l) hcl (λφ hφ=>by
    have hown:OwnL w (TyRel G w e) e.size (ν id) xs (φ id):=hφ.ob _ _ az;obtain⟨mg,p1,g3,g4,g5,g6,g7⟩:=Wdm hown bf hk;obtain⟨ps,k1,k2,k3⟩:=hx.enc φ hφ;have:=mQ g4 g5;subst this;obtain⟨q1,q2⟩:=Xt.1 g6;have kL:∀p∈p1,CS.le p.fp (φ id):=λp hp=>g7 _ (Xf _ (Xam hp));refine⟨p1++ps,WdM _ _ _ _ _ _ g3 k1,?_,λp hp b o hh=>?_⟩
    .rw[Xy];refine Xah.2 ⟨q2,k2,λs hs t ht=>?_⟩;obtain⟨p,hp,rfl⟩:=Xv.1 hs;obtain⟨q,hq,rfl⟩:=Xv.1 ht;intro b o h1 h2;obtain⟨j,hj,h3,h4⟩:=k3 q hq b o h2;have:=hφ.inj id j b o aJ h3 (kL p hp b o h1) h4;subst this;exact hm hj
    .rcases Xn.1 hp with hp|hp
     .exact⟨id,Xj ..,aJ,kL p hp b o hh⟩
     .exact FromL.mono (λi hi=>Xf _ hi) b o (k3 p hp b o hh)) (by rw[hlen];exact oj) ka z.cells gL et
   have ri:(k+l.length)*i.bytes<=140737488355328:=by
    have:=Nat.mul_le_mul pm lj;omega
   have hrun:=run_append_grow (P:=P) w t o.type et i z hu hi hz ⟨g,(ν id).off,none⟩ k (ν id).cap c1 (by rw[hsz];exact mO) (λj v hj=>by rw[WaP];exact mP j v hj) pa l.length cc news (by rw[hsz];exact iQ) (λj v hj=>bm j v hj) (by omega) (by omega) (growslice_fits (by omega) ri);refine⟨_,_,_,G,ν',WbL ho hc ha de ?_,.inl rfl,hh⟩;rw[di,aG,hrun,hlen];simp
theorem Wkr{id:Nat}{e:Ty}{xs:List e.den}(hh:HRel w0 F G ν objs nx w)(az:Wq objs id=some (.arr e xs)):
  ((ν id).blk=none/\xs= []/\(ν id).hdr= .slice none 0 0)\/∃g,(ν id).blk=some g/\(ν id).hdr= .slice (some ⟨g,(ν id).off,none⟩) xs.length (ν id).cap:=by
 obtain⟨S,ho⟩:=hh.obj az;unfold Nu.hdr;cases hb:(ν id).blk with
 |none=>exact .inl ⟨rfl,Wb8 ho hb,rfl⟩
 |some g=>exact .inr ⟨g,rfl,by rw[ho.1]⟩
theorem WlU(hT:Waf P T)(hr:Rel w0 F nt G0 G ν st a w){o:Oper}(hd:∀d,o.dst=some d->nt.Ok d){c:Call}{s x:Operand}{t et:TypeId}{ty:Ty}{te:TE}{sv xv:AVal}{R:Type}{k:St->Option R}{r:R}
  (hl:Wq T t=some ⟨ty,false,.slice et⟩) (hle:Wq T et=some te) (hp:te.plain=true)
  (ho:o.op= .call c) (hc:c.callee= .builtin .append) (ha:c.args.toList= [s,x]) (de:c.argTypes.toList= [t,t]) (hs:ev st s=some sv) (hx:ev st x=some xv)
  (h:Wea st te.ty sv xv (λx objs nx=>k (({env:=st.env,objs:=objs,nx:=nx}:St).put o.dst x))=some r):∃af,k af=some r/\Done P w0 F nt G0 o a w af:=by
 have move:∀(e:Ty) (l:List e.den) (m:List Nat),Wsp st e xv=some (l,m)->∃news,Src w0 F G ν st w e l m (a.eval x) news:=λe l m gh=>by
  unfold Wsp at gh;split at gh
  .simp only[Option.some.injEq,Prod.mk.injEq]at gh;obtain⟨rfl,rfl⟩:=gh;obtain⟨hv,_⟩:=WL hr x _ hx;exact⟨[],λφ _=>⟨[],⟨rfl,rfl⟩,List.Pairwise.nil,by simp⟩,.inl ⟨hv,rfl⟩⟩
  .rename_i id;split at gh
   .rename_i e' xs az;obtain⟨ys,br,gh⟩:=Xu.1 gh;have h2:=Prod.mk.inj gh;obtain⟨h3,h4⟩:=h2;subst h3 h4;obtain⟨kc,rj⟩:=Wap br;subst kc;simp only at rj;subst rj;obtain⟨⟨_,hv⟩,_⟩:=WL hr x _ hx;have aJ:Live st.objs id:=⟨_,az,by simp⟩;rcases Wkr hr.h az with⟨hb,bu,hh⟩|⟨g,hb,hh⟩
    .subst bu;exact⟨[],λφ _=>⟨[],⟨rfl,rfl⟩,List.Pairwise.nil,by simp⟩,.inl ⟨by rw[hv,hh],rfl⟩⟩
    .obtain⟨φ0,hφ0⟩:=hr.h;have ia:OwnL w (TyRel G w e') e'.size (ν id) xs (φ0 id):=hφ0.ob _ _ az;obtain⟨c1,p1,g1,g2,g3,g4,g5⟩:=Wdm ia hb (Xl _);refine⟨c1,λφ hφ=>?_,.inr ⟨⟨g,(ν id).off,none⟩,(ν id).cap,by rw[hv,hh],λj u hj=>by rw[WaP];exact g3 j u hj⟩⟩;have hown:OwnL w (TyRel G w e') e'.size (ν id) xs (φ id):=hφ.ob _ _ az;obtain⟨mg,sD,k1,k2,k3,k4,k5⟩:=Wdm hown hb (Xl _);have:mg=c1:=Xfe λj=>by
      by_cases hj:j<xs.length*e'.size
      .have kK:j<mg.length:=by omega
       have oq:j<c1.length:=by omega
       have a1:=k3 j _ (Xs kK);have a2:=g3 j _ (Xs oq);rw[a1]at a2;rw[Xs kK,Xs oq];exact a2
      .rw[Xcn (by omega),Xcn (by omega)]
     subst this;rw[Xed]at k1;exact⟨sD,k1,(Xt.1 k4).2,λp hp b o hh=>⟨id,Xag.2 rfl,aJ,k5 _ (Xf _ (Xam hp)) b o hh⟩⟩
   .simp at gh
  .simp at gh
 unfold Wea at h;split at h
 .split at h
  .rename_i e hel;split at h
   .rename_i he;split at h
    .rename_i l m gh;obtain⟨news,db⟩:=move e l m gh;cases ao:Wz l.length with
     |false=>simp[ao]at h
     |true=>
      simp[ao]at h;obtain⟨di,_⟩:=WL hr s _ hs;exact⟨_,h,Wbb hr hd (elT hT hl hle hp (by rw[←he,Wbi])) ho hc ha de di db (λi hi=>hi) ao⟩
    .simp at h
   .simp at h
  .simp at h
 .rename_i id;split at h
  .rename_i e xs az;split at h
   .rename_i he;split at h
    .rename_i l m gh;obtain⟨news,db⟩:=move e l m gh;split at h
     .rename_i aS;have aS:=(Xac.1 ((WcM _).1 aS)).1;cases ao:Wz (xs.length+l.length)with
      |false=>simp[ao]at h
      |true=>
       simp[ao]at h;refine⟨_,h,?_⟩;have hE:ElT P t et e:=elT hT hl hle hp (by rw[←he,Wbi]);obtain⟨⟨_,di⟩,_⟩:=WL hr s _ hs;rcases Wkr hr.h az with⟨hb,bu,hh⟩|⟨g,hb,hh⟩
       .subst bu;exact Wbb hr hd hE ho hc ha de (by rw[di,hh]) db (λi hi=>Xf _ hi) (by simpa [Wz]using ao)
       .have:=Wdg hr hd hE ho hc ha de az hb (Xl _) (by rw[di,hh]) db aS ao;rw[Xed]at this;exact this
     .simp at h
    .simp at h
   .simp at h
  .simp at h
 .simp at h
theorem Wm3(hT:Waf P T)(hr:Rel w0 F nt G0 G ν st a w){o:Oper}(hd:∀d,o.dst=some d->nt.Ok d){c:Call}{s x:Operand}{t t2:TypeId}{sv xv:AVal}{R:Type}{k:St->Option R}{r:R}
  (ho:o.op= .call c) (hc:c.callee= .builtin .append) (ha:c.args.toList= [s,x]) (de:c.argTypes.toList= [t,t2]) (hs:ev st s=some sv) (hx:ev st x=some xv)
  (h:WdO T st t t2 sv xv (λx objs nx=>k (({env:=st.env,objs:=objs,nx:=nx}:St).put o.dst x))=some r):∃af,k af=some r/\Done P w0 F nt G0 o a w af:=by
 unfold WdO at h;split at h
 .rename_i ty et _ hl _;split at h
  .rename_i te hle;split at h
   .rename_i bq;obtain⟨rfl,hp,aX⟩:=bq;have hE:ElT P t et te.ty:=elT hT hl hle hp rfl;cases gu:WsT st sv xv with
    |false=>
     simp only[gu,Bool.not_false,Wa]at h;exact WlU hT hr hd hl hle hp ho hc ha de hs hx h
    |true=>
    simp only[gu,Xo,Wc]at h;split at h
    .rename_i l da;cases ao:Wz l.length with
     |false=>simp[ao]at h
     |true=>
      simp[ao]at h;obtain⟨di,_⟩:=WL hr s _ hs;obtain⟨news,db⟩:=WhA hr aX [] (WL hr x _ hx) da;exact⟨_,h,Wbb (m':=[]) hr hd hE ho hc ha de di db (λi hi=>hi) ao⟩
    .rename_i id l da;split at h
     .rename_i e0 xs az;split at h
      .rename_i ys br;obtain⟨he,hy⟩:=Wfu br;injection he with he;subst he;simp only at hy;subst hy;cases ao:Wz (Xb xs+l.length)with
       |false=>simp[ao]at h
       |true=>
        simp[ao]at h;refine⟨_,h,?_⟩;obtain⟨⟨_,di⟩,_⟩:=WL hr s _ hs;obtain⟨news,db⟩:=WhA hr aX [] (WL hr x _ hx) da;rcases Wkr hr.h az with⟨hb,bu,hh⟩|⟨g,hb,hh⟩
        .subst bu;exact Wbb (m':=[id]) hr hd hE ho hc ha de (by rw[di,hh]) db (λi hi=>by simp at hi) (by simpa [Wz]using ao)
        .have:=Wdg hr hd hE ho hc ha de az hb (Xl _) (by rw[di,hh]) db (by simp) ao;rw[Xed]at this;exact this
      .simp at h
     .simp at h
    .rename_i id hi l da;split at h
     .rename_i e0 xs az;split at h
      .rename_i ys br;obtain⟨he,hy⟩:=Wfu br;injection he with he;subst he;simp only at hy;subst hy;cases ao:Wz (hi+l.length)with
       |false=>simp[ao]at h
       |true=>
        simp[ao]at h;refine⟨_,h,?_⟩;obtain⟨⟨_,g1,g2,g3,di⟩,_⟩:=WL hr s _ hs;obtain⟨news,db⟩:=WhA hr aX [] (WL hr x _ hx) da;obtain⟨S,hown⟩:=hr.h.obj az;unfold Nu.vhdr at di;cases hb:(ν id).blk with
        |none=>
         have bu:=Wb8 hown hb;simp only[hb]at di;have h0:=g3 hb;subst h0;show Done P w0 F nt G0 o a w (({env:=st.env,objs:=(st.nx,.arr te.ty l)::(id,.dead)::st.objs,nx:=st.nx+1}:St).put o.dst (.s (.one (.own st.nx))));exact Wbb (m':=[id]) hr hd hE ho hc ha de di db (λi hi=>by simp at hi) (by simpa [Wz]using ao)
        |some g=>
         simp only[hb,Nat.sub_zero,Xem,Xbd,ite_self]at di;exact Wdg hr hd hE ho hc ha de az hb (by rw[hown.1];exact g2) di db (by simp) ao
      .simp at h
     .simp at h
    .simp at h
   .simp at h
  .simp at h
 .simp at h
end
end Go.Sx
namespace Go.Sx
set_option linter.unusedVariables false
set_option linter.unusedSimpArgs false
section
variable{w0:World}{F:CS}{nt:Slots}{G0 G:GH}{ν:Nat->Nu}{φ:Nat->CS}{objs:W9}{nx:Nat}{st af:St}{a:Act}{w w':World}{P:Program}{T:Tab}
theorem WhE{t et:TypeId}{te:TE}{nu:Nu}{n:Nat}{lo hi:Option Int}{vl vh:Option Value}(hu:P.underlying t=some (.slice et))(bD:TEok P T et te)(hp:te.plain=true)(cd:nu.esz=te.ty.size)
  (hc:n<=nu.cap) (hn:n=nu.len) (bf:nu.blk=none->n=0) (hl:BRel lo vl) (hh:BRel hi vh) (hb:(Wcx n lo hi).1=true):
  (Instr.sliceAt t nu.hdr vl vh none).run P w= .ok (nu.vhdr (Wcx n lo hi).2.1 (Wcx n lo hi).2.2) w/\(Wcx n lo hi).2.1<=(Wcx n lo hi).2.2/\(Wcx n lo hi).2.2<=n:=by
 unfold Nu.hdr Nu.vhdr;cases hk:nu.blk with
 |none=>
  have h0:=bf hk;subst h0;obtain⟨hr,h3,h4⟩:=WcA (P:=P) (w:=w) (isSlice:=true) (cap:=0) hl hh (Xl _) hb;have e1:(Wcx 0 lo hi).2.2=0:=by omega
  have e2:(Wcx 0 lo hi).2.1=0:=by omega
  rw[e1,e2]at hr⊢;refine⟨?_,Xl _,Xl _⟩;simp[Instr.sliceAt,Instr.slice,Wl hu,hr,bD.sizeOf]
 |some b=>
  obtain⟨hr,h7,h8⟩:=WcA (P:=P) (w:=w) (isSlice:=true) (cap:=nu.cap) hl hh hc hb;refine⟨?_,h7,h8⟩;rw[←hn];generalize (Wcx n lo hi).2.1=p at*;generalize (Wcx n lo hi).2.2=q at*;have hsz:te.size=nu.esz:=by rw[WW hp,cd]
  simp only[Instr.sliceAt,Instr.slice,Sem.run_bind,Wl hu,Result.andThen_ok,hr,bD.sizeOf,Sem.run_pure,hsz,Xby,WaP];split<;>rfl
theorem WqJ{id:Nat}{e:Ty}{xs:List e.den}{S:CS}(h:Wch G ν nx w id S (.arr e xs)):((ν id).blk=none->xs.length=0)/\((ν id).blk≠none->xs.length<=(ν id).cap):=by
 refine⟨λhb=>by rw[Wb8 h hb];rfl,λhb=>?_⟩;obtain⟨_,_,h3⟩:=h
 grind
theorem WmE{t et:TypeId}{te:TE}{id:Nat}{e:Ty}{xs:List e.den}{S:CS}(ho:Wch G ν nx w id S (.arr e xs)){lo hi:Option Int}{vl vh:Option Value}(hu:P.underlying t=some (.slice et))(bD:TEok P T et te)(hp:te.plain=true)(he:te.ty.size=e.size)
  (hl:BRel lo vl) (hh:BRel hi vh) (hb:(Wcx xs.length lo hi).1=true):
  (Instr.sliceAt t (ν id).hdr vl vh none).run P w= .ok ((ν id).vhdr (Wcx xs.length lo hi).2.1 (Wcx xs.length lo hi).2.2) w/\(Wcx xs.length lo hi).2.1<=(Wcx xs.length lo hi).2.2/\(Wcx xs.length lo hi).2.2<=xs.length:=by
 obtain⟨h1,h2⟩:=WqJ ho;have hlen:=ho.1;have cd:=ho.2.1;cases hk:(ν id).blk with
 |some b=>grind [WhE]
 |none=>
  have h0:=h1 hk;have bu:xs= []:=Xz h0;have e0:(ν id).hdr=(⟨none,(ν id).off,(ν id).len,0,(ν id).esz⟩:Nu).hdr:=by grind [Nu.hdr]
  have e1:∀p q,(ν id).vhdr p q=(⟨none,(ν id).off,(ν id).len,0,(ν id).esz⟩:Nu).vhdr p q:=λp q=>by grind [Nu.vhdr]
  rw[e0,e1];exact WhE hu bD hp (by show(ν id).esz=_;rw[cd,he]) (by omega) hlen (λ_=>h0) hl hh hb
theorem WgM{o:Oper}{t:TypeId}{x:Operand}{lo hi:Option Operand}{v:Value}(ho:o.op= .slice t x lo hi none)(h:(Instr.sliceAt t (a.eval x) (lo.map a.eval) (hi.map a.eval) none).run P w= .ok v w):(execOp a.eval o).run P w= .ok (.value v) w:=by
 grind [execOp,Sem.run_bind,Result.andThen_ok,Sem.run_pure]
theorem Wqc(hT:Waf P T)(hr:Rel w0 F nt G0 G ν st a w){o:Oper}(hd:∀d,o.dst=some d->nt.Ok d){t et:TypeId}{ty:Ty}{te:TE}{x:Operand}{lo hi:Option Operand}(ho:o.op= .slice t x lo hi none)
  {id:Nat} {l h:Option Int} {R:Type} {k:St->Option R} {r:R} (hx:ev st x=some (.s (.one (.own id)))) (hl:Wq T t=some ⟨ty,false,.slice et⟩) (hle:Wq T et=some te) (hp:te.plain=true) (h1:Wlh st lo=some l) (h2:Wlh st hi=some h)
  (hk:We9 st te.ty id l h (λx objs nx=>k (({env:=st.env,objs:=objs,nx:=nx}:St).put o.dst x))=some r):∃af,k af=some r/\Done P w0 F nt G0 o a w af:=by
 unfold We9 at hk;split at hk
 .rename_i e xs az;split at hk
  case isFalse=>simp at hk
  rename_i mI;cases hb:(Wcx (Xb xs) l h).1 with
  |false=>simp_all
  |true=>
   simp only[hb,Wa]at hk;refine⟨_,hk,?_⟩;obtain⟨⟨bz,di⟩,_⟩:=WL hr x _ hx;obtain⟨S,hown⟩:=hr.h.obj az;have hbl:=Wc5 hr lo _ h1;have mS:=Wc5 hr hi _ h2;obtain⟨g1,g2,g3⟩:=WmE (w:=w) hown (hT _ _ hl).und.2.1 (hT _ _ hle) hp (by rw[mI,Wbi]) hbl mS hb;refine⟨_,_,w,G,ν,WgM ho (by simp_all),.inl rfl,hr.put hd ⟨⟨bz,g2,by rw[←hown.1];exact g3,λot=>?_,rfl⟩,WoV _ _ _⟩⟩
   grind [WqJ]
 grind
theorem Wr6(n:Nu)(h:Nat):n.part 0 h=⟨n.blk,n.off,h,n.cap,n.esz⟩:=by
 unfold Nu.part;simp
theorem Wug(n:Nu)(h:Nat):n.vhdr 0 h=(⟨n.blk,n.off,h,n.cap,n.esz⟩:Nu).hdr:=by
 rw[←Wr6,Wky]
theorem Wpw(hT:Waf P T)(hr:Rel w0 F nt G0 G ν st a w){o:Oper}(hd:∀d,o.dst=some d->nt.Ok d){t et:TypeId}{ty:Ty}{x:Operand}{lo hi:Option Operand}(ho:o.op= .slice t x lo hi none)
  {id:Nat} {e:Ty} {xs:List e.den} {te:TE} {h:Int} (hx:ev st x=some (.s (.one (.own id)))) (hl:Wq T t=some ⟨ty,false,.slice et⟩) (hle:Wq T et=some te) (hp:te.plain=true) (he:te.ty=e.ro) (az:Wq st.objs id=some (.arr e xs)) (bc:Wlh st lo=some none) (hh:Wlh st hi=some (some h))
  (h0:0<=h) (h1:h<=(xs.length:Int)):Done P w0 F nt G0 o a w (({env:=st.env,objs:=(st.nx,.arr e (xs.take h.toNat))::kill st.objs [id],nx:=st.nx+1}:St).put o.dst (.s (.one (.own st.nx)))):=by
 obtain⟨⟨bz,di⟩,_⟩:=WL hr x _ hx;obtain⟨S,hown⟩:=hr.h.obj az;have hbl:=Wc5 hr lo _ bc;have mS:=Wc5 hr hi _ hh;have hb:(Wcx xs.length none (some h)).1=true:=by simp[Wcx,h0,h1]
 obtain⟨g1,g2,g3⟩:=WmE (w:=w) hown (hT _ _ hl).und.2.1 (hT _ _ hle) hp (by rw[he,Wbi]) hbl mS hb;have e1:(Wcx xs.length none (some h)).2.1=0:=rfl;have e2:(Wcx xs.length none (some h)).2.2=h.toNat:=rfl;rw[e1,e2,Wug]at g1;refine⟨_,_,w,G,upd ν st.nx ((ν id).part 0 h.toNat),WgM ho (by rw[di];exact g1),.inl rfl,?_⟩;have aJ:Live st.objs id:=⟨_,az,by simp⟩;refine hr.fresh hd [id] (.arr e (xs.take h.toNat)) _ (λφ=>φ id) _ _ (λφ _=>WLe.refl _ w) (λφ _ b o hh=>.inl ⟨id,.inr (Xag.2 rfl),aJ,hh⟩) (λφ hφ=>?_) ⟨⟨Xbs _,by rw[Wa8,Wr6]⟩,Wiy _⟩;show OwnL w (TyRel G w e) e.size (upd ν st.nx ((ν id).part 0 h.toNat) st.nx) (xs.take h.toNat) (φ id);rw[Wa8];have hown':OwnL w (TyRel G w e) e.size (ν id) xs (φ id):=hφ.ob _ _ az;have:=WoT (lo:=0) (hi:=h.toNat) hown' (Nat.zero_le _) (by rw[←hown'.1];omega);simp_all
theorem Wi2(hT:Waf P T)(hr:Rel w0 F nt G0 G ν st a w){o:Oper}(hd:∀d,o.dst=some d->nt.Ok d){t et:TypeId}{ty:Ty}{x:Operand}{lo hi:Option Operand}(ho:o.op= .slice t x lo hi none)
  {id i p:Nat} {e:Ty} {xs:List e.den} {te:TE} {h:Int} (hx:ev st x=some (.s (.one (.own id)))) (hl:Wq T t=some ⟨ty,false,.slice et⟩) (hle:Wq T et=some te) (hp:te.plain=true) (he:te.ty=e.ro) (az:Wq st.objs id=some (.hole e xs i p)) (po:Wrb (Wq st.objs p) e.size=true) (bc:Wlh st lo=some none) (hh:Wlh st hi=some (some h))
  (h0:0<=h) (h1:h<=(xs.length:Int)) (h2:h<=(i:Int)):Done P w0 F nt G0 o a w (({env:=st.env,objs:=(st.nx,.arr e (xs.take h.toNat))::kill st.objs [id,p],nx:=st.nx+1}:St).put o.dst (.s (.one (.own st.nx)))):=by
 obtain⟨⟨bz,di⟩,_⟩:=WL hr x _ hx;obtain⟨S,j8,hole⟩:=hr.h.obj az;have gt:∃cs,Wq st.objs p=some (.box cs)/\cs.length=e.size:=by
  unfold Wrb at po
  grind [Xch]
 obtain⟨pcs,gt,eE⟩:=gt;have hbl:=Wc5 hr lo _ bc;have mS:=Wc5 hr hi _ hh;have hb:(Wcx xs.length none (some h)).1=true:=by simp[Wcx,h0,h1]
 obtain⟨k1,k2,k3,b,k4,k5,k6,k7,k8,k9,_⟩:=hole;obtain⟨g1,g2,g3⟩:=WhE (w:=w) (nu:=ν id) (hT _ _ hl).und.2.1 (hT _ _ hle) hp (by rw[k2,he,Wbi]) k7 k1 (λhn=>by simp_all) hbl mS hb;have e1:(Wcx xs.length none (some h)).2.1=0:=rfl;have e2:(Wcx xs.length none (some h)).2.2=h.toNat:=rfl;rw[e1,e2,Wug]at g1;refine⟨_,_,w,G,upd ν st.nx ((ν id).part 0 h.toNat),WgM ho (by rw[di];exact g1),.inl rfl,?_⟩;have aJ:Live st.objs id:=⟨_,az,by simp⟩;have eJ:Live st.objs p:=⟨_,gt,by simp⟩;refine hr.fresh hd [id,p] (.arr e (xs.take h.toNat)) _ (λφ b o=>φ id b o\/φ p b o) _ _ (λφ _=>WLe.refl _ w) (λφ _ b o hh=>?_) (λφ hφ=>?_) ⟨⟨Xbs _,by rw[Wa8,Wr6]⟩,Wiy _⟩
 .rcases hh with hh|hh
  .exact .inl ⟨id,.inr (by simp),aJ,hh⟩
  .exact .inl ⟨p,.inr (by simp),eJ,hh⟩
 .show OwnL w (TyRel G w e) e.size (upd ν st.nx ((ν id).part 0 h.toNat) st.nx) (xs.take h.toNat) _;rw[Wa8,Wr6];obtain⟨j8,hole⟩:p<st.nx/\Whk w (TyRel G w e) e.size (ν id) (ν p) xs i (φ id):=hφ.ob _ _ az;obtain⟨_,_,_,b',ou,k5',_,_,_,_,c1,c2,p1,p2,j1,j2,j3,j4,j5,j6⟩:=hole;rw[k4]at ou;injection ou with ou;subst ou;obtain⟨b2,vs,q1,q2,q3,q4,q5⟩:Wch G ν st.nx w p (φ p) (.box pcs):=hφ.ob _ _ gt;rw[k5]at q1;injection q1 with q1;subst q1;rw[eE,k6]at q5;obtain⟨d1,d2,r1,r2,t1,t2,t3,t4⟩:=Wev _ _ _ h.toNat j1;rw[List.take_take,Xbz (by omega)]at t3;have gA:=j6 _ (Xj ..);have gC:=j6 _ (Xf _ (Xj ..));obtain⟨s1,s2⟩:=Xt.1 j5;obtain⟨s3,s4⟩:=Xt.1 s2;have eb:∀s∈r1.map Pc.fp,s∈(p1++p2).map Pc.fp:=λs hs=>by simp_all
  have gp:∀s∈r1.map Pc.fp,CS.le s (φ id):=λs hs=>j6 s (Xf _ (Xf _ (eb s hs)));have pp:∀b o,φ id b o->φ p b o->False:=λb o x1 x2=>by
   have:=hφ.inj id p b o aJ eJ x1 x2;simp_all
  refine⟨by simp;omega,k2,?_⟩;simp only[k4];refine⟨by simp;omega,k8,k9,d1,r1,t3,by rw[t1]at j3;exact j3.left,Xt.2 ⟨λs hs=>?_,?_⟩,λs hs=>?_⟩
  .exactλb' o hY it=>(WfY (show i<(ν id).cap by omega) (S:=λb o=>¬s b o) (λb o hh it=>s1 s (Xf _ (eb s hs)) b o hh it) (λb o hh it=>pp b o (gp s hs b o it) (q5 b o hh)) (λb o hh it=>s3 s (eb s hs) b o hh it) b' o hY) it
  .grind
  .rcases Xr.1 hs with rfl|hs
   .exact WfY (show i<(ν id).cap by omega) (λb o hh=>.inl (gA b o hh)) (λb o hh=>.inr (q5 b o hh)) (λb o hh=>.inl (gC b o hh))
   .exactλb o hh=>.inl (gp s hs b o hh)
theorem Wpf(hT:Waf P T)(hr:Rel w0 F nt G0 G ν st a w){o:Oper}(hd:∀d,o.dst=some d->nt.Ok d){c:Call}{x:Operand}{t et:TypeId}{ty:Ty}{te:TE}{e:Ty}{xs:List e.den}{id lo hi:Nat}
  (ho:o.op= .call c) (hc:c.callee= .builtin .clear) (ha:c.args.toList= [x]) (de:c.argTypes.toList= [t]) (hx:ev st x=some (.s (.one (.vw id lo hi)))) (hl:Wq T t=some ⟨ty,false,.slice et⟩) (hle:Wq T et=some te)
  (az:Wq st.objs id=some (.arr e xs)) (he:te.ty=e) (hp:te.plain=true) (aX:e.data=true):
  Done P w0 F nt G0 o a w (({env:=st.env,objs:=(id,.arr e (xs.take lo++Xp (hi-lo) e.dflt++xs.drop hi))::st.objs,nx:=st.nx}:St).put o.dst (.tup [])):=by
 have hu:=(hT _ _ hl).und.2.1;obtain⟨⟨bz,g1,g2,g3,hv⟩,_⟩:=WL hr x _ hx;obtain⟨φ,hφ⟩:=hr.h;have hown:OwnL w (TyRel G w e) e.size (ν id) xs (φ id):=hφ.ob _ _ az;have aJ:Live st.objs id:=⟨_,az,by simp⟩;have mT:∀W,(Builtin.clear_ #[t] o.type #[a.eval x]).run P w= .ok (.tuple #[]) W->(execOp a.eval o).run P w= .ok (.value (.tuple #[])) W:=λW hrun=>by
  obtain⟨callee,args,argTypes⟩:=c;obtain⟨args⟩:=args;obtain⟨argTypes⟩:=argTypes;simp only at hc ha de;subst hc ha de;simp only[execOp,ho,resolve,invoke,builtin,Sem.run_bind,Sem.run_pure,Result.andThen_ok,Xdq,Xaf,Xce,hrun]
 have fA:∀W,(Builtin.clear_ #[t] o.type #[a.eval x]).run P w= .ok (.tuple #[]) W->HRel w0 F G ν ((id,.arr e (xs.take lo++Xp (hi-lo) e.dflt++xs.drop hi))::st.objs) st.nx W->
   Done P w0 F nt G0 o a w (({env:=st.env,objs:=(id,.arr e (xs.take lo++Xp (hi-lo) e.dflt++xs.drop hi))::st.objs,nx:=st.nx}:St).put o.dst (.tup [])):=λW hrun hH=>
  ⟨_,_,W,G,ν,mT W hrun,.inl rfl,(hr.on (λ_ _ _ hh=>hh) (λ_ _=>rfl) (Xl _) hH hr.gx).put hd ⟨[],rfl,rfl,λj x v hj=>by simp at hj⟩⟩
 by_cases h0:hi-lo=0
 .have mh:hi=lo:=by omega
  have e1:xs.take lo++Xp (hi-lo) e.dflt++xs.drop hi=xs:=by
   simp_all
  refine fA w ?_ ?_
  .rw[hv];unfold Nu.vhdr;rw[h0];cases(ν id).blk<;>simp[Builtin.clear_,Wl hu]
  .rw[e1];exact⟨_,hφ.put (m:=[]) (ν':=ν) (λ_ _=>rfl) (Xl _) (hφ.lt id aJ) (WLe.refl _ w) (λb o hh=>.inl ⟨id,.inl rfl,aJ,hh⟩) (λ_=>hown)⟩
 .cases bf:(ν id).blk with
  |none=>simp_all
  |some b=>
   obtain⟨iu,h4,h5,⟨row,TT,fJ,hrow⟩,cs,h7,h8,h9⟩:=Wdp aX hown bf;obtain⟨z,hz,dK⟩:=WeR (w:=w) (hT _ _ hle);rw[Wbk hp,he]at dK;have gL:z.cells.size=e.size:=by rw[←Xar,dK,Wbc]
   have cd:=hown.2.1;have hcl:cs.length=xs.length*e.size:=EncL_len (λx c hc=>Enc_len e x c hc) _ _ h7;have rk:(Builtin.zeroCells z.cells (hi-lo)).toList=rep (Wbp e) (hi-lo):=by rw[←dK];exact Wf1 z.cells (hi-lo)
   have bQ:(rep (Wbp e) (hi-lo)).length=(hi-lo)*e.size:=by rw[WkY,Wbc]
   have pq:lo*e.size+(hi-lo)*e.size=hi*e.size:=by rw[←Xcp];congr 1;omega
   have ov:hi*e.size<=xs.length*e.size:=Xbf _ (by omega);have rn:xs.length*e.size<=(ν id).cap*e.size:=Xbf _ h4;have ee:∀u∈rep (Wbp e) (hi-lo),u.oneCell'=true:=WoS (G:=G) _ _ (WgN aX (hi-lo));have be:=run_storeCells_at P b ((ν id).off+lo*e.size) TT (rep (Wbp e) (hi-lo)) 0 row w fJ (by rw[bQ];omega) ee;simp only[Xbd]at be;obtain⟨hw,hm⟩:=WcG (k:=(ν id).off+lo*e.size) (news:=rep (Wbp e) (hi-lo)) fJ (by rw[bQ];omega);have hrun:(Builtin.clear_ #[t] o.type #[a.eval x]).run P w= .ok (.tuple #[]) (w.setRow b (row.toList.take ((ν id).off+lo*e.size)++rep (Wbp e) (hi-lo)++row.toList.drop ((ν id).off+lo*e.size+(rep (Wbp e) (hi-lo)).length)).toArray):=by
    rw[hv];unfold Nu.vhdr;simp only[bf,cd];rw[Wb (by omega)];obtain⟨n,hn⟩:∃n,hi-lo=n+1:=⟨hi-lo-1,by omega⟩;simp only[Builtin.clear_,Sem.run_bind,Wl hu,Result.andThen_ok,Xee,List.getElem?_cons_zero];rw[hn]at be rk⊢;simp only[Sem.run_bind,hz,Result.andThen_ok,rk,be,Sem.run_pure]
   generalize w.setRow b (row.toList.take ((ν id).off+lo*e.size)++rep (Wbp e) (hi-lo)++row.toList.drop ((ν id).off+lo*e.size+(rep (Wbp e) (hi-lo)).length)).toArray=W at hrun hw hm;refine fA W hrun (hφ.turn (m:=[]) az (by simp) hw (λb' o ⟨k0,k1,k2⟩=>h9 b' o ⟨k0,by omega,by omega⟩) ?_);have kM:(xs.take lo++Xp (hi-lo) e.dflt++xs.drop hi).length=xs.length:=by simp;omega
   have henc:EncL (Enc G e) (xs.take lo++Xp (hi-lo) e.dflt++xs.drop hi) (cs.take (lo*e.size)++rep (Wbp e) (hi-lo)++cs.drop (hi*e.size)):=
    WdN _ _ _ _ (WdN _ _ _ _ (Wew (λx c hc=>Enc_len e x c hc) _ _ lo h7) (WgN aX _)) (WeA (λx c hc=>Enc_len e x c hc) _ _ hi h7)
   refine WmO aX bf (by rw[kM];exact iu) cd (by rw[kM];exact h4) h5 (hw.rows.row _ _ ⟨row,TT,fJ,hrow⟩) henc ?_ (λb o hh=>.inl (h9 b o hh));have:=WeQ h8 hw hm (by rw[bQ];omega);rw[bQ,pq]at this;exact this
end
end Go.Sx
namespace Go.Sx
set_option linter.unusedVariables false
set_option linter.unusedSimpArgs false
def Wi3(G:GH)(w:World)(t:Ty)(agg:Bool)(d:t.den)(v:Value)(ns:List Pc):Prop:=
 if agg then∃us:List Value,v= .agg us.toArray/\TyRel G w t d us ns else TyRel G w t d [v] ns
def WbR(b o:Nat):Nu:=⟨some b,o,0,0,0⟩
def Wfa(G:GH)(w:World)(t:Ty)(d:t.den)(b o:Nat)(ns:List Pc):Prop:=∃us,Row w b (o+t.size)/\Mem w b o us/\TyRel G w t d us ns
def fps(ns:List Pc):List CS:=ns.map Pc.fp
def nus(ns:List Pc):List Nu:=ns.map Pc.nu
def Wa5(G:GH)(w:World):(ps:List PTy)->We1 ps->List Value->List Pc->List Nu->Prop
 | [],_,vs,ns,ks=>vs= []/\ns= []/\ks= []
 | .v t agg::ps,d,vs,ns,ks=>∃v vs' n1 n2,vs=v::vs'/\ns=n1++n2/\Wi3 G w t agg d.1 v n1/\Wa5 G w ps d.2 vs' n2 ks
 | .box t::ps,d,vs,ns,ks=>∃b o vs' n1 n2 ks',vs= .pointer (some ⟨b,o,none⟩)::vs'/\ns=⟨WbR b o,rng b o t.size⟩::(n1++n2)/\ks=WbR b o::ks'/\Wfa G w t d.1 b o n1/\Wa5 G w ps d.2 vs' n2 ks'
 | .mut e::ps,d,vs,ns,ks=>∃pc vs' n2 ks',vs=pc.nu.hdr::vs'/\ns=pc::n2/\ks=pc.nu::ks'/\OwnL w (TyRel G w e) e.size pc.nu d.1 pc.fp/\Wa5 G w ps d.2 vs' n2 ks'
 | .clos g n::ps,d,vs,ns,ks=>∃cvs vs':List Value,vs= .func (.func g) #[] cvs.toArray::vs'/\cvs.length=n/\(∀u∈cvs,u.oneCell'=true)/\Wa5 G w ps d (cvs++vs') ns ks
 | .kv t agg::ps,d,vs,ns,ks=>∃v vs' n1 n2 ks',vs=v::vs'/\ns=n1++n2/\ks=nus n1++ks'/\Wi3 G w t agg d.1 v n1/\Wa5 G w ps d.2 vs' n2 ks'
 | .rp t::ps,d,vs,ns,ks=>∃b o us vs',vs= .pointer (some ⟨b,o,none⟩)::vs'/\Enc G t d.1 us/\We6 G b o us/\Wa5 G w ps d.2 vs' ns ks
 | .vj _::_,_,_,_,_=>False
 | .boxal t lf::ps,d,vs,ns,ks=>∃b o b' pc vs' n1 n2 ks',vs= .pointer (some ⟨b,o,none⟩):: .pointer (some ⟨b',pc.nu.off+(d.2.1*pc.nu.esz+0),none⟩)::vs'/\ns=⟨WbR b o,rng b o t.size⟩::(n1++n2)/\ks=WbR b o::ks'/\
   Wfa G w t d.1 b o n1/\n1[lf]?=some pc/\pc.nu.blk=some b'/\d.2.1<pc.nu.len/\Wa5 G w ps d.2.2 vs' n2 ks'
def Wbj(G:GH)(w:World):(ps:List PTy)->WfH ps->List Nu->List CS->List Pc->Prop
 | [],_,ks,kf,ns=>ks= []/\kf= []/\ns= []
 | .v _ _::ps,o,ks,kf,ns=>Wbj G w ps o ks kf ns
 | .box t::ps,o,ks,kf,ns=>∃b off ks' cY n1 n2,ks=WbR b off::ks'/\kf=rng b off t.size::cY/\ns=n1++n2/\Wfa G w t o.1 b off n1/\Wbj G w ps o.2 ks' cY n2
 | .mut e::ps,o,ks,kf,ns=>∃pc:Pc,∃ks' cY,ks=pc.nu::ks'/\kf=pc.fp::cY/\OwnL w (TyRel G w e) e.size pc.nu o.1 pc.fp/\Wbj G w ps o.2 ks' cY ns
 | .clos _ _::ps,o,ks,kf,ns=>Wbj G w ps o ks kf ns
 | .kv t _::ps,o,ks,kf,ns=>∃n1 ks' cY us,ks=nus n1++ks'/\kf=fps n1++cY/\TyRel G w t o.1 us n1/\Wbj G w ps o.2 ks' cY ns
 | .rp _::ps,o,ks,kf,ns=>Wbj G w ps o ks kf ns
 | .vj _::_,_,_,_,_=>False
 | .boxal t _::ps,o,ks,kf,ns=>∃b off ks' cY n1 n2,ks=WbR b off::ks'/\kf=rng b off t.size::cY/\ns=n1++n2/\Wfa G w t o.1 b off n1/\Wbj G w ps o.2 ks' cY n2
def Wga(G:GH)(w:World):(rs:List PTy)->Wgs rs->List Value->List Pc->Prop
 | [],_,vs,ns=>vs= []/\ns= []
 | .v t agg::rs,d,vs,ns=>∃v vs' n1 n2,vs=v::vs'/\ns=n1++n2/\Wi3 G w t agg d.1 v n1/\Wga G w rs d.2 vs' n2
 | .box t::rs,d,vs,ns=>∃b o vs' n1 n2,vs= .pointer (some ⟨b,o,none⟩)::vs'/\ns=⟨WbR b o,rng b o t.size⟩::(n1++n2)/\Wfa G w t d.1 b o n1/\Wga G w rs d.2 vs' n2
 | .mut _::_,_,_,_=>False
 | .clos _ _::_,_,_,_=>False
 | .kv _ _::_,_,_,_=>False
 | .rp _::_,_,_,_=>False
 | .vj t::rs,d,vs,ns=>∃us u vs' n1 n2,vs= .agg (us++ [u]).toArray::vs'/\u.oneCell'=true/\ns=n1++n2/\TyRel G w t d.1 us n1/\Wga G w rs d.2 vs' n2
 | .boxal _ _::_,_,_,_=>False
def WiH:List Value->Value
 | [v]=>v
 |vs=>.tuple vs.toArray
def Of(ns:List Pc):CS:=λb o=>∃q∈ns,q.fp b o
structure After(sg:Sig)(o:WfH sg.ps×Wgs sg.rs)(G:GH)(w:World)(ns:List Pc)(ks:List Nu)(rv:List Value)(kf:List CS)(ms cL:List Pc)(G':GH)(w':World):Prop where
 res:Wga G' w' sg.rs o.2 rv cL
 outs:Wbj G' w' sg.ps o.1 ks kf ms
 sep:Sep (kf++fps (ms++cL))
 own:∀S∈kf++fps (ms++cL),∀b off,S b off->G' b off=none/\(Of ns b off\/w.heap.size<=b)/\b<w'.heap.size
 gx:GExt w.heap.size (Of ns) G G'
 g:∀b o v,G' b o=some v->w'.cell? ⟨b,o,none⟩=some v
 le:WLe (Of ns) w w'
def Good(P:Program)(k:FuncId)(sg:Sig):Prop:=
 ∀(d:We1 sg.ps) (o:WfH sg.ps×Wgs sg.rs),sg.run d=some o->∀(G:GH) (w:World) (vs:List Value) (ns:List Pc) (ks:List Nu),Wa5 G w sg.ps d vs ns ks->Sep (fps ns)->
  (∀q∈ns,∀b off,q.fp b off->G b off=none/\b<w.heap.size)->(∀b o v,G b o=some v->w.cell? ⟨b,o,none⟩=some v)->
  Calls P k vs.toArray w λe w'=>∃rv kf ms cL G',e= .returned (WiH rv)/\After sg o G w ns ks rv kf ms cL G' w'
def Wgc(P:Program)(k:FuncId):Prop:=∃fn,P.funcs[k]?=some fn∧fn.body.isNone=false∧(fn.name== "runtime.NumGoroutine")=false
def WeY(P:Program)(Γ:Ctx):Prop:=∀k sg,Wq Γ k=some sg->Good P k sg/\Wgc P k
section
variable{w0:World}{F:CS}{nt:Slots}{G0 G G':GH}{ν:Nat->Nu}{φ:Nat->CS}{objs:W9}{nx:Nat}{st af:St}{a:Act}{w w':World}{P:Program}{T:Tab}
theorem WaE:∀(t:Ty) (d:t.den) (nx:Nat),(unfold t d nx).2.2=nx+t.owns
 | .prod a b,d,nx=>by simp only[unfold,WaE a,WaE b,Ty.owns,Xay]
 | .own _,_,_=>rfl
 | .int _,_,_| .bool,_,_| .str,_,_| .slice _,_,_=>rfl
theorem WK{α:Type}{l m:List (Nat×α)}{i:Nat}{x:α}(h:Wq (l++m) i=some x):Wq l i=some x\/Wq m i=some x:=by
 rw[Wbo]at h
 grind
def At(ν:Nat->Nu)(φ:Nat->CS)(nx:Nat)(ns:List Pc):Prop:=∀(j:Nat) (pc:Pc),ns[j]?=some pc->ν (nx+j)=pc.nu/\φ (nx+j)=pc.fp
theorem At.left{n1 n2:List Pc}(h:At ν φ nx (n1++n2)):At ν φ nx n1:=λj pc hj=>h j pc (by grind)
theorem At.right{n1 n2:List Pc}{k:Nat}(h:At ν φ nx (n1++n2))(hk:n1.length=k):At ν φ (nx+k) n2:=λj pc hj=>by
 have:=h (k+j) pc (by grind)
 grind
def Wo7(G:GH)(ν:Nat->Nu)(φ:Nat->CS)(w:World)(id:Nat)(ob:Ob):Prop:=∃(e:Ty) (xs:List e.den),ob= .arr e xs/\OwnL w (TyRel G w e) e.size (ν id) xs (φ id)
theorem Wao:∀(t:Ty) (d:t.den) (nx:Nat) (vs:List Value) (ns:List Pc),TyRel G w t d vs ns->At ν φ nx ns->
  (∀(aj:Nat),nx+t.owns<=aj->CellsRel G ν aj (unfold t d nx).1 vs)/\
  (∀id ob,Wq (unfold t d nx).2.1 id=some ob->nx<=id/\id<nx+t.owns/\Wo7 G ν φ w id ob)
 | .own e,d,nx,vs,ns,⟨pc,h1,h2,h3⟩,hν=>by
  obtain⟨hn,hp⟩:ν nx=pc.nu/\φ nx=pc.fp:=by have:=hν 0 pc (by grind);omega
  refine⟨λaj hx=>?_,λid ob hl=>?_⟩
  .rw[h2];refine CellsRel.one ⟨by grind [Ty.owns],by rw[hn]⟩ (Wiy _)
  .simp only[unfold]at hl;rw[WG]at hl;split at hl
   .rename_i e1;subst e1;injection hl with hl;subst hl;exact⟨Xl _,by simp[Ty.owns],e,d,rfl,by simp_all⟩
   .simp[Wq]at hl
 | .prod p q,d,nx,vs,ns,⟨v1,v2,n1,n2,h1,h2,h3,h4⟩,hν=>by
  subst h2;have bv:=W1 p _ _ _ h3;obtain⟨c1,o1⟩:=Wao p d.1 nx v1 n1 h3 hν.left;obtain⟨c2,o2⟩:=Wao q d.2 (nx+p.owns) v2 n2 h4 (hν.right bv);refine⟨λaj hx=>?_,λid ob hl=>?_⟩
  .simp only[Ty.owns]at hx;simp only[unfold,WaE];rw[h1];exact(c1 aj (by omega)).append (c2 aj (by omega))
  .simp only[unfold,WaE]at hl
   grind [Ty.owns,WK]
 | .int k,d,nx,vs,ns,h,_=>⟨λaj _=>Waw (.int k) d vs h.2,λid ob hl=>by simp[unfold,Wq]at hl⟩
 | .bool,d,nx,vs,ns,h,_=>⟨λaj _=>Waw .bool d vs h.2,λid ob hl=>by simp[unfold,Wq]at hl⟩
 | .str,d,nx,vs,ns,h,_=>⟨λaj _=>Waw .str d vs h.2,λid ob hl=>by simp[unfold,Wq]at hl⟩
 | .slice e,d,nx,vs,ns,h,_=>⟨λaj _=>Waw (.slice e) d vs h.2,λid ob hl=>by simp[unfold,Wq]at hl⟩
theorem WbN:∀(t:Ty) (d:t.den) (nx:Nat),(unfold t d nx).1.length=t.size
 | .prod a b,d,nx=>by simp only[unfold,Xw,WbN a,WbN b,Ty.size]
 | .own _,_,_| .int _,_,_| .bool,_,_| .str,_,_| .slice _,_,_=>rfl
theorem WkH{t:Ty}{agg:Bool}{d:t.den}{v:Value}{ns:List Pc}{nx aj:Nat}(h:Wi3 G w t agg d v ns)(hν:At ν φ nx ns)(hx:nx+t.owns<=aj):
  AvRel G ν aj (Wum agg (unfold t d nx).1) v:=by
 unfold Wi3 at h;unfold Wum;cases agg with
 |true=>
  simp only[W2]at h⊢;obtain⟨us,rfl,h⟩:=h;exact⟨us,rfl,(Wao t d nx us ns h hν).1 aj hx⟩
 |false=>
  simp only[Xbc,Wal]at h⊢;have hc:=(Wao t d nx [v] ns h hν).1 aj hx;have hl:=hc.1;generalize (unfold t d nx).1=cs at*
  match cs,hl with
  | [c],_=>exact hc.2 0 c v rfl rfl
theorem Wm4{t:Ty}{agg:Bool}{d:t.den}{v:Value}{ns:List Pc}(h:Wi3 G w t agg d v ns):∃us,TyRel G w t d us ns:=by
 grind [Wi3]
def Wif(objs:W9):Ty->List Nat->Prop
 | .own e,ids=>∃(id:Nat) (ys:List e.den),ids= [id]/\Wq objs id=some (.arr e ys)
 | .prod a b,ids=>∃i1 i2,ids=i1++i2/\Wif objs a i1/\Wif objs b i2
 | .int _,ids=>ids= []
 | .bool,ids=>ids= []
 | .str,ids=>ids= []
 | .slice _,ids=>ids= []
theorem WeC{objs:W9}:∀(t:Ty) (ids:List Nat),Wif objs t ids->ids.length=t.owns
 | .own e,ids,⟨id,ys,h,_⟩=>by rw[h];rfl
 | .prod a b,ids,⟨i1,i2,h,h1,h2⟩=>by rw[h,Xw,WeC a _ h1,WeC b _ h2];rfl
 | .int _,ids,h=>by have:ids= []:=h;rw[this];rfl
 | .bool,ids,h=>by have:ids= []:=h;rw[this];rfl
 | .str,ids,h=>by have:ids= []:=h;rw[this];rfl
 | .slice _,ids,h=>by have:ids= []:=h;rw[this];rfl
def KeptBox(objs:W9)(ν:Nat->Nu)(bx:List (Nat×CS))(t:Ty)(k:Kp)(nu:Nu):Prop:=
 ∃cs b,Wq objs k.id=some (.box cs)/\k.off+t.size<=cs.length/\(ν k.id).blk=some b/\nu=WbR b ((ν k.id).off+k.off)/\(k.id,rng b ((ν k.id).off+k.off) t.size)∈bx
def KeptOk(objs:W9)(ν:Nat->Nu)(bx:List (Nat×CS)):List PTy->List Kp->List Nu->Prop
 | [],ids,ks=>ids= []/\ks= []
 | .v _ _::ps,ids,ks=>KeptOk objs ν bx ps ids ks
 | .box t::ps,ids,ks=>∃k bg nu ks',ids=k::bg/\ks=nu::ks'/\KeptBox objs ν bx t k nu/\KeptOk objs ν bx ps bg ks'
 | .mut e::ps,ids,ks=>∃(id:Nat) (bg:List Kp) (ks':List Nu) (ys:List e.den),ids=⟨id,0⟩::bg/\ks=ν id::ks'/\Wq objs id=some (.arr e ys)/\KeptOk objs ν bx ps bg ks'
 | .clos _ _::ps,ids,ks=>KeptOk objs ν bx ps ids ks
 | .kv t _::ps,ids,ks=>∃i1 i2 ks',ids=kp0 i1++i2/\ks=i1.map ν++ks'/\Wif objs t i1/\KeptOk objs ν bx ps i2 ks'
 | .rp _::ps,ids,ks=>KeptOk objs ν bx ps ids ks
 | .vj _::_,_,_=>False
 | .boxal t _::ps,ids,ks=>∃k bg nu ks',ids=k::bg/\ks=nu::ks'/\KeptBox objs ν bx t k nu/\KeptOk objs ν bx ps bg ks'
theorem KeptBox.mono{bx kN:List (Nat×CS)}{t:Ty}{k:Kp}{nu:Nu}(hb:∀p∈bx,p∈kN)(h:KeptBox objs ν bx t k nu):KeptBox objs ν kN t k nu:=by
 obtain⟨cs,b,h1,h2,h3,h4,h5⟩:=h;exact⟨cs,b,h1,h2,h3,h4,hb _ h5⟩
theorem KeptOk.mono{bx kN:List (Nat×CS)}(hb:∀p∈bx,p∈kN):∀(ps:List PTy) (ids:List Kp) (ks:List Nu),KeptOk objs ν bx ps ids ks->KeptOk objs ν kN ps ids ks
 | [],_,_,h=>h
 | .v _ _::ps,ids,ks,h=>KeptOk.mono hb ps ids ks h
 | .box t::ps,ids,ks,⟨k,bg,nu,ks',h1,h2,h3,h4⟩=>⟨k,bg,nu,ks',h1,h2,h3.mono hb,KeptOk.mono hb ps bg ks' h4⟩
 | .mut e::ps,ids,ks,⟨id,bg,ks',ys,h1,h2,h3,h4⟩=>⟨id,bg,ks',ys,h1,h2,h3,KeptOk.mono hb ps bg ks' h4⟩
 | .clos _ _::ps,ids,ks,h=>KeptOk.mono hb ps ids ks h
 | .kv t _::ps,ids,ks,⟨i1,i2,ks',h1,h2,h3,h4⟩=>⟨i1,i2,ks',h1,h2,h3,KeptOk.mono hb ps i2 ks' h4⟩
 | .rp _::ps,ids,ks,h=>KeptOk.mono hb ps ids ks h
 | .vj _::_,_,_,h=>h.elim
 | .boxal t _::ps,ids,ks,⟨k,bg,nu,ks',h1,h2,h3,h4⟩=>⟨k,bg,nu,ks',h1,h2,h3.mono hb,KeptOk.mono hb ps bg ks' h4⟩
def Wl7(G:GH)(ν:Nat->Nu)(w:World)(aK:W9)(bx:List (Nat×CS))(aj:Nat)(id:Nat)(S:CS)(ob:Ob):Prop:=
 (∃jT off ds b us,Wq aK id=some (.box jT)/\ob= .box (WdZ jT off ds)/\off+ds.length<=jT.length/\(ν id).blk=some b/\Mem w b ((ν id).off+off) us/\CellsRel G ν aj ds us/\
  S=rng b ((ν id).off+off) ds.length/\(id,rng b ((ν id).off+off) ds.length)∈bx)\/
 (∃(e:Ty) (ys xs:List e.den),Wq aK id=some (.arr e ys)/\ob= .arr e xs/\OwnL w (TyRel G w e) e.size (ν id) xs S)
theorem WgB(aK:W9){bx:List (Nat×CS)}{aj:Nat}:∀(t:Ty) (d:t.den) (us:List Value) (ns:List Pc) (ids:List Nat),TyRel G w t d us ns->nus ns=ids.map ν->Wif aK t ids->
  (∀id ob,Wq (Wcj t d ids) id=some ob->∃(j:Nat) (S:CS),ids[j]?=some id/\(fps ns)[j]?=some S/\Wl7 G ν w aK bx aj id S ob)/\∀id∈ids,∃ob,Wq (Wcj t d ids) id=some ob
 | .own e,d,us,ns,ids,⟨pc,h1,h2,h3⟩,hn,⟨id,ys,h,bc⟩=>by
  subst h h1;simp only[nus,Xaf,Xce,List.cons.injEq,and_true]at hn;refine⟨λi ob hl=>?_,λi hi=>?_⟩
  .simp only[Wcj,WG]at hl;split at hl
   .rename_i e3;subst e3;injection hl with hl;subst hl;exact⟨0,pc.fp,rfl,rfl,.inr ⟨e,ys,d,bc,rfl,by simp_all⟩⟩
   .simp[Wq]at hl
  simp_all [Xag,Wcj,Wq]
 | .prod a b,d,us,ns,ids,⟨u1,u2,n1,n2,h1,h2,h3,h4⟩,hn,⟨i1,i2,h,rq,ke⟩=>by
  subst h h2;have bv:=W1 a _ _ _ h3;have kG:=WeC a _ rq;simp only[nus,Xy]at hn;obtain⟨e1,e2⟩:=Xft hn (by rw[Xx,Xx,bv,kG]);have t1:(i1++i2).take a.owns=i1:=by simp_all
  have t2:(i1++i2).drop a.owns=i2:=by simp_all
  obtain⟨a1,a2⟩:=WgB aK (bx:=bx) (aj:=aj) a d.1 _ n1 i1 h3 e1 rq;obtain⟨b1,b2⟩:=WgB aK (bx:=bx) (aj:=aj) b d.2 _ n2 i2 h4 e2 ke;simp only[Wcj,t1,t2];refine⟨λi ob hl=>?_,λi hi=>?_⟩
  .rcases WK hl with hl|hl
   .grind [fps,Xco,Xaa]
   grind [fps,Xcd,Xcb,Xx]
  .rcases Xn.1 hi with hi|hi
   .grind [Wbo]
   .obtain⟨ob,ho⟩:=b2 i hi;rw[Wbo]
    grind
 | .int _,d,us,ns,ids,hr,_,h=>by have:ids= []:=h;grind [Wcj,Wq]
 | .bool,d,us,ns,ids,hr,_,h=>by have:ids= []:=h;grind [Wcj,Wq]
 | .str,d,us,ns,ids,hr,_,h=>by have:ids= []:=h;grind [Wcj,Wq]
 | .slice _,d,us,ns,ids,hr,_,h=>by have:ids= []:=h;grind [Wcj,Wq]
theorem WhC:∀(t:Ty) (d:t.den) (ids:List Nat) (id:Nat) (ob:Ob),Wq (Wcj t d ids) id=some ob->id∈ids
 | .own e,d,ids,id,ob,h=>by
  cases ids with
  |nil=>simp[Wcj,Wq]at h
  |cons i l=>
   grind [Wcj,WG,Xj,Wq]
 | .prod a b,d,ids,id,ob,h=>by
  simp only[Wcj]at h;rcases WK h with h|h
  .exact Xcj (WhC a d.1 _ id ob h)
  .exact Xel (WhC b d.2 _ id ob h)
 | .int _,_,_,_,_,h=>by simp[Wcj,Wq]at h
 | .bool,_,_,_,_,h=>by simp[Wcj,Wq]at h
 | .str,_,_,_,_,h=>by simp[Wcj,Wq]at h
 | .slice _,_,_,_,_,h=>by simp[Wcj,Wq]at h
def kids(l:List Kp):List Nat:=l.map Kp.id
theorem Whv(l:List Nat):kids (kp0 l)=l:=by simp[kids,kp0,Function.comp_def]
theorem WaJ(aK:W9){bx:List (Nat×CS)}:∀(ps:List PTy) (o:WfH ps) (ids:List Kp) (ks:List Nu) (kf:List CS) (ms:List Pc) (objs:W9) (nx aj:Nat),Wbj G w ps o ks kf ms->KeptOk aK ν bx ps ids ks->At ν φ nx ms->
  (kids ids).Nodup->(∀k∈ids,k.id<nx/\Wq objs k.id=Wq aK k.id)->nx+ms.length<=aj->
  (Waa ps o ids objs nx).2=nx+ms.length/\kf.length=ids.length/\
  ∀id ob,Wq (Waa ps o ids objs nx).1 id=some ob->(nx<=id/\id<nx+ms.length/\Wo7 G ν φ w id ob)\/(∃(j:Nat) (S:CS),(kids ids)[j]?=some id/\kf[j]?=some S/\Wl7 G ν w aK bx aj id S ob)\/(Wq objs id=some ob/\id∉kids ids)
 | [],o,ids,ks,kf,ms,objs,nx,aj,⟨_,h1,h2⟩,hk,_,_,_,_=>by subst h1 h2;obtain⟨hk,_⟩:=hk;subst hk;exact⟨rfl,rfl,λid ob hl=>.inr (.inr ⟨hl,by simp[kids]⟩)⟩
 | .v _ _::ps,o,ids,ks,kf,ms,objs,nx,aj,h,hk,hν,hn,hi,hx=>WaJ aK ps o ids ks kf ms objs nx aj h hk hν hn hi hx
 | .box t::ps,o,ids,ks,kf,ms,objs,nx,aj,⟨b,off,ks',cY,n1,n2,h1,h2,h3,hb,h5⟩,hk,hν,hn,hi,hx=>putOuts_box aK t ps o.1 o.2 ids ks kf ms objs nx aj (λids ks kf ms objs nx aj=>WaJ aK ps o.2 ids ks kf ms objs nx aj) ⟨b,off,ks',cY,n1,n2,h1,h2,h3,hb,h5⟩ hk hν hn hi hx
 | .vj _::_,_,_,_,_,_,_,_,_,h,_,_,_,_,_=>h.elim
 | .boxal t _::ps,o,ids,ks,kf,ms,objs,nx,aj,⟨b,off,ks',cY,n1,n2,h1,h2,h3,hb,h5⟩,hk,hν,hn,hi,hx=>putOuts_box aK t ps o.1 o.2 ids ks kf ms objs nx aj (λids ks kf ms objs nx aj=>WaJ aK ps o.2 ids ks kf ms objs nx aj) ⟨b,off,ks',cY,n1,n2,h1,h2,h3,hb,h5⟩ hk hν hn hi hx
 | .mut e::ps,o,ids,ks,kf,ms,objs,nx,aj,⟨pc,ks',cY,h1,h2,h3,h4⟩,hk,hν,hn,hi,hx=>by
  obtain⟨id,bg,rr,ys,rfl,iz,bc,iP⟩:=hk;rw[h1]at iz;simp only[List.cons.injEq]at iz;obtain⟨hνid,rfl⟩:=iz;subst h2;have aS:=Xac.1 hn;obtain⟨e1,el,e2⟩:=WaJ aK ps o.2 bg ks' cY ms ((id,.arr e o.1)::objs) nx aj h4 iP hν aS.2 (λk lm=>by
   obtain⟨g1,g2⟩:=hi k (Xf _ lm);have hne:id≠k.id:=λe=>aS.1 (by grind);simp_all [WG,Wb]) hx
  simp only[Waa];refine⟨e1,by simp[el],λi ob hl=>?_⟩;rcases e2 i ob hl with g|⟨j,S,g1,g2,g3⟩|⟨g,gn⟩
  .grind
  .exact .inr (.inl ⟨j+1,S,g1,g2,g3⟩)
  .rw[WG]at g;split at g
   .rename_i e3;subst e3;injection g with g;subst g;exact .inr (.inl ⟨0,pc.fp,rfl,rfl,.inr ⟨e,ys,o.1,bc,rfl,by simp_all⟩⟩)
   .rename_i hne;exact .inr (.inr ⟨g,λhm=>by rcases Xr.1 hm with hm|hm;exact hne hm.symm;exact gn hm⟩)
 | .clos _ _::ps,o,ids,ks,kf,ms,objs,nx,aj,h,hk,hν,hn,hi,hx=>WaJ aK ps o ids ks kf ms objs nx aj h hk hν hn hi hx
 | .rp _::ps,o,ids,ks,kf,ms,objs,nx,aj,h,hk,hν,hn,hi,hx=>WaJ aK ps o ids ks kf ms objs nx aj h hk hν hn hi hx
 | .kv t agg::ps,o,ids,ks,kf,ms,objs,nx,aj,⟨n1,ks',cY,us,h1,h2,h3,h4⟩,⟨i1,i2,rr,bz,mU,ho,iP⟩,hν,hn,hi,hx=>by
  subst bz h2;have bv:=W1 t _ _ _ h3;have kG:=WeC t _ ho;rw[h1]at mU;obtain⟨q1,q2⟩:=Xft mU (by simp[nus,bv,kG]);subst q2;have ow:(kp0 i1).length=t.owns:=by simp[kp0,kG]
  have t1:((kp0 i1++i2).take t.owns).map Kp.id=i1:=by rw[←ow];simp;exact Whv i1
  have t2:(kp0 i1++i2).drop t.owns=i2:=by simp_all
  obtain⟨r1,r2⟩:=WgB (bx:=bx) (aj:=aj) aK t o.1 us n1 i1 h3 q1 ho;have ib:kids (kp0 i1++i2)=i1++kids i2:=by grind [kids,Whv]
  rw[ib]at hn;obtain⟨m1,m2,m3⟩:=Xad.1 hn;obtain⟨e1,el,e2⟩:=WaJ aK ps o.2 i2 ks' cY ms (Wcj t o.1 i1++objs) nx aj h4 iP hν m2 (λk lm=>by
   obtain⟨g1,g2⟩:=hi k (Xh _ lm);refine⟨g1,?_⟩;rw[Wbo];cases hq:Wq (Wcj t o.1 i1) k.id with
   |none=>exact g2
   |some ob=>exact WC rfl (m3 _ (WhC t o.1 i1 _ ob hq) _ (Xam lm))) hx
  simp only[Waa,t1,t2];have gu:(fps n1).length=i1.length:=by simp[fps,bv,kG]
  refine⟨e1,by simp_all,λi ob hl=>?_⟩;rw[ib];rcases e2 i ob hl with g|⟨j,S,g1,g2,g3⟩|⟨g,gn⟩
  .grind
  .refine .inr (.inl ⟨i1.length+j,S,?_,?_,g3⟩)
   .grind
   grind
  .rw[Wbo]at g;cases hq:Wq (Wcj t o.1 i1) i with
   |some cK=>
    rw[hq]at g;injection g with g;subst g;obtain⟨j,S,g1,g2,g3⟩:=r1 i _ hq;refine .inr (.inl ⟨j,S,?_,?_,g3⟩)
    .grind
    grind
   |none=>
    grind
where
 putOuts_box (aK:W9) {bx:List (Nat×CS)} (t:Ty) (ps:List PTy) (o1:t.den) (o2:WfH ps) (ids:List Kp) (ks:List Nu) (kf:List CS) (ms:List Pc) (objs:W9) (nx aj:Nat)
   (ih:∀(ids:List Kp) (ks:List Nu) (kf:List CS) (ms:List Pc) (objs:W9) (nx aj:Nat),Wbj G w ps o2 ks kf ms->KeptOk aK ν bx ps ids ks->At ν φ nx ms->
    (kids ids).Nodup->(∀k∈ids,k.id<nx/\Wq objs k.id=Wq aK k.id)->nx+ms.length<=aj->
    (Waa ps o2 ids objs nx).2=nx+ms.length/\kf.length=ids.length/\
    ∀id ob,Wq (Waa ps o2 ids objs nx).1 id=some ob->(nx<=id/\id<nx+ms.length/\Wo7 G ν φ w id ob)\/(∃(j:Nat) (S:CS),(kids ids)[j]?=some id/\kf[j]?=some S/\Wl7 G ν w aK bx aj id S ob)\/(Wq objs id=some ob/\id∉kids ids))
   (h:∃b off ks' cY n1 n2,ks=WbR b off::ks'/\kf=rng b off t.size::cY/\ms=n1++n2/\Wfa G w t o1 b off n1/\Wbj G w ps o2 ks' cY n2)
   (hk:∃k bg nu ks',ids=k::bg/\ks=nu::ks'/\KeptBox aK ν bx t k nu/\KeptOk aK ν bx ps bg ks') (hν:At ν φ nx ms)
   (hn:(kids ids).Nodup) (hi:∀k∈ids,k.id<nx/\Wq objs k.id=Wq aK k.id) (hx:nx+ms.length<=aj):
   (Waa (.box t::ps) (o1,o2) ids objs nx).2=nx+ms.length/\kf.length=ids.length/\
   ∀id ob,Wq (Waa (.box t::ps) (o1,o2) ids objs nx).1 id=some ob->(nx<=id/\id<nx+ms.length/\Wo7 G ν φ w id ob)\/(∃(j:Nat) (S:CS),(kids ids)[j]?=some id/\kf[j]?=some S/\Wl7 G ν w aK bx aj id S ob)\/(Wq objs id=some ob/\id∉kids ids):=by
  obtain⟨b,off,ks',cY,n1,n2,h1,h2,h3,⟨us,_,hmem,gv⟩,h5⟩:=h;obtain⟨k,bg,nu,rr,rfl,iz,⟨jT,b0,bc,ce,bf,jU,pr⟩,iP⟩:=hk;rw[h1]at iz;simp only[List.cons.injEq]at iz;obtain⟨ot,rfl⟩:=iz;rw[jU]at ot;unfold WbR at ot;injection ot with pt sE;injection pt with pt;subst pt sE h2 h3;have bv:=W1 t _ _ _ gv;have hlen:(n1++n2).length=t.owns+n2.length:=by rw[Xw,bv]
  obtain⟨c1,oz⟩:=Wao t o1 nx us n1 gv hν.left;have aS:=Xac.1 hn;obtain⟨pu,kg⟩:=hi k (Xj ..);have cX:=WbN t o1 nx;have fH:Wg6 (Wq objs k.id) k.off (unfold t o1 nx).1= .box (WdZ jT k.off (unfold t o1 nx).1):=by rw[kg,bc];rfl
  obtain⟨e1,el,e2⟩:=ih bg ks' cY n2 ((k.id,Wg6 (Wq objs k.id) k.off (unfold t o1 nx).1)::((unfold t o1 nx).2.1++objs)) (nx+t.owns) aj h5 iP (hν.right bv) aS.2 (λk' lm=>by
   obtain⟨g1,g2⟩:=hi k' (Xf _ lm);refine⟨by omega,?_⟩;rw[WG,Wb (λe=>aS.1 (by rw[e];exact Xam lm)),Wbo];cases hq:Wq (unfold t o1 nx).2.1 k'.id with
   |none=>exact g2
   |some ob=>have:=(oz _ ob hq).1;omega) (by omega)
  simp only[Waa,WaE];refine⟨by rw[e1,hlen];omega,by simp[el],λi ob hl=>?_⟩;rcases e2 i ob hl with⟨g1,g2,g3⟩|⟨j,S,g1,g2,g3⟩|⟨g,gn⟩
  .exact .inl ⟨by omega,by omega,g3⟩
  .exact .inr (.inl ⟨j+1,S,g1,g2,g3⟩)
  .rw[WG]at g;split at g
   .rename_i e3;subst e3;injection g with g;rw[fH]at g;subst g;refine .inr (.inl ⟨0,_,rfl,rfl,.inl ⟨jT,k.off,_,_,us,bc,rfl,by rw[cX];exact ce,bf,hmem,c1 aj (by omega),by rw[cX],by rw[cX];exact pr⟩⟩)
   .rename_i hne;rcases WK g with g|g
    .obtain⟨g1,g2,g3⟩:=oz i ob g;exact .inl ⟨g1,by omega,g3⟩
    .exact .inr (.inr ⟨g,λhm=>by rcases Xr.1 hm with hm|hm;exact hne hm.symm;exact gn hm⟩)
def Wue(G:GH)(ν:Nat->Nu)(φ:Nat->CS)(w:World)(aj:Nat)(id:Nat)(ob:Ob):Prop:=
 Wo7 G ν φ w id ob\/∃cs b us,ob= .box cs/\(ν id).blk=some b/\Row w b ((ν id).off+cs.length)/\Mem w b (ν id).off us/\CellsRel G ν aj cs us/\CS.le (rng b (ν id).off cs.length) (φ id)
theorem WdC:∀(rs:List PTy) (d:Wgs rs) (vs:List Value) (ns:List Pc) (objs:W9) (nx aj:Nat),Wga G w rs d vs ns->At ν φ nx ns->nx+ns.length<=aj->
  (Wa7 rs d objs nx).2.2=nx+ns.length/\
  (∀id ob,Wq (Wa7 rs d objs nx).2.1 id=some ob->(nx<=id/\id<nx+ns.length/\Wue G ν φ w aj id ob)\/Wq objs id=some ob)/\
  WqW G ν aj (Wa7 rs d objs nx).1 vs
 | [],d,vs,ns,objs,nx,aj,⟨h1,h2⟩,_,_=>by subst h1 h2;exact⟨rfl,λid ob hl=>.inr hl,rfl,λj x v hj=>by simp[Wa7]at hj⟩
 | .v t agg::rs,d,vs,ns,objs,nx,aj,⟨v,vs',n1,n2,h1,h2,h3,h4⟩,hν,hx=>by
  subst h2;obtain⟨us,iM⟩:=Wm4 h3;have bv:=W1 _ _ _ _ iM;have hlen:(n1++n2).length=t.owns+n2.length:=by rw[Xw,bv]
  obtain⟨_,o1⟩:=Wao t d.1 nx us n1 iM hν.left;obtain⟨e1,e2,e4,e5⟩:=WdC rs d.2 vs' n2 ((unfold t d.1 nx).2.1++objs) (nx+t.owns) aj h4 (hν.right bv) (by omega);simp only[Wa7,WaE];refine⟨by rw[e1,hlen];omega,λi ob hl=>?_,?_⟩
  .rcases e2 i ob hl with⟨g1,g2,g3⟩|g
   .exact .inl ⟨by omega,by omega,g3⟩
   .rcases WK g with g|g
    .obtain⟨g1,g2,g3⟩:=o1 i ob g;exact .inl ⟨g1,by omega,.inl g3⟩
    .exact .inr g
  .rw[h1];refine⟨by simp[e4],λj x u hj hu=>?_⟩;cases j with
   |zero=>simp at hj hu;subst hj hu;exact WkH h3 hν.left (by omega)
   |succ j=>exact e5 j x u (by simpa using hj) (by simpa using hu)
 | .box t::rs,d,vs,ns,objs,nx,aj,⟨b,o,vs',n1,n2,h1,h2,⟨us,hrow,hmem,gv⟩,h5⟩,hν,hx=>by
  subst h2;have bv:=W1 _ _ _ _ gv;have hlen:((⟨WbR b o,rng b o t.size⟩:Pc)::(n1++n2)).length=1+t.owns+n2.length:=by rw[List.length_cons,Xw,bv];omega
  obtain⟨hν0,hφ0⟩:ν nx=WbR b o/\φ nx=rng b o t.size:=by have:=hν 0 _ rfl;simpa using this
  have hν1:At ν φ (nx+1) (n1++n2):=hν.right (n1:=[⟨WbR b o,rng b o t.size⟩]) rfl;obtain⟨c1,o1⟩:=Wao t d.1 (nx+1) us n1 gv hν1.left;obtain⟨e1,e2,e4,e5⟩:=WdC rs d.2 vs' n2 ((nx,.box (unfold t d.1 (nx+1)).1)::((unfold t d.1 (nx+1)).2.1++objs)) (nx+1+t.owns) aj h5 (hν1.right bv) (by omega);have cX:=WbN t d.1 (nx+1);simp only[Wa7,WaE];refine⟨by rw[e1,hlen];omega,λid ob hl=>?_,?_⟩
  .rcases e2 id ob hl with⟨g1,g2,g3⟩|g
   .exact .inl ⟨by omega,by omega,g3⟩
   .rw[WG]at g;split at g
    .rename_i e;subst e;injection g with g;subst g;refine .inl ⟨Xl _,by omega,.inr ⟨_,b,us,rfl,by rw[hν0];rfl,?_,?_,c1 aj (by omega),?_⟩⟩
     .rw[hν0,cX];exact hrow
     .rw[hν0];exact hmem
     .rw[hν0,cX,hφ0];exactλ_ _ hh=>hh
    .rcases WK g with g|g
     .obtain⟨g1,g2,g3⟩:=o1 id ob g;exact .inl ⟨by omega,by omega,.inl g3⟩
     .exact .inr g
  .rw[h1];refine⟨by simp[e4],λj x u hj hu=>?_⟩;cases j with
   |zero=>
    simp at hj hu;subst hj hu;exact⟨⟨by omega,b,by rw[hν0];rfl,by rw[hν0];rfl⟩,rfl⟩
   |succ j=>exact e5 j x u (by simpa using hj) (by simpa using hu)
 | .mut _::_,_,_,_,_,_,_,h,_,_=>h.elim
 | .clos _ _::_,_,_,_,_,_,_,h,_,_=>h.elim
 | .kv _ _::_,_,_,_,_,_,_,h,_,_=>h.elim
 | .rp _::_,_,_,_,_,_,_,h,_,_=>h.elim
 | .vj t::rs,d,vs,ns,objs,nx,aj,⟨us,u,vs',n1,n2,h1,h0,h2,h3,h4⟩,hν,hx=>by
  subst h2;have bv:=W1 _ _ _ _ h3;have hlen:(n1++n2).length=t.owns+n2.length:=by rw[Xw,bv]
  obtain⟨c1,o1⟩:=Wao t d.1 nx us n1 h3 hν.left;obtain⟨e1,e2,e4,e5⟩:=WdC rs d.2 vs' n2 ((unfold t d.1 nx).2.1++objs) (nx+t.owns) aj h4 (hν.right bv) (by omega);simp only[Wa7,WaE];refine⟨by rw[e1,hlen];omega,λi ob hl=>?_,?_⟩
  .rcases e2 i ob hl with⟨g1,g2,g3⟩|g
   .exact .inl ⟨by omega,by omega,g3⟩
   .rcases WK g with g|g
    .obtain⟨g1,g2,g3⟩:=o1 i ob g;exact .inl ⟨g1,by omega,.inl g3⟩
    .exact .inr g
  .rw[h1];refine⟨by simp[e4],λj x v hj hv=>?_⟩;cases j with
   |zero=>simp at hj hv;subst hj hv;exact⟨us++ [u],rfl,(c1 aj (by omega)).append (CellsRel.one trivial h0)⟩
   |succ j=>exact e5 j x v (by simpa using hj) (by simpa using hv)
 | .boxal _ _::_,_,_,_,_,_,_,h,_,_=>h.elim
theorem WqA{xs:List AV}{vs:List Value}(h:WqW G ν nx xs vs):AValRel G ν nx (Wuy xs) (WiH vs):=by
 obtain⟨h1,h2⟩:=h
 match xs,vs,h1 with
 | [],[],_=>exact⟨[],rfl,rfl,λj x v hj=>by simp at hj⟩
 | [x],[v],_=>exact h2 0 x v rfl rfl
 |x::y::xs,v::u::vs,h1=>exact⟨v::u::vs,rfl,h1,h2⟩
end
end Go.Sx
namespace Go.Sx
set_option linter.unusedVariables false
set_option linter.unusedSimpArgs false
theorem WaF(i:Nat):∀l:List Nat,Wb4 i l=true↔i∈l
 | []=>by simp[Wb4]
 |j::l=>by
  simp only[Wb4,Bool.or_eq_true,WaF i l,Xr];rw[show(Nat.beq i j=true)=(i=j)from by simp]
theorem WeL:∀l:List Nat,Wbe l=true↔l.Nodup
 | []=>by simp[Wbe]
 |i::l=>by
  have h:=WaF i l;simp only[Wbe,Xi,Xao,Xac,WeL l]
  grind
theorem Wlw{l m:List Nat}(h:WgG l m=true):∀i∈l,i∉m:=λi hi hm=>by
 grind [WgG,Xae,WaF]
section
variable{w0:World}{F:CS}{nt:Slots}{G0 G G':GH}{ν:Nat->Nu}{φ:Nat->CS}{objs:W9}{nx:Nat}{st af:St}{a:Act}{w w':World}{P:Program}{T:Tab}
theorem Wkm(h:HR w0 F G ν φ objs nx w){t:Ty}{agg:Bool}{x:AVal}{v:Value}{cs:List Cell}{d:t.den}{m l:List Nat}(hg:GLe G G')(hx:AValRel G ν nx x v)(hl:Lent G' w φ objs l)(hm:m.Nodup)
  (hc:cellsOf agg x=some cs) (hf:Waq t cs objs=some (d,m,l)):∃ns,Wi3 G' w t agg d v ns/\Sep (fps ns)/\(∀p∈ns,CS.le p.fp (FromL φ objs m))/\(∀i∈m,Live objs i)/\(∀i∈l,Live objs i):=by
 unfold cellsOf at hc;split at hc
 .split at hc
  .cases hc
  .rename_i c ha;injection hc with hc;subst hc;obtain⟨ns,h1,h2,h3,h4,h5,_⟩:=Wab h hg t [c] [v] d m l (CellsRel.one hx.1 hx.2) hl hm hf;refine⟨ns,?_,h2,h3,h4,h5⟩;simp_all [Wi3,Wb]
 .split at hc
  .rename_i ds ha;injection hc with hc;subst hc;obtain⟨us,rfl,bA⟩:=hx;obtain⟨ns,h1,h2,h3,h4,h5,_⟩:=Wab h hg t ds us d m l bA hl hm hf;refine⟨ns,?_,h2,h3,h4,h5⟩;unfold Wi3;simp_all
  .cases hc
 .cases hc
def Wub(objs:W9)(m:List Nat):Prop:=∀i∈m,∃(e:Ty) (xs:List e.den),Wq objs i=some (.arr e xs)
theorem Whu:∀(t:Ty) (cs:List Cell) (d:t.den) (m l:List Nat),Wub objs m->Waq t cs objs=some (d,m,l)->m.length<=t.owns
 | .prod a b,cs,d,m,l,ha,h=>by
  simp only[Waq]at h;split at h
  .rename_i x m1 l1 y m2 l2 h1 h2;simp only[Option.some.injEq,Prod.mk.injEq]at h;obtain⟨rfl,rfl,rfl⟩:=h;have:=Whu a _ _ _ _ (λi hi=>ha i (Xm _ hi)) h1;have:=Whu b _ _ _ _ (λi hi=>ha i (Xh _ hi)) h2;rw[Xw];show _<=a.owns+b.owns;omega
  grind
 | .own e,cs,d,m,l,ha,h=>by
  simp only[Waq]at h;split at h
  .rename_i id;obtain⟨⟨ys,m'⟩,ho,hf⟩:=Xu.1 h;simp only[Prod.mk.injEq]at hf;obtain⟨rfl,rfl,rfl⟩:=hf;unfold WsQ at ho;split at ho
   .obtain⟨zs,_,ho⟩:=Xu.1 ho;obtain⟨_,rfl⟩:=Prod.mk.inj ho;exact Xl 1
   .rename_i e' xs i p bc;split at ho
    .split at ho
     .simp only[Option.some.injEq,Prod.mk.injEq]at ho;obtain⟨_,rfl⟩:=ho;obtain⟨e2,sF,h2⟩:=ha id (Xj ..);simp_all
     grind
    grind
   grind
  .split at h
   .obtain⟨zs,_,h⟩:=Xu.1 h;have h2:=(Prod.mk.inj (Prod.mk.inj h).2).1;subst h2;exact Xl 1
   grind
  .grind
  grind
 | .slice e,cs,d,m,l,_,h=>by
  have hm:m= []:=by
   simp only[Waq]at h
   grind [Xu,Prod.mk.inj]
  simp_all
 | .int k,cs,d,m,l,_,h=>by
  simp only[Waq]at h;split at h
  .obtain⟨q,hq,h⟩:=Xu.1 h;simp_all
  grind
 | .bool,cs,d,m,l,_,h=>by
  simp only[Waq]at h;split at h
  .obtain⟨q,hq,h⟩:=Xu.1 h;simp_all
  grind
 | .str,cs,d,m,l,_,h=>by
  simp only[Waq]at h;split at h
  .obtain⟨q,hq,h⟩:=Xu.1 h;simp_all
  grind
theorem WeG(h:HR w0 F G ν φ objs nx w)(hg:GLe G G'){t:Ty}(ht:t.owns=0){cs:List Cell}{vs:List Value}{d:t.den}{m l:List Nat}(hc:CellsRel G ν nx cs vs)(hl:Lent G' w φ objs l)(hf:Waq t cs objs=some (d,m,l))(hm:m= []):TyRel G' w t d vs []:=by
 subst hm;obtain⟨ns,h1,_⟩:=Wab h hg t cs vs d [] l hc hl Xdd hf;have:=W1 _ _ _ _ h1;simp_all
def pcs(ν:Nat->Nu)(φ:Nat->CS)(m:List Nat):List Pc:=m.map λi=>⟨ν i,φ i⟩
theorem WtF(m:List Nat):nus (pcs ν φ m)=m.map ν:=by simp[nus,pcs,Function.comp_def]
theorem WnO(m:List Nat):fps (pcs ν φ m)=m.map φ:=by simp[fps,pcs,Function.comp_def]
theorem WeV(h:HR w0 F G ν φ objs nx w)(hg:GLe G G'):∀(t:Ty) (cs:List Cell) (vs:List Value) (d:t.den) (m l:List Nat),CellsRel G ν nx cs vs->Lent G' w φ objs l->(∀c∈cs,Wrf c=true)->Wub objs m->
  Waq t cs objs=some (d,m,l)->m.length=t.owns->TyRel G' w t d vs (pcs ν φ m)/\Wif objs t m
 | .prod a b,cs,vs,d,m,l,hc,hl,hw,ha,hf,hm=>by
  have hf0:=hf;simp only[Waq]at hf;split at hf
  .rename_i x m1 l1 y m2 l2 h1 h2;simp only[Option.some.injEq,Prod.mk.injEq]at hf;obtain⟨rfl,rfl,rfl⟩:=hf;have rt:Wub objs m1:=λi hi=>ha i (Xm _ hi);have ru:Wub objs m2:=λi hi=>ha i (Xh _ hi);have q1:=Whu a _ _ _ _ rt h1;have q2:=Whu b _ _ _ _ ru h2;rw[Xw]at hm;have dV:m1.length+m2.length=a.owns+b.owns:=hm;obtain⟨g1,g2⟩:=WeV h hg a _ (vs.take a.size) x m1 l1 (hc.take _) (hl.mono (by simp_all)) (λc hc=>hw c (Xcj hc)) rt h1 (by omega);obtain⟨g3,g4⟩:=WeV h hg b _ (vs.drop a.size) y m2 l2 (hc.drop _) (hl.mono (by simp_all)) (λc hc=>hw c (Xel hc)) ru h2 (by omega);exact⟨⟨_,_,pcs ν φ m1,pcs ν φ m2,(Xdm a.size vs).symm,by simp[pcs],g1,g3⟩,m1,m2,rfl,g2,g4⟩
  grind
 | .own e,cs,vs,d,m,l,hc,hl,hw,ha,hf,hm=>by
  simp only[Waq]at hf;split at hf
  .rename_i id;obtain⟨v,rfl,⟨_,hv⟩,_⟩:=hc.single;subst hv;obtain⟨⟨ys,m'⟩,ho,hf⟩:=Xu.1 hf;simp only[Prod.mk.injEq]at hf;obtain⟨rfl,rfl,rfl⟩:=hf;unfold WsQ at ho;split at ho
   .rename_i e' xs bc;obtain⟨zs,br,ho⟩:=Xu.1 ho;obtain⟨rfl,rfl⟩:=Prod.mk.inj ho;obtain⟨he,hy⟩:=Wap br;subst he;simp only at hy;subst hy;have az:OwnL w (TyRel G w e') e'.size (ν id) xs (φ id):=h.ob _ _ bc;exact⟨⟨⟨ν id,φ id⟩,rfl,rfl,WcL hg (Same.refl _ w) (λ_ _ hh=>hh) az⟩,id,xs,rfl,bc⟩
   .rename_i e' xs i p bc;split at ho
    .split at ho
     .simp only[Option.some.injEq,Prod.mk.injEq]at ho;obtain⟨_,rfl⟩:=ho;obtain⟨e2,sF,h2⟩:=ha id (Xj ..);simp_all
     grind
    grind
   grind
  .have:=hw _ (Xag.2 rfl);cases this
  .simp only[Option.some.injEq,Prod.mk.injEq]at hf;obtain⟨rfl,rfl,rfl⟩:=hf;exact WC hm (by show¬(0=1);omega)
  grind
 | .slice e,cs,vs,d,m,l,hc,hl,hw,ha,hf,hm=>by
  have jp:m= []:=Xz hm;have:=WeG h hg (t:=.slice e) rfl hc hl hf jp;subst jp;exact⟨this,rfl⟩
 | .int k,cs,vs,d,m,l,hc,hl,hw,ha,hf,hm=>by
  have jp:m= []:=Xz hm;have:=WeG h hg (t:=.int k) rfl hc hl hf jp;subst jp;exact⟨this,rfl⟩
 | .bool,cs,vs,d,m,l,hc,hl,hw,ha,hf,hm=>by
  have jp:m= []:=Xz hm;have:=WeG h hg (t:=.bool) rfl hc hl hf jp;subst jp;exact⟨this,rfl⟩
 | .str,cs,vs,d,m,l,hc,hl,hw,ha,hf,hm=>by
  have jp:m= []:=Xz hm;have:=WeG h hg (t:=.str) rfl hc hl hf jp;subst jp;exact⟨this,rfl⟩
theorem WpM{t:Ty}{m:List Nat}{x:AVal}(h:WmC objs t m x=true):m.length=t.owns/\Ws0 x=true/\Wub objs m:=by
 unfold WmC at h;simp only[Xi,Wi,Xae]at h;obtain⟨⟨h1,h2⟩,h3⟩:=h;refine⟨h1,h2,λi hi=>?_⟩
 grind
theorem Wms(h:HR w0 F G ν φ objs nx w){t:Ty}{agg:Bool}{x:AVal}{v:Value}{cs:List Cell}{d:t.den}{m l:List Nat}(hg:GLe G G')(hx:AValRel G ν nx x v)(hl:Lent G' w φ objs l)
  (hc:cellsOf agg x=some cs) (hf:Waq t cs objs=some (d,m,l)) (ha:WmC objs t m x=true):Wi3 G' w t agg d v (pcs ν φ m)/\Wif objs t m:=by
 obtain⟨hm,hw,gi⟩:=WpM ha;unfold cellsOf at hc;split at hc
 .split at hc
  .cases hc
  .rename_i c me;injection hc with hc;subst hc;obtain⟨h1,h2⟩:=WeV h hg t [c] [v] d m l (CellsRel.one hx.1 hx.2) hl (λc' jm=>by rw[Xag.1 jm];exact hw) gi hf hm;simp_all [Wi3,Wb]
 .split at hc
  .rename_i ds me;injection hc with hc;subst hc;obtain⟨us,rfl,bA⟩:=hx;obtain⟨h1,h2⟩:=WeV h hg t ds us d m l bA hl (λc' jm=>Xae.1 hw c' jm) gi hf hm;refine⟨?_,h2⟩;unfold Wi3;simp_all
  .cases hc
 .cases hc
def Tk(φ:Nat->CS)(objs:W9)(bx:List (Nat×CS))(l:List Nat):CS:=λb o=>∃i∈l,Live objs i/\φ i b o/\∀p∈bx,p.1=i->p.2 b o
structure AOk(G':GH)(ν:Nat->Nu)(φ:Nat->CS)(objs:W9)(w:World)(ps:List PTy)(A:Args ps)(vs:List Value)(ns:List Pc)(ks:List Nu)(bx:List (Nat×CS)):Prop where
 args:Wa5 G' w ps A.d vs ns ks
 kept:KeptOk objs ν bx ps A.kept ks
 sep:Sep (fps ns)
 tk:∀q∈ns,CS.le q.fp (Tk φ objs bx A.all)
 bx:∀p∈bx,p.1∈A.all
 live:∀i∈A.all,Live objs i
 lent:∀i∈A.lent,Live objs i
 mv:∀i∈A.moved,i∈A.all
 mvk:∀i∈A.all,i∈A.moved\/i∈kids A.kept
 sub:(kids A.kept).Sublist A.all
 dis:∀i∈kids A.kept,i∉A.moved
theorem WhP{bx:List (Nat×CS)}{l:List Nat}:CS.le (Tk φ objs bx l) (FromL φ objs l):=λb o ⟨i,hi,h1,h2,_⟩=>⟨i,hi,h1,h2⟩
theorem Wlc{bx kN:List (Nat×CS)}{l l':List Nat}(hl:∀i∈l,i∈l')(hb:∀p∈kN,p∈bx\/p.1∉l):CS.le (Tk φ objs bx l) (Tk φ objs kN l'):=λb o ⟨i,hi,h1,h2,h3⟩=>
 ⟨i,hl i hi,h1,h2,λp hp e=>by
  grind⟩
theorem Wnu{bx:List (Nat×CS)}{m l:List Nat}(hm:∀i∈m,i∈l)(hb:∀p∈bx,p.1∉m):CS.le (FromL φ objs m) (Tk φ objs bx l):=λb o ⟨i,hi,h1,h2⟩=>
 ⟨i,hm i hi,h1,h2,λp hp e=>WC (by simp_all) (hb p hp)⟩
theorem Wb0(h:HR w0 F G ν φ objs nx w){n1 n2:List Pc}{m l:List Nat}(h1:Sep (fps n1))(h2:Sep (fps n2))(g1:∀q∈n1,CS.le q.fp (FromL φ objs m))(g2:∀q∈n2,CS.le q.fp (FromL φ objs l))(hd:∀i∈m,i∉l):Sep (fps (n1++n2)):=by
 unfold fps;rw[Xy];refine Wni h1 h2 (A:=FromL φ objs m) (B:=FromL φ objs l) (λs hs=>?_) (λs hs=>?_) (FromL.disj h hd)
 .grind
 grind
theorem Woq(h:HR w0 F G ν φ objs nx w)(hg:GLe G G'){t:Ty}{ps:List PTy}{id off:Nat}{cs:List Cell}{d:t.den}{m:List Nat}{A:Args ps}{vs:List Value}{ns:List Pc}{ks:List Nu}{bx:List (Nat×CS)}{v:Value}
  (hv:CellRel G ν nx (.ptr id off) v) (bc:Wq objs id=some (.box cs)) (hf:Waq t ((cs.drop off).take t.size) objs=some (d,m,[])) (aS:(id::(m++A.all)).Nodup) (hA:AOk G' ν φ objs w ps A vs ns ks bx):
  ∃b n1,v= .pointer (some ⟨b,(ν id).off+off,none⟩)/\(ν id).blk=some b/\Wfa G' w t d b ((ν id).off+off) n1/\Leaf ν t ((cs.drop off).take t.size) n1/\
   KeptBox objs ν ((id,rng b ((ν id).off+off) t.size)::bx) t ⟨id,off⟩ (WbR b ((ν id).off+off))/\KeptOk objs ν ((id,rng b ((ν id).off+off) t.size)::bx) ps A.kept ks/\
   Sep (fps (⟨WbR b ((ν id).off+off),rng b ((ν id).off+off) t.size⟩::(n1++ns)))/\
   (∀q∈(⟨WbR b ((ν id).off+off),rng b ((ν id).off+off) t.size⟩:Pc)::(n1++ns),CS.le q.fp (Tk φ objs ((id,rng b ((ν id).off+off) t.size)::bx) (id::(m++A.all))))/\
   (∀p∈(id,rng b ((ν id).off+off) t.size)::bx,p.1∈id::(m++A.all))/\(∀i∈id::(m++A.all),Live objs i)/\
   (∀i∈m++A.moved,i∈id::(m++A.all))/\(∀i∈id::(m++A.all),i∈m++A.moved\/i∈id::kids A.kept)/\(id::kids A.kept).Sublist (id::(m++A.all))/\(∀i∈id::kids A.kept,i∉m++A.moved):=by
 obtain⟨bz,b,bf,rfl⟩:=hv;obtain⟨n1,n2⟩:=Xac.1 aS;obtain⟨n3,n4,n5⟩:=Xad.1 n2;have aJ:Live objs id:=⟨_,bc,by simp⟩;obtain⟨b',us,hb',hrow,hmem,bA,fi⟩:Wch G ν nx w id (φ id) (.box cs):=h.ob _ _ bc;rw[bf]at hb';injection hb' with hb';subst hb';obtain⟨q1,t1,t2,t3,t4,_,t5⟩:=Wab h hg t _ ((us.drop off).take t.size) d m [] ((bA.drop off).take _) (λi hi=>by simp at hi) n3 hf;have hlen:=WD _ _ _ _ t1;have ce:off+t.size<=cs.length:=by
  have:=bA.1
  grind [Xbh,Xds,Wbu]
 have gg:CS.le (rng b ((ν id).off+off) t.size) (φ id):=λb' o ⟨k0,k1,k2⟩=>fi b' o ⟨k0,by omega,by omega⟩;refine⟨b,q1,rfl,bf,⟨_,?_,?_,t1⟩,t5,⟨cs,b,bc,ce,bf,rfl,Xj ..⟩,KeptOk.mono (λp hp=>Xf _ hp) _ _ _ hA.kept,?_,?_,?_,?_,?_,?_,?_,?_⟩
 .obtain⟨row,TT,r1,r2⟩:=hrow;exact⟨row,TT,r1,by omega⟩
 .intro j v hj;rw[Xbm]at hj;split at hj
  .rw[Xbl]at hj;rw[Xay];exact hmem _ v hj
  grind
 .have s1:=Wb0 h t2 hA.sep t3 (λq hq b o hh=>WhP b o (hA.tk q hq b o hh)) (λi hi hj=>n5 i hi i hj rfl);refine Xt.2 ⟨λs hs=>?_,s1⟩;obtain⟨p,hp,rfl⟩:=Xv.1 hs;refine CS.disj.mono (FromL.disj h (m:=[id]) (m':=m++A.all) (λi hi hj=>n1 (by simp_all))) (λb o hh=>⟨id,by simp,aJ,gg b o hh⟩) (λb o hh=>?_);rcases Xn.1 hp with hp|hp
  .exact FromL.mono (λi hi=>Xm _ hi) b o (t3 p hp b o hh)
  .exact FromL.mono (λi hi=>Xh _ hi) b o (WhP b o (hA.tk p hp b o hh))
 .intro q hq;rcases Xr.1 hq with rfl|hq
  .exactλb o hh=>⟨id,Xj ..,aJ,gg b o hh,λp hp e=>by
    rcases Xr.1 hp with rfl|hp
    .exact hh
    .exact WC (Xh _ (by rw[←e];exact hA.bx p hp)) n1⟩
  .rcases Xn.1 hq with hq|hq
   .refineλb o hh=>Wnu (m:=m) (λi hi=>Xf _ (Xm _ hi)) (λp hp hm=>?_) b o (t3 q hq b o hh)
    rcases Xr.1 hp with rfl|hp
    .simp_all
    .exact n5 _ hm _ (hA.bx p hp) rfl
   .refineλb o hh=>Wlc (λi hi=>Xf _ (Xh _ hi)) (λp hp=>?_) b o (hA.tk q hq b o hh)
    grind
 .intro p hp;rcases Xr.1 hp with rfl|hp
  .simp_all
  .exact Xf _ (Xh _ (hA.bx p hp))
 .intro i hi;rcases Xr.1 hi with rfl|hi
  .exact aJ
  .rcases Xn.1 hi with hi|hi
   .grind
   .exact hA.live i hi
 .intro i hi;rcases Xn.1 hi with hi|hi
  .exact Xf _ (Xm _ hi)
  .exact Xf _ (Xh _ (hA.mv i hi))
 .intro i hi;rcases Xr.1 hi with rfl|hi
  .exact .inr (Xj ..)
  .rcases Xn.1 hi with hi|hi
   .exact .inl (Xm _ hi)
   .rcases hA.mvk i hi with hi|hi
    .exact .inl (Xh _ hi)
    .exact .inr (Xf _ hi)
 .exact List.Sublist.cons_cons _ (List.Sublist.trans hA.sub (Xfi _ _))
 .intro i hi hm;rcases Xr.1 hi with rfl|hi
  .rcases Xn.1 hm with hm|hm
   .exact n1 (Xm _ hm)
   .exact n1 (Xh _ (hA.mv _ hm))
  .rcases Xn.1 hm with hm|hm
   .exact n5 _ hm _ (hA.sub.subset hi) rfl
   .exact hA.dis i hi hm
theorem WoZ(h:HR w0 F G ν φ objs nx w){c:Cell}{y:AVal}{i:Nat}{u:Value}(hy:AValRel G ν nx y u)(he:WrG objs c y=some i):
  ∃r b,c= .own r/\(ν r).blk=some b/\i<(ν r).len/\u= .pointer (some ⟨b,(ν r).off+(i*(ν r).esz+0),none⟩):=by
 unfold WrG at he;split at he
 .rename_i r p off;split at he
  .rename_i e xs j p' bc;split at he
   .rename_i hp;injection he with he;subst he;have hp:=Xch hp;subst hp;obtain⟨j8,k1,k2,k3,b,k4,k5,k6,_⟩:p<nx/\Whk w (TyRel G w e) e.size (ν r) (ν p) xs j (φ r):=h.ob _ _ bc;obtain⟨⟨_,b',hb',rfl⟩,_⟩:=hy;rw[k5]at hb';injection hb' with hb';subst hb';exact⟨r,b,rfl,k4,by omega,by rw[k6,k2,Xbd,Xbd]⟩
   .simp at he
  .simp at he
 .rename_i r r' j off;split at he
  .rename_i e xs bc;split at he
   .rename_i hp;injection he with he;subst he;have hp:=Xch hp;subst hp;obtain⟨⟨_,hlt,b,hb,rfl⟩,_⟩:=hy;exact⟨r,b,rfl,hb,hlt,rfl⟩
   .simp at he
  .simp at he
 .simp at he
theorem Wav(h:HR w0 F G ν φ objs nx w)(hg:GLe G G'):∀(ps:List PTy) (xs:List AVal) (vs:List Value) (A:Args ps),vs.length=xs.length->
  (∀(j:Nat) (x:AVal) (v:Value),xs[j]?=some x->vs[j]?=some v->AValRel G ν nx x v)->Lent G' w φ objs A.lent->A.all.Nodup->W7 ps xs objs=some A->
  ∃ns ks bx,AOk G' ν φ objs w ps A vs ns ks bx
 | [],xs,vs,A,hlen,hx,hl,aS,hf=>by
  simp only[W7]at hf;split at hf
  .injection hf with hf;subst hf;have fy:vs= []:=Xz (by simpa using hlen);exact⟨[],[],[],⟨fy,rfl,rfl⟩,⟨rfl,rfl⟩,List.Pairwise.nil,by simp,by simp,by simp,by simp,by simp,by simp,List.Sublist.refl _,by simp[kids]⟩
  .cases hf
 | .v t agg::ps,xs,vs,A,hlen,hx,hl,aS,hf=>by
  simp only[W7]at hf;split at hf
  .rename_i x xs;split at hf
   .rename_i d m r A' h1 h2;injection hf with hf;subst hf
    match vs,hlen with
    |v::vs,hlen=>
     cases hc:cellsOf agg x with
     |none=>simp[hc]at h1
     |some cs=>
      simp[hc]at h1;obtain⟨n1,n2,n3⟩:=Xad.1 aS;obtain⟨q1,g1,g2,g3,g4,g5⟩:=Wkm h hg (hx 0 x v rfl rfl) (hl.mono (λi hi=>Xm _ hi)) n1 hc h1;obtain⟨ns,ks,bx,hA⟩:=Wav h hg ps xs vs A' (by simpa using hlen) (λj y u hj hu=>hx (j+1) y u (by simpa using hj) (by simpa using hu)) (hl.mono (λi hi=>Xh _ hi)) n2 h2;refine⟨q1++ns,ks,bx,⟨v,vs,q1,ns,rfl,rfl,g1,hA.args⟩,hA.kept,Wb0 h g2 hA.sep g3 (λq hq b o hh=>WhP b o (hA.tk q hq b o hh)) (λi hi hj=>n3 i hi i hj rfl),λq hq=>?_,λp hp=>Xh _ (hA.bx p hp),λi hi=>?_,λi hi=>?_,λi hi=>?_,λi hi=>?_,List.Sublist.trans hA.sub (Xfi _ _),λi hi hm=>?_⟩
      .rcases Xn.1 hq with hq|hq
       .exactλb o hh=>Wnu (λi hi=>Xm _ hi) (λp hp hm=>n3 _ hm _ (hA.bx p hp) rfl) b o (g3 q hq b o hh)
       .exactλb o hh=>Wlc (λi hi=>Xh _ hi) (λp hp=>.inl hp) b o (hA.tk q hq b o hh)
      .rcases Xn.1 hi with hi|hi
       .exact g4 i hi
       .exact hA.live i hi
      .rcases Xn.1 hi with hi|hi
       .exact g5 i hi
       .exact hA.lent i hi
      .rcases Xn.1 hi with hi|hi
       .exact Xm _ hi
       .exact Xh _ (hA.mv i hi)
      .rcases Xn.1 hi with hi|hi
       .exact .inl (Xm _ hi)
       .rcases hA.mvk i hi with hi|hi
        .exact .inl (Xh _ hi)
        .exact .inr hi
      .rcases Xn.1 hm with hm|hm
       .exact n3 _ hm _ (hA.sub.subset hi) rfl
       .exact hA.dis i hi hm
   .cases hf
  .cases hf
 | .box t::ps,xs,vs,A,hlen,hx,hl,aS,hf=>by
  simp only[W7]at hf;split at hf
  .rename_i id off xs;split at hf
   .rename_i cs bc;split at hf
    .rename_i d m A' h1 h2;injection hf with hf;subst hf
     match vs,hlen with
     |v::vs,hlen=>
      obtain⟨n1,n2⟩:=Xac.1 aS;obtain⟨ns,ks,bx,hA⟩:=Wav h hg ps xs vs A' (by simpa using hlen) (λj y u hj hu=>hx (j+1) y u (by simpa using hj) (by simpa using hu)) hl (Xad.1 n2).2.1 h2;obtain⟨b,q1,rfl,bf,k1,_,k2,k3,k4,k5,k6,k7,k8,k9,k10,mi⟩:=Woq h hg (hx 0 _ v rfl rfl).1 bc h1 aS hA;exact⟨_,_,_,⟨b,_,vs,q1,ns,ks,rfl,rfl,rfl,k1,hA.args⟩,⟨_,_,_,_,rfl,rfl,k2,k3⟩,k4,k5,k6,k7,hA.lent,k8,k9,k10,mi⟩
    .cases hf
   .cases hf
  .cases hf
 | .vj _::_,_,_,_,_,_,_,_,hf=>by simp only[W7]at hf;cases hf
 | .boxal t lf::ps,xs,vs,A,hlen,hx,hl,aS,hf=>by
  simp only[W7]at hf;split at hf
  .rename_i id off y xs;split at hf
   .rename_i cs bc;split at hf
    .rename_i d m A' i h1 h2 h3;injection hf with hf;subst hf
     match vs,hlen with
     |v::u::vs,hlen=>
      obtain⟨n1,n2⟩:=Xac.1 aS;obtain⟨ns,ks,bx,hA⟩:=Wav h hg ps xs vs A' (by simpa using hlen) (λj y u hj hu=>hx (j+2) y u (by simpa using hj) (by simpa using hu)) hl (Xad.1 n2).2.1 h2;obtain⟨b,q1,rfl,bf,k1,kl,k2,k3,k4,k5,k6,k7,k8,k9,k10,mi⟩:=Woq h hg (hx 0 _ v rfl rfl).1 bc h1 aS hA;obtain⟨c,hc,h3⟩:=Xbt.1 h3;obtain⟨k,hk,hc⟩:=Xbt.1 hc;obtain⟨r,b',rfl,e1,e2,rfl⟩:=WoZ h (hx 1 y u rfl rfl) h3;obtain⟨pc,e3,e4⟩:=kl lf k r hk hc;exact⟨_,_,_,⟨b,_,b',pc,vs,q1,ns,ks,by rw[e4],rfl,rfl,k1,e3,by rw[e4];exact e1,by rw[e4];exact e2,hA.args⟩,⟨_,_,_,_,rfl,rfl,k2,k3⟩,k4,k5,k6,k7,hA.lent,k8,k9,k10,mi⟩
    .cases hf
   .cases hf
  .cases hf
 | .mut e::ps,xs,vs,A,hlen,hx,hl,aS,hf=>by
  simp only[W7]at hf;split at hf
  .rename_i id xs;split at hf
   .rename_i e' ys bc;split at hf
    .rename_i d A' h1 h2;injection hf with hf;subst hf;obtain⟨he,hd⟩:=Wap h1;subst he;simp only at hd;subst hd
     match vs,hlen with
     |v::vs,hlen=>
      obtain⟨⟨_,hv⟩,_⟩:=hx 0 _ v rfl rfl;subst hv;obtain⟨n1,n2⟩:=Xac.1 aS;have aJ:Live objs id:=⟨_,bc,by simp⟩;have hown:OwnL w (TyRel G w e') e'.size (ν id) ys (φ id):=h.ob _ _ bc;obtain⟨ns,ks,bx,hA⟩:=Wav h hg ps xs vs A' (by simpa using hlen) (λj y u hj hu=>hx (j+1) y u (by simpa using hj) (by simpa using hu)) hl n2 h2;refine⟨⟨ν id,φ id⟩::ns,ν id::ks,bx,⟨⟨ν id,φ id⟩,vs,ns,ks,rfl,rfl,rfl,WcL hg (Same.refl _ w) (λ_ _ hh=>hh) hown,hA.args⟩,⟨id,_,ks,ys,rfl,rfl,bc,hA.kept⟩,?_,λq hq=>?_,λp hp=>Xf _ (hA.bx p hp),λi hi=>?_,hA.lent,λi hi=>Xf _ (hA.mv i hi),λi hi=>?_,List.Sublist.cons_cons _ hA.sub,λi hi hm=>?_⟩
      .refine Wb0 h (n1:=[⟨ν id,φ id⟩]) (m:=[id]) (List.pairwise_singleton _ _) hA.sep (λq hq=>?_) (λq hq b o hh=>WhP b o (hA.tk q hq b o hh)) (λi hi hj=>n1 (by rw[←Xag.1 hi];exact hj));rw[Xag.1 hq];exact FromL.one (by simp) aJ
      .rcases Xr.1 hq with rfl|hq
       .exactλb o hh=>⟨id,Xj ..,aJ,hh,λp hp e=>WC (by rw[←e];exact hA.bx p hp) n1⟩
       .exactλb o hh=>Wlc (λi hi=>Xf _ hi) (λp hp=>.inl hp) b o (hA.tk q hq b o hh)
      .rcases Xr.1 hi with rfl|hi
       .exact aJ
       .exact hA.live i hi
      .rcases Xr.1 hi with rfl|hi
       .exact .inr (Xj ..)
       .rcases hA.mvk i hi with hi|hi
        .exact .inl hi
        .exact .inr (Xf _ hi)
      .rcases Xr.1 hi with rfl|hi
       .exact n1 (hA.mv _ hm)
       .exact hA.dis i hi hm
    .cases hf
   .cases hf
  .cases hf
 | .clos g n::ps,xs,vs,A,hlen,hx,hl,aS,hf=>by
  simp only[W7]at hf;split at hf
  .rename_i g' caps xs;split at hf
   .rename_i hc;obtain⟨rfl,hcl⟩:=hc;cases hA:W7 ps (WjX caps++xs) objs with
    |none=>simp[hA]at hf
    |some A'=>
     simp only[hA,Xby,Option.some.injEq]at hf;subst hf
     match vs,hlen with
     |v::vs,hlen=>
      obtain⟨⟨cvs,hv,hcv,mV⟩,_⟩:=hx 0 _ v rfl rfl;subst hv;obtain⟨ns,ks,bx,hAk⟩:=Wav h hg ps (WjX caps++xs) (cvs++vs) A' (by simp[WjX,hcv];simpa using hlen) (λj y u hj hu=>by
       rw[Xau]at hj hu;simp only[WjX,Xx]at hj;rw[hcv]at hu;split at hj
       .rename_i hlt;rw[Wf hlt]at hu;rw[Xan]at hj;obtain⟨id,bz,rfl⟩:=Xu.1 hj;obtain⟨h1,h3,h2⟩:=mV _ id u bz hu;exact⟨⟨h1,h2⟩,h3⟩
       .rename_i hlt;rw[Wb hlt]at hu;exact hx (j-caps.length+1) y u (by simpa using hj) (by simpa using hu)) hl aS hA
      refine⟨ns,ks,bx,⟨cvs,vs,rfl,by rw[hcv];exact hcl,λu hu=>?_,hAk.args⟩,hAk.kept,hAk.sep,hAk.tk,hAk.bx,hAk.live,hAk.lent,hAk.mv,hAk.mvk,hAk.sub,hAk.dis⟩;obtain⟨j,hj⟩:=Xdp hu;have hlt:j<caps.length:=by rw[←hcv];exact(Xaa.1 hj).1
      exact(mV j _ u (Xs hlt) hj).2.1
   .cases hf
  .cases hf
 | .kv t agg::ps,xs,vs,A,hlen,hx,hl,aS,hf=>by
  simp only[W7]at hf;split at hf
  .rename_i x xs;split at hf
   .rename_i d m r A' h1 h2;split at hf
    .rename_i gi;injection hf with hf;subst hf
     match vs,hlen with
     |v::vs,hlen=>
      cases hc:cellsOf agg x with
      |none=>simp[hc]at h1
      |some cs=>
       simp[hc]at h1;obtain⟨n1,n2,n3⟩:=Xad.1 aS;have bv:Lent G' w φ objs r:=hl.mono (λi hi=>Xm _ hi);obtain⟨_,_,_,_,g4,g5⟩:=Wkm h hg (hx 0 x v rfl rfl) bv n1 hc h1;obtain⟨k1,k2⟩:=Wms h hg (hx 0 x v rfl rfl) bv hc h1 gi;obtain⟨ns,ks,bx,hA⟩:=Wav h hg ps xs vs A' (by simpa using hlen) (λj y u hj hu=>hx (j+1) y u (by simpa using hj) (by simpa using hu)) (hl.mono (λi hi=>Xh _ hi)) n2 h2;have ib:kids (kp0 m++A'.kept)=m++kids A'.kept:=by simp only[kids,Xy];congr 1;exact Whv m
       have gp:∀q∈pcs ν φ m,CS.le q.fp (FromL φ objs m):=λq hq=>by
        obtain⟨i,hi,rfl⟩:=Xv.1 hq;exact FromL.one hi (g4 i hi)
       have gs:Sep (fps (pcs ν φ m)):=by
        rw[WnO];refine List.pairwise_map.2 (n1.imp_of_mem λ{i j} hi hj hne=>?_)
        exactλb o h1 h2=>hne (h.inj i j b o (g4 i hi) (g4 j hj) h1 h2)
       refine⟨pcs ν φ m++ns,m.map ν++ks,bx,⟨v,vs,pcs ν φ m,ns,ks,rfl,rfl,by rw[WtF],k1,hA.args⟩,⟨m,A'.kept,ks,rfl,rfl,k2,hA.kept⟩,Wb0 h gs hA.sep gp (λq hq b o hh=>WhP b o (hA.tk q hq b o hh)) (λi hi hj=>n3 i hi i hj rfl),λq hq=>?_,λp hp=>Xh _ (hA.bx p hp),λi hi=>?_,λi hi=>?_,λi hi=>Xh _ (hA.mv i hi),λi hi=>?_,by rw[ib];exact List.Sublist.append (List.Sublist.refl _) hA.sub,λi hi hm=>?_⟩
       .rcases Xn.1 hq with hq|hq
        .exactλb o hh=>Wnu (λi hi=>Xm _ hi) (λp hp hm=>n3 _ hm _ (hA.bx p hp) rfl) b o (gp q hq b o hh)
        .exactλb o hh=>Wlc (λi hi=>Xh _ hi) (λp hp=>.inl hp) b o (hA.tk q hq b o hh)
       .rcases Xn.1 hi with hi|hi
        .exact g4 i hi
        .exact hA.live i hi
       .rcases Xn.1 hi with hi|hi
        .exact g5 i hi
        .exact hA.lent i hi
       .rw[ib];rcases Xn.1 hi with hi|hi
        .exact .inr (Xm _ hi)
        .rcases hA.mvk i hi with hi|hi
         .exact .inl hi
         .exact .inr (Xh _ hi)
       .rw[ib]at hi;rcases Xn.1 hi with hi|hi
        .exact n3 _ hi _ (hA.mv i hm) rfl
        .exact hA.dis i hi hm
    .cases hf
   .cases hf
  .cases hf
 | .rp t::ps,xs,vs,A,hlen,hx,hl,aS,hf=>by
  simp only[W7]at hf;split at hf
  .rename_i id off xs;split at hf
   .rename_i cs bc;split at hf
    .rename_i d r A' h1 h2;split at hf
     case isFalse=>cases hf
     rename_i pw;injection hf with hf;subst hf
     match vs,hlen with
     |v::vs,hlen=>
      obtain⟨ns,ks,bx,hA⟩:=Wav h hg ps xs vs A' (by simpa using hlen) (λj y u hj hu=>hx (j+1) y u (by simpa using hj) (by simpa using hu)) (hl.mono (λi hi=>Xf _ (Xh _ hi))) aS h2;obtain⟨⟨bz,b,bf,rfl⟩,_⟩:=hx 0 _ v rfl rfl;have aJ:Live objs id:=⟨_,bc,by simp⟩;obtain⟨b',us,hb',hrow,hmem,bA,fi⟩:Wch G ν nx w id (φ id) (.box cs):=h.ob _ _ bc;rw[bf]at hb';injection hb' with hb';subst hb';obtain⟨q1,t1,t2,t3,t4,t5,_⟩:=Wab h hg t _ ((us.drop off).take t.size) d [] r ((bA.drop off).take _) (hl.mono (λi hi=>Xf _ (Xm _ hi))) Xdd h1;have px:∀p∈q1,Froz G' w p.fp:=λp hp b o v hh=>by
       obtain⟨i,hi,_⟩:=t3 p hp b o hh;simp at hi
      have henc:Enc G' t.ro (Wta t d) ((us.drop off).take t.size):=WdK (λ_ _ _ hh=>hh) t d _ q1 px t1;have jq:=WD _ _ _ _ t1;have ce:off+t.size<=cs.length:=by
       have:=bA.1;rw[Xbh,Xds]at jq;have:=Wbu t;omega
      have be:We6 G' b ((ν id).off+off) ((us.drop off).take t.size):=λj v hj=>by
       have py:j<t.size:=by have:=(Xaa.1 hj).1;omega
       rw[Xbm,Wf py,Xbl]at hj;have h3:=hmem _ v hj;rw[←Xay]at h3;exact hl id (Xj ..) aJ b _ v (fi b _ ⟨rfl,by omega,by omega⟩) h3
      exact⟨ns,ks,bx,⟨b,(ν id).off+off,(us.drop off).take t.size,vs,rfl,((WaS t d _ q1 pw).1 t1).1,be,hA.args⟩,hA.kept,hA.sep,hA.tk,hA.bx,hA.live,λi hi=>by
       rcases Xr.1 hi with rfl|hi
       .exact aJ
       .rcases Xn.1 hi with hi|hi
        .exact t5 i hi
        .exact hA.lent i hi,hA.mv,hA.mvk,hA.sub,hA.dis⟩
    .cases hf
   .cases hf
  .rename_i t' d' off xs;split at hf
   .rename_i d A' h1 h2;split at hf
    case isFalse=>cases hf
    rename_i pw;injection hf with hf;subst hf
    match vs,hlen with
    |v::vs,hlen=>
     obtain⟨ns,ks,bx,hA⟩:=Wav h hg ps xs vs A' (by simpa using hlen) (λj y u hj hu=>hx (j+1) y u (by simpa using hj) (by simpa using hu)) hl aS h2;obtain⟨⟨b,o,cs,rfl,e1,e2⟩,_⟩:=hx 0 _ v rfl rfl;have bA:=Waw (ν:=ν) (nx:=nx) t' d' cs e1;obtain⟨q1,t1,t2,t3,t4,t5,_⟩:=Wab h hg t _ ((cs.drop off).take t.size) d [] [] ((bA.drop off).take _) (λi hi=>by simp at hi) Xdd h1;exact⟨ns,ks,bx,⟨b,o+off,(cs.drop off).take t.size,vs,rfl,((WaS t d _ q1 pw).1 t1).1,λj v hj=>by
      rw[Xbm]at hj;split at hj
      .rw[Xbl]at hj;rw[Xay];exact hg _ _ _ (e2 _ v hj)
      .simp at hj,hA.args⟩,hA.kept,hA.sep,hA.tk,hA.bx,hA.live,hA.lent,hA.mv,hA.mvk,hA.sub,hA.dis⟩
   .cases hf
  .cases hf
end
end Go.Sx
namespace Go.Sx
set_option linter.unusedVariables false
set_option linter.unusedSimpArgs false
theorem Wa0{G G':GH}{w:World}:∀(t:Ty) (d:t.den) (vs:List Value) (ns:List Pc),t.noRo=true->TyRel G w t d vs ns->TyRel G' w t d vs ns
 | .own e,_,_,_,hn,⟨pc,h1,h2,h3⟩=>⟨pc,h1,h2,Whz (λx c q hx=>WD e x c q hx) (Same.refl _ w) (λ_ _ hh=>hh) (λx c q _ hx=>Wa0 e x c q hn hx) h3⟩
 | .prod a b,_,_,_,hn,⟨v1,v2,n1,n2,h1,h2,h3,h4⟩=>by
  simp only[Ty.noRo,Xi]at hn;exact⟨v1,v2,n1,n2,h1,h2,Wa0 a _ _ _ hn.1 h3,Wa0 b _ _ _ hn.2 h4⟩
 | .int _,_,_,_,_,h=>h
 | .bool,_,_,_,_,h=>h
 | .str,_,_,_,_,h=>h
 | .slice _,_,_,_,hn,_=>by simp[Ty.noRo]at hn
theorem Wqs{G G':GH}{w:World}{e:Ty}{nu:Nu}{xs:List e.den}{S:CS}(hn:e.noRo=true)(h:OwnL w (TyRel G w e) e.size nu xs S):OwnL w (TyRel G' w e) e.size nu xs S:=
 Whz (λx c q hx=>WD e x c q hx) (Same.refl _ w) (λ_ _ hh=>hh) (λx c q _ hx=>Wa0 e x c q hn hx) h
theorem Wfn{G G':GH}{w:World}{t:Ty}{d:t.den}{b o:Nat}{ns:List Pc}(hn:t.noRo=true)(h:Wfa G w t d b o ns):Wfa G' w t d b o ns:=by
 obtain⟨us,h1,h2,h3⟩:=h;exact⟨us,h1,h2,Wa0 _ _ _ _ hn h3⟩
theorem Wqi{G G':GH}{w:World}{t:Ty}{agg:Bool}{d:t.den}{v:Value}{ns:List Pc}(hn:t.noRo=true)(h:Wi3 G w t agg d v ns):Wi3 G' w t agg d v ns:=by
 unfold Wi3 at h⊢;split
 .rename_i ha;rw[Wf ha]at h;obtain⟨us,h1,h2⟩:=h;exact⟨us,h1,Wa0 _ _ _ _ hn h2⟩
 .rename_i ha;rw[Wb ha]at h;exact Wa0 _ _ _ _ hn h
theorem WdT{G G':GH}{w:World}:∀(rs:List PTy) (d:Wgs rs) (vs:List Value) (ns:List Pc),rs.all PTy.freshR=true->Wga G w rs d vs ns->Wga G' w rs d vs ns
 | [],_,_,_,_,h=>h
 | .v t agg::rs,d,vs,ns,hn,⟨v,vs',n1,n2,h1,h2,h3,h4⟩=>by
  simp only[Xcl,Xi]at hn;exact⟨v,vs',n1,n2,h1,h2,Wqi hn.1 h3,WdT rs _ _ _ hn.2 h4⟩
 | .box t::rs,d,vs,ns,hn,⟨b,o,vs',n1,n2,h1,h2,h3,h5⟩=>by
  simp only[Xcl,Xi]at hn;exact⟨b,o,vs',n1,n2,h1,h2,Wfn hn.1 h3,WdT rs _ _ _ hn.2 h5⟩
 | .mut _::_,_,_,_,_,h=>h.elim
 | .clos _ _::_,_,_,_,_,h=>h.elim
 | .kv _ _::_,_,_,_,_,h=>h.elim
 | .rp _::_,_,_,_,_,h=>h.elim
 | .vj t::rs,d,vs,ns,hn,⟨us,u,vs',n1,n2,h1,h0,h2,h3,h4⟩=>by
  simp only[Xcl,Xi]at hn;exact⟨us,u,vs',n1,n2,h1,h0,h2,Wa0 _ _ _ _ hn.1 h3,WdT rs _ _ _ hn.2 h4⟩
 | .boxal _ _::_,_,_,_,_,h=>h.elim
theorem WaK{G G':GH}{w:World}:∀(ps:List PTy) (o:WfH ps) (ks:List Nu) (kf:List CS) (ns:List Pc),ps.all PTy.fresh=true->Wbj G w ps o ks kf ns->Wbj G' w ps o ks kf ns
 | [],_,_,_,_,_,h=>h
 | .v _ _::ps,o,ks,kf,ns,hn,h=>by
  simp only[Xcl,Xi]at hn;exact WaK ps o ks kf ns hn.2 h
 | .box t::ps,o,ks,kf,ns,hn,⟨b,off,ks',cY,n1,n2,h1,h2,h3,h4,h5⟩=>by
  simp only[Xcl,Xi]at hn;exact⟨b,off,ks',cY,n1,n2,h1,h2,h3,Wfn hn.1 h4,WaK ps _ _ _ _ hn.2 h5⟩
 | .mut e::ps,o,ks,kf,ns,hn,⟨pc,ks',cY,h1,h2,h3,h4⟩=>by
  simp only[Xcl,Xi]at hn;exact⟨pc,ks',cY,h1,h2,Wqs hn.1 h3,WaK ps _ _ _ _ hn.2 h4⟩
 | .clos _ _::ps,o,ks,kf,ns,hn,h=>by
  simp only[Xcl,Xi]at hn;exact WaK ps o ks kf ns hn.2 h
 | .kv t _::ps,o,ks,kf,ns,hn,⟨n1,ks',cY,us,h1,h2,h3,h4⟩=>by
  simp only[Xcl,Xi]at hn;exact⟨n1,ks',cY,us,h1,h2,Wa0 _ _ _ _ hn.1 h3,WaK ps _ _ _ _ hn.2 h4⟩
 | .rp _::ps,o,ks,kf,ns,hn,h=>by
  simp only[Xcl,Xi]at hn;exact WaK ps o ks kf ns hn.2 h
 | .vj _::_,_,_,_,_,_,h=>h.elim
 | .boxal t _::ps,o,ks,kf,ns,hn,⟨b,off,ks',cY,n1,n2,h1,h2,h3,h4,h5⟩=>by
  simp only[Xcl,Xi]at hn;exact⟨b,off,ks',cY,n1,n2,h1,h2,h3,Wfn hn.1 h4,WaK ps _ _ _ _ hn.2 h5⟩
theorem Wd5{objs:W9}:∀(l:List Nat) (id:Nat),id∉l->Wq (kill objs l) id=Wq objs id
 | [],id,_=>rfl
 |i::l,id,h=>by
  simp only[kill];rw[WG,Wb (λe=>h (by rw[e];exact Xj ..))];exact Wd5 l id λhm=>h (Xf _ hm)
theorem WkQ:∀{l:List CS},Sep l->∀{i j:Nat} {A B:CS} {b o:Nat},l[i]?=some A->l[j]?=some B->A b o->B b o->i=j
 | [],_,i,j,A,B,b,o,hi,_,_,_=>by simp at hi
 |C::l,hs,i,j,A,B,b,o,hi,hj,ha,hb=>by
  obtain⟨h1,h2⟩:=Xt.1 hs;cases i with
  |zero=>
   simp at hi;subst hi;cases j with
   |zero=>rfl
   |succ j=>
    simp at hj;exact(h1 B (Xas hj) b o ha hb).elim
  |succ i=>
   simp at hi;cases j with
   |zero=>
    simp at hj;subst hj;exact(h1 A (Xas hi) b o hb ha).elim
   |succ j=>
    simp at hj;rw[WkQ h2 hi hj ha hb]
section
variable{w0:World}{F:CS}{nt:Slots}{G0 G G':GH}{ν:Nat->Nu}{φ:Nat->CS}{objs:W9}{nx:Nat}{st af:St}{a:Act}{w w':World}{P:Program}{T:Tab}
theorem Wpl{f g:Nat->Nu}:∀{l:List Nat},(∀i∈l,g i=f i)->l.map f=l.map g:=λ{l} h=>List.map_congr_left λi hi=>(h i hi).symm
theorem Wb7{ν':Nat->Nu}{bx:List (Nat×CS)}:∀(ps:List PTy) (ids:List Kp) (ks:List Nu),(∀i∈kids ids,ν' i=ν i)->KeptOk objs ν bx ps ids ks->KeptOk objs ν' bx ps ids ks
 | [],_,_,_,h=>h
 | .v _ _::ps,ids,ks,hn,h=>Wb7 ps ids ks hn h
 | .box t::ps,ids,ks,hn,⟨k,bg,nu,ks',h1,h2,⟨cs,b,g1,g2,g3,g4,g5⟩,h4⟩=>by
  subst h1;have e:=hn k.id (Xj ..);exact⟨k,bg,nu,ks',rfl,h2,⟨cs,b,g1,g2,by rw[e];exact g3,by rw[e];exact g4,by rw[e];exact g5⟩,Wb7 ps bg ks' (λi hi=>hn i (Xf _ hi)) h4⟩
 | .mut e::ps,ids,ks,hn,⟨id,bg,ks',ys,h1,h2,h3,h4⟩=>by
  subst h1;exact⟨id,bg,ks',ys,rfl,by rw[hn id (Xj ..)];exact h2,h3,Wb7 ps bg ks' (λi hi=>hn i (Xf _ hi)) h4⟩
 | .clos _ _::ps,ids,ks,hn,h=>Wb7 ps ids ks hn h
 | .kv t _::ps,ids,ks,hn,⟨i1,i2,ks',h1,h2,h3,h4⟩=>by
  subst h1;have ib:kids (kp0 i1++i2)=i1++kids i2:=by simp only[kids,Xy];congr 1;exact Whv i1
  rw[ib]at hn;exact⟨i1,i2,ks',rfl,by rw[h2,Wpl (λi hi=>hn i (Xm _ hi))],h3,Wb7 ps i2 ks' (λi hi=>hn i (Xh _ hi)) h4⟩
 | .rp _::ps,ids,ks,hn,h=>Wb7 ps ids ks hn h
 | .vj _::_,_,_,_,h=>h.elim
 | .boxal t _::ps,ids,ks,hn,⟨k,bg,nu,ks',h1,h2,⟨cs,b,g1,g2,g3,g4,g5⟩,h4⟩=>by
  subst h1;have e:=hn k.id (Xj ..);exact⟨k,bg,nu,ks',rfl,h2,⟨cs,b,g1,g2,by rw[e];exact g3,by rw[e];exact g4,by rw[e];exact g5⟩,Wb7 ps bg ks' (λi hi=>hn i (Xf _ hi)) h4⟩
theorem WqX(hr:Rel w0 F nt G0 G ν st a w):∀(l:List Operand) (xs:List AVal),evs st l=some xs->xs.length=l.length/\
  ∀(j:Nat) (x:AVal) (v:Value),xs[j]?=some x->(l.map a.eval)[j]?=some v->AValRel G ν st.nx x v
 | [],xs,h=>by simp[evs]at h;subst h;exact⟨rfl,λj x v hj=>by simp at hj⟩
 |o::l,xs,h=>by
  simp only[evs]at h;split at h
  .rename_i y ys h1 h2;injection h with h;subst h;obtain⟨h3,h4⟩:=WqX hr l ys h2;refine⟨by simp[h3],λj x v hj hv=>?_⟩;cases j with
   |zero=>simp at hj hv;subst hj hv;exact WL hr o _ h1
   |succ j=>exact h4 j x v (by simpa using hj) (by simpa using hv)
  .simp at h
theorem Wr4{o:Oper}{c:Call}{f:Operand}{g:FuncId}{caps:List Value}(ho:o.op= .call c)(hc:c.callee= .value f)(hf:a.eval f= .func (.func g) #[] caps.toArray)(mW:Wgc P g):
  (execOp a.eval o).run P w= .ok (.enter g (c.args.toList.map a.eval++caps).toArray) w:=by
 obtain⟨fn,h1,h2,h3⟩:=mW;obtain⟨callee,args,argTypes⟩:=c;simp only at hc;subst hc;have e:(#[]++args.map a.eval++caps.toArray)=(args.toList.map a.eval++caps).toArray:=by
  apply Array.ext';simp
 simp only[execOp,ho,resolve,Deferred.ofValue,hf,Sem.run_bind,Sem.run_pure,Result.andThen_ok,invoke,callFunc,run_program,h1,h2,h3,Xbc,Wal,e]
theorem Wr3{b o k:Nat}{vs us:List Value}(hm:Mem w b o vs)(hu:Mem w' b (o+k) us)(hk:k+us.length<=vs.length)(bO:∀j,j<vs.length->¬(k<=j/\j<k+us.length)->w'.cell? ⟨b,o+j,none⟩=w.cell? ⟨b,o+j,none⟩):
  Mem w' b o (vs.take k++us++vs.drop (k+us.length)):=λj v hj=>by
 have ge:∀v',vs[j]?=some v'->¬(k<=j/\j<k+us.length)->w'.cell? ⟨b,o+j,none⟩=some v':=λv' hv hn=>by
  rw[bO j (Xaa.1 hv).1 hn];exact hm j v' hv
 have iP:(vs.take k).length=k:=by simp;omega
 rw[Xaw,Xau,iP]at hj;split at hj
 .rename_i hlt;rw[Xbm,Wf hlt]at hj;exact ge v hj (by omega)
 .rw[Xau]at hj;split at hj
  .have:=hu (j-k) v hj;rw[show o+j=o+k+(j-k) by omega];exact this
  .rw[Xbl,show k+us.length+(j-k-us.length)=j by omega]at hj;exact ge v hj (by omega)
theorem WkM{Γ:Ctx}(hΓ:WeY P Γ)(hr:Rel w0 F nt G0 G ν st a w){o:Oper}(hd:∀d,o.dst=some d->nt.Ok d){c:Call}{f:Operand}{g:FuncId}{cvs:List Value}{xs:List AVal}{sg:Sig}{R:Type}{k:St->Option R}{r:R}
  (ho:o.op= .call c) (hc:c.callee= .value f) (mX:a.eval f= .func (.func g) #[] cvs.toArray) (ln:Wq Γ g=some sg) (hlen:xs.length=(c.args.toList.map a.eval++cvs).length)
  (hargs:∀(j:Nat) (x:AVal) (v:Value),xs[j]?=some x->(c.args.toList.map a.eval++cvs)[j]?=some v->AValRel G ν st.nx x v)
  (h:We5 sg st xs (λx objs nx=>k (({env:=st.env,objs:=objs,nx:=nx}:St).put o.dst x))=some r) {K:Act->World->Prop} {Q:Exit->Act->World->Prop}
  (hK:∀af a' w' G' ν',Rel w0 F nt G0 G' ν' af a' w'->k af=some r->K a' w'):o.wp P a w K Q:=by
 obtain⟨jr,iA⟩:=hΓ g sg ln;unfold We5 at h;split at h
 .rename_i A hA;split at h
  .rename_i bq;simp only[Xi]at bq;obtain⟨⟨aS,kh⟩,oC⟩:=bq;have aS:=(WeL _).1 aS;have kh:=Wlw kh;obtain⟨out,hrun,hk⟩:=sg.law' A.d _ r h;dsimp only at hk;obtain⟨φ,hφ⟩:=hr.h;have gd:=hφ.addG_le A.lent;have hG1w:=hφ.addG_w A.lent;obtain⟨ns,ks,bx,hO⟩:=Wav hφ gd sg.ps _ (c.args.toList.map a.eval++cvs) A hlen.symm hargs (λid bz hl=>(Wih _).mono (FromL.one bz hl)) aS hA;have hTk:∀b o,Of ns b o->Tk φ st.objs bx A.all b o:=λb o ⟨q,hq,hh⟩=>hO.tk q hq b o hh;have hfree:∀q∈ns,∀b off,q.fp b off->Wp6 G w (FromL φ st.objs A.lent) b off=none/\b<w.heap.size:=λq hq b off hh=>by
    obtain⟨i,hi,h1,h2,_⟩:=hO.tk q hq b off hh;refine⟨?_,hφ.bl i b off h1 h2⟩;rw[WcZ (λ⟨j,hj,h3,h4⟩=>by
     have:=hφ.inj i j b off h1 h3 h2 h4;subst this;exact kh _ hj hi)]
    exact hφ.gf i b off h1 h2
   have lq:=jr A.d out hrun _ w _ ns _ hO.args hO.sep hfree hG1w;unfold Oper.wp;rw[Wr4 ho hc mX iA,Oper.upon_enter];refine lq.mono λe w' mY=>?_;obtain⟨rv,kf,ms,cL,G2,rfl,hA2⟩:=mY;simp only;have hG3:∃G3:GH,GLe G G3/\(∀b off v,G3 b off=some v->w'.cell? ⟨b,off,none⟩=some v)/\Wga G3 w' sg.rs out.2 rv cL/\Wbj G3 w' sg.ps out.1 ks kf ms/\
     GExt w0.heap.size F G0 G3/\(∀S∈kf++fps (ms++cL),∀b off,S b off->G3 b off=none)/\(∀id b off,Live st.objs id->φ id b off->¬Tk φ st.objs bx A.all b off->G3 b off=none):=by
    by_cases hle:A.lent= []
    .have hGG:Wp6 G w (FromL φ st.objs A.lent)=G:=by
      rw[hle];funext b off;exact WcZ (λ⟨i,hi,_⟩=>by simp at hi)
     rw[hGG]at hA2;refine⟨G2,hA2.gx.le,hA2.g,hA2.res,hA2.outs,⟨λb o v hv=>hA2.gx.le b o v (hr.gx.le b o v hv),λb o v hv=>?_⟩,λS hS b off hh=>(hA2.own S hS b off hh).1,λid b off hl hp hn=>?_⟩
     .rcases hA2.gx.new b o v hv with h1|h1|h1
      .exact hr.gx.new b o v h1
      .exact .inr (.inl (Xbe hφ.le.size h1))
      .obtain⟨i,hi,h2,h3,_⟩:=hTk b o h1;exact .inr (hφ.own i b o h2 h3)
     .cases hv:G2 b off with
      |none=>rfl
      |some v=>
       rcases hA2.gx.new b off v hv with h1|h1|h1
       .rw[hφ.gf id b off hl hp]at h1;cases h1
       .have:=hφ.bl id b off hl hp;omega
       .exact WC (hTk b off h1) hn
    .have fK:sg.fresh=true:=by
      rcases Bool.or_eq_true_iff.1 oC with h1|h1
      .exact h1
      .exact WC (by simpa using h1) hle
     unfold Sig.fresh at fK;simp only[Xi]at fK;refine⟨G,λ_ _ _ hh=>hh,λb o v hv=>hA2.g b o v (hA2.gx.le b o v (gd b o v hv)),WdT _ _ _ _ fK.1 hA2.res,WaK _ _ _ _ _ fK.2 hA2.outs,hr.gx,λS hS b off hh=>?_,λid b off hl hp _=>hφ.gf id b off hl hp⟩;cases hv:G b off with
     |none=>rfl
     |some v=>
      have:=hA2.gx.le b off v (gd b off v hv);rw[(hA2.own S hS b off hh).1]at this;cases this
   obtain⟨G3,pz,pA,gP,mZ,pB,pC,pD⟩:=hG3;obtain⟨ν2,hν2⟩:∃ν2:Nat->Nu,ν2= λi=>if i<st.nx then ν i else((nus (ms++cL))[i-st.nx]?).getD ⟨none,0,0,0,0⟩:=⟨_,rfl⟩;obtain⟨φ2,hφ2⟩:∃φ2:Nat->CS,φ2= λi=>if i<st.nx then(λb o=>(∃(j:Nat) (S:CS),(kids A.kept)[j]?=some i/\kf[j]?=some S/\S b o)\/(φ i b o/\¬Tk φ st.objs bx A.all b o))else((fps (ms++cL))[i-st.nx]?).getD (λ_ _=>False):=⟨_,rfl⟩;have hνold:WqM st.nx ν ν2:=λi hi=>by rw[hν2];simp[hi]
   have hAt:At ν2 φ2 st.nx (ms++cL):=λj pc hj=>by
    have e1:(nus (ms++cL))[j]?=some pc.nu:=by unfold nus;rw[Xan,hj];rfl
    have e2:(fps (ms++cL))[j]?=some pc.fp:=by unfold fps;rw[Xan,hj];rfl
    rw[hν2,hφ2];simp only;rw[Wb (by omega),Wb (by omega),Xcb,e1,e2];exact⟨rfl,rfl⟩
   have ki:∀i∈kids A.kept,i<st.nx:=λi hi=>hφ.lt i (hO.live i (hO.sub.subset hi));have kj:(kids A.kept).Nodup:=aS.sublist hO.sub;obtain⟨sG,sH,km⟩:=WaJ (ν:=ν2) (φ:=φ2) (bx:=bx) st.objs sg.ps out.1 A.kept ks kf ms (kill st.objs A.moved) st.nx (st.nx+ms.length+cL.length) mZ (Wb7 _ _ _ (λi hi=>hνold i (ki i hi)) hO.kept) hAt.left kj (λq hq=>by
    have jS:q.id∈kids A.kept:=Xam hq;exact⟨ki _ jS,Wd5 _ _ (hO.dis _ jS)⟩) (by omega)
   generalize hp:Waa sg.ps out.1 A.kept (kill st.objs A.moved) st.nx=p at*;obtain⟨px,sJ,sL⟩:=WdC (ν:=ν2) (φ:=φ2) sg.rs out.2 rv cL p.1 (st.nx+ms.length) (st.nx+ms.length+cL.length) gP (hAt.right rfl) (by omega);rw[sG]at hk;generalize hq:Wa7 sg.rs out.2 p.1 (st.nx+ms.length)=q at*;have gQ:∀id ob,Wq q.2.1 id=some ob->ob≠ .dead->
     (st.nx<=id/\id<st.nx+ms.length+cL.length/\Wue G3 ν2 φ2 w' (st.nx+ms.length+cL.length) id ob)\/
     (∃(j:Nat) (S:CS),(kids A.kept)[j]?=some id/\kf[j]?=some S/\Wl7 G3 ν2 w' st.objs bx (st.nx+ms.length+cL.length) id S ob)\/(Wq st.objs id=some ob/\id∉A.all):=λid ob hl cO=>by
    rcases sJ id ob hl with⟨h1,h2,h3⟩|h1
    .exact .inl ⟨by omega,h2,h3⟩
    .rcases km id ob h1 with⟨h2,h3,h4⟩|h2|⟨h2,h3⟩
     .exact .inl ⟨h2,by omega,.inl h4⟩
     .exact .inr (.inl h2)
     .obtain⟨h4,h5⟩:=Wer A.moved id ob h2 cO;exact .inr (.inr ⟨h4,λhm=>by rcases hO.mvk id hm with h6|h6;exact h5 h6;exact h3 h6⟩)
   have bm:∀id b off,Live q.2.1 id->φ2 id b off->
     (∃(pos:Nat) (S:CS),(kf++fps (ms++cL))[pos]?=some S/\S b off/\id=(if pos<kf.length then((kids A.kept)[pos]?).getD 0 else st.nx+(pos-kf.length)))\/
     (Live st.objs id/\φ id b off/\¬Tk φ st.objs bx A.all b off/\id<st.nx):=λid b off ⟨ob,hl,cO⟩ hp=>by
    have lr:id<st.nx->Live st.objs id:=λhlt=>by
     rcases gQ id ob hl cO with⟨h1,_⟩|⟨j,S,h1,_⟩|⟨h1,_⟩
     .omega
     .exact hO.live id (hO.sub.subset (Xas h1))
     .exact⟨ob,h1,cO⟩
    rw[hφ2]at hp
    try simp only at hp
    by_cases hlt:id<st.nx
    .rw[Wf hlt]at hp;rcases hp with⟨j,S,h1,h2,h3⟩|⟨h1,h2⟩
     .left;have hj:j<kf.length:=(Xaa.1 h2).1;refine⟨j,S,by rw[Xco hj];exact h2,h3,?_⟩;rw[Wf hj,h1];rfl
     .exact .inr ⟨lr hlt,h1,h2,hlt⟩
    .rw[Wb hlt]at hp;left;cases hS:(fps (ms++cL))[id-st.nx]? with
     |none=>rw[hS]at hp;exact hp.elim
     |some S=>
      rw[hS]at hp;refine⟨kf.length+(id-st.nx),S,by rw[Xcd (by omega),Xcb];exact hS,hp,?_⟩;rw[Wb (by omega)];omega
   have hown:=hA2.own;have ic:∀{pos:Nat} {S:CS},(kf++fps (ms++cL))[pos]?=some S->S∈kf++fps (ms++cL):=λh=>Xas h;have hH:HR w0 F G3 ν2 φ2 q.2.1 (st.nx+ms.length+cL.length) w':={
    g:=pA
    ob:=λid ob hl=>by
     by_cases cO:ob= .dead
     .subst cO;trivial
     .rcases gQ id ob hl cO with⟨h1,h2,⟨e,xs,rfl,h3⟩|⟨cs,b,us,rfl,h3,h4,h5,h6,h7⟩⟩|⟨j,S,h1,h2,h3⟩|⟨h1,h2⟩
      .exact h3
      .exact⟨b,us,h3,h4,h5,h6,h7⟩
      .have bz:id∈kids A.kept:=Xas h1;have hlt:=ki id bz;have aJ:Live st.objs id:=hO.live id (hO.sub.subset bz);have hSφ:CS.le S (φ2 id):=λb o hh=>by
        rw[hφ2];(try simp only);rw[Wf hlt];exact .inl ⟨j,S,h1,h2,hh⟩
       rcases h3 with⟨jT,off,ds,b,us,g1,rfl,g2,g3,g4,g5,rfl,g6⟩|⟨e,ys,xs,g1,rfl,g2⟩
       .rw[hνold id hlt]at g3 g4 g6 hSφ;obtain⟨b',vs,e1,e2,e3,e4,e5⟩:Wch G ν st.nx w id (φ id) (.box jT):=hφ.ob _ _ g1;rw[g3]at e1;injection e1 with e1;subst e1;have cX:us.length=ds.length:=g5.1;have kI:vs.length=jT.length:=e4.1;have gj:∀o,(ν id).off<=o->o<(ν id).off+jT.length->¬((ν id).off+off<=o/\o<(ν id).off+off+ds.length)->φ id b o/\¬Tk φ st.objs bx A.all b o:=λo k1 k2 k3=>by
         have hφo:=e5 b o ⟨rfl,k1,k2⟩;refine⟨hφo,λ⟨i,hi,k4,k5,k6⟩=>?_⟩;have:=hφ.inj i id b o k4 aJ k5 hφo;subst this;obtain⟨_,k7,k8⟩:=k6 _ g6 rfl;exact k3 ⟨k7,k8⟩
        refine⟨b,_,by rw[hνold id hlt];exact g3,by rw[hνold id hlt,WeD g2];exact hA2.le.rows.row _ _ e2,?_,WeM (e4.mono pz hνold (by omega)) g5,?_⟩
        .rw[hνold id hlt];refine Wr3 e3 g4 (by omega) (λj hj hn=>?_);obtain⟨k1,k2⟩:=gj ((ν id).off+j) (by omega) (by omega) (λ⟨k3,k4⟩=>hn ⟨by omega,by omega⟩);exact hA2.le.cell b _ (hφ.bl id b _ aJ k1) (λls=>k2 (hTk b _ ls))
        .rw[hνold id hlt,WeD g2];intro b' o ⟨k0,k1,k2⟩;subst k0;by_cases eK:(ν id).off+off<=o/\o<(ν id).off+off+ds.length
         .exact hSφ b' o ⟨rfl,eK.1,eK.2⟩
         .rw[hφ2];(try simp only);rw[Wf hlt];exact .inr (gj o k1 k2 eK)
       .exact WcL (λ_ _ _ hh=>hh) (Same.refl _ w') hSφ g2
      .have j9:Live st.objs id:=⟨ob,h1,cO⟩;have hlt:=hφ.lt id j9;have rx:∀b o,φ id b o->¬Tk φ st.objs bx A.all b o:=λb o hp ⟨i,hi,k1,k2,_⟩=>by
        have:=hφ.inj i id b o k1 j9 k2 hp;subst this;exact h2 hi
       refine Wdr pz (hA2.le.same (λb o ls hp=>rx b o hp (hTk b o ls)) (λb o hp=>hφ.bl id b o j9 hp)) (λb o hp=>?_) hνold (by omega) hlt ob (hφ.ob id ob h1);rw[hφ2];(try simp only);rw[Wf hlt];exact .inr ⟨hp,rx b o hp⟩
    gf:=λid b off hl hp=>by
     rcases bm id b off hl hp with⟨pos,S,h1,h2,_⟩|⟨h1,h2,h3,_⟩
     .exact pC S (ic h1) b off h2
     .exact pD id b off h1 h2 h3
    inj:=λid bN b off hl da hp dS=>by
     have key:∀bN,Live st.objs bN->φ bN b off->¬Tk φ st.objs bx A.all b off->∀(pos:Nat) (S:CS),(kf++fps (ms++cL))[pos]?=some S->S b off->False:=λbN g1 g2 g3 pos S g4 g5=>by
      rcases(hown S (ic g4) b off g5).2.1 with g6|g6
      .exact g3 (hTk b off g6)
      .have:=hφ.bl bN b off g1 g2;omega
     rcases bm id b off hl hp with⟨pos,S,h1,h2,he⟩|⟨h1,h2,h3,h4⟩<;>rcases bm bN b off da dS with⟨pE,S',iN,iO,kc⟩|⟨iN,iO,pd,h4'⟩
     .have:=WkQ hA2.sep h1 iN h2 iO;subst this;rw[he,kc]
     .exact(key bN iN iO pd pos S h1 h2).elim
     .exact(key id h1 h2 h3 pE S' iN iO).elim
     .exact hφ.inj id bN b off h1 iN h2 iO
    own:=λid b off hl hp=>by
     rcases bm id b off hl hp with⟨pos,S,h1,h2,_⟩|⟨h1,h2,h3,_⟩
     .rcases(hown S (ic h1) b off h2).2.1 with h5|h5
      .obtain⟨i,hi,h6,h7,_⟩:=hTk b off h5;exact hφ.own i b off h6 h7
      .exact .inl (Xbe hφ.le.size h5)
     .exact hφ.own id b off h1 h2
    lt:=λid ⟨ob,hl,cO⟩=>by
     rcases gQ id ob hl cO with⟨_,h2,_⟩|⟨j,S,h1,_⟩|⟨h1,h2⟩
     .exact h2
     .have:=ki id (Xas h1);omega
     .have:=hφ.lt id ⟨ob,h1,cO⟩;omega
    bl:=λid b off hl hp=>by
     rcases bm id b off hl hp with⟨pos,S,h1,h2,_⟩|⟨h1,h2,h3,_⟩
     .exact(hown S (ic h1) b off h2).2.2
     .exact Nat.lt_of_lt_of_le (hφ.bl id b off h1 h2) hA2.le.size
    le:=hφ.le.trans hA2.le (λb off ls=>by
     obtain⟨i,hi,h6,h7,_⟩:=hTk b off ls;exact hφ.own i b off h6 h7)}
   have hR:=hr.on pz hνold (by omega) ⟨φ2,hH⟩ pB;have hR2:=hR.put (dst:=o.dst) hd (WqA sL);rw[px]at hk;exact hK _ _ _ _ _ hR2 hk
  .cases h
 .cases h
theorem WtN{Γ:Ctx}(hΓ:WeY P Γ)(hr:Rel w0 F nt G0 G ν st a w){o:Oper}(hd:∀d,o.dst=some d->nt.Ok d){c:Call}{f:Operand}{g:FuncId}{caps:List Nat}{xs:List AVal}{sg:Sig}{R:Type}{k:St->Option R}{r:R}
  (ho:o.op= .call c) (hc:c.callee= .value f) (hf:ev st f=some (.s (.one (.clos g caps)))) (lu:evs st c.args.toList=some xs) (ln:Wq Γ g=some sg)
  (h:Wmd sg st (xs++WjX caps) (λx objs nx=>k (({env:=st.env,objs:=objs,nx:=nx}:St).put o.dst x))=some r) {K:Act->World->Prop} {Q:Exit->Act->World->Prop}
  (hK:∀af a' w' G' ν',Rel w0 F nt G0 G' ν' af a' w'->k af=some r->K a' w'):o.wp P a w K Q:=by
 obtain⟨⟨cvs,mX,hcl,hcv⟩,_⟩:=WL hr f _ hf;obtain⟨iu,sM⟩:=WqX hr _ _ lu;have hlen:(xs++WjX caps).length=(c.args.toList.map a.eval++cvs).length:=by simp[iu,WjX,hcl]
 have hargs:∀(j:Nat) (x:AVal) (v:Value),(xs++WjX caps)[j]?=some x->(c.args.toList.map a.eval++cvs)[j]?=some v->AValRel G ν st.nx x v:=λj x v hj hv=>by
  rw[Xau]at hj hv;rw[Xx,←iu]at hv;split at hj
  .rename_i hlt;rw[Wf hlt]at hv;exact sM j x v hj hv
  .rename_i hlt;rw[Wb hlt]at hv;simp only[WjX,Xan]at hj;cases hcj:caps[j-xs.length]? with
   |none=>simp[hcj]at hj
   |some id=>
    simp[hcj]at hj;subst hj;obtain⟨h1,h3,h2⟩:=hcv _ id v hcj hv;exact⟨⟨h1,h2⟩,h3⟩
 unfold Wmd at h;cases oC:sg.fresh with
 |true=>
  rw[oC]at h;exact WkM hΓ hr hd ho hc mX ln hlen hargs h hK
 |false=>
  rw[oC]at h;simp only[Wc]at h;split at h
  .rename_i A hA;split at h
   .exact WkM hΓ hr hd ho hc mX ln hlen hargs h hK
   .obtain⟨G1,hz⟩:=hr.frz A.lent;refine WkM hΓ hz.rel hd ho hc mX ln (by simpa using hlen) (λj x v hj hv=>?_) h hK;rw[Xan]at hj;obtain⟨y,hy,rfl⟩:=Xu.1 hj;exact hz.val y v (hargs j y v hy hv)
  .cases h
end
end Go.Sx
namespace Go.Sx
set_option linter.unusedVariables false
set_option linter.unusedSimpArgs false
section
variable{w0:World}{F:CS}{nt:Slots}{G0 G G':GH}{ν:Nat->Nu}{objs:W9}{nx:Nat}{st af:St}{a:Act}{w w':World}{P:Program}{T:Tab}{Γ:Ctx}
theorem Done.wp{o:Oper}{af:St}(h:Done P w0 F nt G0 o a w af){K:Act->World->Prop}{Q:Exit->Act->World->Prop}
  (hK:∀a' w' G' ν',Rel w0 F nt G0 G' ν' af a' w'->K a' w'):o.wp P a w K Q:=by
 obtain⟨n,v,w',G',ν',h1,h2,h3⟩:=h;unfold Oper.wp;rw[h1];rcases h2 with rfl|⟨rfl,rfl⟩
 .exact hK _ _ _ _ h3
 .exact hK _ _ _ _ h3
theorem WlV{t:TypeId}{x v:AVal}{af:St}(h:WcF T st t x v=some af):({env:=st.env,objs:=af.objs,nx:=af.nx}:St)=af:=by
 unfold WcF at h;split at h
 .split at h
  .split at h
   .injection h with h;subst h;rfl
   .cases h
  .cases h
 .split at h
  .split at h
   .split at h
    .injection h with h;subst h;rfl
    .cases h
   .split at h
    .split at h
     .split at h
      .injection h with h;subst h;rfl
      .cases h
     .cases h
    .cases h
  .cases h
 .cases h
theorem WaC{R:Type}{c:Bool}{x:Option R}{r:R}(h:(bif c then x else none)=some r):c=true/\x=some r:=by
 cases c
 .cases h
 .exact⟨rfl,h⟩
theorem WbH{R:Type}{c:Prop}[Decidable c]{x:Option R}{r:R}(h:(if c then x else none)=some r):c/\x=some r:=by
 split at h
 .exact⟨by assumption,h⟩
 .cases h
theorem WlN{e:Ty}{ps:List (Nat×AVal)}{R:Type}{k:KV R}{r:R}(h:Wdf st e ps k=some r):
  ∃x ds d m,ps= [(0,x)]/\WgC (WgS st.objs (Whj e x) x)=some ds/\Waq e ds (WdP st.objs (Whj e x))=some (d,m,[])/\Wbe m=true/\
   k (.s (.one (.own st.nx))) ((st.nx,.arr e [d])::kill (WdP st.objs (Whj e x)) m) (st.nx+1)=some r:=by
 match ps with
 | [p]=>
  simp only[Wdf]at h;obtain⟨hp,h⟩:=WbH h;split at h
  .rename_i ds gr;split at h
   .rename_i d m hf;obtain⟨aS,h⟩:=WbH h;exact⟨p.2,ds,d,m,by rw[←hp],gr,hf,aS,h⟩
   .cases h
  .cases h
 | []=>cases h
 |_::_::_=>cases h
theorem Wnd(hT:Waf P T)(hr:Rel w0 F nt G0 G ν st a w){o:Oper}(hd:∀d,o.dst=some d->nt.Ok d){R:Type}{k:St->Option R}{r:R}
  (h:(match Wac T st o.op with|some (c,v)=>bif c then k (({env:=st.env,objs:=st.objs,nx:=st.nx}:St).put o.dst v)else none|none=>none)=some r)
  {K:Act->World->Prop} {Q:Exit->Act->World->Prop} (hK:∀af a' w' G' ν',Rel w0 F nt G0 G' ν' af a' w'->k af=some r->K a' w'):o.wp P a w K Q:=by
 split at h
 .rename_i c v hp;obtain⟨rfl,h⟩:=WaC h;exact(Wqz hT hr hd hp).wp λa' w' G' ν' bP=>hK _ _ _ _ _ bP h
 .cases h
theorem WqZ(hT:Waf P T)(hΓ:WeY P Γ)(hr:Rel w0 F nt G0 G ν st a w){o:Oper}(hd:∀d,o.dst=some d->nt.Ok d){A:List (Nat×An)}{R:Type}{k:St->Option R}{r:R}(h:rx1 T Γ A o st k=some r)
  {K:Act->World->Prop} {Q:Exit->Act->World->Prop} (hK:∀af a' w' G' ν',Rel w0 F nt G0 G' ν' af a' w'->k af=some r->K a' w'):o.wp P a w K Q:=by
 unfold rx1 rxe at h;split at h
 .rename_i t ho;split at h
  .rename_i e n et hl;obtain⟨hc,h⟩:=WbH h;simp only[Xi]at hc;exact(WkK hT hr hd ho hl hc.1 hc.2).wp λa' w' G' ν' bP=>hK _ _ _ _ _ bP h
  .rename_i te _ hl;obtain⟨hc,h⟩:=WbH h;exact(Wpe hT hr hd ho hl hc).wp λa' w' G' ν' bP=>hK _ _ _ _ _ bP h
  .cases h
 .rename_i t x ho;split at h
  .rename_i te cs hl hb;cases hv:ev st x with
   |none=>simp[hv]at hb
   |some v=>
    simp only[hv,Xd]at hb;exact(WsU hr hd ho hv hb).wp λa' w' G' ν' bP=>hK _ _ _ _ _ bP h
  .cases h
 .rename_i t parts ho;split at h
  .rename_i ty fs ps hl bT;obtain⟨hc,h⟩:=WbH h;split at h
   .rename_i cs hf;refine(Wpd hT hr hd ho hl bT hf ?_).wp λa' w' G' ν' bP=>hK _ _ _ _ _ bP h;intro f hf;have:=Xae.1 hc f hf;split at this
    .rename_i te bD;exact⟨te,bD,this⟩
    .cases this
   .cases h
  .cases h
 .rename_i t n parts ho;split at h
  .rename_i ty et ps hl bT;split at h
   .rename_i te hle;split at h
    .rename_i e _;obtain⟨hc,h1⟩:=WbH h;clear h;simp only[Xi,Wi]at hc;obtain⟨⟨⟨hn,he⟩,hp⟩,hsz⟩:=hc;obtain⟨x,ds,d,m,rfl,gr,hf,aS,h⟩:=WlN h1;clear h1;subst hn;have aS:=(WcM _).1 aS;obtain⟨G1,hz⟩:=hr.frz (Whj e x);obtain⟨p1,p2⟩:=WfU hr _ _ bT;have eE:∃y,parts.toList= [(0,y)]/\AValRel G ν st.nx x (a.eval y):=by
      match gK:parts.toList,p1 with
      | [q],_=>
       rw[gK]at p2;obtain⟨q1,q2⟩:=p2 0 _ q rfl rfl;refine⟨q.2,?_,q2⟩;have:q=(0,q.2):=Prod.ext q1.symm rfl;rw[←this]
     obtain⟨y,sN,sO⟩:=eE;exact(Wmk hT hz.rel hd ho sN hl hle (hz.val _ _ sO) gr hf aS he hp hsz).wp λa' w' G' ν' bP=>hK _ _ _ _ _ bP h
    split at h
    .rename_i xs hf;obtain⟨hc,h⟩:=WbH h;simp only[Xi,Wi]at hc;obtain⟨G1,hz⟩:=hr.frz (Wkj ps);obtain⟨p1,p2⟩:=WfU hr _ _ bT;exact(Wh4 hT hz.rel hd ho hl hle (by simpa [WkT]using p1) (λj p q hp hq=>by
      simp only[WkT,Xan]at hp;obtain⟨y,hy,rfl⟩:=Xu.1 hp;exact⟨(p2 j y q hy hq).1,hz.val _ _ (p2 j y q hy hq).2⟩) hf hc.1.1 hc.1.2 hc.2).wp λa' w' G' ν' bP=>hK _ _ _ _ _ bP h
    .cases h
   .cases h
  .cases h
 .rename_i t n c ho;split at h
  .rename_i ty et n' c' hl hn hc;split at h
   .rename_i te hle;obtain⟨k1,pu⟩:∃k,a.eval n= .int k n':=by
     cases hv:ev st n with
     |none=>simp[hv]at hn
     |some v=>simp only[hv,Xd]at hn;exact Wft _ _ _ (WL hr n _ hv) hn
    obtain⟨k2,kg⟩:∃k,a.eval c= .int k c':=by
     cases hv:ev st c with
     |none=>simp[hv]at hc
     |some v=>simp only[hv,Xd]at hc;exact Wft _ _ _ (WL hr c _ hv) hc
    split at h
    .obtain⟨jt,h⟩:=WbH h;obtain⟨hb,h⟩:=WaC h;simp only[Xi,Wi]at hb jt;exact(Wh6 hT hr hd ho hl hle pu kg hb.1.1 hb.1.2 hb.2 jt.1 jt.2).wp λa' w' G' ν' bP=>hK _ _ _ _ _ bP h
    .obtain⟨jt,h⟩:=WbH h;obtain⟨hb,h⟩:=WaC h;simp only[Xi,Wi]at hb jt;exact(Wjf hT hr hd ho hl hle pu kg hb.1.1 hb.1.2 hb.2 jt.1 jt.2).wp λa' w' G' ν' bP=>hK _ _ _ _ _ bP h
   .cases h
  .cases h
 .rename_i t x y ho;split at h
  .rename_i p v hp hv;split at h
   .rename_i af hs;split at h
    .rename_i iv;have h:k (({env:=st.env,objs:=af.objs,nx:=af.nx}:St).put o.dst (.tup []))=some r:=h;obtain⟨G1,hz⟩:=hr.frz (WfF st.objs p v);have bO:=WlV hs;simp only at bO;rw[bO,iv]at h;exact(WpO hT hz.rel ho iv (AValRel.mono hz.le (λ_ _=>rfl) (Xl _) _ _ (WL hr x _ hp)) (hz.val _ _ (WL hr y _ hv)) hs).wp λa' w' G' ν' bP=>hK _ _ _ _ _ bP h
    .cases h
   .cases h
  .cases h
 .rename_i t x lo hi ho;split at h
  .rename_i id hx;split at h
   .rename_i ty et l hh hl bc mj;split at h
    .rename_i te hle;split at h
     .obtain⟨hp,h⟩:=WbH h;obtain⟨af,hk,fA⟩:=Wqc hT hr hd ho hx hl hle hp bc mj h;exact fA.wp λa' w' G' ν' bP=>hK _ _ _ _ _ bP hk
     .split at h
      .rename_i h' e xs _ az;obtain⟨⟨he,hp⟩,h⟩:=WbH h;obtain⟨hb,h⟩:=WaC h;simp only[Xi,Wi]at hb;exact(Wpw hT hr hd ho hx hl hle hp he az bc mj hb.1 hb.2).wp λa' w' G' ν' bP=>hK _ _ _ _ _ bP h
      .rename_i h' e xs i p _ az;obtain⟨⟨he,hp,pr⟩,h⟩:=WbH h;obtain⟨hb,h⟩:=WaC h;simp only[Xi,Wi]at hb;exact(Wi2 hT hr hd ho hx hl hle hp he az pr bc mj hb.1.1 hb.1.2 hb.2).wp λa' w' G' ν' bP=>hK _ _ _ _ _ bP h
      .cases h
    .cases h
   .cases h
  .rename_i hx;exact Wnd hT hr hd (by rw[ho];rw[ho]at h;exact h) hK
 .rename_i c ho;split at h
  .rename_i s x t t2 hc ha de;split at h
   .rename_i sv xv hs hx;obtain⟨af,hk,fA⟩:=Wm3 hT hr hd ho hc ha de hs hx h;exact fA.wp λa' w' G' ν' bP=>hK _ _ _ _ _ bP hk
   .cases h
  .rename_i x t hc ha de;split at h
   .rename_i id lo hi hx;split at h
    .rename_i ty et e xs hl az;split at h
     .rename_i te hle;obtain⟨⟨he,hp,aX⟩,h⟩:=WbH h;exact(Wpf hT hr hd ho hc ha de hx hl hle az he hp aX).wp λa' w' G' ν' bP=>hK _ _ _ _ _ bP h
     .cases h
    .cases h
   .cases h
  .exact Wnd hT hr hd h hK
  .rename_i f args _ hc;split at h
   .rename_i g caps xs hf lu;split at h
    .rename_i sg ln;exact WtN hΓ hr hd ho hc hf lu ln h hK
    .cases h
   .cases h
  .cases h
 .exact Wnd hT hr hd h hK
end
end Go.Sx
namespace Go.Sx
set_option linter.unusedVariables false
set_option linter.unusedSimpArgs false
section
variable{w0:World}{F:CS}{nt:Slots}{G0 G G':GH}{ν ν':Nat->Nu}{φ φ':Nat->CS}{objs objs':W9}{nx aj:Nat}{st af:St}{a:Act}{w w':World}{P:Program}{T:Tab}{Γ:Ctx}
theorem Rel.rebind(h:Rel w0 F nt G0 G ν st a w){i:Nat}{x:AVal}{v:Value}(hv:a.tmps[i]?=some v)(hx:AValRel G ν st.nx x v):Rel w0 F nt G0 G ν (st.put (some i) x) a w:=
 ⟨h.defers,h.ntm,h.par,λj y hy=>by
  simp only[St.put]at hy;rw[WG]at hy;split at hy
  .rename_i e;subst e;injection hy with hy;subst hy;exact⟨v,hv,hx⟩
  .exact h.env j y hy,h.h,h.gx⟩
theorem CellsRel.set{cs:List Cell}{vs:List Value}(h:CellsRel G ν nx cs vs){off:Nat}{c:Cell}(hc:∀v,vs[off]?=some v->CellRel G ν nx c v):CellsRel G ν nx (cs.set off c) vs:=by
 refine⟨by simp[h.1],λj d v hd hv=>?_⟩;rw[List.getElem?_set]at hd;split at hd
 .rename_i e;subst e;split at hd
  .rename_i hlt;injection hd with hd;subst hd;exact⟨hc v hv,(h.2 off cs[off] v (Xs hlt) hv).2⟩
  .cases hd
 .exact h.2 j d v hd hv
theorem HRel.mk_box(h:HRel w0 F G ν objs nx w){id:Nat}{cs cs':List Cell}(ho:Wq objs id=some (.box cs))(hl:cs'.length=cs.length)
  (hc:∀vs,CellsRel G ν nx cs vs->CellsRel G ν nx cs' vs):HRel w0 F G ν ((id,.box cs')::objs) nx w:=by
 obtain⟨φ,h⟩:=h;have aJ:Live objs id:=⟨_,ho,by simp⟩;obtain⟨b,vs,h1,h2,h3,h4,h5⟩:Wch G ν nx w id (φ id) (.box cs):=h.ob _ _ ho;exact⟨_,h.put (ν':=ν) (m:=[]) (λ_ _=>rfl) (Xl _) (h.lt id aJ) (WLe.refl _ w) (λb o hh=>.inl ⟨id,.inl rfl,aJ,hh⟩) (λ_=>⟨b,vs,h1,by rw[hl];exact h2,h3,hc _ h4,by rw[hl];exact h5⟩)⟩
theorem HRel.empt(h:HRel w0 F G ν objs nx w){id:Nat}{e e':Ty}(ho:Wq objs id=some (.arr e' []))(hs:e.size=e'.size):HRel w0 F G ν ((id,.arr e [])::objs) nx w:=by
 obtain⟨φ,h⟩:=h;have aJ:Live objs id:=⟨_,ho,by simp⟩;have az:Wch G ν nx w id (φ id) (.arr e' []):=h.ob _ _ ho;have az:OwnL w (TyRel G w e') e'.size (ν id) [] (φ id):=az;refine⟨_,h.put (ν':=ν) (m:=[]) (λ_ _=>rfl) (Xl _) (h.lt id aJ) (WLe.refl _ w) (λb o hh=>.inl ⟨id,.inl rfl,aJ,hh⟩) (λ_=>?_)⟩;show OwnL w (TyRel G w e) e.size (ν id) [] (φ id);rw[hs];unfold OwnL at*;refine⟨az.1,az.2.1,?_⟩;have h3:=az.2.2;cases hb:(ν id).blk with
 |none=>rfl
 |some b=>
  rw[hb]at h3;obtain⟨a1,a2,a3,cs,ps,a4,a5,a6,a7⟩:=h3;exact⟨a1,a2,a3,cs,ps,by simpa [EncP]using a4,a5,a6,a7⟩
theorem HRel.adopt(h:HRel w0 F G ν objs nx w)(e:Ty):HRel w0 F G (upd ν nx ⟨none,0,0,0,e.size⟩) ((nx,.arr e [])::objs) (nx+1) w:=by
 obtain⟨φ,h⟩:=h;refine⟨_,h.put (m:=[]) (S:=λ_ _=>False) (Wfc ν nx _) (Xdc _) (Xbs _) (WLe.refl _ w) (λb o hh=>hh.elim) (λ_=>?_)⟩;show OwnL _ _ _ (upd ν nx ⟨none,0,0,0,e.size⟩ nx) _ _;rw[Wa8];exact⟨rfl,rfl,rfl⟩
theorem Wju(e:Ty):CellRel G (upd ν nx ⟨none,0,0,0,e.size⟩) (nx+1) (.own nx) (.slice none 0 0):=
 ⟨Xbs _,by rw[Wa8];rfl⟩
theorem HRel.solo(h:HRel w0 F G ν objs nx w){id lo hi:Nat}{e:Ty}{xs:List e.den}(ho:Wq objs id=some (.arr e xs))(h1:lo<=hi)(h2:hi<=(ν id).len):
  HRel w0 F G (upd ν nx ((ν id).part lo hi)) ((nx,.arr e ((xs.take hi).drop lo))::(id,.dead)::objs) (nx+1) w:=by
 obtain⟨φ,h⟩:=h;have aJ:Live objs id:=⟨_,ho,by simp⟩;have hown:OwnL w (TyRel G w e) e.size (ν id) xs (φ id):=h.ob _ _ ho;refine⟨_,h.put (m:=[id]) (S:=φ id) (Wfc ν nx _) (Xdc _) (Xbs _) (WLe.refl _ w) (λb o hh=>.inl ⟨id,.inr (by simp),aJ,hh⟩) (λ_=>?_)⟩;show OwnL _ _ _ (upd ν nx ((ν id).part lo hi) nx) _ _;rw[Wa8];exact Wll hown h1 h2
theorem Wl9{id lo hi:Nat}:CellRel G (upd ν nx ((ν id).part lo hi)) (nx+1) (.own nx) ((ν id).vhdr lo hi):=
 ⟨Xbs _,by rw[Wa8,Wky]⟩
theorem WnH(h:Rel w0 F nt G0 G ν st a w){p:Nat}(hg:Wna st p=some af):Rel w0 F nt G0 G ν af a w:=by
 unfold Wna at hg;split at hg
 .rename_i r _;split at hg
  .rename_i e xs i p' cs bc gt;split at hg
   .rename_i d m hf;split at hg
    .rename_i bq;injection hg with hg;subst hg;simp only[Xi]at bq;obtain⟨hp,aS⟩:=bq;have hp:=Xch hp;subst hp;have aS:=(WcM _).1 aS;obtain⟨n1,n2⟩:=Xac.1 aS;obtain⟨n3,n4⟩:=Xac.1 n2;obtain⟨φ,hφ⟩:=h.h;have aJ:Live st.objs r:=⟨_,bc,by simp⟩;have eJ:Live st.objs p:=⟨_,gt,by simp⟩;obtain⟨j8,hole⟩:p<st.nx/\Whk w (TyRel G w e) e.size (ν r) (ν p) xs i (φ r):=hφ.ob _ _ bc;obtain⟨b,us,hb,hrow,hmem,bA,fi⟩:Wch G ν st.nx w p (φ p) (.box cs):=hφ.ob _ _ gt;obtain⟨ns,t1,t2,t3,t4,_⟩:=Wab (G':=G) hφ (λ_ _ _ hh=>hh) e cs us d m [] bA (λi hi=>by simp at hi) n4 hf;have cX:=WD _ _ _ _ t1;rw[←bA.1,cX]at fi;have hne:r≠p:=λe=>n1 (by rw[e];exact Xj ..);refine h.on (λ_ _ _ hh=>hh) (λ_ _=>rfl) (Xl _) ⟨_,hφ.put (ν':=ν) (S:=λb o=>φ r b o\/FromL φ st.objs (p::m) b o) (λ_ _=>rfl) (Xl _) (hφ.lt r aJ) (WLe.refl _ w) (λb o hh=>?_) (λ_=>?_)⟩ h.gx
     .rcases hh with hh|⟨j,hj,h1,h2⟩
      .exact .inl ⟨r,.inl rfl,aJ,hh⟩
      .exact .inl ⟨j,.inr hj,h1,h2⟩
     .refine Woi hole t1 hb hmem fi t2 t3 ?_ ?_ ?_ (λb o hh=>.inl hh) (λb o hh=>.inr ⟨p,Xj ..,eJ,hh⟩) (λb o hh=>.inr (FromL.mono (λi hi=>Xf _ hi) b o hh))
      .exactλb o h1 h2=>hne (hφ.inj r p b o aJ eJ h1 h2)
      .exactλb o h1 ⟨j,hj,h2,h3⟩=>by
        have:=hφ.inj r j b o aJ h2 h1 h3;subst this;exact n1 (Xf _ hj)
      .exactλb o h1 ⟨j,hj,h2,h3⟩=>by
        have:=hφ.inj p j b o eJ h2 h1 h3;subst this;exact n3 hj
    .cases hg
   .cases hg
  .cases hg
 .cases hg
theorem Wjy(h:Rel w0 F nt G0 G ν st a w){r i:Nat}{e:Ty}{xs:List e.den}(bc:Wq st.objs r=some (.arr e xs))(hi:i<xs.length)(hg:Wl5 st r i=some af):
  ∃ν' b,Rel w0 F nt G0 G ν' af a w/\st.nx<af.nx/\(ν r).blk=some b/\(ν' st.nx)=WbR b ((ν r).off+i*(ν r).esz)/\af.env=st.env:=by
 unfold Wl5 at hg;rw[bc]at hg;simp only[Option.some.injEq]at hg;subst hg;obtain⟨φ,hφ⟩:=h.h;have aJ:Live st.objs r:=⟨_,bc,by simp⟩;have hown:OwnL w (TyRel G w e) e.size (ν r) xs (φ r):=hφ.ob _ _ bc;obtain⟨g1,g2,g3⟩:=hown;have pF:=hφ.lt r aJ;cases hb:(ν r).blk with
 |none=>simp only[hb]at g3;rw[g3]at hi;simp at hi
 |some b=>
  simp only[hb]at g3;obtain⟨g4,g5,g6,cs,ps,g7,g8,g9,oi⟩:=g3;obtain⟨c1,c,c2,p1,pc,p2,k1,k2,k3,k4,k5⟩:=Wn0 g7 e.dflt hi;have l1:=WaQ (λx c q hx=>WD e x c q hx) _ _ _ k3;rw[Xbh,Xbz (by omega)]at l1;have lc:=WD _ _ _ _ k4;have lo:=W1 _ _ _ _ k4;have e1:(i+1)*e.size=i*e.size+e.size:=Xbx i e.size;have e2:((ν r).cap-(i+1))*e.size+(i+1)*e.size=(ν r).cap*e.size:=by rw[←Xcp];congr 1;omega
  have m0:=WaE e (xs.getD i e.dflt) (st.nx+1);have cX:=WbN e (xs.getD i e.dflt) (st.nx+1);rw[k1]at g8;have m1:Mem w b (ν r).off c1:=g8.left;have m2:Mem w b ((ν r).off+i*e.size) c:=(g8.right l1).left;have m3:Mem w b ((ν r).off+(i+1)*e.size) c2:=by
   have:=(g8.right l1).right lc;rw[Xay,←e1]at this;exact this
  obtain⟨q1,q2⟩:=Xt.1 g9;have gg:=oi _ (Xj ..);have kL:∀p∈p1++(pc++p2),CS.le p.fp (φ r):=λp hp=>oi _ (Xf _ (Xam (by rw[k2];exact hp)));have ml:∀p∈p1++(pc++p2),CS.disj (rng b (ν r).off ((ν r).cap*e.size)) p.fp:=λp hp=>q1 _ (Xam (by rw[k2];exact hp));rw[k2,Xy,Xy]at q2;obtain⟨s1,s2,s3⟩:=Xah.1 q2;obtain⟨s4,s5,s6⟩:=Xah.1 s2;have rA:CS.le (rng b (ν r).off (i*e.size)) (rng b (ν r).off ((ν r).cap*e.size)):=λb o ⟨x0,x1,x2⟩=>⟨x0,by omega,by omega⟩;have rB:CS.le (rng b ((ν r).off+i*e.size) e.size) (rng b (ν r).off ((ν r).cap*e.size)):=λb o ⟨x0,x1,x2⟩=>⟨x0,by omega,by omega⟩;have rC:CS.le (rng b ((ν r).off+(i+1)*e.size) (((ν r).cap-(i+1))*e.size)) (rng b (ν r).off ((ν r).cap*e.size)):=λb o ⟨x0,x1,x2⟩=>⟨x0,by omega,by omega⟩;obtain⟨SR,hSR⟩:∃SR:CS,SR= λb' o=>rng b (ν r).off (i*e.size) b' o\/rng b ((ν r).off+(i+1)*e.size) (((ν r).cap-(i+1))*e.size) b' o\/∃p∈p1++p2,p.fp b' o:=⟨_,rfl⟩;have hSRφ:CS.le SR (φ r):=λb o hh=>by
   rw[hSR]at hh;rcases hh with hh|hh|⟨p,hp,hh⟩
   .exact gg b o (rA b o hh)
   .exact gg b o (rC b o hh)
   .refine kL p ?_ b o hh;rcases Xn.1 hp with hp|hp
    .exact Xm _ hp
    .exact Xh _ (Xh _ hp)
  obtain⟨ν',hν'⟩:∃ν':Nat->Nu,ν'= λj=>if j<st.nx then ν j else if j=st.nx then WbR b ((ν r).off+i*e.size)else((nus pc)[j-(st.nx+1)]?).getD ⟨none,0,0,0,0⟩:=⟨_,rfl⟩;obtain⟨φ',hφ'⟩:∃φ':Nat->CS,φ'= λj=>if j=r then SR else if j<st.nx then φ j else if j=st.nx then rng b ((ν r).off+i*e.size) e.size else((fps pc)[j-(st.nx+1)]?).getD (λ_ _=>False):=⟨_,rfl⟩;have hνold:WqM st.nx ν ν':=λj hj=>by rw[hν'];simp[hj]
  have hνp:ν' st.nx=WbR b ((ν r).off+i*e.size):=by rw[hν'];simp
  have hφr:φ' r=SR:=by rw[hφ'];simp
  have hφp:φ' st.nx=rng b ((ν r).off+i*e.size) e.size:=by rw[hφ'];simp;omega
  have hφold:∀j,j<st.nx->j≠r->φ' j=φ j:=λj hj hn=>by rw[hφ'];simp[hj,hn]
  have hAt:At ν' φ' (st.nx+1) pc:=λj q hj=>by
   have x1:(nus pc)[j]?=some q.nu:=by unfold nus;rw[Xan,hj];rfl
   have x2:(fps pc)[j]?=some q.fp:=by unfold fps;rw[Xan,hj];rfl
   rw[hν',hφ'];constructor
   .show(if st.nx+1+j<st.nx then _ else if st.nx+1+j=st.nx then _ else _)=_;rw[Wb (by omega),Wb (by omega),Xcb,x1];rfl
   .show(if st.nx+1+j=r then _ else if st.nx+1+j<st.nx then _ else if st.nx+1+j=st.nx then _ else _)=_;rw[Wb (by omega),Wb (by omega),Wb (by omega),Xcb,x2];rfl
  obtain⟨uc,uo⟩:=Wao (ν:=ν') (φ:=φ') e (xs.getD i e.dflt) (st.nx+1) c pc k4 hAt;have gQ:∀id ob,Wq ((r,Ob.hole e xs i st.nx)::(st.nx,Ob.box (unfold e (xs.getD i e.dflt) (st.nx+1)).1)::((unfold e (xs.getD i e.dflt) (st.nx+1)).2.1++st.objs)) id=some ob->ob≠ .dead->
    (id=r/\ob= .hole e xs i st.nx)\/(id=st.nx/\ob= .box (unfold e (xs.getD i e.dflt) (st.nx+1)).1)\/(st.nx+1<=id/\id<st.nx+1+e.owns/\Wo7 G ν' φ' w id ob)\/(id≠r/\id<st.nx/\Wq st.objs id=some ob):=λid ob hl hd=>by
   rw[WG]at hl;split at hl
   .rename_i x;injection hl with hl;exact .inl ⟨x.symm,hl.symm⟩
   .rename_i oo;rw[WG]at hl;split at hl
    .rename_i x;injection hl with hl;exact .inr (.inl ⟨x.symm,hl.symm⟩)
    .rcases WK hl with hl|hl
     .obtain⟨x1,x2,x3⟩:=uo id ob hl;exact .inr (.inr (.inl ⟨x1,x2,x3⟩))
     .exact .inr (.inr (.inr ⟨λx=>oo x.symm,hφ.lt id ⟨ob,hl,hd⟩,hl⟩))
  have fB:∀id b' o,Live ((r,Ob.hole e xs i st.nx)::(st.nx,Ob.box (unfold e (xs.getD i e.dflt) (st.nx+1)).1)::((unfold e (xs.getD i e.dflt) (st.nx+1)).2.1++st.objs)) id->φ' id b' o->
    (id=r/\SR b' o)\/(id=st.nx/\rng b ((ν r).off+i*e.size) e.size b' o)\/(∃(j:Nat) (q:Pc),id=st.nx+1+j/\pc[j]?=some q/\q.fp b' o)\/(id≠r/\id<st.nx/\Live st.objs id/\φ id b' o):=λid b' o ⟨ob,hl,hd⟩ hp=>by
   rcases gQ id ob hl hd with⟨rfl,_⟩|⟨rfl,_⟩|⟨x1,x2,_⟩|⟨x1,x2,x3⟩
   .rw[hφr]at hp;exact .inl ⟨rfl,hp⟩
   .rw[hφp]at hp;exact .inr (.inl ⟨rfl,hp⟩)
   .right;right;left;have hlt:id-(st.nx+1)<pc.length:=by omega
    refine⟨id-(st.nx+1),pc[id-(st.nx+1)],by omega,Xs hlt,?_⟩;have:=(hAt (id-(st.nx+1)) _ (Xs hlt)).2;rw[show st.nx+1+(id-(st.nx+1))=id by omega]at this;rw[this]at hp;exact hp
   .rw[hφold id x2 x1]at hp;exact .inr (.inr (.inr ⟨x1,x2,⟨ob,x3,hd⟩,hp⟩))
  have hq:∀(j:Nat) (q:Pc),pc[j]?=some q->q∈p1++(pc++p2):=λj q hj=>Xh _ (Xm _ (Xas hj));have eh:∀id b' o,(id=r/\SR b' o)\/(id=st.nx/\rng b ((ν r).off+i*e.size) e.size b' o)\/(∃(j:Nat) (q:Pc),id=st.nx+1+j/\pc[j]?=some q/\q.fp b' o)->φ r b' o:=λid b' o hh=>by
   rcases hh with⟨_,hh⟩|⟨_,hh⟩|⟨j,q,_,hj,hh⟩
   .exact hSRφ b' o hh
   .exact gg b' o (rB b' o hh)
   .exact kL q (hq j q hj) b' o hh
  have hH:HR w0 F G ν' φ' ((r,Ob.hole e xs i st.nx)::(st.nx,Ob.box (unfold e (xs.getD i e.dflt) (st.nx+1)).1)::((unfold e (xs.getD i e.dflt) (st.nx+1)).2.1++st.objs)) (st.nx+1+e.owns) w:=by
   refine hφ.step (WLe.refl _ w) (λid ob hl hd=>?_) (λid ⟨ob,hl,hd⟩=>?_) (λid b' o jl hp=>?_) (λid b' o jl hp=>?_) (λid bN b' o hl da hp dS=>?_)
   .rcases gQ id ob hl hd with⟨rfl,rfl⟩|⟨rfl,rfl⟩|⟨x1,x2,e',oD,rfl,x3⟩|⟨x1,x2,x3⟩
    .refine⟨by omega,?_⟩;rw[hφr,hνold id pF,hνp];refine⟨g1,g2,hi,b,hb,rfl,rfl,g4,g5,g6,c1,c2,p1,p2,k3,k5,m1,m3,?_,λs hs b' o hh=>?_⟩
     .refine Xt.2 ⟨λs hs=>?_,Xt.2 ⟨λs hs=>?_,?_⟩⟩
      .rcases Xr.1 hs with rfl|hs
       .exact Wsm (by omega)
       .obtain⟨p,hp,rfl⟩:=Xv.1 hs;refine(ml p ?_).mono rA (λ_ _ hh=>hh);rcases Xn.1 hp with hp|hp
        .exact Xm _ hp
        .exact Xh _ (Xh _ hp)
      .obtain⟨p,hp,rfl⟩:=Xv.1 hs;refine(ml p ?_).mono rC (λ_ _ hh=>hh);rcases Xn.1 hp with hp|hp
       .exact Xm _ hp
       .exact Xh _ (Xh _ hp)
      .rw[Xy];exact Xah.2 ⟨s1,s5,λs hs t ht=>s3 s hs t (Xh _ ht)⟩
     .rw[hSR];rcases Xr.1 hs with rfl|hs
      .exact .inl hh
      .rcases Xr.1 hs with rfl|hs
       .exact .inr (.inl hh)
       .obtain⟨p,hp,rfl⟩:=Xv.1 hs;exact .inr (.inr ⟨p,hp,hh⟩)
    .refine⟨b,c,by rw[hνp];rfl,?_,by rw[hνp];exact m2,uc _ (Xl _),?_⟩
     .rw[hνp,cX];obtain⟨row,TT,y1,y2⟩:=g6;exact⟨row,TT,y1,by show(ν r).off+i*e.size+e.size<=row.size;omega⟩
     .rw[hνp,cX,hφp];exactλ_ _ hh=>hh
    .exact x3
    .rw[hφold id x2 x1];exact Wdr (λ_ _ _ hh=>hh) (Same.refl _ w) (λ_ _ hh=>hh) hνold (by omega) x2 ob (hφ.ob id ob x3)
   .rcases gQ id ob hl hd with⟨rfl,_⟩|⟨rfl,_⟩|⟨_,x2,_⟩|⟨_,x2,_⟩<;>omega
   .rcases fB id b' o jl hp with hh|hh|hh|⟨_,_,x3,x4⟩
    .exact .inl ⟨r,aJ,eh id b' o (.inl hh)⟩
    .exact .inl ⟨r,aJ,eh id b' o (.inr (.inl hh))⟩
    .exact .inl ⟨r,aJ,eh id b' o (.inr (.inr hh))⟩
    .exact .inl ⟨id,x3,x4⟩
   .rcases fB id b' o jl hp with hh|hh|hh|⟨_,_,x3,x4⟩
    .exact hφ.bl r b' o aJ (eh id b' o (.inl hh))
    .exact hφ.bl r b' o aJ (eh id b' o (.inr (.inl hh)))
    .exact hφ.bl r b' o aJ (eh id b' o (.inr (.inr hh)))
    .exact hφ.bl id b' o x3 x4
   .have out:∀bN,bN≠r->Live st.objs bN->φ bN b' o->φ r b' o->False:=λbN y1 y2 y3 y4=>y1 (hφ.inj bN r b' o y2 aJ y3 y4);have dSP:SR b' o->∀s,(s=rng b ((ν r).off+i*e.size) e.size\/∃q∈pc,s=q.fp)->s b' o->False:=λy1 s y2 y3=>by
     rw[hSR]at y1;rcases y2 with rfl|⟨q,pG,rfl⟩
     .rcases y1 with y1|y1|⟨p,hp,y1⟩
      .obtain⟨z0,z1,z2⟩:=y1;obtain⟨z3,z4,z5⟩:=y3;omega
      .obtain⟨z0,z1,z2⟩:=y1;obtain⟨z3,z4,z5⟩:=y3;omega
      .refine ml p ?_ b' o (rB b' o y3) y1;rcases Xn.1 hp with hp|hp
       .exact Xm _ hp
       .exact Xh _ (Xh _ hp)
     .have m5:q∈p1++(pc++p2):=Xh _ (Xm _ pG);rcases y1 with y1|y1|⟨p,hp,y1⟩
      .exact ml q m5 b' o (rA b' o y1) y3
      .exact ml q m5 b' o (rC b' o y1) y3
      .rcases Xn.1 hp with hp|hp
       .exact s3 _ (Xam hp) _ (Xm _ (Xam pG)) b' o y1 y3
       .exact s6 _ (Xam pG) _ (Xam hp) b' o y3 y1
    have dPQ:∀(j:Nat) (q:Pc),pc[j]?=some q->rng b ((ν r).off+i*e.size) e.size b' o->q.fp b' o->False:=λj q hj y1 y2=>ml q (hq j q hj) b' o (rB b' o y1) y2;rcases fB id b' o hl hp with hh|hh|hh|⟨x1,x2,x3,x4⟩<;>rcases fB bN b' o da dS with ie|ie|ie|⟨pH,x2',oE,oF⟩
    .rw[hh.1,ie.1]
    .exact(dSP hh.2 _ (.inl rfl) ie.2).elim
    .obtain⟨j,q,_,hj,y⟩:=ie;exact(dSP hh.2 _ (.inr ⟨q,Xas hj,rfl⟩) y).elim
    .exact(out bN pH oE oF (eh id b' o (.inl hh))).elim
    .exact(dSP ie.2 _ (.inl rfl) hh.2).elim
    .rw[hh.1,ie.1]
    .obtain⟨j,q,_,hj,y⟩:=ie;exact(dPQ j q hj hh.2 y).elim
    .exact(out bN pH oE oF (eh id b' o (.inr (.inl hh)))).elim
    .obtain⟨j,q,_,hj,y⟩:=hh;exact(dSP ie.2 _ (.inr ⟨q,Xas hj,rfl⟩) y).elim
    .obtain⟨j,q,_,hj,y⟩:=hh;exact(dPQ j q hj ie.2 y).elim
    .obtain⟨j,q,bz,hj,y⟩:=hh;obtain⟨j',q',pI,hj',y'⟩:=ie;have x1:(fps pc)[j]?=some q.fp:=by unfold fps;rw[Xan,hj];rfl
     have x2:(fps pc)[j']?=some q'.fp:=by unfold fps;rw[Xan,hj'];rfl
     have:=WkQ (l:=fps pc) s4 x1 x2 y y';rw[bz,pI,this]
    .exact(out bN pH oE oF (eh id b' o (.inr (.inr hh)))).elim
    .exact(out id x1 x3 x4 (eh bN b' o (.inl ie))).elim
    .exact(out id x1 x3 x4 (eh bN b' o (.inr (.inl ie)))).elim
    .exact(out id x1 x3 x4 (eh bN b' o (.inr (.inr ie)))).elim
    .exact hφ.inj id bN b' o x3 oE x4 oF
  refine⟨ν',b,?_,?_,rfl,by rw[hνp,g2],rfl⟩
  .have:=h.on (λ_ _ _ hh=>hh) hνold (by omega) ⟨φ',hH⟩ h.gx;rw[m0];exact this
  .show st.nx<(unfold e (xs.getD i e.dflt) (st.nx+1)).2.2;rw[m0];omega
end
end Go.Sx
namespace Go.Sx
set_option linter.unusedVariables false
set_option linter.unusedSimpArgs false
theorem Wda:∀(l:List Nat) (i j:Nat),WqT i l=some j->l[j]?=some i
 | [],i,j,h=>by cases h
 |k::l,i,j,h=>by
  simp only[WqT]at h;split at h
  .rename_i hb;injection h with h;subst h;have:i=k:=by simpa using hb
   rw[this];rfl
  .cases hp:WqT i l with
   |none=>simp[hp]at h
   |some n=>
    simp[hp]at h;subst h;exact Wda l i n hp
theorem Wjo{m:List Nat}:∀(l r:List Nat),Wmi m l=some r->r.length=l.length/\∀(q j:Nat),r[q]?=some j->∃i,l[q]?=some i/\m[j]?=some i
 | [],r,h=>by simp[Wmi]at h;subst h;exact⟨rfl,λq j hq=>by simp at hq⟩
 |i::l,r,h=>by
  simp only[Wmi]at h;split at h
  .rename_i j r' h1 h2;injection h with h;subst h;obtain⟨h3,h4⟩:=Wjo l r' h2;refine⟨by simp[h3],λq j' hq=>?_⟩;cases q with
   |zero=>simp at hq;subst hq;exact⟨i,rfl,Wda m i j h1⟩
   |succ q=>exact h4 q j' (by simpa using hq)
  .cases h
theorem WbO:∀(n:Nat) (todo acc:List Nat) (objs:W9),acc.Nodup->(Wk1 n todo acc objs).Nodup
 |0,_,_,_,h=>h
 |n+1,[],acc,objs,h=>h
 |n+1,i::l,acc,objs,h=>by
  simp only[Wk1];split
  .exact WbO n l acc objs h
  .rename_i hi;have sP:i∉acc:=λhm=>hi ((WaF i acc).2 hm);have h2:(acc++ [i]).Nodup:=by
    rw[Xad];refine⟨h,by simp,λx hx y hy=>?_⟩;simp at hy;subst hy
    exactλe=>sP (e▸hx)
   split
   .exact WbO n _ _ objs h2
   .exact WbO n _ _ objs h2
   .exact WbO n _ _ objs h2
   .exact WbO n _ _ objs h
theorem Wg3{m:List Nat}{objs:W9}:∀(l:List Nat) (j0:Nat) (j:Nat) (ob:Ob),Wq (WdD m objs j0 l) j=some ob->∃i cK,j0<=j/\l[j-j0]?=some i/\Wq objs i=some cK/\ob=WqE m cK
 | [],j0,j,ob,h=>by cases h
 |i::l,j0,j,ob,h=>by
  simp only[WdD]at h;have step:Wq (WdD m objs (j0+1) l) j=some ob->∃i' cK,j0<=j/\(i::l)[j-j0]?=some i'/\Wq objs i'=some cK/\ob=WqE m cK:=λh=>by
   obtain⟨i',cK,h1,h2,h3,h4⟩:=Wg3 l (j0+1) j ob h;refine⟨i',cK,by omega,?_,h3,h4⟩;rw[show j-j0=(j-(j0+1))+1 by omega];simpa using h2
  split at h
  .rename_i cK ho;rw[WG]at h;split at h
   .rename_i e;subst e;injection h with h;exact⟨i,cK,Xl _,by simp,ho,h.symm⟩
   .exact step h
  .exact step h
theorem Wiv{env:List (Nat×AVal)}{f:AVal->AVal}:∀(l:List Nat) (i:Nat) (x:AVal),Wq ((Wfk env l).map λp=>(p.1,f p.2)) i=some x->∃y,Wq env i=some y/\x=f y
 | [],i,x,h=>by cases h
 |j::l,i,x,h=>by
  simp only[Wfk]at h;split at h
  .rename_i y hy;simp only[Xaf]at h;rw[WG]at h;split at h
   .rename_i e;subst e;injection h with h;exact⟨y,hy,h.symm⟩
   .exact Wiv l i x h
  .exact Wiv l i x h
section
variable{w0:World}{F:CS}{nt:Slots}{G0 G G':GH}{ν ν':Nat->Nu}{objs objs':W9}{nx aj:Nat}{st af:St}{a:Act}{w w':World}{P:Program}{T:Tab}{Γ:Ctx}
structure Ren(m:List Nat)(ν ν':Nat->Nu)(aj:Nat):Prop where
 nx:∀(i j:Nat),m[j]?=some i->j<aj
 nu:∀(i j:Nat),m[j]?=some i->ν' j=ν i
theorem CellRel.ren{m:List Nat}(hm:Ren m ν ν' aj):∀(c:Cell) (v:Value),CellRel G ν nx c v->CellRel G ν' aj (WcE m c) v
 | .val t d,v,h=>h
 | .nils,v,h=>h
 | .rptr t d off,v,h=>h
 | .junk,v,h=>h
 | .own id,v,h=>by
  simp only[WcE];split
  .rename_i j hj;have hj:=Wda _ _ _ hj;exact⟨hm.nx _ _ hj,by rw[hm.nu _ _ hj];exact h.2⟩
  .trivial
 | .vw id lo hi,v,h=>by
  simp only[WcE];split
  .rename_i j hj;have hj:=Wda _ _ _ hj;exact⟨hm.nx _ _ hj,by rw[hm.nu _ _ hj];exact h.2⟩
  .trivial
 | .aptr id,v,h=>by
  simp only[WcE];split
  .rename_i j hj;have hj:=Wda _ _ _ hj;exact⟨hm.nx _ _ hj,by rw[hm.nu _ _ hj];exact h.2⟩
  .trivial
 | .ptr id off,v,h=>by
  simp only[WcE];split
  .rename_i j hj;have hj:=Wda _ _ _ hj;exact⟨hm.nx _ _ hj,by rw[hm.nu _ _ hj];exact h.2⟩
  .trivial
 | .eptr id i off,v,h=>by
  simp only[WcE];split
  .rename_i j hj;have hj:=Wda _ _ _ hj;exact⟨hm.nx _ _ hj,by rw[hm.nu _ _ hj];exact h.2⟩
  .trivial
 | .clos f caps,v,h=>by
  simp only[WcE];split
  .rename_i js hj;obtain⟨h1,h2⟩:=Wjo _ _ hj;obtain⟨vs,h3,h4,h5⟩:=h;refine⟨vs,h3,h4.trans h1.symm,λq id u hq hu=>?_⟩;obtain⟨i,h6,h7⟩:=h2 q id hq;obtain⟨h8,h9,cu⟩:=h5 q i u h6 hu;exact⟨hm.nx _ _ h7,h9,by rw[hm.nu _ _ h7];exact cu⟩
  .trivial
theorem CellsRel.ren{m:List Nat}(hm:Ren m ν ν' aj){cs:List Cell}{vs:List Value}(h:CellsRel G ν nx cs vs):CellsRel G ν' aj (cs.map (WcE m)) vs:=by
 refine⟨by simp[h.1],λj c v hc hv=>?_⟩;simp only[Xan]at hc;cases hd:cs[j]? with
 |none=>simp[hd]at hc
 |some d=>
  simp[hd]at hc;subst hc;obtain⟨h1,h2⟩:=h.2 j d v hd hv;exact⟨h1.ren hm,h2⟩
theorem AvRel.ren{m:List Nat}(hm:Ren m ν ν' aj):∀(x:AV) (v:Value),AvRel G ν nx x v->AvRel G ν' aj (WtB m x) v
 | .one c,v,h=>⟨h.1.ren hm,h.2⟩
 | .agg cs,v,⟨vs,h1,h2⟩=>⟨vs,h1,h2.ren hm⟩
theorem AValRel.ren{m:List Nat}(hm:Ren m ν ν' aj):∀(x:AVal) (v:Value),AValRel G ν nx x v->AValRel G ν' aj (Wm0 m x) v
 | .s x,v,h=>AvRel.ren hm x v h
 | .tup xs,v,⟨vs,h1,h2,h3⟩=>⟨vs,h1,by simp[h2],λj x u hx hu=>by
  simp only[Xan]at hx;cases hd:xs[j]? with
  |none=>simp[hd]at hx
  |some d=>
   simp[hd]at hx;subst hx;exact AvRel.ren hm d u (h3 j d u hd hu)⟩
theorem WqB(slots:List Nat)(h:Rel w0 F nt G0 G ν st a w):∃ν',Rel w0 F nt G0 G ν' (canon slots st) a w:=by
 obtain⟨m,hm⟩:∃m,m=Wk1 400 ((Wfk st.env slots).flatMap λp=>WaN p.2) [] st.objs:=⟨_,rfl⟩;have aS:m.Nodup:=by rw[hm];exact WbO _ _ _ _ (by simp)
 have lv:canon slots st={env:=(Wfk st.env slots).map λp=>(p.1,Wm0 m p.2),objs:=WdD m st.objs 0 m,nx:=m.length}:=by rw[hm];rfl
 obtain⟨ν',hν'⟩:∃ν':Nat->Nu,ν'= λj=>ν ((m[j]?).getD 0):=⟨_,rfl⟩;have jU:∀(i j:Nat),m[j]?=some i->ν' j=ν i:=λi j hj=>by rw[hν'];simp[hj]
 have m6:∀(j:Nat) (ob:Ob),Wq (WdD m st.objs 0 m) j=some ob->∃i cK,m[j]?=some i/\Wq st.objs i=some cK/\ob=WqE m cK:=λj ob ho=>by
  obtain⟨i,cK,_,h2,h3,h4⟩:=Wg3 _ _ _ _ ho;exact⟨i,cK,by simpa using h2,h3,h4⟩
 have m7:Ren m ν ν' m.length:={
  nx:=λi j hj=>(Xaa.1 hj).1
  nu:=jU}
 have dW:∀j,Live (WdD m st.objs 0 m) j->∃i,m[j]?=some i/\Live st.objs i:=λj ⟨ob,ho,hd⟩=>by
  obtain⟨i,cK,h1,h2,h3⟩:=m6 j ob ho;refine⟨i,h1,cK,h2,λsQ=>hd ?_⟩;rw[h3,sQ];rfl
 rw[lv];refine⟨ν',h.defers,h.ntm,h.par,λi x hx=>?_,?_,h.gx⟩
 .obtain⟨y,h1,rfl⟩:=Wiv _ _ _ hx;obtain⟨v,h2,h3⟩:=h.env i y h1;exact⟨v,h2,AValRel.ren m7 y v h3⟩
 .obtain⟨φ,hφ⟩:=h.h;refine⟨λj=>φ ((m[j]?).getD 0),?_⟩;have kO:∀(i j:Nat),m[j]?=some i->φ ((m[j]?).getD 0)=φ i:=λi j hj=>by simp[hj]
  exact{
   g:=hφ.g
   ob:=λj ob ho=>by
    obtain⟨i,cK,h1,h2,rfl⟩:=m6 j ob ho;have:=hφ.ob i cK h2;cases cK with
    |dead=>trivial
    |arr e xs=>
     show OwnL w (TyRel G w e) e.size (ν' j) xs (φ ((m[j]?).getD 0));rw[jU i j h1,kO i j h1];exact this
    |hole e xs k p=>
     simp only[WqE];split
     .rename_i q hq;have hq:=Wda _ _ _ hq;obtain⟨g1,g2⟩:=this;show q<m.length/\Whk w (TyRel G w e) e.size (ν' j) (ν' q) xs k (φ ((m[j]?).getD 0));rw[jU i j h1,kO i j h1,jU p q hq];exact⟨(Xaa.1 hq).1,g2⟩
     .trivial
    |box cs=>
     obtain⟨b,vs,h4,h5,h6,h7,h8⟩:=this;refine⟨b,vs,by rw[jU i j h1];exact h4,?_,by rw[jU i j h1];exact h6,h7.ren m7,?_⟩
     .rw[jU i j h1,Xx];exact h5
     .rw[jU i j h1,kO i j h1,Xx];exact h8
   gf:=λj b o hj hp=>by
    obtain⟨i,h1,h2⟩:=dW j hj;rw[kO i j h1]at hp;exact hφ.gf i b o h2 hp
   inj:=λj j' b o hj hj' hp dS=>by
    obtain⟨i,h1,h2⟩:=dW j hj;obtain⟨i',iN,iO⟩:=dW j' hj';rw[kO i j h1]at hp;rw[kO i' j' iN]at dS;have:=hφ.inj i i' b o h2 iO hp dS;subst this;have hlt:=(Xaa.1 h1).1;exact(List.getElem?_inj hlt aS).1 (h1.trans iN.symm)
   own:=λj b o hj hp=>by
    obtain⟨i,h1,h2⟩:=dW j hj;rw[kO i j h1]at hp;exact hφ.own i b o h2 hp
   lt:=λj hj=>by
    obtain⟨i,h1,h2⟩:=dW j hj;exact(Xaa.1 h1).1
   bl:=λj b o hj hp=>by
    obtain⟨i,h1,h2⟩:=dW j hj;rw[kO i j h1]at hp;exact hφ.bl i b o h2 hp
   le:=hφ.le}
theorem Wjn(h:Rel w0 F nt G0 G ν st a w){r:Nat}{ix:Option Nat}(hg:WoA st r ix=some (true,af)):∃ν',Rel w0 F nt G0 G ν' af a w:=by
 unfold WoA at hg;split at hg
 .rename_i c i jV;obtain⟨s,hs,hg⟩:=Xu.1 hg;simp only[Prod.mk.injEq]at hg;obtain⟨rfl,rfl⟩:=hg;have hlt:∃(e:Ty) (xs:List e.den),Wq st.objs r=some (.arr e xs)/\i<xs.length:=by
   unfold Wte at jV;split at jV
   .split at jV
    .rename_i e xs ho;simp only[Option.some.injEq,Prod.mk.injEq]at jV;obtain⟨h1,rfl⟩:=jV;obtain⟨h2,h3⟩:=WdL h1;exact⟨e,xs,ho,by omega⟩
    .cases jV
   .split at jV
    .rename_i e xs n ho hn;simp only[Option.some.injEq,Prod.mk.injEq]at jV;obtain⟨h1,rfl⟩:=jV;obtain⟨h2,h3⟩:=WdL h1;exact⟨e,xs,ho,by omega⟩
    .cases jV
  obtain⟨e,xs,ho,hlt⟩:=hlt;obtain⟨ν',b,h1,_⟩:=Wjy h ho hlt hs;exact⟨ν',h1⟩
 .cases hg
theorem WlZ{g:Ghost}(h:Rel w0 F nt G0 G ν st a w)(hg:WfA g st=some (true,af)):∃G' ν',Rel w0 F nt G0 G' ν' af a w:=by
 cases g with
 |canon slots=>
  simp only[WfA]at hg;injection hg with hg;injection hg with _ hg;subst hg;obtain⟨ν',h'⟩:=WqB slots h;exact⟨G,ν',h'⟩
 |adopt slot e=>
  simp only[WfA]at hg;split at hg
  .rename_i hs;injection hg with hg;injection hg with _ hg;subst hg;obtain⟨v,hv,hr⟩:=h.env _ _ hs;have lw:v= .slice none 0 0:=hr.1;subst lw;have h2:=h.on (λ_ _ _ hh=>hh) (Wfc ν st.nx _) (Xdc _) (h.h.adopt e) h.gx;exact⟨G,_,h2.rebind hv ⟨Wju e,rfl⟩⟩
  .injection hg with hg;injection hg with _ hg;subst hg;exact⟨G,ν,h⟩
  .cases hg
 |freeze slot=>
  simp only[WfA]at hg;split at hg
  .rename_i id hs;split at hg
   .rename_i e xs ho;injection hg with hg;injection hg with _ hg;subst hg;obtain⟨G1,h1,h2,h3,h4⟩:=h.h.freezeL h.gx [id];obtain⟨v,hv,hr⟩:=h.env _ _ hs;have lw:v=(ν id).hdr:=hr.1.2;have h5:=h.on h1 (λ_ _=>rfl) (Xl _) h2 h3;exact⟨G1,ν,h5.rebind hv ⟨⟨v,rfl,lw▸h4 id (by simp) e xs ho⟩,hr.2⟩⟩
   .cases hg
  .cases hg
 |adoptC slot off e=>
  simp only[WfA]at hg;split at hg
  .rename_i id hs;split at hg
   .rename_i cs ho;split at hg
    .rename_i hc;injection hg with hg;injection hg with _ hg;subst hg;have hne:st.nx≠id:=λe=>by
      obtain⟨φ,hφ⟩:=h.h;have:=hφ.lt id ⟨_,ho,by simp⟩;omega
     have h2:=h.h.adopt e;have ke:Wq ((st.nx,Ob.arr e [])::st.objs) id=some (.box cs):=by rw[WG,Wb hne];exact ho
     have h3:=h2.mk_box ke (cs':=cs.set off (.own st.nx)) (by simp) (λvs fy=>fy.set λv hv=>by
      have:v= .slice none 0 0:=(fy.2 off _ v hc hv).1;subst this;exact Wju e)
     exact⟨G,_,h.on (λ_ _ _ hh=>hh) (Wfc ν st.nx _) (Xdc _) h3 h.gx⟩
    .injection hg with hg;injection hg with _ hg;subst hg;exact⟨G,ν,h⟩
    .cases hg
   .cases hg
  .cases hg
 |freezeC slot off=>
  simp only[WfA]at hg;split at hg
  .rename_i id hs;split at hg
   .rename_i cs ho;split at hg
    .rename_i j hc;split at hg
     .rename_i e xs kP;injection hg with hg;injection hg with _ hg;subst hg;obtain⟨G1,h1,h2,h3,h4⟩:=h.h.freezeL h.gx [j];have hne:j≠id:=λe=>by subst e;rw[ho]at kP;cases kP
      have ke:Wq ((j,Ob.dead)::st.objs) id=some (.box cs):=by rw[WG,Wb hne];exact ho
      have h5:HRel w0 F G1 ν ((id,.box (cs.set off (.val (.slice e.ro) (Wcm e xs))))::(j,.dead)::st.objs) st.nx w:=by
       refine HRel.mk_box h2 ke (by simp) (λvs fy=>fy.set λv hv=>?_);have lw:v=(ν j).hdr:=(fy.2 off _ v hc hv).1.2;exact⟨v,rfl,lw▸h4 j (by simp) e xs kP⟩
      exact⟨G1,ν,h.on h1 (λ_ _=>rfl) (Xl _) h5 h3⟩
     .cases hg
    .injection hg with hg;injection hg with _ hg;subst hg;exact⟨G,ν,h⟩
    .injection hg with hg;injection hg with _ hg;subst hg;exact⟨G,ν,h⟩
    .cases hg
   .cases hg
  .cases hg
 |nest d e=>injection hg with hg;injection hg with _ hg;subst hg;exact⟨G,ν,h⟩
 |view d=>injection hg with hg;injection hg with _ hg;subst hg;exact⟨G,ν,h⟩
 |opn d=>injection hg with hg;injection hg with _ hg;subst hg;exact⟨G,ν,h⟩
 |empt slot e=>
  simp only[WfA]at hg;split at hg
  .split at hg
   .rename_i e' ho;split at hg
    .rename_i hc;injection hg with hg;injection hg with _ hg;subst hg;exact⟨G,ν,h.on (λ_ _ _ hh=>hh) (λ_ _=>rfl) (Xl _) (h.h.empt ho hc.1) h.gx⟩
    .cases hg
   .cases hg
  .cases hg
 |unfE slot=>
  simp only[WfA]at hg;split at hg
  .rename_i r i hs;obtain⟨s,cT,hg⟩:=Xu.1 hg;injection hg with _ hg;subst hg;obtain⟨v,hv,hr⟩:=h.env _ _ hs;have gi:∃(e:Ty) (xs:List e.den),Wq st.objs r=some (.arr e xs):=by
    unfold Wl5 at cT;split at cT
    .rename_i e xs ho;exact⟨e,xs,ho⟩
    .cases cT
   obtain⟨e,xs,ho⟩:=gi;obtain⟨⟨_,hlt,b,hb,rfl⟩,_⟩:=hr;obtain⟨S,hown⟩:=h.h.obj ho;obtain⟨ν',b',h1,h2,h3,h4,h5⟩:=Wjy h ho (by rw[hown.1];exact hlt) cT;rw[hb]at h3;injection h3 with h3;subst h3;refine⟨G,ν',h1.rebind hv ⟨⟨h2,b,by rw[h4];rfl,?_⟩,rfl⟩⟩;rw[h4];rfl
  .cases hg
 |unfS slot ix=>
  simp only[WfA]at hg;split at hg
  .obtain⟨ν',h'⟩:=Wjn h hg;exact⟨G,ν',h'⟩
  .cases hg
 |unfC slot off ix=>
  simp only[WfA]at hg;split at hg
  .split at hg
   .split at hg
    .obtain⟨ν',h'⟩:=Wjn h hg;exact⟨G,ν',h'⟩
    .cases hg
   .cases hg
  .cases hg
 |refold slot=>
  simp only[WfA]at hg;split at hg
  .obtain⟨s,cT,hg⟩:=Xu.1 hg;injection hg with _ hg;subst hg;exact⟨G,ν,WnH h cT⟩
  .cases hg
 |solo slot=>
  simp only[WfA]at hg;split at hg
  .rename_i id lo hi hs;split at hg
   .rename_i e xs ho;injection hg with hg;injection hg with _ hg;subst hg;obtain⟨v,hv,hr⟩:=h.env _ _ hs;obtain⟨⟨_,g1,g2,g3,rfl⟩,_⟩:=hr;have h2:=h.on (λ_ _ _ hh=>hh) (Wfc ν st.nx _) (Xdc _) (h.h.solo ho g1 g2) h.gx;exact⟨G,_,h2.rebind hv ⟨Wl9,WoV _ _ _⟩⟩
   .cases hg
  .injection hg with hg;injection hg with _ hg;subst hg;exact⟨G,ν,h⟩
  .cases hg
 |soloC slot off=>
  simp only[WfA]at hg;split at hg
  .rename_i id o hs;split at hg
   .rename_i cs ho;split at hg
    .rename_i j lo hi hc;split at hg
     .rename_i e xs kP;injection hg with hg;injection hg with _ hg;subst hg;have hne:j≠id:=λe=>by subst e;rw[ho]at kP;cases kP
      have pJ:st.nx≠id:=λe=>by
       obtain⟨φ,hφ⟩:=h.h;have:=hφ.lt id ⟨_,ho,by simp⟩;omega
      have bm:lo<=hi/\hi<=(ν j).len:=by
       obtain⟨S,b,vs,k1,k2,k3,k4,k5⟩:=h.h.obj ho;have hlt:o+off<vs.length:=by rw[k4.1];exact(Xaa.1 hc).1
       obtain⟨⟨_,g1,g2,_⟩,_⟩:=k4.2 _ _ _ hc (Xs hlt);exact⟨g1,g2⟩
      have h2:=h.h.solo kP bm.1 bm.2;have ke:Wq ((st.nx,Ob.arr e ((xs.take hi).drop lo))::(j,Ob.dead)::st.objs) id=some (.box cs):=by rw[WG,Wb pJ,WG,Wb hne];exact ho
      have oV:j<st.nx:=by
       obtain⟨φ,hφ⟩:=h.h;exact hφ.lt j ⟨_,kP,by simp⟩
      have h3:=h2.mk_box ke (cs':=cs.set (o+off) (.own st.nx)) (by simp) (λvs fy=>fy.set λv hv=>by
       obtain⟨_,_,_,_,ry⟩:=(fy.2 _ _ v hc hv).1;rw[Wfc ν st.nx _ j oV]at ry;rw[ry];exact Wl9)
      exact⟨G,_,h.on (λ_ _ _ hh=>hh) (Wfc ν st.nx _) (Xdc _) h3 h.gx⟩
     .cases hg
    .injection hg with hg;injection hg with _ hg;subst hg;exact⟨G,ν,h⟩
    .cases hg
   .cases hg
  .cases hg
theorem Wdk:∀(l:List Ghost) (st af:St) (G:GH) (ν:Nat->Nu),Rel w0 F nt G0 G ν st a w->WdX l st=some (true,af)->∃G' ν',Rel w0 F nt G0 G' ν' af a w
 | [],st,af,G,ν,h,hg=>by injection hg with hg;injection hg with _ hg;subst hg;exact⟨G,ν,h⟩
 |g::l,st,af,G,ν,h,hg=>by
  simp only[WdX]at hg;split at hg
  .rename_i c s sS;split at hg
   .rename_i c' s' hl;simp only[Option.some.injEq,Prod.mk.injEq,Xi]at hg;obtain⟨⟨rfl,rfl⟩,rfl⟩:=hg;obtain⟨G1,ν1,h1⟩:=WlZ h sS;exact Wdk l s s' G1 ν1 h1 hl
   .cases hg
  .cases hg
end
end Go.Sx
namespace Go.Sx
set_option linter.unusedVariables false
set_option linter.unusedSimpArgs false
section
variable{T:Tab}{Γ:Ctx}{env sT:List (Nat×AVal)}{objs objs':W9}{nx aj:Nat}
theorem Wcu{st ak:St}:∀(l:List (Nat×Operand)),(∀p∈l,ev ak p.2=ev st p.2)->Wci ak l=Wci st l
 | [],_=>rfl
 |(i,x)::l,h=>by
  have h1:ev ak x=ev st x:=h (i,x) (Xj ..);simp only[Wci,h1,Wcu l λp hp=>h p (Xf _ hp)]
theorem Wmx{st ak:St}:∀(l:List Operand),(∀x∈l,ev ak x=ev st x)->evs ak l=evs st l
 | [],_=>rfl
 |x::l,h=>by simp only[evs,h x (Xj ..),Wmx l λp hp=>h p (Xf _ hp)]
theorem WgR{st ak:St}:∀(l:List Operand),(∀x∈l,ev ak x=ev st x)->Wf2 ak l=Wf2 st l
 | [],_=>rfl
 |x::l,h=>by simp only[Wf2,h x (Xj ..),WgR l λp hp=>h p (Xf _ hp)]
theorem WjR{st ak:St}(x:Option Operand)(h:∀y∈x.toList,ev ak y=ev st y):Wlh ak x=Wlh st x:=by
 cases x with
 |none=>rfl
 |some y=>simp only[Wlh,h y (by simp)]
def Wd1(st ak:St)(v:AVal):Prop:=∀id∈WaN v,Wq ak.objs id=Wq st.objs id
theorem WnP{st ak:St}{t:TypeId}{v:AVal}(h:Wd1 st ak v):WgX T ak t v=WgX T st t v:=by
 unfold WgX;cases v with
 |tup xs=>rfl
 |s x=>
  cases x with
  |agg cs=>rfl
  |one c=>
   cases c with
   |ptr id off=>have:=h id (by simp[WaN,WeZ,WaX]);simp only[this]
   |eptr id i off=>have:=h id (by simp[WaN,WeZ,WaX]);simp only[this]
   |_=>rfl
theorem WmS{st ak:St}{t:TypeId}{v:AVal}(h:Wd1 st ak v):WfD T ak t v=WfD T st t v:=by
 unfold WfD;cases v with
 |tup xs=>rfl
 |s x=>
  cases x with
  |agg cs=>rfl
  |one c=>
   cases c with
   |aptr id=>have:=h id (by simp[WaN,WeZ,WaX]);simp only[this]
   |_=>rfl
theorem WmT{st:St}{t:TypeId}{id:Nat}:Wi6 T st t (.s (.one (.own id)))=match Wq T t with
  |some ⟨_,false,.slice _⟩=>obL (Wq st.objs id)
  |_=>none:=by
 unfold Wi6;generalize Wq T t=q;rcases q with _|⟨ty,agg,shape⟩
 .rfl
 .cases ty<;>cases agg<;>cases shape<;>rfl
theorem WnL{st ak:St}{t:TypeId}{v:AVal}(h:∀id,v≠ .s (.one (.own id))):Wi6 T ak t v=Wi6 T st t v:=by
 unfold Wi6;generalize Wq T t=q;rcases q with _|⟨ty,agg,shape⟩
 .cases v<;>rfl
 .cases v with
  |tup xs=>cases ty<;>cases agg<;>cases shape<;>rfl
  |s x=>
   cases x with
   |agg cs=>cases ty<;>cases agg<;>cases shape<;>rfl
   |one c=>
    cases c with
    |own id=>exact WC rfl (h id)
    |val t' d=>cases ty<;>cases agg<;>cases shape<;>cases t'<;>rfl
    |_=>cases ty<;>cases agg<;>cases shape<;>rfl
theorem Ws1(v:AVal):(∃id,v= .s (.one (.own id)))\/∀id,v≠ .s (.one (.own id)):=by
 rcases v with x|xs
 .rcases x with c|cs
  .cases c with
   |own id=>exact .inl ⟨id,rfl⟩
   |_=>exact .inr λid h=>by injection h with h;injection h with h;cases h
  .exact .inr λid h=>by injection h with h;cases h
 .exact .inr λid h=>by cases h
theorem WpZ{st ak:St}{t:TypeId}{v:AVal}(h:Wd1 st ak v):Wi6 T ak t v=Wi6 T st t v:=by
 rcases Ws1 v with⟨id,rfl⟩|hv
 .rw[WmT,WmT,h id (by simp[WaN,WeZ,WaX])]
 .exact WnL hv
theorem Whp{st ak:St}{t:TypeId}{v:AVal}{f:Nat}(h:Wd1 st ak v):WbQ T ak t v f=WbQ T st t v f:=by
 unfold WbQ;generalize Wgl T t f=q;rcases q with _|⟨off,te⟩
 .cases v<;>rfl
 .cases v with
  |tup xs=>rfl
  |s x=>
   cases x with
   |agg cs=>rfl
   |one c=>
    cases c with
    |ptr id o=>
     have:=h id (by simp[WaN,WeZ,WaX]);show(λq:Option Ob=>match q with|some (.box _)=>some (true,AVal.s (.one (.ptr id (o+off))))|_=>none) (Wq ak.objs id)=(λq:Option Ob=>match q with|some (.box _)=>some (true,AVal.s (.one (.ptr id (o+off))))|_=>none) (Wq st.objs id);rw[this]
    |eptr id i o=>
     have:=h id (by simp[WaN,WeZ,WaX]);show(λq:Option Ob=>match q with|some (.arr _ _)=>some (true,AVal.s (.one (.eptr id i (o+off))))|_=>none) (Wq ak.objs id)=(λq:Option Ob=>match q with|some (.arr _ _)=>some (true,AVal.s (.one (.eptr id i (o+off))))|_=>none) (Wq st.objs id);rw[this]
    |_=>rfl
theorem Whl{st ak:St}{t:TypeId}{v i:AVal}(h:Wd1 st ak v):WbV T ak t v i=WbV T st t v i:=by
 unfold WbV;generalize Wq T t=q;generalize asI i=z;rcases q with _|⟨ty,agg,shape⟩
 .rfl
 rcases z with _|n
 .cases shape<;>rfl
 cases shape with
 |slice et=>
  show(match Wq T et with|some te=>_|none=>_)=(match Wq T et with|some te=>_|none=>_);generalize Wq T et=q;rcases q with _|te
  .rfl
  .show(if te.plain=true then _ else _)=(if te.plain=true then _ else _);by_cases hp:te.plain=true
   .rw[Wf hp,Wf hp];cases v with
    |tup xs=>rfl
    |s x=>
     cases x with
     |agg cs=>rfl
     |one c=>
      cases c with
      |own id=>
       have:=h id (by simp[WaN,WeZ,WaX]);show obI te n id (Wq ak.objs id)=obI te n id (Wq st.objs id);rw[this]
      |vw id lo hi=>
       have:=h id (by simp[WaN,WeZ,WaX]);show Wut te n id lo hi (Wq ak.objs id)=Wut te n id lo hi (Wq st.objs id);rw[this]
      |val t' d=>cases t'<;>rfl
      |_=>rfl
   .rw[Wb hp,Wb hp]
 |arr k et=>
  show(match Wq T et with|some te=>_|none=>_)=(match Wq T et with|some te=>_|none=>_);generalize Wq T et=q;rcases q with _|te
  .rfl
  .show(if te.plain=true then _ else _)=(if te.plain=true then _ else _);by_cases hp:te.plain=true
   .rw[Wf hp,Wf hp];cases v with
    |tup xs=>rfl
    |s x=>
     cases x with
     |agg cs=>rfl
     |one c=>
      cases c with
      |aptr id=>
       have:=h id (by simp[WaN,WeZ,WaX]);show Wuo te n k id (Wq ak.objs id)=Wuo te n k id (Wq st.objs id);rw[this]
      |_=>rfl
   .rw[Wb hp,Wb hp]
 |_=>rfl
theorem Wpi{st ak:St}{v:AVal}(h:Wd1 st ak v):WsV ak v=WsV st v:=by
 rcases Ws1 v with⟨id,rfl⟩|hv
 .exact h id (by simp[WaN,WeZ,WaX])
 .unfold WsV;split
  .rename_i id;exact WC rfl (hv id)
  .rfl
theorem WnS{st ak:St}{s d:TypeId}{v:AVal}(h:Wd1 st ak v):WjK T ak s d v=WjK T st s d v:=by
 unfold WjK;rw[Wpi h]
theorem Wo6{st ak:St}{v:AVal}(h:Wd1 st ak v):Wpp ak v=Wpp st v:=by
 unfold Wpp;cases v with
 |tup xs=>rfl
 |s x=>
  cases x with
  |agg cs=>rfl
  |one c=>
   cases c with
   |ptr id off=>have:=h id (by simp[WaN,WeZ,WaX]);simp only[this]
   |eptr id i off=>have:=h id (by simp[WaN,WeZ,WaX]);simp only[this]
   |aptr id=>have:=h id (by simp[WaN,WeZ,WaX]);simp only[this]
   |_=>rfl
theorem Wo2{st ak:St}{op:BinOp}{t:TypeId}{v z:AVal}(h:Wd1 st ak v):Wo8 T ak op t v z=Wo8 T st op t v z:=by
 unfold Wo8;split
 .rename_i id;rw[h id (by simp[WaN,WeZ,WaX])]
 .rfl
theorem WbS{α β:Type}{x:Option α}{f g:α->Option β}(h:∀v,x=some v->f v=g v):x.bind f=x.bind g:=by
 cases x with
 |none=>rfl
 |some v=>exact h v rfl
theorem WgV{st ak:St}(op:Op)(hm:∀t x l h m,op≠ .slice t x l h m)(he:∀x∈W8 op,ev ak x=ev st x)(hl:WtZ op=true->∀x∈W8 op,∀v,ev st x=some v->Wd1 st ak v):Wac T ak op=Wac T st op:=by
 cases op with
 |move x=>simp only[Wac,he x (by simp[W8])]
 |assign x=>simp only[Wac,he x (by simp[W8])]
 |pick c a b=>simp only[Wac,he c (by simp[W8]),he a (by simp[W8]),he b (by simp[W8])]
 |load t a=>
  simp only[Wac,he a (by simp[W8])];exact WbS λv hv=>by rw[WnP (hl rfl a (by simp[W8]) v hv),WmS (hl rfl a (by simp[W8]) v hv)]
 |nilCheck x=>
  simp only[Wac,he x (by simp[W8])];exact WbS λv hv=>Wo6 (hl rfl x (by simp[W8]) v hv)
 |binOp op t x y z=>
  simp only[Wac,he x (by simp[W8]),he y (by simp[W8])];split
  .rename_i a b h1 h2;rw[Wo2 (hl rfl x (by simp[W8]) _ h1)]
  .rfl
 |unOp op t x=>simp only[Wac,he x (by simp[W8])]
 |convert s d x=>
  simp only[Wac,he x (by simp[W8])];exact WbS λv hv=>WnS (hl rfl x (by simp[W8]) v hv)
 |slice t x l h m=>exact WC rfl (hm t x l h m)
 |fieldAddr s x f=>
  simp only[Wac,he x (by simp[W8])];exact WbS λv hv=>Whp (hl rfl x (by simp[W8]) v hv)
 |field t x f=>simp only[Wac,he x (by simp[W8])]
 |indexAddr t x i=>
  simp only[Wac,he x (by simp[W8]),he i (by simp[W8])];split
  .rename_i a b h1 h2;exact Whl (hl rfl x (by simp[W8]) _ h1)
  .rfl
 |index t x i=>simp only[Wac,he x (by simp[W8]),he i (by simp[W8])]
 |extract t ix=>simp only[Wac,he t (by simp[W8])]
 |makeFunc f first captured=>
  cases f with
  |func f=>simp only[Wac,WgR (st:=st) (ak:=ak) captured.toList λx hx=>he x (by simp[W8];right;simpa using hx)]
  |_=>rfl
 |call c=>
  have hargs:∀x∈c.args.toList,ev ak x=ev st x:=λx hx=>he x (Xh _ hx);have lx:∀x∈c.args.toList,∀v,ev st x=some v->Wd1 st ak v:=λx hx=>hl rfl x (Xh _ hx);simp only[Wac];split
  .rename_i x t _ ha _;rw[hargs x (by rw[ha];simp)];exact WbS λv hv=>WpZ (lx x (by rw[ha];simp) v hv)
  .rename_i x y _ _ _ ha _;rw[hargs x (by rw[ha];simp),hargs y (by rw[ha];simp)]
  .rename_i x y _ _ _ ha _;rw[hargs x (by rw[ha];simp),hargs y (by rw[ha];simp)]
  .rfl
 |_=>rfl
end
end Go.Sx
namespace Go.Sx
set_option linter.unusedVariables false
set_option linter.unusedSimpArgs false
abbrev Out:=AVal×W9×Nat
def WcK(x:AVal)(objs:W9)(nx:Nat):Option Out:=some (x,objs,nx)
section
variable{T:Tab}{Γ:Ctx}{A:List (Nat×An)}
theorem WaO{α β:Type}{c:Prop}[Decidable c]{x:Option α}{f:α->Option β}:(if c then x else none).bind f=if c then x.bind f else none:=by split<;>rfl
theorem WbZ{α β:Type}{c:Bool}{x:Option α}{f:α->Option β}:(bif c then x else none).bind f=bif c then x.bind f else none:=by cases c<;>rfl
theorem Wfq{R:Type}(sg:Sig)(st:St)(xs:List AVal)(k:KV R):We5 sg st xs k=(We5 sg st xs WcK).bind λp=>k p.1 p.2.1 p.2.2:=by
 unfold We5;split
 .split
  .rw[sg.law,sg.law,Option.bind_assoc];rfl
  .rfl
 .rfl
theorem Wo9{R:Type}(sg:Sig)(st:St)(xs:List AVal)(k:KV R):Wmd sg st xs k=(Wmd sg st xs WcK).bind λp=>k p.1 p.2.1 p.2.2:=by
 unfold Wmd;cases sg.fresh with
 |true=>exact Wfq _ _ _ _
 |false=>
  simp only[Wc];split
  .split
   .exact Wfq _ _ _ _
   .exact Wfq _ _ _ _
  .rfl
theorem Wlz{R:Type}(st:St)(te:Ty)(s x:AVal)(k:KV R):Wea st te s x k=(Wea st te s x WcK).bind λp=>k p.1 p.2.1 p.2.2:=by
 unfold Wea;split
 .split
  .split
   .split
    .rw[WbZ];rfl
    .rfl
   .rfl
  .rfl
 .split
  .split
   .split
    .rw[WaO,WbZ];rfl
    .rfl
   .rfl
  .rfl
 .rfl
theorem Wlv{R:Type}(st:St)(e:Ty)(ps:List (Nat×AVal))(k:KV R):Wdf st e ps k=(Wdf st e ps WcK).bind λp=>k p.1 p.2.1 p.2.2:=by
 unfold Wdf;split
 .rw[WaO];split
  .split
   .split
    .rw[WaO];rfl
    .rfl
   .rfl
  .rfl
 .rfl
theorem WnN{R:Type}(st:St)(te:Ty)(id:Nat)(l h:Option Int)(k:KV R):We9 st te id l h k=(We9 st te id l h WcK).bind λp=>k p.1 p.2.1 p.2.2:=by
 unfold We9;split
 .rw[WaO,WbZ];rfl
 .rfl
theorem WkL{R:Type}(st:St)(t t2:TypeId)(s x:AVal)(k:KV R):WdO T st t t2 s x k=(WdO T st t t2 s x WcK).bind λp=>k p.1 p.2.1 p.2.2:=by
 unfold WdO;split
 .split
  .split
   .cases WsT st s x with
    |false=>exact Wlz _ _ _ _ _
    |true=>
    simp only[Xo,Wc];split
    .rw[WbZ];rfl
    .split
     .split
      .rw[WbZ];rfl
      .rfl
     .rfl
    .split
     .split
      .rw[WbZ];rfl
      .rfl
     .rfl
    .rfl
   .rfl
  .rfl
 .rfl
theorem Wt0{R:Type}(p:Option (Bool×AVal))(objs:W9)(nx:Nat)(k:KV R):(match p with|some (c,v)=>bif c then k v objs nx else none|none=>none)=(match p with|some (c,v)=>bif c then WcK v objs nx else none|none=>none).bind λp=>k p.1 p.2.1 p.2.2:=by
 rcases p with _|⟨c,v⟩
 .rfl
 .cases c<;>rfl
theorem WfX{R:Type}(o:Oper)(st:St)(k:KV R):rxe T Γ A o st k=(rxe T Γ A o st WcK).bind λp=>k p.1 p.2.1 p.2.2:=by
 unfold rxe;split
 .split
  .rw[WaO];rfl
  .rw[WaO];rfl
  .rfl
 .split<;>rfl
 .split
  .split
   .split<;>rfl
   .rfl
  .rfl
 .split
  .split
   .split
    .rw[WaO];split
     .exact Wlv _ _ _ _
     .rfl
    .split
     .rw[WaO];rfl
     .rfl
   .rfl
  .rfl
 .split
  .split
   .split
    .rw[WaO,WbZ];rfl
    .rw[WaO,WbZ];rfl
   .rfl
  .rfl
 .split
  .split
   .split<;>rfl
   .rfl
  .rfl
 .split
  .split
   .split
    .split
     .rw[WaO];split
      .exact WnN _ _ _ _ _ _
      .rfl
     .split
      .rw[WaO,WbZ];rfl
      .rw[WaO,WbZ];rfl
      .rfl
    .rfl
   .rfl
  .exact Wt0 _ _ _ _
 .split
  .split
   .exact WkL _ _ _ _ _ _
   .rfl
  .split
   .split
    .split
     .rw[WaO];rfl
     .rfl
    .rfl
   .rfl
  .exact Wt0 _ _ _ _
  .split
   .split
    .exact Wo9 _ _ _ _
    .rfl
   .rfl
  .rfl
 .exact Wt0 _ _ _ _
end
section
variable{T:Tab}{Γ:Ctx}{A:List (Nat×An)}
theorem WnR{st:St}{env:List (Nat×AVal)}{t:TypeId}{x v:AVal}:WcF T {env:=env,objs:=st.objs,nx:=st.nx} t x v=(WcF T st t x v).map λs=>{env:=env,objs:=s.objs,nx:=s.nx}:=by
 unfold WcF;generalize Wq T t=q;generalize WgC v=z;rcases q with _|te
 .rfl
 rcases z with _|ds
 .rcases x with(c|cs)|xs
  .cases c<;>rfl
  .rfl
  .rfl
 rcases x with(c|cs)|xs
 .cases c with
  |ptr id off=>
   show(match Wq st.objs id with|some (.box cs)=>_|_=>_)=Xfh _ (match Wq st.objs id with|some (.box cs)=>_|_=>_);generalize Wq st.objs id=ob;rcases ob with _|ob
   .rfl
   cases ob with
   |box cs=>
    show(if _ then _ else _)=Xfh _ (if _ then _ else _);split<;>rfl
   |arr e xs=>rfl
   |hole e xs i p=>rfl
   |dead=>rfl
  |eptr id i off=>
   show(match Wq st.objs id with|some (.arr e xs)=>_|_=>_)=Xfh _ (match Wq st.objs id with|some (.arr e xs)=>_|_=>_);generalize Wq st.objs id=ob;rcases ob with _|ob
   .rfl
   cases ob with
   |box cs=>rfl
   |hole e xs i p=>rfl
   |dead=>rfl
   |arr e xs=>
    show(if _ then _ else _)=Xfh _ (if _ then _ else _);by_cases hc:(decide (te.ty.size=ds.length)&&te.plain&&decide (off+ds.length<=e.size)&&e.data)=true
    .rw[Wf hc,Wf hc];generalize Waq e (WdZ (split e (Xc xs i e.dflt)) off ds) st.objs=r;rcases r with _|⟨d,m,l⟩
     .rfl
     .cases m<;>cases l<;>rfl
    .rw[Wb hc,Wb hc];by_cases ka:(decide (te.ty.size=ds.length)&&te.plain&&decide (off=0)&&decide (ds.length=e.size))=true
     .rw[Wf ka,Wf ka];generalize Waq e ds st.objs=r;rcases r with _|⟨d,m,l⟩
      .rfl
      .cases l with
       |nil=>
        show(if _ then _ else _)=Xfh _ (if _ then _ else _);split<;>rfl
       |cons _ _=>rfl
     .rw[Wb ka,Wb ka];rfl
  |_=>rfl
 .rfl
 .rfl
theorem WrP{R:Type}(o:Oper){st:St}{env:List (Nat×AVal)}(k:KV R)(he:∀x∈W8 o.op,ev {env:=env,objs:=st.objs,nx:=st.nx} x=ev st x):
  rxe T Γ A o {env:=env,objs:=st.objs,nx:=st.nx} k=rxe T Γ A o st k:=by
 have bs:(∀t x l h m,o.op≠ .slice t x l h m)->Wac T {env:=env,objs:=st.objs,nx:=st.nx} o.op=Wac T st o.op:=λhm=>WgV o.op hm he (λ_ _ _ _ _ _ _=>rfl);obtain⟨dst,op,type,pos,after,guard⟩:=o;simp only at he bs;cases op with
 |alloc t=>rfl
 |box t x=>simp only[rxe,he x (by simp[W8])]
 |build t parts=>simp only[rxe,Wcu (st:=st) parts.toList λp hp=>he p.2 (by simp only[W8];exact Xv.2 ⟨p,hp,rfl⟩)]
 |buildSlice t n parts=>
  have e1:∀e ps,Wdf {env:=env,objs:=st.objs,nx:=st.nx} e ps k=Wdf st e ps k:=λ_ _=>rfl;simp only[rxe,e1,Wcu (st:=st) parts.toList λp hp=>he p.2 (by simp only[W8];exact Xv.2 ⟨p,hp,rfl⟩)]
 |makeSlice t n c=>simp only[rxe,he n (by simp[W8]),he c (by simp[W8])]
 |store t a x=>
  simp only[rxe,he a (by simp[W8]),he x (by simp[W8])];split
  .rename_i p v _ _;have e:=WnR (T:=T) (st:={env:=st.env,objs:=WdP st.objs (WfF st.objs p v),nx:=st.nx}) (env:=env) (t:=t) (x:=p) (v:=WgS st.objs (WfF st.objs p v) v);simp only at e;rw[e];cases WcF T {env:=st.env,objs:=WdP st.objs (WfF st.objs p v),nx:=st.nx} t p (WgS st.objs (WfF st.objs p v) v)<;>rfl
  .rfl
 |slice t x lo hi m=>
  have hx:=he x (by simp[W8]);have bc:=WjR (st:=st) (ak:={env:=env,objs:=st.objs,nx:=st.nx}) lo λy hy=>he y (by simp only[W8];exact Xf _ (Xm _ hy));have mj:=WjR (st:=st) (ak:={env:=env,objs:=st.objs,nx:=st.nx}) hi λy hy=>he y (by simp only[W8];exact Xf _ (Xh _ (Xm _ hy)));cases m with
  |none=>
   have hp:Wac T {env:=env,objs:=st.objs,nx:=st.nx} (.slice t x lo hi none)=Wac T st (.slice t x lo hi none):=by
    simp only[Wac,hx];refine WbS λv _=>?_;simp only[Wlf,bc,mj]
   have e1:∀te id l h,We9 {env:=env,objs:=st.objs,nx:=st.nx} te id l h k=We9 st te id l h k:=λ_ _ _ _=>rfl;simp only[rxe,hx,bc,mj,hp,e1]
  |some y=>rfl
 |call c=>
  have hargs:=Wmx (st:=st) (ak:={env:=env,objs:=st.objs,nx:=st.nx}) c.args.toList λx hx=>he x (by simp only[W8];exact Xh _ hx);have hp:=bs (λ_ _ _ _ _ h=>by cases h);simp only[rxe];split
  .rename_i s x t t2 hc ha de;have h1:ev {env:=env,objs:=st.objs,nx:=st.nx} s=ev st s:=he s (by simp only[W8];rw[ha];exact Xh _ (by simp));have h2:ev {env:=env,objs:=st.objs,nx:=st.nx} x=ev st x:=he x (by simp only[W8];rw[ha];exact Xh _ (by simp));rw[h1,h2];rfl
  .rename_i x t hc ha de;have h1:ev {env:=env,objs:=st.objs,nx:=st.nx} x=ev st x:=he x (by simp only[W8];rw[ha];exact Xh _ (by simp));rw[h1]
  .rw[hp]
  .rename_i f hc;have h1:ev {env:=env,objs:=st.objs,nx:=st.nx} f=ev st f:=he f (by simp only[W8];rw[hc];exact Xm _ (by simp));rw[h1,hargs];rfl
  .rfl
 |move x=>simp only[rxe,bs (λ_ _ _ _ _ h=>by cases h)]
 |assign x=>simp only[rxe,bs (λ_ _ _ _ _ h=>by cases h)]
 |pick c a b=>simp only[rxe,bs (λ_ _ _ _ _ h=>by cases h)]
 |load t a=>simp only[rxe,bs (λ_ _ _ _ _ h=>by cases h)]
 |nilCheck x=>simp only[rxe,bs (λ_ _ _ _ _ h=>by cases h)]
 |binOp op t x y z=>simp only[rxe,bs (λ_ _ _ _ _ h=>by cases h)]
 |unOp op t x=>simp only[rxe,bs (λ_ _ _ _ _ h=>by cases h)]
 |convert s d x=>simp only[rxe,bs (λ_ _ _ _ _ h=>by cases h)]
 |fieldAddr s x f=>simp only[rxe,bs (λ_ _ _ _ _ h=>by cases h)]
 |field t x f=>simp only[rxe,bs (λ_ _ _ _ _ h=>by cases h)]
 |indexAddr t x i=>simp only[rxe,bs (λ_ _ _ _ _ h=>by cases h)]
 |index t x i=>simp only[rxe,bs (λ_ _ _ _ _ h=>by cases h)]
 |extract t ix=>simp only[rxe,bs (λ_ _ _ _ _ h=>by cases h)]
 |makeFunc f first captured=>simp only[rxe,bs (λ_ _ _ _ _ h=>by cases h)]
 |_=>rfl
def Ws9(T:Tab)(o:Oper)(st:St):Option AVal:=match o.op with
 | .build t parts=>match Wq T t,Wci st parts.toList with
  |some ⟨ty,true,.struct fs⟩,some ps=>
   if fs.all (λf=>match Wq T f.2 with|some te=>te.plain|none=>false)then
    match Wma T fs ps (Wen ty)with
    |some cs=>some (.s (.agg cs))
    |none=>none
   else none
  |_,_=>none
 |op=>match Wac T st op with
  |some (c,v)=>bif c then some v else none
  |none=>none
theorem Wui(p:Option (Bool×AVal))(objs:W9)(nx:Nat):(match p with|some (c,v)=>bif c then WcK v objs nx else none|none=>none)=(match p with|some (c,v)=>bif c then some v else none|none=>none).bind λv=>WcK v objs nx:=by
 rcases p with _|⟨c,v⟩
 .rfl
 .cases c<;>rfl
theorem WlR{o:Oper}(hm:WaI o=false)(st:St):rxe T Γ A o st WcK=(Ws9 T o st).bind λv=>WcK v st.objs st.nx:=by
 obtain⟨dst,op,type,pos,after,guard⟩:=o;cases op with
 |alloc t=>cases hm
 |box t x=>cases hm
 |buildSlice t n parts=>cases hm
 |makeSlice t n c=>cases hm
 |store t a x=>cases hm
 |slice t x lo hi m=>cases hm
 |build t parts=>
  simp only[rxe,Ws9];generalize Wq T t=q;generalize Wci st parts.toList=z;rcases q with _|⟨ty,agg,shape⟩
  .rfl
  rcases z with _|ps
  .cases agg<;>cases shape<;>rfl
  cases agg with
  |false=>rfl
  |true=>
   cases shape with
   |struct fs=>
    show(if _ then _ else _)=Option.bind (if _ then _ else _) _;rw[WaO];cases Wma T fs ps (Wen ty)<;>rfl
   |_=>rfl
 |call c=>
  simp only[rxe,Ws9];split
  .rename_i hc _ _;simp only[WaI,hc]at hm;cases hm
  .rename_i hc _ _;simp only[WaI,hc]at hm;cases hm
  .exact Wui _ _ _
  .rename_i hc;simp only[WaI,hc]at hm;cases hm
  .rename_i h0 h1 h2 h3;have:Wac T st (.call c)=none:=by
    simp only[Wac];split
    .rename_i hc _ _;first|exact WC hc (h0 _)|exact WC hc (h1 _)|exact WC hc (h2 _)|exact WC hc (h3 _)
    .rename_i hc _ _;first|exact WC hc (h0 _)|exact WC hc (h1 _)|exact WC hc (h2 _)|exact WC hc (h3 _)
    .rename_i hc _ _;first|exact WC hc (h0 _)|exact WC hc (h1 _)|exact WC hc (h2 _)|exact WC hc (h3 _)
    .rfl
   rw[this];rfl
 |_=>first|rfl|exact Wui (Wac T st _) st.objs st.nx
theorem Wo0{o:Oper}(hm:WaI o=false){st ak:St}(he:∀x∈W8 o.op,ev ak x=ev st x)(hl:WtZ o.op=true->∀x∈W8 o.op,∀v,ev st x=some v->Wd1 st ak v):Ws9 T o ak=Ws9 T o st:=by
 have bs:(∀t x l h m,o.op≠ .slice t x l h m)->Wac T ak o.op=Wac T st o.op:=λhm=>WgV o.op hm he hl;obtain⟨dst,op,type,pos,after,guard⟩:=o;simp only at he bs;cases op with
 |slice t x lo hi m=>cases hm
 |build t parts=>simp only[Ws9,Wcu (st:=st) parts.toList λp hp=>he p.2 (by simp only[W8];exact Xv.2 ⟨p,hp,rfl⟩)]
 |_=>simp only[Ws9,bs (λ_ _ _ _ _ h=>by cases h)]
theorem WcD(objs:W9):∀l,∃pre,kill objs l=pre++objs
 | []=>⟨[],rfl⟩
 |i::l=>by
  obtain⟨pre,h⟩:=WcD objs l;exact⟨(i,.dead)::pre,by simp only[kill,h];rfl⟩
theorem W5:∀(ps:List PTy) (o:WfH ps) (ids:List Kp) (objs:W9) (nx:Nat),∃pre,(Waa ps o ids objs nx).1=pre++objs
 | [],_,_,objs,_=>⟨[],rfl⟩
 | .v _ _::ps,o,ids,objs,nx=>W5 ps o ids objs nx
 | .rp _::ps,o,ids,objs,nx=>W5 ps o ids objs nx
 | .box t::ps,o,ids,objs,nx=>by
  cases ids with
  |nil=>exact⟨[],rfl⟩
  |cons k ids=>
   obtain⟨pre,h⟩:=W5 ps o.2 ids ((k.id,Wg6 (Wq objs k.id) k.off (unfold t o.1 nx).1)::((unfold t o.1 nx).2.1++objs)) (unfold t o.1 nx).2.2;exact⟨pre++(k.id,Wg6 (Wq objs k.id) k.off (unfold t o.1 nx).1)::(unfold t o.1 nx).2.1,by simp only[Waa,h];simp⟩
 | .vj _::ps,o,ids,objs,nx=>W5 ps o ids objs nx
 | .boxal t _::ps,o,ids,objs,nx=>by
  cases ids with
  |nil=>exact⟨[],rfl⟩
  |cons k ids=>
   obtain⟨pre,h⟩:=W5 ps o.2 ids ((k.id,Wg6 (Wq objs k.id) k.off (unfold t o.1 nx).1)::((unfold t o.1 nx).2.1++objs)) (unfold t o.1 nx).2.2;exact⟨pre++(k.id,Wg6 (Wq objs k.id) k.off (unfold t o.1 nx).1)::(unfold t o.1 nx).2.1,by simp only[Waa,h];simp⟩
 | .mut e::ps,o,ids,objs,nx=>by
  cases ids with
  |nil=>exact⟨[],rfl⟩
  |cons k ids=>
   obtain⟨pre,h⟩:=W5 ps o.2 ids ((k.id,.arr e o.1)::objs) nx;exact⟨pre++ [(k.id,.arr e o.1)],by simp only[Waa,h];simp⟩
 | .clos _ _::ps,o,ids,objs,nx=>W5 ps o ids objs nx
 | .kv t _::ps,o,ids,objs,nx=>by
  obtain⟨pre,h⟩:=W5 ps o.2 (ids.drop t.owns) (Wcj t o.1 ((ids.take t.owns).map Kp.id)++objs) nx;exact⟨pre++Wcj t o.1 ((ids.take t.owns).map Kp.id),by simp only[Waa,h];simp⟩
theorem Wak:∀(rs:List PTy) (d:Wgs rs) (objs:W9) (nx:Nat),∃pre,(Wa7 rs d objs nx).2.1=pre++objs
 | [],_,objs,_=>⟨[],rfl⟩
 | .v t agg::rs,d,objs,nx=>by
  obtain⟨pre,h⟩:=Wak rs d.2 ((unfold t d.1 nx).2.1++objs) (unfold t d.1 nx).2.2;exact⟨pre++(unfold t d.1 nx).2.1,by simp only[Wa7,h];simp⟩
 | .box t::rs,d,objs,nx=>by
  obtain⟨pre,h⟩:=Wak rs d.2 ((nx,.box (unfold t d.1 (nx+1)).1)::((unfold t d.1 (nx+1)).2.1++objs)) (unfold t d.1 (nx+1)).2.2;exact⟨pre++(nx,.box (unfold t d.1 (nx+1)).1)::(unfold t d.1 (nx+1)).2.1,by simp only[Wa7,h];simp⟩
 | .mut _::rs,d,objs,nx=>Wak rs d objs nx
 | .clos _ _::rs,d,objs,nx=>Wak rs d objs nx
 | .kv _ _::rs,d,objs,nx=>Wak rs d objs nx
 | .rp _::rs,d,objs,nx=>Wak rs d objs nx
 | .vj t::rs,d,objs,nx=>by
  obtain⟨pre,h⟩:=Wak rs d.2 ((unfold t d.1 nx).2.1++objs) (unfold t d.1 nx).2.2;exact⟨pre++(unfold t d.1 nx).2.1,by simp only[Wa7,h];simp⟩
 | .boxal _ _::rs,d,objs,nx=>Wak rs d objs nx
def Suf(objs:W9)(r:Option Out):Prop:=∀x objs' nx,r=some (x,objs',nx)->∃pre,objs'=pre++objs
theorem Suf.none{objs:W9}:Suf objs none:=λ_ _ _ h=>by cases h
theorem Suf.out{objs pre:W9}{x:AVal}{nx:Nat}:Suf objs (WcK x (pre++objs) nx):=λ_ _ _ h=>by
 injection h with h;have:=Wn (λp:Out=>p.2.1) h;exact⟨pre,this.symm⟩
theorem Suf.ite{objs:W9}{c:Prop}[Decidable c]{r:Option Out}(h:Suf objs r):Suf objs (if c then r else Option.none):=by split;exact h;exact .none
theorem Suf.bif{objs:W9}{c:Bool}{r:Option Out}(h:Suf objs r):Suf objs (bif c then r else Option.none):=by cases c;exact .none;exact h
theorem Wi0{st af:St}{t:TypeId}{x v:AVal}(h:WcF T st t x v=some af):∃pre,af.objs=pre++st.objs:=by
 unfold WcF at h;split at h
 .split at h
  .split at h
   .injection h with h;subst h;exact⟨[_],rfl⟩
   .cases h
  .cases h
 .split at h
  .split at h
   .split at h
    .injection h with h;subst h;exact⟨[_],rfl⟩
    .cases h
   .split at h
    .split at h
     .rename_i m _;split at h
      .injection h with h;subst h;obtain⟨pre,hp⟩:=WcD st.objs m;exact⟨_::pre,by simp only[hp];rfl⟩
      .cases h
     .cases h
    .cases h
  .cases h
 .cases h
theorem Wm9(p:Option (Bool×AVal))(objs:W9)(nx:Nat):Suf objs (match p with|some (c,v)=>bif c then WcK v objs nx else none|none=>none):=by
 rcases p with _|⟨c,v⟩
 .exact .none
 .exact Suf.bif (Suf.out (pre:=[]))
theorem WdV(sg:Sig)(st:St)(xs:List AVal):Suf st.objs (We5 sg st xs WcK):=by
 unfold We5;split
 .rename_i A _;split
  .intro x objs' nx h;rw[sg.law]at h;cases hr:sg.run A.d with
   |none=>rw[hr]at h;cases h
   |some out=>
    rw[hr]at h;simp only[Xd]at h;injection h with h;have h2:=Wn (λp:Out=>p.2.1) h;simp only at h2;obtain⟨p1,e1⟩:=WcD st.objs A.moved;obtain⟨p2,e2⟩:=W5 sg.ps out.1 A.kept (kill st.objs A.moved) st.nx;obtain⟨p3,e3⟩:=Wak sg.rs out.2 (Waa sg.ps out.1 A.kept (kill st.objs A.moved) st.nx).1 (Waa sg.ps out.1 A.kept (kill st.objs A.moved) st.nx).2;refine⟨p3++(p2++p1),?_⟩;rw[←h2,e3,e2,e1];simp
  .exact .none
 .exact .none
theorem Suf.over{objs:W9}{l:List Nat}{r:Option Out}(h:Suf (kill objs l) r):Suf objs r:=λx objs' nx hr=>by
 obtain⟨p1,e1⟩:=h x objs' nx hr;obtain⟨p2,e2⟩:=WcD objs l;exact⟨p1++p2,by rw[e1,e2];simp⟩
theorem WlW(sg:Sig)(st:St)(xs:List AVal):Suf st.objs (Wmd sg st xs WcK):=by
 unfold Wmd;cases sg.fresh with
 |true=>exact WdV _ _ _
 |false=>
  simp only[Wc];split
  .split
   .exact WdV _ _ _
   .exact Suf.over (WdV sg {env:=st.env,objs:=kill st.objs _,nx:=st.nx} _)
  .exact .none
theorem Wnx{objs:W9}{x:AVal}{p:Nat×Ob}{l:List Nat}{nx:Nat}:Suf objs (WcK x (p::kill objs l) nx):=by
 obtain⟨pre,h⟩:=WcD objs l;rw[h];exact Suf.out (pre:=p::pre)
theorem WiR(st:St)(te:Ty)(s x:AVal):Suf st.objs (Wea st te s x WcK):=by
 unfold Wea;split
 .split
  .split
   .split
    .exact Suf.bif Wnx
    .exact .none
   .exact .none
  .exact .none
 .split
  .split
   .split
    .exact Suf.ite (Suf.bif Wnx)
    .exact .none
   .exact .none
  .exact .none
 .exact .none
theorem WiV(st:St)(e:Ty)(ps:List (Nat×AVal)):Suf st.objs (Wdf st e ps WcK):=by
 unfold Wdf;split
 .refine Suf.ite ?_;split
  .split
   .exact Suf.ite (Suf.over Wnx)
   .exact .none
  .exact .none
 .exact .none
theorem Wkg(st:St)(te:Ty)(id:Nat)(l h:Option Int):Suf st.objs (We9 st te id l h WcK):=by
 unfold We9;split
 .exact Suf.ite (Suf.bif (Suf.out (pre:=[])))
 .exact .none
theorem Wpz(o:Oper)(st:St):Suf st.objs (rxe T Γ A o st WcK):=by
 unfold rxe;split
 .split
  .exact Suf.ite (Suf.out (pre:=[_]))
  .exact Suf.ite (Suf.out (pre:=[_]))
  .exact .none
 .split
  .exact Suf.out (pre:=[_])
  .exact .none
 .split
  .split
   .split
    .exact Suf.out (pre:=[])
    .exact .none
   .exact .none
  .exact .none
 .split
  .split
   .split
    .exact Suf.ite (WiV _ _ _)
    .split
     .exact Suf.ite (Suf.over (Suf.out (pre:=[_])))
     .exact .none
   .exact .none
  .exact .none
 .split
  .split
   .split
    .exact Suf.ite (Suf.bif (Suf.out (pre:=[_])))
    .exact Suf.ite (Suf.bif (Suf.out (pre:=[_])))
   .exact .none
  .exact .none
 .split
  .split
   .rename_i af hs;split
    .obtain⟨pre,h⟩:=Wi0 hs;rw[h];exact Suf.over Suf.out
    .exact .none
   .exact .none
  .exact .none
 .split
  .split
   .split
    .split
     .exact Suf.ite (Wkg _ _ _ _ _)
     .split
      .exact Suf.ite (Suf.bif (Suf.out (pre:=[_,_])))
      .exact Suf.ite (Suf.bif (Suf.out (pre:=[_,_,_])))
      .exact .none
    .exact .none
   .exact .none
  .exact Wm9 _ _ _
 .split
  .split
   .unfold WdO;split
    .split
     .split
      .cases WsT st _ _ with
       |false=>exact WiR _ _ _ _
       |true=>
       simp only[Xo,Wc];split
       .exact Suf.bif (Suf.out (pre:=[_]))
       .split
        .split
         .exact Suf.bif (Suf.out (pre:=[_,_]))
         .exact .none
        .exact .none
       .split
        .split
         .exact Suf.bif (Suf.out (pre:=[_,_]))
         .exact .none
        .exact .none
       .exact .none
      .exact .none
     .exact .none
    .exact .none
   .exact .none
  .split
   .split
    .split
     .exact Suf.ite (Suf.out (pre:=[_]))
     .exact .none
    .exact .none
   .exact .none
  .exact Wm9 _ _ _
  .split
   .split
    .exact WlW _ _ _
    .exact .none
   .exact .none
  .exact .none
 .exact Wm9 _ _ _
end
end Go.Sx
