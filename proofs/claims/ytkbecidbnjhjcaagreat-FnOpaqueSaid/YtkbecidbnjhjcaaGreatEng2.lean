/- The abstract machine, part 2: a reflective interpreter of the program's code over data, with its soundness over the model. -/
import Derived.Test.YtkbecidbnjhjcaaGreatEng1
open Bool renaming and_eq_true→Xi,not_eq_true'→Xap,not_true→Xr,false_eq_true→Xbl
open List renaming nodup_cons→Xah,getElem?_append_left→Xcs,getD→Xb,getElem?_append_right→Xce,ext_getElem?→Xfd,getElem?_eq_none→Xcp,replicate→Xw,prefix_refl→Xfm,nil_prefix→Xgu,prefix_append_right_inj→Xev,length_replicate→Xfx,append_nil→Xcw,getElem?_toArray→Xek,append_assoc→Xbj,getElem?_append→Xax,getElem?_take→Xbk,getElem?_drop→Xbm,getElem?_eq_some_iff→Xad,drop_drop→Xdn,take_append_drop→Xcx,length_take→Xaw,mem_cons_self→Xh,mem_cons_of_mem→Xe,mem_map_of_mem→Xan,pairwise_cons→Xv,mem_append_left→Xl,mem_append_right→Xg,length_append→Xac,map_append→Xz,pairwise_append→Xaj,mem_append→Xm,mem_map→Xt,mem_cons→Xq,getElem?_of_mem→Xdp,getElem?_eq_getElem→Xp,eq_nil_of_length_eq_zero→Xab,map_toArray→Xdr,map_cons→Xam,map_nil→Xby,append→Xf,take_length→Xdf,mem_singleton→Xaa,length→Xc,append_inj→Xfp,length_map→Xu,mem_of_mem_take→Xbq,mem_of_mem_drop→Xer,nodup_append→Xag,all_eq_true→Xai,nodup_nil→Xcq,length_drop→Xdh,sublist_append_right→Xfg,getElem?_map→Xao,all_cons→Xcn,mem_of_getElem?→Xav
open Array renaming range→Xcf,foldl_toList→Xfb,length_toList→Xat
open Nat renaming succ_mul→Xbx,mul_le_mul_right→Xbd,add_zero→Xbb,le_trans→Xcm,zero_mul→Xeq,le_refl→Xn,min_eq_left→Xca,add_assoc→Xay,lt_succ_self→Xbt,add_mul→Xct,eq_of_beq_eq_true→Xci,add_sub_cancel_left→Xcc,le_succ→Xdc
open Int renaming mul_le_mul_of_nonneg_right→Xes
open Option renaming map_eq_some_iff→Xy,map_some→Xbz,bind_eq_some_iff→Xbu,bind_some→Xd,map→Xfi
namespace Go.Sx
set_option linter.unusedVariables false
set_option linter.unusedSimpArgs false
theorem WcO:∀l:List Nat,Wbr l=true↔l.Nodup
 | []=>by simp[Wbr]
 |i::l=>by
  have h:=WgE i l;simp only[Wbr,Xi,Xap,Xah,WcO l]
  grind
theorem WrL{α:Type}(l:List α)(d:α):∀(n i:Nat),i<n*l.length->(rep l n)[i]?=some (l.getD (i%l.length) d)
 |0,i,h=>by simp at h
 |n+1,i,h=>by
  rw[rep];by_cases hi:i<l.length
  .grind [Xcs,Nat.mod_eq_of_lt,Xb]
  .have eQ:l.length<=i:=by omega
   rw[Xce eQ,WrL l d n (i-l.length) (by grind)];rw[Nat.mod_eq_sub_mod eQ]
theorem Wf1(z:Array Value)(n:Nat):((Xcf (n*z.size)).map λi=>z[i%z.size]!).toList=rep z.toList n:=by
 apply Xfd;intro i;by_cases hi:i<n*z.size
 .rw[WrL z.toList default n i (by omega)]
  grind
 grind [Xcp,Wj8]
section
variable{w0:World}{F:CS}{nt:Slots}{G0 G:GH}{ν:Nat->Nu}{objs:Wac}{nx:Nat}{st ah:St}{a:Act}{w w':World}{P:Program}{T:Tab}
theorem WhM(hh:HRel w0 F G ν objs nx w){e:Ty}(he:e.data=true):
  ∀(l:List (Nat×AVal)) (ps:List (Nat×Value)) (xs ys:List e.den) (vs:Array Value),EncL (Enc G e) xs vs.toList->ps.length=l.length->
   (∀(j:Nat) (p:Nat×AVal) (q:Nat×Value),l[j]?=some p->ps[j]?=some q->p.1=q.1/\AValRel G ν nx p.2 q.2)->Wo6 e objs l xs=some ys->
   ∃vs',Instr.fill (λi=>some (i*e.size,e.size)) vs ps=some vs'/\EncL (Enc G e) ys vs'.toList/\ys.length=xs.length
 | [],[],xs,ys,vs,hc,_,_,h=>by simp[Wo6]at h;subst h;exact⟨vs,rfl,hc,rfl⟩
 |(i,x)::l,[],_,_,_,_,hl,_,_=>by simp at hl
 | [],_::_,_,_,_,_,hl,_,_=>by simp at hl
 |(i,x)::l,(i',v)::ps,xs,ys,vs,hc,hl,hp,h=>by
  obtain⟨hi,hx⟩:=hp 0 _ _ rfl rfl;simp only at hi hx;subst hi;simp only[Wo6]at h;split at h
  .rename_i ds gh;split at h
   .rename_i d hf;split at h
    .rename_i hlt;obtain⟨h1,_⟩:=Wdh hx gh;have henc:=Wme hh h1 he hf;have hlen:v.cells.toList.length=e.size:=Enc_len _ _ _ henc;have eO:vs.toList.length=xs.length*e.size:=EncL_len (λx c hc=>Enc_len e x c hc) _ _ hc;have bY:i*e.size+e.size<=xs.length*e.size:=by rw[←Xbx];exact Xbd _ hlt
     have dH:=WhB v.cells.toList (i*e.size) 0 vs (by simp_all);simp only[Xbb]at dH;have dP:=Wkp (λx c hc=>Enc_len e x c hc) xs vs.toList i d v.cells.toList hc hlt henc;obtain⟨vs',h4,h5,h6⟩:=WhM hh he l ps (xs.set i d) ys _ (by rw[dH,hlen];exact dP) (by simp_all) (λj p q hj hq=>hp (j+1) p q (by simp_all) (by simp_all)) h;refine⟨vs',?_,h5,by grind⟩;simp only[Instr.fill];rw[Wa (by simp_all)];rw[←h4];congr 1;rw[←Xfb];simp
    grind
   grind
  grind
theorem WhO(hT:Wag P T)(hr:Rel w0 F nt G0 G ν st a w){o:Oper}(hd:∀d,o.dst=some d->nt.Ok d){t:TypeId}{n:Nat}{parts:Array (Nat×Operand)}(ho:o.op= .buildSlice t n parts)
  {ty:Ty} {et:TypeId} {te:TE} {ps:List (Nat×AVal)} {xs:List te.ty.den} (hl:look T t=some ⟨ty,false,.slice et⟩) (hle:look T et=some te)
  (h1:ps.length=parts.toList.length) (h2:∀(j:Nat) (p:Nat×AVal) (q:Nat×Operand),ps[j]?=some p->parts.toList[j]?=some q->p.1=q.1/\AValRel G ν st.nx p.2 (a.eval q.2))
  (hf:Wo6 te.ty st.objs ps (Xw n te.ty.dflt)=some xs) (hsz:n*te.ty.size<=16777216) (bd:te.ty.data=true) (hp:te.plain=true):
  Done P w0 F nt G0 o a w (st.new o.dst (.arr te.ty xs) (.s (.one (.own st.nx)))):=by
 have hu:=(hT _ _ hl).und.2.1;obtain⟨z,hz,dz⟩:=WeR (w:=w) (hT _ _ hle);rw[Wby hp]at dz;have fN:z.cells.size=te.ty.size:=by rw[←Xat,dz,Wbs]
 have dI:=Wf1 z.cells n;rw[fN,dz]at dI;obtain⟨vs',h3,h4,h5⟩:=WhM hr.h bd ps (parts.toList.map λp=>(p.1,a.eval p.2)) _ xs ((Xcf (n*te.ty.size)).map λi=>z.cells[i%te.ty.size]!) (by grind [Wgz]) (by simp[h1]) (λj p q hp hq=>by
   grind) hf
 have iw:xs.length=n:=by grind
 have hpos:=WbO te.ty;have hn:n<=16777216:=Xcm (Nat.le_mul_of_pos_right n hpos) hsz;have rh:vs'.size=n*te.ty.size:=by
  rw[←Xat,EncL_len (λx c hc=>Enc_len te.ty x c hc) _ _ h4,iw]
 obtain⟨⟨ν',h6⟩,_⟩:=WnV (t:=et) (vs:=vs') hr hd (e:=te.ty) bd (xs:=xs) (cap:=n) (cs:=vs'.toList) (by omega) (by unfold maxLen;omega) rh h4 (Xfm _) w rfl rfl rfl rfl;rw[iw]at h6;refine⟨_,_,_,G,ν',?_,.inl rfl,h6⟩;have gy:(parts.map λx=>match x with|(i,x)=>(i,a.eval x)).toList=parts.toList.map λp=>(p.1,a.eval p.2):=by simp
 simp only[execOp,ho,Instr.buildSlice,Sem.run_bind,Wk hu,Result.andThen_ok,(hT _ _ hle).sizeOf,WY hp,Wa (show¬n*te.ty.size>2^24 by omega),Sem.run_pure];by_cases h0:n*te.ty.size=0
 .have sc:n=0:=by rcases Nat.mul_eq_zero.1 h0 with h|h<;>omega
  have e1:((Xcf (n*te.ty.size)).map λi=>z.cells[i%te.ty.size]!)= #[]:=by grind
  rw[e1]at h3;have e2:∀zz:Array Value,((Xcf (n*te.ty.size)).map λi=>zz[i%zz.size]!)= #[]:=λzz=>by grind
  simp only[Wb h0,Sem.run_pure,Result.andThen_ok,e2,gy,h3,WcB];rfl
 simp_all [Wa,Sem.run_bind,Result.andThen_ok,Sem.run_pure,WcB]
theorem WiJ(hT:Wag P T)(hr:Rel w0 F nt G0 G ν st a w){o:Oper}(hd:∀d,o.dst=some d->nt.Ok d){t:TypeId}{n c:Operand}(ho:o.op= .makeSlice t n c)
  {ty:Ty} {et:TypeId} {te:TE} {n' c':Int} {k k':IntKind} (hl:look T t=some ⟨ty,false,.slice et⟩) (hle:look T et=some te) (hn:a.eval n= .int k n') (hc:a.eval c= .int k' c')
  (h0:0<=n') (h1:n'<=c') (h2:WH c'.toNat=true) (bd:te.ty.data=true) (hp:te.plain=true):
  Done P w0 F nt G0 o a w (st.new o.dst (.arr te.ty (Xw n'.toNat te.ty.dflt)) (.s (.one (.own st.nx)))):=by
 have hu:=(hT _ _ hl).und.2.1;obtain⟨i,z,hi,hs,hz,dz,mA⟩:=(hT _ _ hle).info;rw[Wby hp]at dz;rw[WY hp]at hs;have fN:z.cells.size=te.ty.size:=by rw[←Xat,dz,Wbs]
 have aC:c'.toNat<=1073741824:=by simpa [WH]using h2
 have dI:=Wf1 z.cells c'.toNat;rw[fN,dz]at dI;have se:rep (Wbu te.ty) n'.toNat<+:rep (Wbu te.ty) c'.toNat:=by
  have:∀(l:List Value) (p q:Nat),rep l p<+:rep l (p+q):=λl p q=>by
   induction p with
   |zero=>exact Xgu
   |succ p ih=>grind [Nat.succ_add,rep,Xev]
  have h:=this (Wbu te.ty) n'.toNat (c'.toNat-n'.toNat)
  rwa [show n'.toNat+(c'.toNat-n'.toNat)=c'.toNat by omega]at h
 have hb:(i.bytes:Int)*c'<=281474976710656:=by
  have h3:(i.bytes:Int)*c'<=4096*c':=Xes (by omega) (by omega);omega
 have hm:madeCells z.cells (c'.toNat*i.size)=(Xcf (c'.toNat*te.ty.size)).map λi=>z.cells[i%te.ty.size]!:=by
  rw[hs,←fN];rfl
 obtain⟨⟨ν',h6⟩,_⟩:=WnV (t:=et) (vs:=(Xcf (c'.toNat*te.ty.size)).map λi=>z.cells[i%te.ty.size]!) hr hd (e:=te.ty) bd (xs:=Xw n'.toNat te.ty.dflt) (cap:=c'.toNat) (cs:=rep (Wbu te.ty) n'.toNat) (by simp;omega) (by unfold maxLen;omega)
  (by simp) (Wgz bd _) (by simp_all) w rfl rfl rfl rfl
 rw[Xfx]at h6;refine⟨_,_,_,G,ν',?_,.inl rfl,h6⟩
 grind [execOp,Sem.run_bind,run_make,Result.andThen_ok,Sem.run_pure]
theorem Wh3(hT:Wag P T)(hr:Rel w0 F nt G0 G ν st a w){o:Oper}(hd:∀d,o.dst=some d->nt.Ok d){t:TypeId}{n c:Operand}(ho:o.op= .makeSlice t n c)
  {ty:Ty} {et:TypeId} {te:TE} {e:Ty} {n' c':Int} {k k':IntKind} (hl:look T t=some ⟨ty,false,.slice et⟩) (hle:look T et=some te) (hn:a.eval n= .int k n') (hc:a.eval c= .int k' c')
  (h0:0<=n') (h1:n'<=c') (h2:WH c'.toNat=true) (he:e.ro=te.ty) (hp:te.plain=true):
  Done P w0 F nt G0 o a w (st.new o.dst (.arr e (Xw n'.toNat e.dflt)) (.s (.one (.own st.nx)))):=by
 have hu:=(hT _ _ hl).und.2.1;obtain⟨i,z,hi,hs,hz,dz,mA⟩:=(hT _ _ hle).info;rw[Wby hp]at dz;rw[WY hp]at hs;have oU:te.ty.size=e.size:=by rw[←he,Wbw]
 have fN:z.cells.size=te.ty.size:=by rw[←Xat,dz,Wbs]
 have aC:c'.toNat<=1073741824:=by simpa [WH]using h2
 have dI:=Wf1 z.cells c'.toNat;rw[fN,dz]at dI;have se:rep (Wbu te.ty) n'.toNat<+:rep (Wbu te.ty) c'.toNat:=by
  have:∀(l:List Value) (p q:Nat),rep l p<+:rep l (p+q):=λl p q=>by
   induction p with
   |zero=>exact Xgu
   |succ p ih=>grind [Nat.succ_add,rep,Xev]
  have h:=this (Wbu te.ty) n'.toNat (c'.toNat-n'.toNat)
  rwa [show n'.toNat+(c'.toNat-n'.toNat)=c'.toNat by omega]at h
 have hb:(i.bytes:Int)*c'<=281474976710656:=by
  have h3:(i.bytes:Int)*c'<=4096*c':=Xes (by omega) (by omega);omega
 have hm:madeCells z.cells (c'.toNat*i.size)=(Xcf (c'.toNat*te.ty.size)).map λi=>z.cells[i%te.ty.size]!:=by
  rw[hs,←fN];rfl
 obtain⟨⟨ν',h6⟩,_⟩:=Who (t:=et) (vs:=(Xcf (c'.toNat*te.ty.size)).map λi=>z.cells[i%te.ty.size]!) hr hd [] (e:=e) (xs:=Xw n'.toNat e.dflt) (cap:=c'.toNat) (cs:=rep (Wbu te.ty) n'.toNat) (by simp;omega) (by unfold maxLen;omega)
  (by simp[oU]) (λφ _=>by
   obtain⟨ps,g1,g2⟩:=Wtx (G:=G) (w:=w) e n'.toNat;rw[he]at g1;exact⟨ps,g1,WlE ps g2,λp hp b o hh=>by simp_all⟩) (by simp_all) w rfl rfl rfl rfl
 rw[Xfx]at h6;refine⟨_,_,_,G,ν',?_,.inl rfl,h6⟩
 grind [execOp,Sem.run_bind,run_make,Result.andThen_ok,Sem.run_pure]
theorem Wlt(hT:Wag P T)(hr:Rel w0 F nt G0 G ν st a w){o:Oper}(hd:∀d,o.dst=some d->nt.Ok d){t:TypeId}{parts:Array (Nat×Operand)}{x:Operand}(ho:o.op= .buildSlice t 1 parts)(ct:parts.toList= [(0,x)])
  {ty:Ty} {et:TypeId} {te:TE} {e:Ty} {xv:AVal} {ds:List Cell} {d:e.den} {m:List Nat} (hl:look T t=some ⟨ty,false,.slice et⟩) (hle:look T et=some te) (hx:AValRel G ν st.nx xv (a.eval x)) (gh:WgF xv=some ds)
  (hf:Waq e ds st.objs=some (d,m,[])) (hm:m.Nodup) (he:e.ro=te.ty) (hp:te.plain=true) (hsz:te.ty.size<=16777216):
  Done P w0 F nt G0 o a w (({env:=st.env,objs:=(st.nx,.arr e [d])::kill st.objs m,nx:=st.nx+1}:St).put o.dst (.s (.one (.own st.nx)))):=by
 have hu:=(hT _ _ hl).und.2.1;obtain⟨z,hz,dz⟩:=WeR (w:=w) (hT _ _ hle);rw[Wby hp]at dz;have oU:te.ty.size=e.size:=by rw[←he,Wbw]
 have fN:z.cells.size=te.ty.size:=by rw[←Xat,dz,Wbs]
 have dI:=Wf1 z.cells 1;rw[fN,dz]at dI;simp only[rep,Xcw,Nat.one_mul]at dI;obtain⟨h1,h2⟩:=Wdh hx gh;have dH:∀φ,HR w0 F G ν φ st.objs st.nx w->∃ps,EncP (TyRel G w e) [d] (a.eval x).cells.toList ps/\Sep (ps.map Pc.fp)/\∀p∈ps,CS.le p.fp (FromL φ st.objs m):=λφ hφ=>by
  obtain⟨ns,g1,g2,g3,_⟩:=Wae (G':=G) hφ (λ_ _ _ hh=>hh) e ds _ d m [] h1 (λi hi=>by simp at hi) hm hf;exact⟨ns,Woy.2 g1,g2,g3⟩
 have hlen:(a.eval x).cells.size=e.size:=by
  obtain⟨φ,hφ⟩:=hr.h;obtain⟨ps,g1,_⟩:=dH φ hφ;have:=WD _ _ _ _ (Woy.1 g1);simpa using this
 have wL:((Xcf te.ty.size).map λi=>z.cells[i%te.ty.size]!).size=te.ty.size:=by simp
 have dP:=WhB (a.eval x).cells.toList 0 0 ((Xcf te.ty.size).map λi=>z.cells[i%te.ty.size]!) (by simp;omega);have nW:((Xcf te.ty.size).map λi=>z.cells[i%te.ty.size]!).toList.length=e.size:=by simp[oU]
 have eO:((a.eval x).cells.toList.zipIdx.foldl (λcs (c,j)=>cs.setIfInBounds (0+j) c) ((Xcf te.ty.size).map λi=>z.cells[i%te.ty.size]!)).toList=(a.eval x).cells.toList:=by
  rw[dP];simp only[Nat.zero_add,List.take_zero,List.nil_append];rw[List.drop_eq_nil_of_le (by rw[nW];simp;omega),Xcw]
 generalize hV:(a.eval x).cells.toList.zipIdx.foldl (λcs (c,j)=>cs.setIfInBounds (0+j) c) ((Xcf te.ty.size).map λi=>z.cells[i%te.ty.size]!)=V at eO;have hVs:V.size=1*e.size:=by rw[←Xat,eO];simp[hlen]
 obtain⟨⟨ν',h6⟩,_⟩:=Who (t:=et) (vs:=V) hr hd m (e:=e) (xs:=[d]) (cap:=1) (cs:=(a.eval x).cells.toList) (by simp) (by unfold maxLen;omega) hVs dH (by rw[eO];exact Xfm _) w rfl rfl rfl rfl;refine⟨_,_,_,G,ν',?_,.inl rfl,h6⟩;have oV:Instr.fill (λi=>some (i*te.ty.size,te.ty.size)) ((Xcf te.ty.size).map λi=>z.cells[i%te.ty.size]!) [(0,a.eval x)]=some V:=by
  simp only[Instr.fill,Xeq];rw[Wa (by simp;omega),←hV];congr 1;rw[←Xfb];simp
 have gy:(parts.map λx=>match x with|(i,x)=>(i,a.eval x)).toList= [(0,a.eval x)]:=by simp[ct]
 have hpos:=WbO te.ty;simp only[execOp,ho,Instr.buildSlice,Sem.run_bind,Wk hu,Result.andThen_ok,(hT _ _ hle).sizeOf,WY hp,Nat.one_mul,Wa (show¬te.ty.size>2^24 by omega),Wa (show¬te.ty.size=0 by omega),Sem.run_pure,hz,fN,gy,oV,WcB];rfl
theorem Wee{t:TypeId}{te:TE}(bF:TEok P T t te){b off:Nat}{v:Value}{cur:Array Value}{TT:TypeId}(hg:w.heap[b]?=some (.cells cur TT (0,0)))(hsz:te.size=v.cells.size)(bY:off+v.cells.size<=cur.size)(h1:∀u∈v.cells.toList,u.oneCell'=true):
  (storeVar t ⟨b,off,none⟩ v).run P w= .ok () (w.setRow b (cur.toList.take off++v.cells.toList++cur.toList.drop (off+v.cells.size)).toArray):=by
 have h:=run_storeCells_at P b off TT v.cells.toList 0 cur w hg (by simpa using bY) h1;simp only[Xbb,Xat]at h;simp[storeVar,bF.sizeOf,hsz,h]
theorem WcQ{b k:Nat}{vs:Array Value}{T:TypeId}{news:List Value}(h:w.heap[b]?=some (Obj.cells vs T (0,0)))(bY:k+news.length<=vs.size):
  WLe (rng b k news.length) w (w.setRow b (vs.toList.take k++news++vs.toList.drop (k+news.length)).toArray)/\Mem (w.setRow b (vs.toList.take k++news++vs.toList.drop (k+news.length)).toArray) b k news:=by
 have hk:(vs.toList.take k).length=k:=by simp;omega
 constructor
 .refine WLe.setRow h (by simp;omega) (λo hn=>?_);have sf:¬(k<=o/\o<k+news.length):=λ⟨h1,h2⟩=>hn ⟨rfl,h1,h2⟩;simp only[Xek,Xbj];rw[Xax,hk];split
  .rename_i hlt;rw[Xbk,Wb hlt];simp
  .rw[Xax];split
   .omega
   .rw[Xbm,show k+news.length+(o-k-news.length)=o by omega];simp
 .intro j v hj;rw[cell_of_row _ b _ _ T (0,0) (setRow_heap w b vs _ T (0,0) h)];have hlt:j<news.length:=(Xad.1 hj).1;simp only[Xek,Xbj];rw[Xce (by omega),hk,Xcs (by omega),show k+j-k=j by omega];exact hj
theorem WeE{b o k:Nat}{vs us:List Value}(hm:Mem w b o vs)(hw:WLe (rng b (o+k) us.length) w w')(hu:Mem w' b (o+k) us)(hk:k+us.length<=vs.length):Mem w' b o (vs.take k++us++vs.drop (k+us.length)):=λj v hj=>by
 have fO:∀v',vs[j]?=some v'->¬(k<=j/\j<k+us.length)->w'.cell? ⟨b,o+j,none⟩=some v':=λv' hv hn=>by
  have h1:=hm j v' hv;rw[hw.cell b (o+j) (block_lt_of_cell h1) (λ⟨_,h2,h3⟩=>hn ⟨by omega,by omega⟩)];exact h1
 have eR:(vs.take k).length=k:=by simp;omega
 rw[Xbj,Xax,eR]at hj;split at hj
 .rename_i hlt;rw[Xbk,Wb hlt]at hj;exact fO v hj (by omega)
 .rw[Xax]at hj;split at hj
  .have:=hu (j-k) v hj;rw[show o+j=o+k+(j-k) by omega];exact this
  .rw[Xbm,show k+us.length+(j-k-us.length)=j by omega]at hj;exact fO v hj (by omega)
theorem HR.turn{φ:Nat->CS}(h:HR w0 F G ν φ objs nx w){id:Nat}{ob cD:Ob}{m:List Nat}(ho:look objs id=some ob)(hd:ob≠ .dead){S:CS}(hw:WLe S w w')(hs:CS.le S (φ id))
  (cT:Wcs G ν nx w' id (λb o=>φ id b o\/FromL φ objs m b o) cD):HRel w0 F G ν ((id,cD)::kill objs m) nx w':=by
 have hl:Live objs id:=⟨ob,ho,hd⟩;exact⟨_,h.put (ν':=ν) (λ_ _=>rfl) (Xn _) (h.lt id hl) (hw.mono λb o hh=>⟨id,.inl rfl,hl,hs b o hh⟩) (λb o hh=>by
  rcases hh with hh|⟨i,hi,h1,h2⟩
  .exact .inl ⟨id,.inl rfl,hl,hh⟩
  .exact .inl ⟨i,.inr hi,h1,h2⟩) (λ_=>cT)⟩
theorem WpH(hT:Wag P T)(hr:Rel w0 F nt G0 G ν st a w){o:Oper}{t:TypeId}{x y:Operand}(ho:o.op= .store t x y)(iy:o.dst=none){p v:AVal}(hx:AValRel G ν st.nx p (a.eval x))(hy:AValRel G ν st.nx v (a.eval y))
  (h:WcP T st t p v=some ah):Done P w0 F nt G0 o a w ah:=by
 unfold WcP at h;split at h
 .rename_i te id off ds hl gh;obtain⟨gz,kK⟩:=Wdh hy gh;split at h
  .rename_i cs az;split at h
   .rename_i br;simp only[Xi,Wh]at br;obtain⟨⟨hs,eB⟩,bY⟩:=br;injection h with h;subst h;obtain⟨⟨_,b,hb,iz⟩,_⟩:=hx;obtain⟨φ,hφ⟩:=hr.h;obtain⟨b',vs,hb',⟨row,TT,fe,hrow⟩,hmem,bC,eC⟩:=hφ.ob _ _ az;rw[hb]at hb';injection hb' with hb';subst hb';have hlen:(a.eval y).cells.size=ds.length:=by have:=gz.1;simpa using this
    have hrun:=Wee (w:=w) (hT _ _ hl) (b:=b) (off:=(ν id).off+off) (v:=a.eval y) fe (by rw[WY eB,hlen];exact hs) (by omega) kK;obtain⟨hw,hm⟩:=WcQ (k:=(ν id).off+off) (news:=(a.eval y).cells.toList) fe (by simp;omega);simp only[Xat]at hw hm;generalize w.setRow b (row.toList.take ((ν id).off+off)++(a.eval y).cells.toList++row.toList.drop ((ν id).off+off+(a.eval y).cells.size)).toArray=W at hrun hw hm;have cT:HRel w0 F G ν ((id,.box (WdX cs off ds))::st.objs) st.nx W:=by
     refine hφ.turn (m:=[]) az (by simp) hw (λb' o ⟨e,h1,h2⟩=>eC b' o ⟨e,by omega,by omega⟩) ?_;refine⟨b,_,hb,by rw[WeK bY];exact hw.rows.row _ _ ⟨row,TT,fe,hrow⟩,WeE hmem (us:=(a.eval y).cells.toList) (by rw[Xat];exact hw) hm (by rw[bC.1];simp;omega),WeN bC gz,λb o hh=>.inl (eC b o (by rw[WeK bY]at hh;exact hh))⟩
    refine⟨.skip,undef,W,G,ν,?_,.inr ⟨rfl,rfl⟩,?_⟩
    .simp only[execOp,ho,iz,Instr.storeAt,Instr.sureAddr,Sem.run_bind,Sem.run_pure,Result.andThen_ok,hrun]
    .rw[iy];exact hr.on (λ_ _ _ hh=>hh) (λ_ _=>rfl) (Xn _) cT hr.gx
   .simp at h
  .simp at h
 .rename_i te id i off ds hl gh;obtain⟨gz,kK⟩:=Wdh hy gh;split at h
  .rename_i e xs az;split at h
   .rename_i br;simp only[Xi,Wh]at br;obtain⟨⟨⟨hs,eB⟩,bY⟩,bd⟩:=br;split at h
    .rename_i d hf;injection h with h;subst h;obtain⟨⟨_,sh,b,hb,iz⟩,_⟩:=hx;obtain⟨φ,hφ⟩:=hr.h;have hown:OwnL w (TyRel G w e) e.size (ν id) xs (φ id):=hφ.ob _ _ az;obtain⟨iw,h4,h5,jH,cs,h7,h8,h9⟩:=Wdq bd hown hb;obtain⟨row,TT,fe,hrow⟩:=jH;have bX:=hown.2.1;have hlt:i<xs.length:=by omega
     have hlen:(a.eval y).cells.toList.length=ds.length:=gz.1;have bQ:(a.eval y).cells.size=ds.length:=by simpa using hlen
     have hcl:cs.length=xs.length*e.size:=EncL_len (λx c hc=>Enc_len e x c hc) _ _ h7;have wM:i*e.size+e.size<=xs.length*e.size:=by rw[←Xbx];exact Xbd _ hlt
     have wN:xs.length*e.size<=(ν id).cap*e.size:=Xbd _ h4;have si:=Wlr (λx c hc=>Enc_len e x c hc) xs cs i e.dflt h7 hlt;have sj:=WeN (off:=off) (WaA (G:=G) (ν:=ν) (nx:=st.nx) e _ _ si) gz;have henc:=Wme hr.h sj bd hf;have dP:=Wkp (λx c hc=>Enc_len e x c hc) xs cs i d _ h7 hlt henc;have hrun:=Wee (w:=w) (hT _ _ hl) (b:=b) (off:=(ν id).off+(i*e.size+off)) (v:=a.eval y) fe (by rw[WY eB];omega) (by omega) kK;obtain⟨hw,hm⟩:=WcQ (k:=(ν id).off+(i*e.size+off)) (news:=(a.eval y).cells.toList) fe (by omega);simp only[Xat]at hw hm;generalize w.setRow b (row.toList.take ((ν id).off+(i*e.size+off))++(a.eval y).cells.toList++row.toList.drop ((ν id).off+(i*e.size+off)+(a.eval y).cells.size)).toArray=W at hrun hw hm;have mB:cs.take (i*e.size+off)++(a.eval y).cells.toList++cs.drop (i*e.size+off+(a.eval y).cells.toList.length)=
       cs.take (i*e.size)++(((cs.drop (i*e.size)).take e.size).take off++(a.eval y).cells.toList++((cs.drop (i*e.size)).take e.size).drop (off+(a.eval y).cells.toList.length))++cs.drop (i*e.size+e.size):=by
      rw[hlen];have e1:cs.take (i*e.size+off)=cs.take (i*e.size)++((cs.drop (i*e.size)).take e.size).take off:=by
       rw[List.take_take,Xca (by omega),←List.take_add]
      have e2:cs.drop (i*e.size+off+ds.length)=((cs.drop (i*e.size)).take e.size).drop (off+ds.length)++cs.drop (i*e.size+e.size):=by
       rw[List.drop_take,Xdn];have:cs.drop (i*e.size+e.size)=(cs.drop (i*e.size+(off+ds.length))).drop (e.size-(off+ds.length)):=by rw[Xdn];congr 1;omega
       rw[this,Xcx];congr 1;omega
      rw[e1,e2];simp
     have cT:HRel w0 F G ν ((id,.arr e (xs.set i d))::st.objs) st.nx W:=by
      refine hφ.turn (m:=[]) az (by simp) hw (λb' o ⟨e',h1,h2⟩=>h9 b' o ⟨e',by omega,by omega⟩) ?_;refine Wmi bd hb (by simpa using iw) bX (by simpa using h4) h5 (hw.rows.row _ _ ⟨row,TT,fe,hrow⟩) dP ?_ (λb o hh=>.inl (h9 b o hh));rw[←mB];exact WeE h8 (us:=(a.eval y).cells.toList) (by rw[Xat];exact hw) hm (by omega)
     refine⟨.skip,undef,W,G,ν,?_,.inr ⟨rfl,rfl⟩,?_⟩
     .simp only[execOp,ho,iz,bX,Instr.storeAt,Instr.sureAddr,Sem.run_bind,Sem.run_pure,Result.andThen_ok,hrun]
     .rw[iy];exact hr.on (λ_ _ _ hh=>hh) (λ_ _=>rfl) (Xn _) cT hr.gx
    .simp at h
   .split at h
    .rename_i br;simp only[Xi,Wh]at br;obtain⟨⟨⟨hs,eB⟩,sm⟩,wO⟩:=br;subst sm;split at h
     .rename_i d m hf;split at h
      .rename_i aV;injection h with h;subst h;have aV:(id::m).Nodup:=(WcO _).1 aV;obtain⟨ri,wP⟩:=Xah.1 aV;obtain⟨⟨_,sh,b,hb,iz⟩,_⟩:=hx;obtain⟨φ,hφ⟩:=hr.h;have hown:OwnL w (TyRel G w e) e.size (ν id) xs (φ id):=hφ.ob _ _ az;have aI:Live st.objs id:=⟨_,az,by simp⟩;obtain⟨iw,bX,h3⟩:=hown;simp only[hb]at h3;obtain⟨h4,h5,jH,cs,ps,h7,h8,h9,cC⟩:=h3;obtain⟨row,TT,fe,hrow⟩:=jH;have hlt:i<xs.length:=by omega
       have hlen:(a.eval y).cells.toList.length=ds.length:=gz.1;have bQ:(a.eval y).cells.size=ds.length:=by simpa using hlen
       have wM:i*e.size+e.size<=xs.length*e.size:=by rw[←Xbx];exact Xbd _ hlt
       have wN:xs.length*e.size<=(ν id).cap*e.size:=Xbd _ h4;obtain⟨c1,c,c2,p1,pc,p2,g1,g2,g3,g4,g5⟩:=Wnp h7 e.dflt hlt;have l1:=WaZ (λx c q hx=>WD e x c q hx) _ _ _ g3;rw[Xaw,Xca (by omega)]at l1;have lc:=WD _ _ _ _ g4;obtain⟨ns,t1,t2,t3,t4,_⟩:=Wae (G':=G) hφ (λ_ _ _ hh=>hh) e ds _ d m [] gz (λi hi=>by simp at hi) wP hf;have hrun:=Wee (w:=w) (hT _ _ hl) (b:=b) (off:=(ν id).off+(i*e.size+0)) (v:=a.eval y) fe (by rw[WY eB];omega) (by omega) kK;obtain⟨hw,hm⟩:=WcQ (k:=(ν id).off+(i*e.size+0)) (news:=(a.eval y).cells.toList) fe (by omega);simp only[Xat]at hw hm;generalize w.setRow b (row.toList.take ((ν id).off+(i*e.size+0))++(a.eval y).cells.toList++row.toList.drop ((ν id).off+(i*e.size+0)+(a.eval y).cells.size)).toArray=W at hrun hw hm;have gB:CS.le (rng b ((ν id).off+(i*e.size+0)) (a.eval y).cells.size) (rng b (ν id).off ((ν id).cap*e.size)):=λb' o ⟨e',k1,k2⟩=>⟨e',by omega,by omega⟩;have fR:=cC _ (Xh ..);have hbl:∀p∈p1++(pc++p2),∀b o,p.fp b o->b<w.heap.size:=λp hp b o hh=>hφ.bl id b o aI (cC p.fp (Xe _ (Xan (by rw[g2];exact hp))) b o hh);obtain⟨q1,q2⟩:=Xv.1 h9;have hY:∀p∈p1++(pc++p2),Same p.fp w W:=λp hp=>hw.same ((q1 p.fp (Xan (by rw[g2];exact hp))).mono gB (λ_ _ hh=>hh)) (hbl p hp);have jI:∀p∈ns,Same p.fp w W:=λp hp=>hw.same (λb o k1 k2=>by
        obtain⟨j,hj,k3,k4⟩:=t3 p hp b o k2;have:=hφ.inj id j b o aI k3 (fR b o (gB b o k1)) k4;subst this;exact ri hj) (λb o hh=>by
        obtain⟨j,hj,k3,k4⟩:=t3 p hp b o hh;exact hφ.bl j b o k3 k4)
       have hEnc:EncP (TyRel G W e) (xs.set i d) (c1++((a.eval y).cells.toList++c2)) (p1++(ns++p2)):=by
        refine WoS hlt ?_ (Way (λ_ _ _ hh=>hh) e _ _ _ jI t1) ?_
        .exact WbM (Q:=λq=>Same q.fp w W) (λx c q hq hx=>Way (λ_ _ _ hh=>hh) e x c q hq hx) _ _ _ (λq hq=>hY q (Xl _ hq)) g3
        .exact WbM (Q:=λq=>Same q.fp w W) (λx c q hq hx=>Way (λ_ _ _ hh=>hh) e x c q hq hx) _ _ _ (λq hq=>hY q (Xg _ (Xg _ hq))) g5
       have hMem:Mem W b (ν id).off (c1++((a.eval y).cells.toList++c2)):=by
        have:=WeE h8 (k:=i*e.size+0) (us:=(a.eval y).cells.toList) (by rw[Xat];exact hw) hm (by rw[g1];simp;omega);rw[g1,Xbb,List.take_append_of_le_length (by omega),List.take_of_length_le (by omega)]at this;have oW:(c1++(c++c2)).drop (i*e.size+(a.eval y).cells.toList.length)=c2:=by
         rw[←Xbj,show i*e.size+(a.eval y).cells.toList.length=(c1++c).length by rw[Xac];omega,List.drop_left]
        rw[oW,Xbj]at this;exact this
       have cT:HRel w0 F G ν ((id,.arr e (xs.set i d))::kill st.objs m) st.nx W:=by
        refine hφ.turn az (by simp) hw (λb' o hh=>fR b' o (gB b' o hh)) ?_;refine⟨by simpa using iw,bX,?_⟩;simp only[hb];rw[g2,Xz,Xz]at q2 q1;have qA:=Xaj.1 q2;have qB:=Xaj.1 qA.2.1;have mC:∀p∈ns,∀s,CS.le s (φ id)->CS.disj p.fp s:=λp hp s hs b o k1 k2=>by
         obtain⟨j,hj,k3,k4⟩:=t3 p hp b o k1;have:=hφ.inj id j b o aI k3 (hs b o k2) k4;subst this;exact ri hj
        have ct:∀p∈p1++(pc++p2),CS.le p.fp (φ id):=λp hp=>cC p.fp (Xe _ (Xan (by rw[g2];exact hp)));refine⟨by simpa using h4,h5,hw.rows.row _ _ ⟨row,TT,fe,hrow⟩,_,p1++(ns++p2),hEnc,hMem,Xv.2 ⟨λs hs=>?_,?_⟩,λs hs=>?_⟩
        .simp only[Xz,Xm]at hs;rcases hs with hs|hs|hs
         .exact q1 s (Xl _ hs)
         .obtain⟨p,hp,rfl⟩:=Xt.1 hs;exact(mC p hp _ fR).symm
         .exact q1 s (Xg _ (Xg _ hs))
        .rw[Xz,Xz];refine Wmt (Xaj.2 ⟨qA.1,qB.2.1,λs hs t ht=>qA.2.2 s hs t (Xg _ ht)⟩) t2 (λs hs t ht=>?_);obtain⟨p,hp,rfl⟩:=Xt.1 hs;rcases Xm.1 ht with ht|ht
         .obtain⟨q,hq,rfl⟩:=Xt.1 ht;exact mC p hp _ (ct q (Xl _ hq))
         .obtain⟨q,hq,rfl⟩:=Xt.1 ht;exact mC p hp _ (ct q (Xg _ (Xg _ hq)))
        .intro b o hh;rcases Xq.1 hs with rfl|hs
         .exact .inl (fR b o hh)
         .simp only[Xz,Xm]at hs;rcases hs with hs|hs|hs
          .obtain⟨q,hq,rfl⟩:=Xt.1 hs;exact .inl (ct q (Xl _ hq) b o hh)
          .obtain⟨q,hq,rfl⟩:=Xt.1 hs;exact .inr (t3 q hq b o hh)
          .obtain⟨q,hq,rfl⟩:=Xt.1 hs;exact .inl (ct q (Xg _ (Xg _ hq)) b o hh)
       refine⟨.skip,undef,W,G,ν,?_,.inr ⟨rfl,rfl⟩,?_⟩
       .simp only[execOp,ho,iz,bX,Instr.storeAt,Instr.sureAddr,Sem.run_bind,Sem.run_pure,Result.andThen_ok,hrun]
       .rw[iy];exact hr.on (λ_ _ _ hh=>hh) (λ_ _=>rfl) (Xn _) cT hr.gx
      .simp at h
     .simp at h
    .simp at h
  .simp at h
 .simp at h
end
end Go.Sx
namespace Go.Sx
set_option linter.unusedVariables false
set_option linter.unusedSimpArgs false
theorem WuI{G:GH}(t:Ty)(d:t.den)(cs:List Value)(h:Enc G t d cs):∀u∈cs,u.oneCell'=true:=λu hu=>by
 obtain⟨j,hj⟩:=Xdp hu;have hc:=WaA (ν:=λ_=>⟨none,0,0,0,0⟩) (nx:=0) t d cs h;have hlt:j<(split t d).length:=by rw[←hc.1];grind
 exact(hc.2 j _ u (Xp hlt) hj).2
theorem WoT{G:GH}{t:Ty}:∀(l:List t.den) (cs:List Value),EncL (Enc G t) l cs->∀u∈cs,u.oneCell'=true
 | [],cs,h,u,hu=>by grind [EncL]
 |x::l,cs,⟨c1,c2,he,h1,h2⟩,u,hu=>by
  subst he;rcases Xm.1 hu with hu|hu
  .grind [WuI]
  .exact WoT l c2 h2 u hu
theorem Wp2{G:GH}{w:World}(t:Ty)(d:t.den)(cs:List Value)(ps:List Pc)(h:TyRel G w t d cs ps):∀u∈cs,u.oneCell'=true:=λu hu=>by
 obtain⟨j,hj⟩:=Xdp hu;have hc:=Whu (ν:=λ_=>⟨none,0,0,0,0⟩) (nx:=0) t d cs ps h;have hlt:j<(split t d).length:=by rw[←hc.1];grind
 exact(hc.2 j _ u (Xp hlt) hj).2
theorem WmN{G:GH}{w:World}{t:Ty}:∀(l:List t.den) (cs:List Value) (ps:List Pc),EncP (TyRel G w t) l cs ps->∀u∈cs,u.oneCell'=true
 | [],cs,ps,h,u,hu=>by rw[h.1]at hu;simp at hu
 |x::l,cs,ps,⟨c1,c2,p1,p2,he,hp,h1,h2⟩,u,hu=>by
  subst he;rcases Xm.1 hu with hu|hu
  .grind [Wp2]
  .exact WmN l c2 p2 h2 u hu
section
variable{w0:World}{F:CS}{nt:Slots}{G0 G:GH}{ν:Nat->Nu}{φ:Nat->CS}{objs:Wac}{nx:Nat}{st ah:St}{a:Act}{w w':World}{P:Program}{T:Tab}
structure Src(w0:World)(F:CS)(G:GH)(ν:Nat->Nu)(st:St)(w:World)(e:Ty)(l:List e.den)(m:List Nat)(v:Value)(news:List Value):Prop where
 enc:∀φ,HR w0 F G ν φ st.objs st.nx w->∃ps,EncP (TyRel G w e) l news ps/\Sep (ps.map Pc.fp)/\∀p∈ps,CS.le p.fp (FromL φ st.objs m)
 rd:(v= .slice none 0 0/\l= [])\/∃(p:Addr) (c:Nat),v= .slice (some p) l.length c/\∀(j:Nat) (u:Value),news[j]?=some u->w.cell? (p.add j)=some u
theorem Wcv{e:Ty}(he:e.data=true){l:List e.den}{m:List Nat}{v:Value}{news:List Value}(h:EncL (Enc G e) l news)
  (rd:(v= .slice none 0 0/\l= [])\/∃(p:Addr) (c:Nat),v= .slice (some p) l.length c/\∀(j:Nat) (u:Value),news[j]?=some u->w.cell? (p.add j)=some u):Src w0 F G ν st w e l m v news:=
 ⟨λφ _=>⟨[],(EncP_data he l news []).2 ⟨h,rfl⟩,List.Pairwise.nil,by simp⟩,rd⟩
theorem WhF(hr:Rel w0 F nt G0 G ν st a w){e:Ty}(he:e.data=true){x:AVal}{u:Value}{l:List e.den}(m:List Nat)(hx:AValRel G ν st.nx x u)(h:Wux st e x=some l):∃news,Src w0 F G ν st w e l m u news:=by
 unfold Wux at h;split at h
 .rename_i e' d';obtain⟨d6,hd⟩:=War h;subst d6;simp only at hd;subst hd;obtain⟨⟨v,hv,hs⟩,_⟩:=hx;simp at hv;subst hv;rcases hs with⟨rfl,hn⟩|⟨b,off,cap,cs,rfl,h1,h2,h3,h4⟩|⟨a',cap,rfl,hn⟩
  rotate_left 2
  .exact⟨[],Wcv he (by rw[hn];rfl) (.inr ⟨a',cap,by grind,λj u hj=>by simp at hj⟩)⟩
  .exact⟨[],Wcv he (by rw[hn];rfl) (.inl ⟨rfl,hn⟩)⟩
  .exact⟨cs,Wcv he h3 (.inr ⟨⟨b,off,none⟩,cap,rfl,λj u hj=>by rw[WaU];exact hr.h.g (h4 j u hj)⟩)⟩
 .injection h with h;subst h;obtain⟨hv,_⟩:=hx;simp only[CellRel]at hv;subst hv;exact⟨[],Wcv he rfl (.inl ⟨rfl,rfl⟩)⟩
 .rename_i id;split at h
  .rename_i e' xs ho;obtain⟨d6,hd⟩:=War h;subst d6;simp only at hd;subst hd;obtain⟨⟨_,hv⟩,_⟩:=hx;subst hv;obtain⟨S,az⟩:=hr.h.obj ho;unfold Nu.hdr;cases hb:(ν id).blk with
   |none=>have:=Wcm az hb;exact⟨[],Wcv he (by rw[this];rfl) (.inl ⟨rfl,this⟩)⟩
   |some b=>
    obtain⟨h1,h2,h3,h4,cs,h5,h6,h7⟩:=Wdq he az hb;exact⟨cs,Wcv he h5 (.inr ⟨⟨b,(ν id).off,none⟩,(ν id).cap,by rw[h1],λj u hj=>by rw[WaU];exact h6 j u hj⟩)⟩
  grind
 .rename_i id lo hi;split at h
  .rename_i e' xs ho;obtain⟨ys,hc,h⟩:=Xy.1 h;subst h;obtain⟨d6,hd⟩:=War hc;subst d6;simp only at hd;subst hd;obtain⟨⟨_,g1,g2,g3,hv⟩,_⟩:=hx;subst hv;obtain⟨S,az⟩:=hr.h.obj ho;have bX:=az.2.1;have uD:=az.1;unfold Nu.vhdr;cases hb:(ν id).blk with
   |none=>
    have:=Wcm az hb;subst this;exact⟨[],Wcv he (by simp;rfl) (.inl ⟨rfl,by simp⟩)⟩
   |some b=>
    obtain⟨h1,h2,h3,h4,cs,h5,h6,h7⟩:=Wdq he az hb;have hl:((xs.take hi).drop lo).length=hi-lo:=by simp;omega
    by_cases so:(ν id).cap=lo
    .have h0:(xs.take hi).drop lo= []:=Xab (by omega);exact⟨[],Wcv he (by rw[h0];rfl) (.inr ⟨_,_,by rw[hl],λj u hj=>by simp at hj⟩)⟩
    .refine⟨(cs.take (hi*e'.size)).drop (lo*e'.size),Wcv he (Wem (λx c hc=>Enc_len e' x c hc) _ _ lo (Wei (λx c hc=>Enc_len e' x c hc) _ _ hi h5)) (.inr ⟨_,_,by rw[hl,Wa so],λj u hj=>?_⟩)⟩;rw[Xbm,Xbk]at hj;rw[WaU,bX,Xay];split at hj
     .exact h6 _ u hj
     grind
  grind
 grind
theorem Wqs(hr:Rel w0 F nt G0 G ν st a w){dst:Option Tmp}(hd:∀d,dst=some d->nt.Ok d)(e:Ty)(m:List Nat):
  ∃ν',Rel w0 F nt G0 G ν' (({env:=st.env,objs:=(st.nx,.arr e [])::kill st.objs m,nx:=st.nx+1}:St).put dst (.s (.one (.own st.nx)))) (a.put dst (.slice none 0 0)) w:=by
 refine⟨upd ν st.nx ⟨none,0,0,0,e.size⟩,hr.fresh hd m (.arr e []) _ (λ_ _ _=>False) _ _ (λφ _=>WLe.refl _ w) (λφ _ b o hh=>hh.elim) (λφ _=>?_) ⟨⟨Xbt _,by rw[Wbm];rfl⟩,rfl⟩⟩;show OwnL _ _ _ (upd ν st.nx ⟨none,0,0,0,e.size⟩ st.nx) _ _;rw[Wbm];exact⟨rfl,rfl,rfl⟩
theorem WhE(t ty e TT:TypeId)(i:TypeInfo)(ht:P.underlying t=some (.slice e))(hi:P.info? e=some i)
  (g off sLen sCap:Nat) (cur:Array Value) (hg:w.heap[g]?=some (.cells cur TT (0,0)))
  (p:Addr) (m c:Nat) (news:List Value) (hl:news.length=m*i.size) (oX:∀j u,news[j]?=some u->w.cell? (p.add j)=some u) (h1:∀u∈news,u.oneCell'=true)
  (aC:sLen+m<=sCap) (bY:off+sLen*i.size+news.length<=cur.size):
  (Builtin.append_ #[t,t] ty #[.slice (some ⟨g,off,none⟩) sLen sCap,.slice (some p) m c]).run P w=
   .ok (.slice (some ⟨g,off,none⟩) (sLen+m) sCap) (w.setRow g (cur.toList.take (off+sLen*i.size)++news++cur.toList.drop (off+sLen*i.size+news.length)).toArray):=by
 have hf:=run_firstCells_some (P:=P) w i.size m p m c news hl oX;have aS:=run_storeCells_at P g (off+sLen*i.size) TT news 0 cur w hg (by omega) h1;simp only[Xbb]at aS;simp[Builtin.append_,Wk ht,sizeOf,typeInfo,hi,Builtin.lenOf,aC,hf,WaU,aS]
theorem Weh(t ty e:TypeId)(i:TypeInfo)(ht:P.underlying t=some (.slice e))(hi:P.info? e=some i)(base:Option Addr)(n cap:Nat)(h:n<=cap):
  (Builtin.append_ #[t,t] ty #[.slice base n cap,.slice none 0 0]).run P w= .ok (.slice base n cap) w:=by
 cases base<;>simp[Builtin.append_,Wk ht,sizeOf,typeInfo,hi,Builtin.lenOf,h,Builtin.firstCells,storeCells]
theorem WhW(t ty e:TypeId)(i:TypeInfo)(ht:P.underlying t=some (.slice e))(hi:P.info? e=some i)(p:Addr)(c:Nat):
  (Builtin.append_ #[t,t] ty #[.slice none 0 0,.slice (some p) 0 c]).run P w= .ok (.slice none 0 0) w:=by
 simp[Builtin.append_,Wk ht,sizeOf,typeInfo,hi,Builtin.lenOf,Builtin.firstCells,loadCells,loadCellsFrom]
theorem Wb1{o:Oper}{c:Call}(ho:o.op= .call c){s x:Operand}{t:TypeId}(hc:c.callee= .builtin .append)(ha:c.args.toList= [s,x])(cW:c.argTypes.toList= [t,t]){v:Value}
  (hrun:(Builtin.append_ #[t,t] o.type #[a.eval s,a.eval x]).run P w= .ok v w'):(execOp a.eval o).run P w= .ok (.value v) w':=by
 obtain⟨callee,args,argTypes⟩:=c;obtain⟨args⟩:=args;obtain⟨argTypes⟩:=argTypes;simp only at hc ha cW;subst hc ha cW;simp only[execOp,ho,resolve,invoke,builtin,Sem.run_bind,Sem.run_pure,Result.andThen_ok,Xdr,Xam,Xby,hrun]
theorem WtM(w:World)(need old:Nat)(e:TypeId)(h:WH need=true):need<=grownCap w need old e/\grownCap w need old e<=maxLen:=
 ⟨grownCap_ge w need old e,grownCap_le_maxLen w need old e (by grind [WH,maxLen])⟩
theorem Wjw(hr:Rel w0 F nt G0 G ν st a w){dst:Option Tmp}(hd:∀d,dst=some d->nt.Ok d)(m:List Nat){e:Ty}{xs:List e.den}{cs:List Value}(hl:cs.length=xs.length*e.size)
  (hc:∀φ,HR w0 F G ν φ st.objs st.nx w->∃ps,EncP (TyRel G w e) xs cs ps/\Sep (ps.map Pc.fp)/\∀p∈ps,CS.le p.fp (FromL φ st.objs m)) {cap:Nat} (gu:xs.length<=cap) (kL:cap<=maxLen) (z:Array Value) (hz:z.size=e.size) (t:TypeId):
  ∃ν',Rel w0 F nt G0 G ν' (({env:=st.env,objs:=(st.nx,.arr e xs)::kill st.objs m,nx:=st.nx+1}:St).put dst (.s (.one (.own st.nx)))) (a.put dst (.slice (some ⟨w.heap.size,0,none⟩) xs.length cap)) (w.drew.alloc (.cells (cs.toArray++Builtin.zeroCells z (cap-xs.length)) t)):=by
 refine(Who hr hd m (e:=e) (xs:=xs) (cap:=cap) (cs:=cs) (vs:=cs.toArray++Builtin.zeroCells z (cap-xs.length)) (t:=t) gu kL ?_ hc ?_ w.drew rfl rfl rfl rfl).1
 .simp only[Array.size_append,List.size_toArray,size_zeroCells,hz,hl,←Xct];simp_all
 .simp
structure ElT(P:Program)(t et:TypeId)(e:Ty):Prop where
 u:P.underlying t=some (.slice et)
 i:∃i z,P.info? et=some i/\i.size=e.size/\i.zero=some z/\z.cells.size=e.size/\i.bytes<=4096
theorem elT(hT:Wag P T){t et:TypeId}{ty:Ty}{ag:Bool}{te:TE}{e:Ty}(hl:look T t=some ⟨ty,ag,.slice et⟩)(hle:look T et=some te)(hp:te.plain=true)(he:te.ty.size=e.size):ElT P t et e:=by
 obtain⟨i,z,hi,hsz,hz,dz,mA⟩:=(hT _ _ hle).info;rw[WY hp]at hsz;rw[Wby hp]at dz;exact⟨(hT _ _ hl).und.2.1,i,z,hi,by rw[hsz,he],hz,by rw[←Xat,dz,Wbs,he],mA⟩
theorem Wbn(hr:Rel w0 F nt G0 G ν st a w){o:Oper}(hd:∀d,o.dst=some d->nt.Ok d){c:Call}{s x:Operand}{t et:TypeId}{e:Ty}(hE:ElT P t et e)
  (ho:o.op= .call c) (hc:c.callee= .builtin .append) (ha:c.args.toList= [s,x]) (cW:c.argTypes.toList= [t,t]) (dj:a.eval s= .slice none 0 0)
  {l:List e.den} {m m':List Nat} {news:List Value} (hx:Src w0 F G ν st w e l m (a.eval x) news) (hm:∀i∈m,i∈m') (aC:WH l.length=true):
  Done P w0 F nt G0 o a w (({env:=st.env,objs:=(st.nx,.arr e l)::kill st.objs m',nx:=st.nx+1}:St).put o.dst (.s (.one (.own st.nx)))):=by
 obtain⟨hu,i,z,hi,hsz,hz,fN,mA⟩:=hE;have sq:l.length<=1073741824:=by grind [WH]
 have hpos:=WbO e;rcases hx.rd with⟨aW,bI⟩|⟨pa,cc,aW,ar⟩
 .subst bI;obtain⟨ν',hh⟩:=Wqs hr hd e m';exact⟨_,_,_,G,ν',Wb1 ho hc ha cW (by simp_all [Weh,Xn]),.inl rfl,hh⟩
 .by_cases h0:l.length=0
  .have bI:l= []:=Xab h0;subst bI;obtain⟨ν',hh⟩:=Wqs hr hd e m';exact⟨_,_,_,G,ν',Wb1 ho hc ha cW (by grind [WhW]),.inl rfl,hh⟩
  .obtain⟨φ,hφ⟩:=hr.h;obtain⟨wQ,e0,_⟩:=hx.enc φ hφ;have iX:news.length=l.length*e.size:=WaZ (λx c q hx=>WD e x c q hx) _ _ _ e0;obtain⟨kp,dZ⟩:=WtM w l.length 0 et aC;obtain⟨ν',hh⟩:=Wjw hr hd m' iX (λφ hφ=>by
    obtain⟨ps,k1,k2,k3⟩:=hx.enc φ hφ;exact⟨ps,k1,k2,λp hp b o hh=>FromL.mono hm b o (k3 p hp b o hh)⟩) kp dZ z.cells fN et
   have uE:l.length*i.bytes<=281474976710656:=by
    have:=Nat.mul_le_mul sq mA;omega
   refine⟨_,_,_,G,ν',Wb1 ho hc ha cW ?_,.inl rfl,hh⟩
   grind [run_append_nil]
theorem Wdl{e:Ty}{nu:Nu}{xs:List e.den}{S:CS}{b k:Nat}(h:OwnL w (TyRel G w e) e.size nu xs S)(hb:nu.blk=some b)(hk:k<=xs.length):
  ∃c1 p1,EncP (TyRel G w e) (xs.take k) c1 p1/\c1.length=k*e.size/\Mem w b nu.off c1/\Sep (rng b nu.off (nu.cap*e.size)::p1.map Pc.fp)/\(∀s∈rng b nu.off (nu.cap*e.size)::p1.map Pc.fp,CS.le s S):=by
 obtain⟨h1,h2,h3⟩:=h;simp only[hb]at h3;obtain⟨h4,h5,h6,cs,ps,h7,h8,h9,cC⟩:=h3;obtain⟨c1,c2,p1,p2,g1,g2,g3,g4⟩:=Wew xs cs ps k h7;have hl:=WaZ (λx c q hx=>WD e x c q hx) _ _ _ g3;rw[Xaw,Xca hk]at hl;obtain⟨q1,q2⟩:=Xv.1 h9;rw[g2,Xz]at q1 q2 cC;refine⟨c1,p1,g3,hl,by rw[g1]at h8;exact h8.left,Xv.2 ⟨λs hs=>q1 s (Xl _ hs),(Xaj.1 q2).1⟩,λs hs=>?_⟩
 grind
theorem Wda(hr:Rel w0 F nt G0 G ν st a w){o:Oper}(hd:∀d,o.dst=some d->nt.Ok d){c:Call}{s x:Operand}{t et:TypeId}{e:Ty}(hE:ElT P t et e)
  (ho:o.op= .call c) (hc:c.callee= .builtin .append) (ha:c.args.toList= [s,x]) (cW:c.argTypes.toList= [t,t])
  {id g k:Nat} {xs:List e.den} (az:look st.objs id=some (.arr e xs)) (bg:(ν id).blk=some g) (hk:k<=xs.length) (dj:a.eval s= .slice (some ⟨g,(ν id).off,none⟩) k (ν id).cap)
  {l:List e.den} {m:List Nat} {news:List Value} (hx:Src w0 F G ν st w e l m (a.eval x) news) (hm:id∉m) (aC:WH (k+l.length)=true):
  Done P w0 F nt G0 o a w (({env:=st.env,objs:=(st.nx,.arr e (Xf (xs.take k) l))::kill st.objs (id::m),nx:=st.nx+1}:St).put o.dst (.s (.one (.own st.nx)))):=by
 obtain⟨hu,i,z,hi,hsz,hz,fN,mA⟩:=hE;have sq:k+l.length<=1073741824:=by grind [WH]
 have hpos:=WbO e;have hlen:(Xf (xs.take k) l).length=k+l.length:=by show(xs.take k++l).length=_;rw[Xac,Xaw,Xca hk]
 obtain⟨φ0,hφ0⟩:=hr.h;have hZ:OwnL w (TyRel G w e) e.size (ν id) xs (φ0 id):=hφ0.ob _ _ az;have lN:=hZ.2.2;simp only[bg]at lN;obtain⟨hxc,kL,⟨row,TT,fe,hrow⟩,_⟩:=lN;obtain⟨c1,p10,_,oY,oZ,_,_⟩:=Wdl hZ bg hk;obtain⟨wQ,e0,_⟩:=hx.enc φ0 hφ0;have iX:news.length=l.length*e.size:=WaZ (λx c q hx=>WD e x c q hx) _ _ _ e0;have aI:Live st.objs id:=⟨_,az,by simp⟩;have o0:∀{c2:List Value},c2.length=k*e.size->Mem w g (ν id).off c2->c2=c1:=λ{c2} h1 h2=>Xfd λj=>by
  by_cases hj:j<k*e.size
  .have nX:j<c2.length:=by omega
   have rj:j<c1.length:=by omega
   have a1:=h2 j _ (Xp nX);have a2:=oZ j _ (Xp rj);simp_all
  simp_all
 have inplace:∀(W:World),WLe (rng g ((ν id).off+k*e.size) (l.length*e.size)) w W->Mem W g ((ν id).off+k*e.size) news->k+l.length<=(ν id).cap->
   ∃ν',Rel w0 F nt G0 G ν' (({env:=st.env,objs:=(st.nx,.arr e (Xf (xs.take k) l))::kill st.objs (id::m),nx:=st.nx+1}:St).put o.dst (.s (.one (.own st.nx)))) (a.put o.dst (.slice (some ⟨g,(ν id).off,none⟩) (k+l.length) (ν id).cap)) W:=by
  intro W hW hM bY;have jE:(k+l.length)*e.size<=(ν id).cap*e.size:=Xbd _ bY;rw[Xct]at jE;have gB:CS.le (rng g ((ν id).off+k*e.size) (l.length*e.size)) (rng g (ν id).off ((ν id).cap*e.size)):=λb o ⟨k0,k1,k2⟩=>⟨k0,by omega,by omega⟩;refine⟨upd ν st.nx ⟨some g,(ν id).off,k+l.length,(ν id).cap,e.size⟩,hr.fresh hd (id::m) (.arr e (Xf (xs.take k) l)) _ (λφ b o=>φ id b o\/FromL φ st.objs m b o) _ _ (λφ hφ=>?_) (λφ hφ b o hh=>?_) (λφ hφ=>?_) ⟨⟨Xbt _,by rw[Wbm];rfl⟩,rfl⟩⟩
  .have hown:OwnL w (TyRel G w e) e.size (ν id) xs (φ id):=hφ.ob _ _ az;obtain⟨_,_,_,_,_,_,hle⟩:=Wdl hown bg hk;exact hW.mono λb o hh=>⟨id,.inr (Xh ..),aI,hle _ (Xh ..) b o (gB b o hh)⟩
  .rcases hh with hh|⟨j,hj,h1,h2⟩
   .exact .inl ⟨id,.inr (Xh ..),aI,hh⟩
   .exact .inl ⟨j,.inr (Xe _ hj),h1,h2⟩
  .have hown:OwnL w (TyRel G w e) e.size (ν id) xs (φ id):=hφ.ob _ _ az;obtain⟨nY,p1,g3,g4,g5,g6,g7⟩:=Wdl hown bg hk;obtain⟨ps,k1,k2,k3⟩:=hx.enc φ hφ;obtain⟨q1,q2⟩:=Xv.1 g6;have fR:=g7 _ (Xh ..);have lO:∀p∈p1,CS.le p.fp (φ id):=λp hp=>g7 _ (Xe _ (Xan hp));have pd:∀p∈ps,∀S,CS.le S (φ id)->CS.disj S p.fp:=λp hp S hS b o h1 h2=>by
    obtain⟨j,hj,h3,h4⟩:=k3 p hp b o h2;have:=hφ.inj id j b o aI h3 (hS b o h1) h4;simp_all
   have hY:∀p∈p1,Same p.fp w W:=λp hp=>hW.same ((q1 p.fp (Xan hp)).mono gB (λ_ _ hh=>hh)) (λb o hh=>hφ.bl id b o aI (lO p hp b o hh));have jI:∀p∈ps,Same p.fp w W:=λp hp=>hW.same (pd p hp _ (λb o hh=>fR b o (gB b o hh))) (λb o hh=>by
    obtain⟨j,hj,h3,h4⟩:=k3 p hp b o hh;exact hφ.bl j b o h3 h4)
   show OwnL W (TyRel G W e) e.size (upd ν st.nx ⟨some g,(ν id).off,k+l.length,(ν id).cap,e.size⟩ st.nx) _ _;rw[Wbm];refine⟨hlen,rfl,by simp_all,kL,hW.rows.row _ _ ⟨row,TT,fe,hrow⟩,nY++news,p1++ps,WdP _ _ _ _ _ _ ?_ ?_,?_,Xv.2 ⟨λs hs=>?_,?_⟩,λs hs b o hh=>?_⟩
   .exact WbM (Q:=λq=>Same q.fp w W) (λx c q hq hx=>Way (λ_ _ _ hh=>hh) e x c q hq hx) _ _ _ hY g3
   .exact WbM (Q:=λq=>Same q.fp w W) (λx c q hq hx=>Way (λ_ _ _ hh=>hh) e x c q hq hx) _ _ _ jI k1
   .refine Mem.app (n:=k*e.size) (λj v hj=>?_) hM g4;have h1:=g5 j v hj;have hj':j<nY.length:=(Xad.1 hj).1;rw[hW.cell g ((ν id).off+j) (block_lt_of_cell h1) (λ⟨_,h2,_⟩=>by omega)];exact h1
   .grind
   .rw[Xz];refine Xaj.2 ⟨q2,k2,λs hs t ht=>?_⟩
    grind
   .rcases Xq.1 hs with rfl|hs
    .exact .inl (fR b o hh)
    .rw[Xz]at hs;rcases Xm.1 hs with hs|hs
     .obtain⟨p,hp,rfl⟩:=Xt.1 hs;exact .inl (lO p hp b o hh)
     .obtain⟨q,hq,rfl⟩:=Xt.1 hs;exact .inr (k3 q hq b o hh)
 rcases hx.rd with⟨aW,bI⟩|⟨pa,cc,aW,ar⟩
 .have hl0:l.length=0:=by simp_all
  have sc:news= []:=Xab (by simp_all);obtain⟨ν',hh⟩:=inplace w (WLe.refl _ w) (by rw[sc];exactλj v hj=>by simp at hj) (by omega);refine⟨_,_,_,G,ν',Wb1 ho hc ha cW ?_,.inl rfl,hh⟩
  grind [Weh]
 .by_cases bY:k+l.length<=(ν id).cap
  .have sr:(k+l.length)*e.size<=(ν id).cap*e.size:=Xbd _ bY;rw[Xct]at sr;have hrun:=WhE (P:=P) (w:=w) t o.type et TT i hu hi g (ν id).off k (ν id).cap row fe pa l.length cc news (by rw[hsz];exact iX) (λj v hj=>ar j v hj) (WmN _ _ _ e0) bY (by rw[hsz,iX];omega);obtain⟨hw,kM⟩:=WcQ (k:=(ν id).off+k*i.size) (news:=news) fe (by rw[hsz,iX];omega);generalize w.setRow g (row.toList.take ((ν id).off+k*i.size)++news++row.toList.drop ((ν id).off+k*i.size+news.length)).toArray=W at hrun hw kM;rw[hsz]at hw kM;rw[iX]at hw;obtain⟨ν',hh⟩:=inplace W hw kM bY;exact⟨_,_,_,G,ν',Wb1 ho hc ha cW (by rw[dj,aW,hrun]),.inl rfl,hh⟩
  .obtain⟨kp,dZ⟩:=WtM w (k+l.length) (ν id).cap et aC;have hcl:(c1++news).length=(Xf (xs.take k) l).length*e.size:=by rw[Xac,oY,iX,hlen,Xct]
   obtain⟨ν',hh⟩:=Wjw hr hd (id::m) (xs:=Xf (xs.take k) l) hcl (λφ hφ=>by
    have hown:OwnL w (TyRel G w e) e.size (ν id) xs (φ id):=hφ.ob _ _ az;obtain⟨nY,p1,g3,g4,g5,g6,g7⟩:=Wdl hown bg hk;obtain⟨ps,k1,k2,k3⟩:=hx.enc φ hφ;have:=o0 g4 g5;subst this;obtain⟨q1,q2⟩:=Xv.1 g6;have lO:∀p∈p1,CS.le p.fp (φ id):=λp hp=>g7 _ (Xe _ (Xan hp));refine⟨p1++ps,WdP _ _ _ _ _ _ g3 k1,?_,λp hp b o hh=>?_⟩
    .rw[Xz];refine Xaj.2 ⟨q2,k2,λs hs t ht=>?_⟩;obtain⟨p,hp,rfl⟩:=Xt.1 hs;obtain⟨q,hq,rfl⟩:=Xt.1 ht;intro b o h1 h2;obtain⟨j,hj,h3,h4⟩:=k3 q hq b o h2;have:=hφ.inj id j b o aI h3 (lO p hp b o h1) h4;subst this;exact hm hj
    .rcases Xm.1 hp with hp|hp
     .exact⟨id,Xh ..,aI,lO p hp b o hh⟩
     .exact FromL.mono (λi hi=>Xe _ hi) b o (k3 p hp b o hh)) (by rw[hlen];exact kp) dZ z.cells fN et
   have uE:(k+l.length)*i.bytes<=140737488355328:=by
    have:=Nat.mul_le_mul sq mA;omega
   have hrun:=run_append_grow (P:=P) w t o.type et i z hu hi hz ⟨g,(ν id).off,none⟩ k (ν id).cap c1 (by rw[hsz];exact oY) (λj v hj=>by rw[WaU];exact oZ j v hj) pa l.length cc news (by rw[hsz];exact iX) (λj v hj=>ar j v hj) (by omega) (by omega) (growslice_fits (by omega) uE);refine⟨_,_,_,G,ν',Wb1 ho hc ha cW ?_,.inl rfl,hh⟩;rw[dj,aW,hrun,hlen];simp
theorem WkQ{id:Nat}{e:Ty}{xs:List e.den}(hh:HRel w0 F G ν objs nx w)(az:look objs id=some (.arr e xs)):
  ((ν id).blk=none/\xs= []/\(ν id).hdr= .slice none 0 0)\/∃g,(ν id).blk=some g/\(ν id).hdr= .slice (some ⟨g,(ν id).off,none⟩) xs.length (ν id).cap:=by
 obtain⟨S,ho⟩:=hh.obj az;unfold Nu.hdr;cases hb:(ν id).blk with
 |none=>exact .inl ⟨rfl,Wcm ho hb,rfl⟩
 |some g=>exact .inr ⟨g,rfl,by rw[ho.1]⟩
theorem WlG(hT:Wag P T)(hr:Rel w0 F nt G0 G ν st a w){o:Oper}(hd:∀d,o.dst=some d->nt.Ok d){c:Call}{s x:Operand}{t et:TypeId}{ty:Ty}{te:TE}{sv xv:AVal}{R:Type}{k:St->Option R}{r:R}
  (hl:look T t=some ⟨ty,false,.slice et⟩) (hle:look T et=some te) (hp:te.plain=true)
  (ho:o.op= .call c) (hc:c.callee= .builtin .append) (ha:c.args.toList= [s,x]) (cW:c.argTypes.toList= [t,t]) (hs:ev st s=some sv) (hx:ev st x=some xv)
  (h:Wep st te.ty sv xv (λx objs nx=>k (({env:=st.env,objs:=objs,nx:=nx}:St).put o.dst x))=some r):∃ah,k ah=some r/\Done P w0 F nt G0 o a w ah:=by
 have move:∀(e:Ty) (l:List e.den) (m:List Nat),WsW st e xv=some (l,m)->∃news,Src w0 F G ν st w e l m (a.eval x) news:=λe l m fS=>by
  unfold WsW at fS;split at fS
  .simp only[Option.some.injEq,Prod.mk.injEq]at fS;obtain⟨rfl,rfl⟩:=fS;obtain⟨hv,_⟩:=WM hr x _ hx;exact⟨[],λφ _=>⟨[],⟨rfl,rfl⟩,List.Pairwise.nil,by simp⟩,.inl ⟨hv,rfl⟩⟩
  .rename_i id;split at fS
   .rename_i e' xs az;obtain⟨ys,bs,fS⟩:=Xy.1 fS;have h2:=Prod.mk.inj fS;obtain⟨h3,h4⟩:=h2;subst h3 h4;obtain⟨d6,gD⟩:=War bs;subst d6;simp only at gD;subst gD;obtain⟨⟨_,hv⟩,_⟩:=WM hr x _ hx;have aI:Live st.objs id:=⟨_,az,by simp⟩;rcases WkQ hr.h az with⟨hb,bI,hh⟩|⟨g,hb,hh⟩
    .subst bI;exact⟨[],λφ _=>⟨[],⟨rfl,rfl⟩,List.Pairwise.nil,by simp⟩,.inl ⟨by rw[hv,hh],rfl⟩⟩
    .obtain⟨φ0,hφ0⟩:=hr.h;have hZ:OwnL w (TyRel G w e') e'.size (ν id) xs (φ0 id):=hφ0.ob _ _ az;obtain⟨c1,p1,g1,g2,g3,g4,g5⟩:=Wdl hZ hb (Xn _);refine⟨c1,λφ hφ=>?_,.inr ⟨⟨g,(ν id).off,none⟩,(ν id).cap,by rw[hv,hh],λj u hj=>by rw[WaU];exact g3 j u hj⟩⟩;have hown:OwnL w (TyRel G w e') e'.size (ν id) xs (φ id):=hφ.ob _ _ az;obtain⟨nY,wR,k1,k2,k3,k4,k5⟩:=Wdl hown hb (Xn _);have:nY=c1:=Xfd λj=>by
      by_cases hj:j<xs.length*e'.size
      .have nX:j<nY.length:=by omega
       have rj:j<c1.length:=by omega
       have a1:=k3 j _ (Xp nX);have a2:=g3 j _ (Xp rj);rw[a1]at a2;rw[Xp nX,Xp rj];exact a2
      .rw[Xcp (by omega),Xcp (by omega)]
     subst this;rw[Xdf]at k1;exact⟨wR,k1,(Xv.1 k4).2,λp hp b o hh=>⟨id,Xaa.2 rfl,aI,k5 _ (Xe _ (Xan hp)) b o hh⟩⟩
   .simp at fS
  .simp at fS
 unfold Wep at h;split at h
 .split at h
  .rename_i e hel;split at h
   .rename_i he;split at h
    .rename_i l m fS;obtain⟨news,da⟩:=move e l m fS;cases aC:WH l.length with
     |false=>simp[aC]at h
     |true=>
      simp[aC]at h;obtain⟨dj,_⟩:=WM hr s _ hs;exact⟨_,h,Wbn hr hd (elT hT hl hle hp (by rw[←he,Wbw])) ho hc ha cW dj da (λi hi=>hi) aC⟩
    .simp at h
   .simp at h
  .simp at h
 .rename_i id;split at h
  .rename_i e xs az;split at h
   .rename_i he;split at h
    .rename_i l m fS;obtain⟨news,da⟩:=move e l m fS;split at h
     .rename_i aV;have aV:=(Xah.1 ((WcO _).1 aV)).1;cases aC:WH (xs.length+l.length)with
      |false=>simp[aC]at h
      |true=>
       simp[aC]at h;refine⟨_,h,?_⟩;have hE:ElT P t et e:=elT hT hl hle hp (by rw[←he,Wbw]);obtain⟨⟨_,dj⟩,_⟩:=WM hr s _ hs;rcases WkQ hr.h az with⟨hb,bI,hh⟩|⟨g,hb,hh⟩
       .subst bI;exact Wbn hr hd hE ho hc ha cW (by rw[dj,hh]) da (λi hi=>Xe _ hi) (by simpa [WH]using aC)
       .have:=Wda hr hd hE ho hc ha cW az hb (Xn _) (by rw[dj,hh]) da aV aC;rw[Xdf]at this;exact this
     .simp at h
    .simp at h
   .simp at h
  .simp at h
 .simp at h
theorem Wnn(hT:Wag P T)(hr:Rel w0 F nt G0 G ν st a w){o:Oper}(hd:∀d,o.dst=some d->nt.Ok d){c:Call}{s x:Operand}{t t2:TypeId}{sv xv:AVal}{R:Type}{k:St->Option R}{r:R}
  (ho:o.op= .call c) (hc:c.callee= .builtin .append) (ha:c.args.toList= [s,x]) (cW:c.argTypes.toList= [t,t2]) (hs:ev st s=some sv) (hx:ev st x=some xv)
  (h:Wdx T st t t2 sv xv (λx objs nx=>k (({env:=st.env,objs:=objs,nx:=nx}:St).put o.dst x))=some r):∃ah,k ah=some r/\Done P w0 F nt G0 o a w ah:=by
 unfold Wdx at h;split at h
 .rename_i ty et _ hl _;split at h
  .rename_i te hle;split at h
   .rename_i br;obtain⟨rfl,hp,bd⟩:=br;have hE:ElT P t et te.ty:=elT hT hl hle hp rfl;cases gj:WsK st sv xv with
    |false=>
     simp only[gj,Bool.not_false,We]at h;exact WlG hT hr hd hl hle hp ho hc ha cW hs hx h
    |true=>
    simp only[gj,Xr,Wc]at h;split at h
    .rename_i l bQ;cases aC:WH l.length with
     |false=>simp[aC]at h
     |true=>
      simp[aC]at h;obtain⟨dj,_⟩:=WM hr s _ hs;obtain⟨news,da⟩:=WhF hr bd [] (WM hr x _ hx) bQ;exact⟨_,h,Wbn (m':=[]) hr hd hE ho hc ha cW dj da (λi hi=>hi) aC⟩
    .rename_i id l bQ;split at h
     .rename_i e0 xs az;split at h
      .rename_i ys bs;obtain⟨he,hy⟩:=Wfl bs;injection he with he;subst he;simp only at hy;subst hy;cases aC:WH (Xc xs+l.length)with
       |false=>simp[aC]at h
       |true=>
        simp[aC]at h;refine⟨_,h,?_⟩;obtain⟨⟨_,dj⟩,_⟩:=WM hr s _ hs;obtain⟨news,da⟩:=WhF hr bd [] (WM hr x _ hx) bQ;rcases WkQ hr.h az with⟨hb,bI,hh⟩|⟨g,hb,hh⟩
        .subst bI;exact Wbn (m':=[id]) hr hd hE ho hc ha cW (by rw[dj,hh]) da (λi hi=>by simp at hi) (by simpa [WH]using aC)
        .have:=Wda hr hd hE ho hc ha cW az hb (Xn _) (by rw[dj,hh]) da (by simp) aC;rw[Xdf]at this;exact this
      .simp at h
     .simp at h
    .rename_i id hi l bQ;split at h
     .rename_i e0 xs az;split at h
      .rename_i ys bs;obtain⟨he,hy⟩:=Wfl bs;injection he with he;subst he;simp only at hy;subst hy;cases aC:WH (hi+l.length)with
       |false=>simp[aC]at h
       |true=>
        simp[aC]at h;refine⟨_,h,?_⟩;obtain⟨⟨_,g1,g2,g3,dj⟩,_⟩:=WM hr s _ hs;obtain⟨news,da⟩:=WhF hr bd [] (WM hr x _ hx) bQ;obtain⟨S,hown⟩:=hr.h.obj az;unfold Nu.vhdr at dj;cases hb:(ν id).blk with
        |none=>
         have bI:=Wcm hown hb;simp only[hb]at dj;have h0:=g3 hb;subst h0;show Done P w0 F nt G0 o a w (({env:=st.env,objs:=(st.nx,.arr te.ty l)::(id,.dead)::st.objs,nx:=st.nx+1}:St).put o.dst (.s (.one (.own st.nx))));exact Wbn (m':=[id]) hr hd hE ho hc ha cW dj da (λi hi=>by simp at hi) (by simpa [WH]using aC)
        |some g=>
         simp only[hb,Nat.sub_zero,Xeq,Xbb,ite_self]at dj;exact Wda hr hd hE ho hc ha cW az hb (by rw[hown.1];exact g2) dj da (by simp) aC
      .simp at h
     .simp at h
    .simp at h
   .simp at h
  .simp at h
 .simp at h
end
end Go.Sx
namespace Go.Sx
set_option linter.unusedVariables false
set_option linter.unusedSimpArgs false
section
variable{w0:World}{F:CS}{nt:Slots}{G0 G:GH}{ν:Nat->Nu}{φ:Nat->CS}{objs:Wac}{nx:Nat}{st ah:St}{a:Act}{w w':World}{P:Program}{T:Tab}
theorem Wh1{t et:TypeId}{te:TE}{nu:Nu}{n:Nat}{lo hi:Option Int}{vl vh:Option Value}(hu:P.underlying t=some (.slice et))(bF:TEok P T et te)(hp:te.plain=true)(bX:nu.esz=te.ty.size)
  (hc:n<=nu.cap) (hn:n=nu.len) (bg:nu.blk=none->n=0) (hl:BRel lo vl) (hh:BRel hi vh) (hb:(WcC n lo hi).1=true):
  (Instr.sliceAt t nu.hdr vl vh none).run P w= .ok (nu.vhdr (WcC n lo hi).2.1 (WcC n lo hi).2.2) w/\(WcC n lo hi).2.1<=(WcC n lo hi).2.2/\(WcC n lo hi).2.2<=n:=by
 unfold Nu.hdr Nu.vhdr;cases hk:nu.blk with
 |none=>
  have h0:=bg hk;subst h0;obtain⟨hr,h3,h4⟩:=WcD (P:=P) (w:=w) (isSlice:=true) (cap:=0) hl hh (Xn _) hb;have e1:(WcC 0 lo hi).2.2=0:=by omega
  have e2:(WcC 0 lo hi).2.1=0:=by omega
  rw[e1,e2]at hr⊢;refine⟨?_,Xn _,Xn _⟩;simp[Instr.sliceAt,Instr.slice,Wk hu,hr,bF.sizeOf]
 |some b=>
  obtain⟨hr,h7,h8⟩:=WcD (P:=P) (w:=w) (isSlice:=true) (cap:=nu.cap) hl hh hc hb;refine⟨?_,h7,h8⟩;rw[←hn];generalize (WcC n lo hi).2.1=p at*;generalize (WcC n lo hi).2.2=q at*;have hsz:te.size=nu.esz:=by rw[WY hp,bX]
  simp only[Instr.sliceAt,Instr.slice,Sem.run_bind,Wk hu,Result.andThen_ok,hr,bF.sizeOf,Sem.run_pure,hsz,Xbz,WaU];split<;>rfl
theorem WrW{id:Nat}{e:Ty}{xs:List e.den}{S:CS}(h:Wcs G ν nx w id S (.arr e xs)):((ν id).blk=none->xs.length=0)/\((ν id).blk≠none->xs.length<=(ν id).cap):=by
 refine⟨λhb=>by rw[Wcm h hb];rfl,λhb=>?_⟩;obtain⟨_,_,h3⟩:=h
 grind
theorem Wmz{t et:TypeId}{te:TE}{id:Nat}{e:Ty}{xs:List e.den}{S:CS}(ho:Wcs G ν nx w id S (.arr e xs)){lo hi:Option Int}{vl vh:Option Value}(hu:P.underlying t=some (.slice et))(bF:TEok P T et te)(hp:te.plain=true)(he:te.ty.size=e.size)
  (hl:BRel lo vl) (hh:BRel hi vh) (hb:(WcC xs.length lo hi).1=true):
  (Instr.sliceAt t (ν id).hdr vl vh none).run P w= .ok ((ν id).vhdr (WcC xs.length lo hi).2.1 (WcC xs.length lo hi).2.2) w/\(WcC xs.length lo hi).2.1<=(WcC xs.length lo hi).2.2/\(WcC xs.length lo hi).2.2<=xs.length:=by
 obtain⟨h1,h2⟩:=WrW ho;have hlen:=ho.1;have bX:=ho.2.1;cases hk:(ν id).blk with
 |some b=>grind [Wh1]
 |none=>
  have h0:=h1 hk;have bI:xs= []:=Xab h0;have e0:(ν id).hdr=(⟨none,(ν id).off,(ν id).len,0,(ν id).esz⟩:Nu).hdr:=by grind [Nu.hdr]
  have e1:∀p q,(ν id).vhdr p q=(⟨none,(ν id).off,(ν id).len,0,(ν id).esz⟩:Nu).vhdr p q:=λp q=>by grind [Nu.vhdr]
  rw[e0,e1];exact Wh1 hu bF hp (by show(ν id).esz=_;rw[bX,he]) (by omega) hlen (λ_=>h0) hl hh hb
theorem Wgm{o:Oper}{t:TypeId}{x:Operand}{lo hi:Option Operand}{v:Value}(ho:o.op= .slice t x lo hi none)(h:(Instr.sliceAt t (a.eval x) (lo.map a.eval) (hi.map a.eval) none).run P w= .ok v w):(execOp a.eval o).run P w= .ok (.value v) w:=by
 grind [execOp,Sem.run_bind,Result.andThen_ok,Sem.run_pure]
theorem WqV(hT:Wag P T)(hr:Rel w0 F nt G0 G ν st a w){o:Oper}(hd:∀d,o.dst=some d->nt.Ok d){t et:TypeId}{ty:Ty}{te:TE}{x:Operand}{lo hi:Option Operand}(ho:o.op= .slice t x lo hi none)
  {id:Nat} {l h:Option Int} {R:Type} {k:St->Option R} {r:R} (hx:ev st x=some (.s (.one (.own id)))) (hl:look T t=some ⟨ty,false,.slice et⟩) (hle:look T et=some te) (hp:te.plain=true) (h1:Wk9 st lo=some l) (h2:Wk9 st hi=some h)
  (hk:We7 st te.ty id l h (λx objs nx=>k (({env:=st.env,objs:=objs,nx:=nx}:St).put o.dst x))=some r):∃ah,k ah=some r/\Done P w0 F nt G0 o a w ah:=by
 unfold We7 at hk;split at hk
 .rename_i e xs az;split at hk
  case isFalse=>simp at hk
  rename_i oU;cases hb:(WcC (Xc xs) l h).1 with
  |false=>simp_all
  |true=>
   simp only[hb,We]at hk;refine⟨_,hk,?_⟩;obtain⟨⟨bB,dj⟩,_⟩:=WM hr x _ hx;obtain⟨S,hown⟩:=hr.h.obj az;have hbl:=Wc8 hr lo _ h1;have pe:=Wc8 hr hi _ h2;obtain⟨g1,g2,g3⟩:=Wmz (w:=w) hown (hT _ _ hl).und.2.1 (hT _ _ hle) hp (by rw[oU,Wbw]) hbl pe hb;refine⟨_,_,w,G,ν,Wgm ho (by simp_all),.inl rfl,hr.put hd ⟨⟨bB,g2,by rw[←hown.1];exact g3,λrk=>?_,rfl⟩,Wn2 _ _ _⟩⟩
   grind [WrW]
 grind
theorem Wsu(n:Nu)(h:Nat):n.part 0 h=⟨n.blk,n.off,h,n.cap,n.esz⟩:=by
 unfold Nu.part;simp
theorem Wvd(n:Nu)(h:Nat):n.vhdr 0 h=(⟨n.blk,n.off,h,n.cap,n.esz⟩:Nu).hdr:=by
 rw[←Wsu,WjN]
theorem WoY(hT:Wag P T)(hr:Rel w0 F nt G0 G ν st a w){o:Oper}(hd:∀d,o.dst=some d->nt.Ok d){t et:TypeId}{ty:Ty}{x:Operand}{lo hi:Option Operand}(ho:o.op= .slice t x lo hi none)
  {id:Nat} {e:Ty} {xs:List e.den} {te:TE} {h:Int} (hx:ev st x=some (.s (.one (.own id)))) (hl:look T t=some ⟨ty,false,.slice et⟩) (hle:look T et=some te) (hp:te.plain=true) (he:te.ty=e.ro) (az:look st.objs id=some (.arr e xs)) (bb:Wk9 st lo=some none) (hh:Wk9 st hi=some (some h))
  (h0:0<=h) (h1:h<=(xs.length:Int)):Done P w0 F nt G0 o a w (({env:=st.env,objs:=(st.nx,.arr e (xs.take h.toNat))::kill st.objs [id],nx:=st.nx+1}:St).put o.dst (.s (.one (.own st.nx)))):=by
 obtain⟨⟨bB,dj⟩,_⟩:=WM hr x _ hx;obtain⟨S,hown⟩:=hr.h.obj az;have hbl:=Wc8 hr lo _ bb;have pe:=Wc8 hr hi _ hh;have hb:(WcC xs.length none (some h)).1=true:=by simp[WcC,h0,h1]
 obtain⟨g1,g2,g3⟩:=Wmz (w:=w) hown (hT _ _ hl).und.2.1 (hT _ _ hle) hp (by rw[he,Wbw]) hbl pe hb;have e1:(WcC xs.length none (some h)).2.1=0:=rfl;have e2:(WcC xs.length none (some h)).2.2=h.toNat:=rfl;rw[e1,e2,Wvd]at g1;refine⟨_,_,w,G,upd ν st.nx ((ν id).part 0 h.toNat),Wgm ho (by rw[dj];exact g1),.inl rfl,?_⟩;have aI:Live st.objs id:=⟨_,az,by simp⟩;refine hr.fresh hd [id] (.arr e (xs.take h.toNat)) _ (λφ=>φ id) _ _ (λφ _=>WLe.refl _ w) (λφ _ b o hh=>.inl ⟨id,.inr (Xaa.2 rfl),aI,hh⟩) (λφ hφ=>?_) ⟨⟨Xbt _,by rw[Wbm,Wsu]⟩,WhV _⟩;show OwnL w (TyRel G w e) e.size (upd ν st.nx ((ν id).part 0 h.toNat) st.nx) (xs.take h.toNat) (φ id);rw[Wbm];have hown':OwnL w (TyRel G w e) e.size (ν id) xs (φ id):=hφ.ob _ _ az;have:=WoE (lo:=0) (hi:=h.toNat) hown' (Nat.zero_le _) (by rw[←hown'.1];omega);simp_all
theorem WiY(hT:Wag P T)(hr:Rel w0 F nt G0 G ν st a w){o:Oper}(hd:∀d,o.dst=some d->nt.Ok d){t et:TypeId}{ty:Ty}{x:Operand}{lo hi:Option Operand}(ho:o.op= .slice t x lo hi none)
  {id i p:Nat} {e:Ty} {xs:List e.den} {te:TE} {h:Int} (hx:ev st x=some (.s (.one (.own id)))) (hl:look T t=some ⟨ty,false,.slice et⟩) (hle:look T et=some te) (hp:te.plain=true) (he:te.ty=e.ro) (az:look st.objs id=some (.hole e xs i p)) (ss:WqS (look st.objs p) e.size=true) (bb:Wk9 st lo=some none) (hh:Wk9 st hi=some (some h))
  (h0:0<=h) (h1:h<=(xs.length:Int)) (h2:h<=(i:Int)):Done P w0 F nt G0 o a w (({env:=st.env,objs:=(st.nx,.arr e (xs.take h.toNat))::kill st.objs [id,p],nx:=st.nx+1}:St).put o.dst (.s (.one (.own st.nx)))):=by
 obtain⟨⟨bB,dj⟩,_⟩:=WM hr x _ hx;obtain⟨S,kI,hole⟩:=hr.h.obj az;have gi:∃cs,look st.objs p=some (.box cs)/\cs.length=e.size:=by
  unfold WqS at ss
  grind [Xci]
 obtain⟨pcs,gi,eB⟩:=gi;have hbl:=Wc8 hr lo _ bb;have pe:=Wc8 hr hi _ hh;have hb:(WcC xs.length none (some h)).1=true:=by simp[WcC,h0,h1]
 obtain⟨k1,k2,k3,b,k4,k5,k6,k7,k8,k9,_⟩:=hole;obtain⟨g1,g2,g3⟩:=Wh1 (w:=w) (nu:=ν id) (hT _ _ hl).und.2.1 (hT _ _ hle) hp (by rw[k2,he,Wbw]) k7 k1 (λhn=>by simp_all) hbl pe hb;have e1:(WcC xs.length none (some h)).2.1=0:=rfl;have e2:(WcC xs.length none (some h)).2.2=h.toNat:=rfl;rw[e1,e2,Wvd]at g1;refine⟨_,_,w,G,upd ν st.nx ((ν id).part 0 h.toNat),Wgm ho (by rw[dj];exact g1),.inl rfl,?_⟩;have aI:Live st.objs id:=⟨_,az,by simp⟩;have d4:Live st.objs p:=⟨_,gi,by simp⟩;refine hr.fresh hd [id,p] (.arr e (xs.take h.toNat)) _ (λφ b o=>φ id b o\/φ p b o) _ _ (λφ _=>WLe.refl _ w) (λφ _ b o hh=>?_) (λφ hφ=>?_) ⟨⟨Xbt _,by rw[Wbm,Wsu]⟩,WhV _⟩
 .rcases hh with hh|hh
  .exact .inl ⟨id,.inr (by simp),aI,hh⟩
  .exact .inl ⟨p,.inr (by simp),d4,hh⟩
 .show OwnL w (TyRel G w e) e.size (upd ν st.nx ((ν id).part 0 h.toNat) st.nx) (xs.take h.toNat) _;rw[Wbm,Wsu];obtain⟨kI,hole⟩:p<st.nx/\Whk w (TyRel G w e) e.size (ν id) (ν p) xs i (φ id):=hφ.ob _ _ az;obtain⟨_,_,_,b',rn,k5',_,_,_,_,c1,c2,p1,p2,j1,j2,j3,j4,j5,j6⟩:=hole;rw[k4]at rn;injection rn with rn;subst rn;obtain⟨b2,vs,q1,q2,q3,q4,q5⟩:Wcs G ν st.nx w p (φ p) (.box pcs):=hφ.ob _ _ gi;rw[k5]at q1;injection q1 with q1;subst q1;rw[eB,k6]at q5;obtain⟨d1,d2,r1,r2,t1,t2,t3,t4⟩:=Wew _ _ _ h.toNat j1;rw[List.take_take,Xca (by omega)]at t3;have gA:=j6 _ (Xh ..);have gC:=j6 _ (Xe _ (Xh ..));obtain⟨s1,s2⟩:=Xv.1 j5;obtain⟨s3,s4⟩:=Xv.1 s2;have dh:∀s∈r1.map Pc.fp,s∈(p1++p2).map Pc.fp:=λs hs=>by simp_all
  have gp:∀s∈r1.map Pc.fp,CS.le s (φ id):=λs hs=>j6 s (Xe _ (Xe _ (dh s hs)));have su:∀b o,φ id b o->φ p b o->False:=λb o x1 x2=>by
   have:=hφ.inj id p b o aI d4 x1 x2;simp_all
  refine⟨by simp;omega,k2,?_⟩;simp only[k4];refine⟨by simp;omega,k8,k9,d1,r1,t3,by rw[t1]at j3;exact j3.left,Xv.2 ⟨λs hs=>?_,?_⟩,λs hs=>?_⟩
  .exactλb' o di gv=>(Wf8 (show i<(ν id).cap by omega) (S:=λb o=>¬s b o) (λb o hh gv=>s1 s (Xe _ (dh s hs)) b o hh gv) (λb o hh gv=>su b o (gp s hs b o gv) (q5 b o hh)) (λb o hh gv=>s3 s (dh s hs) b o hh gv) b' o di) gv
  .grind
  .rcases Xq.1 hs with rfl|hs
   .exact Wf8 (show i<(ν id).cap by omega) (λb o hh=>.inl (gA b o hh)) (λb o hh=>.inr (q5 b o hh)) (λb o hh=>.inl (gC b o hh))
   .exactλb o hh=>.inl (gp s hs b o hh)
theorem Wo9(hT:Wag P T)(hr:Rel w0 F nt G0 G ν st a w){o:Oper}(hd:∀d,o.dst=some d->nt.Ok d){c:Call}{x:Operand}{t et:TypeId}{ty:Ty}{te:TE}{e:Ty}{xs:List e.den}{id lo hi:Nat}
  (ho:o.op= .call c) (hc:c.callee= .builtin .clear) (ha:c.args.toList= [x]) (cW:c.argTypes.toList= [t]) (hx:ev st x=some (.s (.one (.vw id lo hi)))) (hl:look T t=some ⟨ty,false,.slice et⟩) (hle:look T et=some te)
  (az:look st.objs id=some (.arr e xs)) (he:te.ty=e) (hp:te.plain=true) (bd:e.data=true):
  Done P w0 F nt G0 o a w (({env:=st.env,objs:=(id,.arr e (xs.take lo++Xw (hi-lo) e.dflt++xs.drop hi))::st.objs,nx:=st.nx}:St).put o.dst (.tup [])):=by
 have hu:=(hT _ _ hl).und.2.1;obtain⟨⟨bB,g1,g2,g3,hv⟩,_⟩:=WM hr x _ hx;obtain⟨φ,hφ⟩:=hr.h;have hown:OwnL w (TyRel G w e) e.size (ν id) xs (φ id):=hφ.ob _ _ az;have aI:Live st.objs id:=⟨_,az,by simp⟩;have pf:∀W,(Builtin.clear_ #[t] o.type #[a.eval x]).run P w= .ok (.tuple #[]) W->(execOp a.eval o).run P w= .ok (.value (.tuple #[])) W:=λW hrun=>by
  obtain⟨callee,args,argTypes⟩:=c;obtain⟨args⟩:=args;obtain⟨argTypes⟩:=argTypes;simp only at hc ha cW;subst hc ha cW;simp only[execOp,ho,resolve,invoke,builtin,Sem.run_bind,Sem.run_pure,Result.andThen_ok,Xdr,Xam,Xby,hrun]
 have eS:∀W,(Builtin.clear_ #[t] o.type #[a.eval x]).run P w= .ok (.tuple #[]) W->HRel w0 F G ν ((id,.arr e (xs.take lo++Xw (hi-lo) e.dflt++xs.drop hi))::st.objs) st.nx W->
   Done P w0 F nt G0 o a w (({env:=st.env,objs:=(id,.arr e (xs.take lo++Xw (hi-lo) e.dflt++xs.drop hi))::st.objs,nx:=st.nx}:St).put o.dst (.tup [])):=λW hrun hH=>
  ⟨_,_,W,G,ν,pf W hrun,.inl rfl,(hr.on (λ_ _ _ hh=>hh) (λ_ _=>rfl) (Xn _) hH hr.gx).put hd ⟨[],rfl,rfl,λj x v hj=>by simp at hj⟩⟩
 by_cases h0:hi-lo=0
 .have sw:hi=lo:=by omega
  have e1:xs.take lo++Xw (hi-lo) e.dflt++xs.drop hi=xs:=by
   simp_all
  refine eS w ?_ ?_
  .rw[hv];unfold Nu.vhdr;rw[h0];cases(ν id).blk<;>simp[Builtin.clear_,Wk hu]
  .rw[e1];exact⟨_,hφ.put (m:=[]) (ν':=ν) (λ_ _=>rfl) (Xn _) (hφ.lt id aI) (WLe.refl _ w) (λb o hh=>.inl ⟨id,.inl rfl,aI,hh⟩) (λ_=>hown)⟩
 .cases bg:(ν id).blk with
  |none=>simp_all
  |some b=>
   obtain⟨iw,h4,h5,⟨row,TT,fe,hrow⟩,cs,h7,h8,h9⟩:=Wdq bd hown bg;obtain⟨z,hz,dz⟩:=WeR (w:=w) (hT _ _ hle);rw[Wby hp,he]at dz;have fN:z.cells.size=e.size:=by rw[←Xat,dz,Wbs]
   have bX:=hown.2.1;have hcl:cs.length=xs.length*e.size:=EncL_len (λx c hc=>Enc_len e x c hc) _ _ h7;have uF:(Builtin.zeroCells z.cells (hi-lo)).toList=rep (Wbu e) (hi-lo):=by rw[←dz];exact Wf1 z.cells (hi-lo)
   have dn:(rep (Wbu e) (hi-lo)).length=(hi-lo)*e.size:=by rw[Wj8,Wbs]
   have sy:lo*e.size+(hi-lo)*e.size=hi*e.size:=by rw[←Xct];congr 1;omega
   have rq:hi*e.size<=xs.length*e.size:=Xbd _ (by omega);have uG:xs.length*e.size<=(ν id).cap*e.size:=Xbd _ h4;have dQ:∀u∈rep (Wbu e) (hi-lo),u.oneCell'=true:=WoT (G:=G) _ _ (Wgz bd (hi-lo));have aS:=run_storeCells_at P b ((ν id).off+lo*e.size) TT (rep (Wbu e) (hi-lo)) 0 row w fe (by rw[dn];omega) dQ;simp only[Xbb]at aS;obtain⟨hw,hm⟩:=WcQ (k:=(ν id).off+lo*e.size) (news:=rep (Wbu e) (hi-lo)) fe (by rw[dn];omega);have hrun:(Builtin.clear_ #[t] o.type #[a.eval x]).run P w= .ok (.tuple #[]) (w.setRow b (row.toList.take ((ν id).off+lo*e.size)++rep (Wbu e) (hi-lo)++row.toList.drop ((ν id).off+lo*e.size+(rep (Wbu e) (hi-lo)).length)).toArray):=by
    rw[hv];unfold Nu.vhdr;simp only[bg,bX];rw[Wa (by omega)];obtain⟨n,hn⟩:∃n,hi-lo=n+1:=⟨hi-lo-1,by omega⟩;simp only[Builtin.clear_,Sem.run_bind,Wk hu,Result.andThen_ok,Xek,List.getElem?_cons_zero];rw[hn]at aS uF⊢;simp only[Sem.run_bind,hz,Result.andThen_ok,uF,aS,Sem.run_pure]
   generalize w.setRow b (row.toList.take ((ν id).off+lo*e.size)++rep (Wbu e) (hi-lo)++row.toList.drop ((ν id).off+lo*e.size+(rep (Wbu e) (hi-lo)).length)).toArray=W at hrun hw hm;refine eS W hrun (hφ.turn (m:=[]) az (by simp) hw (λb' o ⟨k0,k1,k2⟩=>h9 b' o ⟨k0,by omega,by omega⟩) ?_);have lP:(xs.take lo++Xw (hi-lo) e.dflt++xs.drop hi).length=xs.length:=by simp;omega
   have henc:EncL (Enc G e) (xs.take lo++Xw (hi-lo) e.dflt++xs.drop hi) (cs.take (lo*e.size)++rep (Wbu e) (hi-lo)++cs.drop (hi*e.size)):=
    Wdw _ _ _ _ (Wdw _ _ _ _ (Wei (λx c hc=>Enc_len e x c hc) _ _ lo h7) (Wgz bd _)) (Wem (λx c hc=>Enc_len e x c hc) _ _ hi h7)
   refine Wmi bd bg (by rw[lP];exact iw) bX (by rw[lP];exact h4) h5 (hw.rows.row _ _ ⟨row,TT,fe,hrow⟩) henc ?_ (λb o hh=>.inl (h9 b o hh));have:=WeE h8 hw hm (by rw[dn];omega);rw[dn,sy]at this;exact this
end
end Go.Sx
namespace Go.Sx
set_option linter.unusedVariables false
set_option linter.unusedSimpArgs false
def WiE(G:GH)(w:World)(t:Ty)(agg:Bool)(d:t.den)(v:Value)(ns:List Pc):Prop:=
 if agg then∃us:List Value,v= .agg us.toArray/\TyRel G w t d us ns else TyRel G w t d [v] ns
def WbX(b o:Nat):Nu:=⟨some b,o,0,0,0⟩
def Wfa(G:GH)(w:World)(t:Ty)(d:t.den)(b o:Nat)(ns:List Pc):Prop:=∃us,Row w b (o+t.size)/\Mem w b o us/\TyRel G w t d us ns
def fps(ns:List Pc):List CS:=ns.map Pc.fp
def nus(ns:List Pc):List Nu:=ns.map Pc.nu
def Wbj(G:GH)(w:World):(ps:List PTy)->We2 ps->List Value->List Pc->List Nu->Prop
 | [],_,vs,ns,ks=>vs= []/\ns= []/\ks= []
 | .v t agg::ps,d,vs,ns,ks=>∃v vs' n1 n2,vs=v::vs'/\ns=n1++n2/\WiE G w t agg d.1 v n1/\Wbj G w ps d.2 vs' n2 ks
 | .box t::ps,d,vs,ns,ks=>∃b o vs' n1 n2 ks',vs= .pointer (some ⟨b,o,none⟩)::vs'/\ns=⟨WbX b o,rng b o t.size⟩::(n1++n2)/\ks=WbX b o::ks'/\Wfa G w t d.1 b o n1/\Wbj G w ps d.2 vs' n2 ks'
 | .mut e::ps,d,vs,ns,ks=>∃pc vs' n2 ks',vs=pc.nu.hdr::vs'/\ns=pc::n2/\ks=pc.nu::ks'/\OwnL w (TyRel G w e) e.size pc.nu d.1 pc.fp/\Wbj G w ps d.2 vs' n2 ks'
 | .clos g n::ps,d,vs,ns,ks=>∃cvs vs':List Value,vs= .func (.func g) #[] cvs.toArray::vs'/\cvs.length=n/\(∀u∈cvs,u.oneCell'=true)/\Wbj G w ps d (cvs++vs') ns ks
 | .kv t agg::ps,d,vs,ns,ks=>∃v vs' n1 n2 ks',vs=v::vs'/\ns=n1++n2/\ks=nus n1++ks'/\WiE G w t agg d.1 v n1/\Wbj G w ps d.2 vs' n2 ks'
 | .rp t::ps,d,vs,ns,ks=>∃b o us vs',vs= .pointer (some ⟨b,o,none⟩)::vs'/\Enc G t d.1 us/\We0 G b o us/\Wbj G w ps d.2 vs' ns ks
 | .vj _::_,_,_,_,_=>False
 | .boxal t lf::ps,d,vs,ns,ks=>∃b o b' pc vs' n1 n2 ks',vs= .pointer (some ⟨b,o,none⟩):: .pointer (some ⟨b',pc.nu.off+(d.2.1*pc.nu.esz+0),none⟩)::vs'/\ns=⟨WbX b o,rng b o t.size⟩::(n1++n2)/\ks=WbX b o::ks'/\
   Wfa G w t d.1 b o n1/\n1[lf]?=some pc/\pc.nu.blk=some b'/\d.2.1<pc.nu.len/\Wbj G w ps d.2.2 vs' n2 ks'
def Wbz(G:GH)(w:World):(ps:List PTy)->WfH ps->List Nu->List CS->List Pc->Prop
 | [],_,ks,kf,ns=>ks= []/\kf= []/\ns= []
 | .v _ _::ps,o,ks,kf,ns=>Wbz G w ps o ks kf ns
 | .box t::ps,o,ks,kf,ns=>∃b off ks' cX n1 n2,ks=WbX b off::ks'/\kf=rng b off t.size::cX/\ns=n1++n2/\Wfa G w t o.1 b off n1/\Wbz G w ps o.2 ks' cX n2
 | .mut e::ps,o,ks,kf,ns=>∃pc:Pc,∃ks' cX,ks=pc.nu::ks'/\kf=pc.fp::cX/\OwnL w (TyRel G w e) e.size pc.nu o.1 pc.fp/\Wbz G w ps o.2 ks' cX ns
 | .clos _ _::ps,o,ks,kf,ns=>Wbz G w ps o ks kf ns
 | .kv t _::ps,o,ks,kf,ns=>∃n1 ks' cX us,ks=nus n1++ks'/\kf=fps n1++cX/\TyRel G w t o.1 us n1/\Wbz G w ps o.2 ks' cX ns
 | .rp _::ps,o,ks,kf,ns=>Wbz G w ps o ks kf ns
 | .vj _::_,_,_,_,_=>False
 | .boxal t _::ps,o,ks,kf,ns=>∃b off ks' cX n1 n2,ks=WbX b off::ks'/\kf=rng b off t.size::cX/\ns=n1++n2/\Wfa G w t o.1 b off n1/\Wbz G w ps o.2 ks' cX n2
def WfO(G:GH)(w:World):(rs:List PTy)->WgG rs->List Value->List Pc->Prop
 | [],_,vs,ns=>vs= []/\ns= []
 | .v t agg::rs,d,vs,ns=>∃v vs' n1 n2,vs=v::vs'/\ns=n1++n2/\WiE G w t agg d.1 v n1/\WfO G w rs d.2 vs' n2
 | .box t::rs,d,vs,ns=>∃b o vs' n1 n2,vs= .pointer (some ⟨b,o,none⟩)::vs'/\ns=⟨WbX b o,rng b o t.size⟩::(n1++n2)/\Wfa G w t d.1 b o n1/\WfO G w rs d.2 vs' n2
 | .mut _::_,_,_,_=>False
 | .clos _ _::_,_,_,_=>False
 | .kv _ _::_,_,_,_=>False
 | .rp _::_,_,_,_=>False
 | .vj t::rs,d,vs,ns=>∃us u vs' n1 n2,vs= .agg (us++ [u]).toArray::vs'/\u.oneCell'=true/\ns=n1++n2/\TyRel G w t d.1 us n1/\WfO G w rs d.2 vs' n2
 | .boxal _ _::_,_,_,_=>False
def Wih:List Value->Value
 | [v]=>v
 |vs=>.tuple vs.toArray
def Of(ns:List Pc):CS:=λb o=>∃q∈ns,q.fp b o
structure After(sg:Sig)(o:WfH sg.ps×WgG sg.rs)(G:GH)(w:World)(ns:List Pc)(ks:List Nu)(rv:List Value)(kf:List CS)(ms cE:List Pc)(G':GH)(w':World):Prop where
 res:WfO G' w' sg.rs o.2 rv cE
 outs:Wbz G' w' sg.ps o.1 ks kf ms
 sep:Sep (kf++fps (ms++cE))
 own:∀S∈kf++fps (ms++cE),∀b off,S b off->G' b off=none/\(Of ns b off\/w.heap.size<=b)/\b<w'.heap.size
 gx:GExt w.heap.size (Of ns) G G'
 g:∀b o v,G' b o=some v->w'.cell? ⟨b,o,none⟩=some v
 le:WLe (Of ns) w w'
def Good(P:Program)(k:FuncId)(sg:Sig):Prop:=
 ∀(d:We2 sg.ps) (o:WfH sg.ps×WgG sg.rs),sg.run d=some o->∀(G:GH) (w:World) (vs:List Value) (ns:List Pc) (ks:List Nu),Wbj G w sg.ps d vs ns ks->Sep (fps ns)->
  (∀q∈ns,∀b off,q.fp b off->G b off=none/\b<w.heap.size)->(∀b o v,G b o=some v->w.cell? ⟨b,o,none⟩=some v)->
  Calls P k vs.toArray w λe w'=>∃rv kf ms cE G',e= .returned (Wih rv)/\After sg o G w ns ks rv kf ms cE G' w'
def Wf6(P:Program)(k:FuncId):Prop:=∃fn,P.funcs[k]?=some fn∧fn.body.isNone=false∧(fn.name== "runtime.NumGoroutine")=false
def WeZ(P:Program)(Γ:Ctx):Prop:=∀k sg,look Γ k=some sg->Good P k sg/\Wf6 P k
section
variable{w0:World}{F:CS}{nt:Slots}{G0 G G':GH}{ν:Nat->Nu}{φ:Nat->CS}{objs:Wac}{nx:Nat}{st ah:St}{a:Act}{w w':World}{P:Program}{T:Tab}
theorem WaL:∀(t:Ty) (d:t.den) (nx:Nat),(unfold t d nx).2.2=nx+t.owns
 | .prod a b,d,nx=>by simp only[unfold,WaL a,WaL b,Ty.owns,Xay]
 | .own _,_,_=>rfl
 | .int _,_,_| .bool,_,_| .str,_,_| .slice _,_,_=>rfl
theorem WK{α:Type}{l m:List (Nat×α)}{i:Nat}{x:α}(h:look (l++m) i=some x):look l i=some x\/look m i=some x:=by
 rw[WbD]at h
 grind
def At(ν:Nat->Nu)(φ:Nat->CS)(nx:Nat)(ns:List Pc):Prop:=∀(j:Nat) (pc:Pc),ns[j]?=some pc->ν (nx+j)=pc.nu/\φ (nx+j)=pc.fp
theorem At.left{n1 n2:List Pc}(h:At ν φ nx (n1++n2)):At ν φ nx n1:=λj pc hj=>h j pc (by grind)
theorem At.right{n1 n2:List Pc}{k:Nat}(h:At ν φ nx (n1++n2))(hk:n1.length=k):At ν φ (nx+k) n2:=λj pc hj=>by
 have:=h (k+j) pc (by grind)
 grind
def WpT(G:GH)(ν:Nat->Nu)(φ:Nat->CS)(w:World)(id:Nat)(ob:Ob):Prop:=∃(e:Ty) (xs:List e.den),ob= .arr e xs/\OwnL w (TyRel G w e) e.size (ν id) xs (φ id)
theorem Was:∀(t:Ty) (d:t.den) (nx:Nat) (vs:List Value) (ns:List Pc),TyRel G w t d vs ns->At ν φ nx ns->
  (∀(ak:Nat),nx+t.owns<=ak->CellsRel G ν ak (unfold t d nx).1 vs)/\
  (∀id ob,look (unfold t d nx).2.1 id=some ob->nx<=id/\id<nx+t.owns/\WpT G ν φ w id ob)
 | .own e,d,nx,vs,ns,⟨pc,h1,h2,h3⟩,hν=>by
  obtain⟨hn,hp⟩:ν nx=pc.nu/\φ nx=pc.fp:=by have:=hν 0 pc (by grind);omega
  refine⟨λak hx=>?_,λid ob hl=>?_⟩
  .rw[h2];refine CellsRel.one ⟨by grind [Ty.owns],by rw[hn]⟩ (WhV _)
  .simp only[unfold]at hl;rw[WF]at hl;split at hl
   .rename_i e1;subst e1;injection hl with hl;subst hl;exact⟨Xn _,by simp[Ty.owns],e,d,rfl,by simp_all⟩
   .simp[look]at hl
 | .prod p q,d,nx,vs,ns,⟨v1,v2,n1,n2,h1,h2,h3,h4⟩,hν=>by
  subst h2;have bq:=W5 p _ _ _ h3;obtain⟨c1,o1⟩:=Was p d.1 nx v1 n1 h3 hν.left;obtain⟨c2,o2⟩:=Was q d.2 (nx+p.owns) v2 n2 h4 (hν.right bq);refine⟨λak hx=>?_,λid ob hl=>?_⟩
  .simp only[Ty.owns]at hx;simp only[unfold,WaL];rw[h1];exact(c1 ak (by omega)).append (c2 ak (by omega))
  .simp only[unfold,WaL]at hl
   grind [Ty.owns,WK]
 | .int k,d,nx,vs,ns,h,_=>⟨λak _=>WaA (.int k) d vs h.2,λid ob hl=>by simp[unfold,look]at hl⟩
 | .bool,d,nx,vs,ns,h,_=>⟨λak _=>WaA .bool d vs h.2,λid ob hl=>by simp[unfold,look]at hl⟩
 | .str,d,nx,vs,ns,h,_=>⟨λak _=>WaA .str d vs h.2,λid ob hl=>by simp[unfold,look]at hl⟩
 | .slice e,d,nx,vs,ns,h,_=>⟨λak _=>WaA (.slice e) d vs h.2,λid ob hl=>by simp[unfold,look]at hl⟩
theorem Wb3:∀(t:Ty) (d:t.den) (nx:Nat),(unfold t d nx).1.length=t.size
 | .prod a b,d,nx=>by simp only[unfold,Xac,Wb3 a,Wb3 b,Ty.size]
 | .own _,_,_| .int _,_,_| .bool,_,_| .str,_,_| .slice _,_,_=>rfl
theorem Wkg{t:Ty}{agg:Bool}{d:t.den}{v:Value}{ns:List Pc}{nx ak:Nat}(h:WiE G w t agg d v ns)(hν:At ν φ nx ns)(hx:nx+t.owns<=ak):
  AvRel G ν ak (Wvn agg (unfold t d nx).1) v:=by
 unfold WiE at h;unfold Wvn;cases agg with
 |true=>
  simp only[Waw]at h⊢;obtain⟨us,rfl,h⟩:=h;exact⟨us,rfl,(Was t d nx us ns h hν).1 ak hx⟩
 |false=>
  simp only[Xbl,WaE]at h⊢;have hc:=(Was t d nx [v] ns h hν).1 ak hx;have hl:=hc.1;generalize (unfold t d nx).1=cs at*
  match cs,hl with
  | [c],_=>exact hc.2 0 c v rfl rfl
theorem WnH{t:Ty}{agg:Bool}{d:t.den}{v:Value}{ns:List Pc}(h:WiE G w t agg d v ns):∃us,TyRel G w t d us ns:=by
 grind [WiE]
def Wiw(objs:Wac):Ty->List Nat->Prop
 | .own e,ids=>∃(id:Nat) (ys:List e.den),ids= [id]/\look objs id=some (.arr e ys)
 | .prod a b,ids=>∃i1 i2,ids=i1++i2/\Wiw objs a i1/\Wiw objs b i2
 | .int _,ids=>ids= []
 | .bool,ids=>ids= []
 | .str,ids=>ids= []
 | .slice _,ids=>ids= []
theorem WeO{objs:Wac}:∀(t:Ty) (ids:List Nat),Wiw objs t ids->ids.length=t.owns
 | .own e,ids,⟨id,ys,h,_⟩=>by rw[h];rfl
 | .prod a b,ids,⟨i1,i2,h,h1,h2⟩=>by rw[h,Xac,WeO a _ h1,WeO b _ h2];rfl
 | .int _,ids,h=>by have:ids= []:=h;rw[this];rfl
 | .bool,ids,h=>by have:ids= []:=h;rw[this];rfl
 | .str,ids,h=>by have:ids= []:=h;rw[this];rfl
 | .slice _,ids,h=>by have:ids= []:=h;rw[this];rfl
def KeptBox(objs:Wac)(ν:Nat->Nu)(bx:List (Nat×CS))(t:Ty)(k:Kp)(nu:Nu):Prop:=
 ∃cs b,look objs k.id=some (.box cs)/\k.off+t.size<=cs.length/\(ν k.id).blk=some b/\nu=WbX b ((ν k.id).off+k.off)/\(k.id,rng b ((ν k.id).off+k.off) t.size)∈bx
def KeptOk(objs:Wac)(ν:Nat->Nu)(bx:List (Nat×CS)):List PTy->List Kp->List Nu->Prop
 | [],ids,ks=>ids= []/\ks= []
 | .v _ _::ps,ids,ks=>KeptOk objs ν bx ps ids ks
 | .box t::ps,ids,ks=>∃k bh nu ks',ids=k::bh/\ks=nu::ks'/\KeptBox objs ν bx t k nu/\KeptOk objs ν bx ps bh ks'
 | .mut e::ps,ids,ks=>∃(id:Nat) (bh:List Kp) (ks':List Nu) (ys:List e.den),ids=⟨id,0⟩::bh/\ks=ν id::ks'/\look objs id=some (.arr e ys)/\KeptOk objs ν bx ps bh ks'
 | .clos _ _::ps,ids,ks=>KeptOk objs ν bx ps ids ks
 | .kv t _::ps,ids,ks=>∃i1 i2 ks',ids=kp0 i1++i2/\ks=i1.map ν++ks'/\Wiw objs t i1/\KeptOk objs ν bx ps i2 ks'
 | .rp _::ps,ids,ks=>KeptOk objs ν bx ps ids ks
 | .vj _::_,_,_=>False
 | .boxal t _::ps,ids,ks=>∃k bh nu ks',ids=k::bh/\ks=nu::ks'/\KeptBox objs ν bx t k nu/\KeptOk objs ν bx ps bh ks'
theorem KeptBox.mono{bx lQ:List (Nat×CS)}{t:Ty}{k:Kp}{nu:Nu}(hb:∀p∈bx,p∈lQ)(h:KeptBox objs ν bx t k nu):KeptBox objs ν lQ t k nu:=by
 obtain⟨cs,b,h1,h2,h3,h4,h5⟩:=h;exact⟨cs,b,h1,h2,h3,h4,hb _ h5⟩
theorem KeptOk.mono{bx lQ:List (Nat×CS)}(hb:∀p∈bx,p∈lQ):∀(ps:List PTy) (ids:List Kp) (ks:List Nu),KeptOk objs ν bx ps ids ks->KeptOk objs ν lQ ps ids ks
 | [],_,_,h=>h
 | .v _ _::ps,ids,ks,h=>KeptOk.mono hb ps ids ks h
 | .box t::ps,ids,ks,⟨k,bh,nu,ks',h1,h2,h3,h4⟩=>⟨k,bh,nu,ks',h1,h2,h3.mono hb,KeptOk.mono hb ps bh ks' h4⟩
 | .mut e::ps,ids,ks,⟨id,bh,ks',ys,h1,h2,h3,h4⟩=>⟨id,bh,ks',ys,h1,h2,h3,KeptOk.mono hb ps bh ks' h4⟩
 | .clos _ _::ps,ids,ks,h=>KeptOk.mono hb ps ids ks h
 | .kv t _::ps,ids,ks,⟨i1,i2,ks',h1,h2,h3,h4⟩=>⟨i1,i2,ks',h1,h2,h3,KeptOk.mono hb ps i2 ks' h4⟩
 | .rp _::ps,ids,ks,h=>KeptOk.mono hb ps ids ks h
 | .vj _::_,_,_,h=>h.elim
 | .boxal t _::ps,ids,ks,⟨k,bh,nu,ks',h1,h2,h3,h4⟩=>⟨k,bh,nu,ks',h1,h2,h3.mono hb,KeptOk.mono hb ps bh ks' h4⟩
def Wmb(G:GH)(ν:Nat->Nu)(w:World)(aP:Wac)(bx:List (Nat×CS))(ak:Nat)(id:Nat)(S:CS)(ob:Ob):Prop:=
 (∃kq off ds b us,look aP id=some (.box kq)/\ob= .box (WdX kq off ds)/\off+ds.length<=kq.length/\(ν id).blk=some b/\Mem w b ((ν id).off+off) us/\CellsRel G ν ak ds us/\
  S=rng b ((ν id).off+off) ds.length/\(id,rng b ((ν id).off+off) ds.length)∈bx)\/
 (∃(e:Ty) (ys xs:List e.den),look aP id=some (.arr e ys)/\ob= .arr e xs/\OwnL w (TyRel G w e) e.size (ν id) xs S)
theorem Wgl(aP:Wac){bx:List (Nat×CS)}{ak:Nat}:∀(t:Ty) (d:t.den) (us:List Value) (ns:List Pc) (ids:List Nat),TyRel G w t d us ns->nus ns=ids.map ν->Wiw aP t ids->
  (∀id ob,look (Wcq t d ids) id=some ob->∃(j:Nat) (S:CS),ids[j]?=some id/\(fps ns)[j]?=some S/\Wmb G ν w aP bx ak id S ob)/\∀id∈ids,∃ob,look (Wcq t d ids) id=some ob
 | .own e,d,us,ns,ids,⟨pc,h1,h2,h3⟩,hn,⟨id,ys,h,bb⟩=>by
  subst h h1;simp only[nus,Xam,Xby,List.cons.injEq,and_true]at hn;refine⟨λi ob hl=>?_,λi hi=>?_⟩
  .simp only[Wcq,WF]at hl;split at hl
   .rename_i e3;subst e3;injection hl with hl;subst hl;exact⟨0,pc.fp,rfl,rfl,.inr ⟨e,ys,d,bb,rfl,by simp_all⟩⟩
   .simp[look]at hl
  simp_all [Xaa,Wcq,look]
 | .prod a b,d,us,ns,ids,⟨u1,u2,n1,n2,h1,h2,h3,h4⟩,hn,⟨i1,i2,h,uH,kN⟩=>by
  subst h h2;have bq:=W5 a _ _ _ h3;have fL:=WeO a _ uH;simp only[nus,Xz]at hn;obtain⟨e1,e2⟩:=Xfp hn (by rw[Xu,Xu,bq,fL]);have t1:(i1++i2).take a.owns=i1:=by simp_all
  have t2:(i1++i2).drop a.owns=i2:=by simp_all
  obtain⟨a1,a2⟩:=Wgl aP (bx:=bx) (ak:=ak) a d.1 _ n1 i1 h3 e1 uH;obtain⟨b1,b2⟩:=Wgl aP (bx:=bx) (ak:=ak) b d.2 _ n2 i2 h4 e2 kN;simp only[Wcq,t1,t2];refine⟨λi ob hl=>?_,λi hi=>?_⟩
  .rcases WK hl with hl|hl
   .grind [fps,Xcs,Xad]
   grind [fps,Xce,Xcc,Xu]
  .rcases Xm.1 hi with hi|hi
   .grind [WbD]
   .obtain⟨ob,ho⟩:=b2 i hi;rw[WbD]
    grind
 | .int _,d,us,ns,ids,hr,_,h=>by have:ids= []:=h;grind [Wcq,look]
 | .bool,d,us,ns,ids,hr,_,h=>by have:ids= []:=h;grind [Wcq,look]
 | .str,d,us,ns,ids,hr,_,h=>by have:ids= []:=h;grind [Wcq,look]
 | .slice _,d,us,ns,ids,hr,_,h=>by have:ids= []:=h;grind [Wcq,look]
theorem WhJ:∀(t:Ty) (d:t.den) (ids:List Nat) (id:Nat) (ob:Ob),look (Wcq t d ids) id=some ob->id∈ids
 | .own e,d,ids,id,ob,h=>by
  cases ids with
  |nil=>simp[Wcq,look]at h
  |cons i l=>
   grind [Wcq,WF,Xh,look]
 | .prod a b,d,ids,id,ob,h=>by
  simp only[Wcq]at h;rcases WK h with h|h
  .exact Xbq (WhJ a d.1 _ id ob h)
  .exact Xer (WhJ b d.2 _ id ob h)
 | .int _,_,_,_,_,h=>by simp[Wcq,look]at h
 | .bool,_,_,_,_,h=>by simp[Wcq,look]at h
 | .str,_,_,_,_,h=>by simp[Wcq,look]at h
 | .slice _,_,_,_,_,h=>by simp[Wcq,look]at h
def kids(l:List Kp):List Nat:=l.map Kp.id
theorem Whw(l:List Nat):kids (kp0 l)=l:=by simp[kids,kp0,Function.comp_def]
theorem WaO(aP:Wac){bx:List (Nat×CS)}:∀(ps:List PTy) (o:WfH ps) (ids:List Kp) (ks:List Nu) (kf:List CS) (ms:List Pc) (objs:Wac) (nx ak:Nat),Wbz G w ps o ks kf ms->KeptOk aP ν bx ps ids ks->At ν φ nx ms->
  (kids ids).Nodup->(∀k∈ids,k.id<nx/\look objs k.id=look aP k.id)->nx+ms.length<=ak->
  (Wad ps o ids objs nx).2=nx+ms.length/\kf.length=ids.length/\
  ∀id ob,look (Wad ps o ids objs nx).1 id=some ob->(nx<=id/\id<nx+ms.length/\WpT G ν φ w id ob)\/(∃(j:Nat) (S:CS),(kids ids)[j]?=some id/\kf[j]?=some S/\Wmb G ν w aP bx ak id S ob)\/(look objs id=some ob/\id∉kids ids)
 | [],o,ids,ks,kf,ms,objs,nx,ak,⟨_,h1,h2⟩,hk,_,_,_,_=>by subst h1 h2;obtain⟨hk,_⟩:=hk;subst hk;exact⟨rfl,rfl,λid ob hl=>.inr (.inr ⟨hl,by simp[kids]⟩)⟩
 | .v _ _::ps,o,ids,ks,kf,ms,objs,nx,ak,h,hk,hν,hn,hi,hx=>WaO aP ps o ids ks kf ms objs nx ak h hk hν hn hi hx
 | .box t::ps,o,ids,ks,kf,ms,objs,nx,ak,⟨b,off,ks',cX,n1,n2,h1,h2,h3,hb,h5⟩,hk,hν,hn,hi,hx=>putOuts_box aP t ps o.1 o.2 ids ks kf ms objs nx ak (λids ks kf ms objs nx ak=>WaO aP ps o.2 ids ks kf ms objs nx ak) ⟨b,off,ks',cX,n1,n2,h1,h2,h3,hb,h5⟩ hk hν hn hi hx
 | .vj _::_,_,_,_,_,_,_,_,_,h,_,_,_,_,_=>h.elim
 | .boxal t _::ps,o,ids,ks,kf,ms,objs,nx,ak,⟨b,off,ks',cX,n1,n2,h1,h2,h3,hb,h5⟩,hk,hν,hn,hi,hx=>putOuts_box aP t ps o.1 o.2 ids ks kf ms objs nx ak (λids ks kf ms objs nx ak=>WaO aP ps o.2 ids ks kf ms objs nx ak) ⟨b,off,ks',cX,n1,n2,h1,h2,h3,hb,h5⟩ hk hν hn hi hx
 | .mut e::ps,o,ids,ks,kf,ms,objs,nx,ak,⟨pc,ks',cX,h1,h2,h3,h4⟩,hk,hν,hn,hi,hx=>by
  obtain⟨id,bh,uI,ys,rfl,kr,bb,eR⟩:=hk;rw[h1]at kr;simp only[List.cons.injEq]at kr;obtain⟨hνid,rfl⟩:=kr;subst h2;have aV:=Xah.1 hn;obtain⟨e1,el,e2⟩:=WaO aP ps o.2 bh ks' cX ms ((id,.arr e o.1)::objs) nx ak h4 eR hν aV.2 (λk mD=>by
   obtain⟨g1,g2⟩:=hi k (Xe _ mD);have hne:id≠k.id:=λe=>aV.1 (by grind);simp_all [WF,Wa]) hx
  simp only[Wad];refine⟨e1,by simp[el],λi ob hl=>?_⟩;rcases e2 i ob hl with g|⟨j,S,g1,g2,g3⟩|⟨g,gn⟩
  .grind
  .exact .inr (.inl ⟨j+1,S,g1,g2,g3⟩)
  .rw[WF]at g;split at g
   .rename_i e3;subst e3;injection g with g;subst g;exact .inr (.inl ⟨0,pc.fp,rfl,rfl,.inr ⟨e,ys,o.1,bb,rfl,by simp_all⟩⟩)
   .rename_i hne;exact .inr (.inr ⟨g,λhm=>by rcases Xq.1 hm with hm|hm;exact hne hm.symm;exact gn hm⟩)
 | .clos _ _::ps,o,ids,ks,kf,ms,objs,nx,ak,h,hk,hν,hn,hi,hx=>WaO aP ps o ids ks kf ms objs nx ak h hk hν hn hi hx
 | .rp _::ps,o,ids,ks,kf,ms,objs,nx,ak,h,hk,hν,hn,hi,hx=>WaO aP ps o ids ks kf ms objs nx ak h hk hν hn hi hx
 | .kv t agg::ps,o,ids,ks,kf,ms,objs,nx,ak,⟨n1,ks',cX,us,h1,h2,h3,h4⟩,⟨i1,i2,uI,bB,pg,ho,eR⟩,hν,hn,hi,hx=>by
  subst bB h2;have bq:=W5 t _ _ _ h3;have fL:=WeO t _ ho;rw[h1]at pg;obtain⟨q1,q2⟩:=Xfp pg (by simp[nus,bq,fL]);subst q2;have pi:(kp0 i1).length=t.owns:=by simp[kp0,fL]
  have t1:((kp0 i1++i2).take t.owns).map Kp.id=i1:=by rw[←pi];simp;exact Whw i1
  have t2:(kp0 i1++i2).drop t.owns=i2:=by simp_all
  obtain⟨r1,r2⟩:=Wgl (bx:=bx) (ak:=ak) aP t o.1 us n1 i1 h3 q1 ho;have jJ:kids (kp0 i1++i2)=i1++kids i2:=by grind [kids,Whw]
  rw[jJ]at hn;obtain⟨m1,m2,m3⟩:=Xag.1 hn;obtain⟨e1,el,e2⟩:=WaO aP ps o.2 i2 ks' cX ms (Wcq t o.1 i1++objs) nx ak h4 eR hν m2 (λk mD=>by
   obtain⟨g1,g2⟩:=hi k (Xg _ mD);refine⟨g1,?_⟩;rw[WbD];cases hq:look (Wcq t o.1 i1) k.id with
   |none=>exact g2
   |some ob=>exact Wl rfl (m3 _ (WhJ t o.1 i1 _ ob hq) _ (Xan mD))) hx
  simp only[Wad,t1,t2];have gj:(fps n1).length=i1.length:=by simp[fps,bq,fL]
  refine⟨e1,by simp_all,λi ob hl=>?_⟩;rw[jJ];rcases e2 i ob hl with g|⟨j,S,g1,g2,g3⟩|⟨g,gn⟩
  .grind
  .refine .inr (.inl ⟨i1.length+j,S,?_,?_,g3⟩)
   .grind
   grind
  .rw[WbD]at g;cases hq:look (Wcq t o.1 i1) i with
   |some cD=>
    rw[hq]at g;injection g with g;subst g;obtain⟨j,S,g1,g2,g3⟩:=r1 i _ hq;refine .inr (.inl ⟨j,S,?_,?_,g3⟩)
    .grind
    grind
   |none=>
    grind
where
 putOuts_box (aP:Wac) {bx:List (Nat×CS)} (t:Ty) (ps:List PTy) (o1:t.den) (o2:WfH ps) (ids:List Kp) (ks:List Nu) (kf:List CS) (ms:List Pc) (objs:Wac) (nx ak:Nat)
   (ih:∀(ids:List Kp) (ks:List Nu) (kf:List CS) (ms:List Pc) (objs:Wac) (nx ak:Nat),Wbz G w ps o2 ks kf ms->KeptOk aP ν bx ps ids ks->At ν φ nx ms->
    (kids ids).Nodup->(∀k∈ids,k.id<nx/\look objs k.id=look aP k.id)->nx+ms.length<=ak->
    (Wad ps o2 ids objs nx).2=nx+ms.length/\kf.length=ids.length/\
    ∀id ob,look (Wad ps o2 ids objs nx).1 id=some ob->(nx<=id/\id<nx+ms.length/\WpT G ν φ w id ob)\/(∃(j:Nat) (S:CS),(kids ids)[j]?=some id/\kf[j]?=some S/\Wmb G ν w aP bx ak id S ob)\/(look objs id=some ob/\id∉kids ids))
   (h:∃b off ks' cX n1 n2,ks=WbX b off::ks'/\kf=rng b off t.size::cX/\ms=n1++n2/\Wfa G w t o1 b off n1/\Wbz G w ps o2 ks' cX n2)
   (hk:∃k bh nu ks',ids=k::bh/\ks=nu::ks'/\KeptBox aP ν bx t k nu/\KeptOk aP ν bx ps bh ks') (hν:At ν φ nx ms)
   (hn:(kids ids).Nodup) (hi:∀k∈ids,k.id<nx/\look objs k.id=look aP k.id) (hx:nx+ms.length<=ak):
   (Wad (.box t::ps) (o1,o2) ids objs nx).2=nx+ms.length/\kf.length=ids.length/\
   ∀id ob,look (Wad (.box t::ps) (o1,o2) ids objs nx).1 id=some ob->(nx<=id/\id<nx+ms.length/\WpT G ν φ w id ob)\/(∃(j:Nat) (S:CS),(kids ids)[j]?=some id/\kf[j]?=some S/\Wmb G ν w aP bx ak id S ob)\/(look objs id=some ob/\id∉kids ids):=by
  obtain⟨b,off,ks',cX,n1,n2,h1,h2,h3,⟨us,_,hmem,gk⟩,h5⟩:=h;obtain⟨k,bh,nu,uI,rfl,kr,⟨kq,b0,bb,bY,bg,ku,sA⟩,eR⟩:=hk;rw[h1]at kr;simp only[List.cons.injEq]at kr;obtain⟨rk,rfl⟩:=kr;rw[ku]at rk;unfold WbX at rk;injection rk with sB wS;injection sB with sB;subst sB wS h2 h3;have bq:=W5 t _ _ _ gk;have hlen:(n1++n2).length=t.owns+n2.length:=by rw[Xac,bq]
  obtain⟨c1,uJ⟩:=Was t o1 nx us n1 gk hν.left;have aV:=Xah.1 hn;obtain⟨sD,kO⟩:=hi k (Xh ..);have cV:=Wb3 t o1 nx;have hQ:WgY (look objs k.id) k.off (unfold t o1 nx).1= .box (WdX kq k.off (unfold t o1 nx).1):=by rw[kO,bb];rfl
  obtain⟨e1,el,e2⟩:=ih bh ks' cX n2 ((k.id,WgY (look objs k.id) k.off (unfold t o1 nx).1)::((unfold t o1 nx).2.1++objs)) (nx+t.owns) ak h5 eR (hν.right bq) aV.2 (λk' mD=>by
   obtain⟨g1,g2⟩:=hi k' (Xe _ mD);refine⟨by omega,?_⟩;rw[WF,Wa (λe=>aV.1 (by rw[e];exact Xan mD)),WbD];cases hq:look (unfold t o1 nx).2.1 k'.id with
   |none=>exact g2
   |some ob=>have:=(uJ _ ob hq).1;omega) (by omega)
  simp only[Wad,WaL];refine⟨by rw[e1,hlen];omega,by simp[el],λi ob hl=>?_⟩;rcases e2 i ob hl with⟨g1,g2,g3⟩|⟨j,S,g1,g2,g3⟩|⟨g,gn⟩
  .exact .inl ⟨by omega,by omega,g3⟩
  .exact .inr (.inl ⟨j+1,S,g1,g2,g3⟩)
  .rw[WF]at g;split at g
   .rename_i e3;subst e3;injection g with g;rw[hQ]at g;subst g;refine .inr (.inl ⟨0,_,rfl,rfl,.inl ⟨kq,k.off,_,_,us,bb,rfl,by rw[cV];exact bY,bg,hmem,c1 ak (by omega),by rw[cV],by rw[cV];exact sA⟩⟩)
   .rename_i hne;rcases WK g with g|g
    .obtain⟨g1,g2,g3⟩:=uJ i ob g;exact .inl ⟨g1,by omega,g3⟩
    .exact .inr (.inr ⟨g,λhm=>by rcases Xq.1 hm with hm|hm;exact hne hm.symm;exact gn hm⟩)
def Wve(G:GH)(ν:Nat->Nu)(φ:Nat->CS)(w:World)(ak:Nat)(id:Nat)(ob:Ob):Prop:=
 WpT G ν φ w id ob\/∃cs b us,ob= .box cs/\(ν id).blk=some b/\Row w b ((ν id).off+cs.length)/\Mem w b (ν id).off us/\CellsRel G ν ak cs us/\CS.le (rng b (ν id).off cs.length) (φ id)
theorem WdR:∀(rs:List PTy) (d:WgG rs) (vs:List Value) (ns:List Pc) (objs:Wac) (nx ak:Nat),WfO G w rs d vs ns->At ν φ nx ns->nx+ns.length<=ak->
  (Wbp rs d objs nx).2.2=nx+ns.length/\
  (∀id ob,look (Wbp rs d objs nx).2.1 id=some ob->(nx<=id/\id<nx+ns.length/\Wve G ν φ w ak id ob)\/look objs id=some ob)/\
  WqA G ν ak (Wbp rs d objs nx).1 vs
 | [],d,vs,ns,objs,nx,ak,⟨h1,h2⟩,_,_=>by subst h1 h2;exact⟨rfl,λid ob hl=>.inr hl,rfl,λj x v hj=>by simp[Wbp]at hj⟩
 | .v t agg::rs,d,vs,ns,objs,nx,ak,⟨v,vs',n1,n2,h1,h2,h3,h4⟩,hν,hx=>by
  subst h2;obtain⟨us,iT⟩:=WnH h3;have bq:=W5 _ _ _ _ iT;have hlen:(n1++n2).length=t.owns+n2.length:=by rw[Xac,bq]
  obtain⟨_,o1⟩:=Was t d.1 nx us n1 iT hν.left;obtain⟨e1,e2,e4,e5⟩:=WdR rs d.2 vs' n2 ((unfold t d.1 nx).2.1++objs) (nx+t.owns) ak h4 (hν.right bq) (by omega);simp only[Wbp,WaL];refine⟨by rw[e1,hlen];omega,λi ob hl=>?_,?_⟩
  .rcases e2 i ob hl with⟨g1,g2,g3⟩|g
   .exact .inl ⟨by omega,by omega,g3⟩
   .rcases WK g with g|g
    .obtain⟨g1,g2,g3⟩:=o1 i ob g;exact .inl ⟨g1,by omega,.inl g3⟩
    .exact .inr g
  .rw[h1];refine⟨by simp[e4],λj x u hj hu=>?_⟩;cases j with
   |zero=>simp at hj hu;subst hj hu;exact Wkg h3 hν.left (by omega)
   |succ j=>exact e5 j x u (by simpa using hj) (by simpa using hu)
 | .box t::rs,d,vs,ns,objs,nx,ak,⟨b,o,vs',n1,n2,h1,h2,⟨us,hrow,hmem,gk⟩,h5⟩,hν,hx=>by
  subst h2;have bq:=W5 _ _ _ _ gk;have hlen:((⟨WbX b o,rng b o t.size⟩:Pc)::(n1++n2)).length=1+t.owns+n2.length:=by rw[List.length_cons,Xac,bq];omega
  obtain⟨hν0,hφ0⟩:ν nx=WbX b o/\φ nx=rng b o t.size:=by have:=hν 0 _ rfl;simpa using this
  have hν1:At ν φ (nx+1) (n1++n2):=hν.right (n1:=[⟨WbX b o,rng b o t.size⟩]) rfl;obtain⟨c1,o1⟩:=Was t d.1 (nx+1) us n1 gk hν1.left;obtain⟨e1,e2,e4,e5⟩:=WdR rs d.2 vs' n2 ((nx,.box (unfold t d.1 (nx+1)).1)::((unfold t d.1 (nx+1)).2.1++objs)) (nx+1+t.owns) ak h5 (hν1.right bq) (by omega);have cV:=Wb3 t d.1 (nx+1);simp only[Wbp,WaL];refine⟨by rw[e1,hlen];omega,λid ob hl=>?_,?_⟩
  .rcases e2 id ob hl with⟨g1,g2,g3⟩|g
   .exact .inl ⟨by omega,by omega,g3⟩
   .rw[WF]at g;split at g
    .rename_i e;subst e;injection g with g;subst g;refine .inl ⟨Xn _,by omega,.inr ⟨_,b,us,rfl,by rw[hν0];rfl,?_,?_,c1 ak (by omega),?_⟩⟩
     .rw[hν0,cV];exact hrow
     .rw[hν0];exact hmem
     .rw[hν0,cV,hφ0];exactλ_ _ hh=>hh
    .rcases WK g with g|g
     .obtain⟨g1,g2,g3⟩:=o1 id ob g;exact .inl ⟨by omega,by omega,.inl g3⟩
     .exact .inr g
  .rw[h1];refine⟨by simp[e4],λj x u hj hu=>?_⟩;cases j with
   |zero=>
    simp at hj hu;subst hj hu;exact⟨⟨by omega,b,by rw[hν0];rfl,by rw[hν0];rfl⟩,rfl⟩
   |succ j=>exact e5 j x u (by simpa using hj) (by simpa using hu)
 | .mut _::_,_,_,_,_,_,_,h,_,_=>h.elim
 | .clos _ _::_,_,_,_,_,_,_,h,_,_=>h.elim
 | .kv _ _::_,_,_,_,_,_,_,h,_,_=>h.elim
 | .rp _::_,_,_,_,_,_,_,h,_,_=>h.elim
 | .vj t::rs,d,vs,ns,objs,nx,ak,⟨us,u,vs',n1,n2,h1,h0,h2,h3,h4⟩,hν,hx=>by
  subst h2;have bq:=W5 _ _ _ _ h3;have hlen:(n1++n2).length=t.owns+n2.length:=by rw[Xac,bq]
  obtain⟨c1,o1⟩:=Was t d.1 nx us n1 h3 hν.left;obtain⟨e1,e2,e4,e5⟩:=WdR rs d.2 vs' n2 ((unfold t d.1 nx).2.1++objs) (nx+t.owns) ak h4 (hν.right bq) (by omega);simp only[Wbp,WaL];refine⟨by rw[e1,hlen];omega,λi ob hl=>?_,?_⟩
  .rcases e2 i ob hl with⟨g1,g2,g3⟩|g
   .exact .inl ⟨by omega,by omega,g3⟩
   .rcases WK g with g|g
    .obtain⟨g1,g2,g3⟩:=o1 i ob g;exact .inl ⟨g1,by omega,.inl g3⟩
    .exact .inr g
  .rw[h1];refine⟨by simp[e4],λj x v hj hv=>?_⟩;cases j with
   |zero=>simp at hj hv;subst hj hv;exact⟨us++ [u],rfl,(c1 ak (by omega)).append (CellsRel.one trivial h0)⟩
   |succ j=>exact e5 j x v (by simpa using hj) (by simpa using hv)
 | .boxal _ _::_,_,_,_,_,_,_,h,_,_=>h.elim
theorem Wqd{xs:List AV}{vs:List Value}(h:WqA G ν nx xs vs):AValRel G ν nx (Wu2 xs) (Wih vs):=by
 obtain⟨h1,h2⟩:=h
 match xs,vs,h1 with
 | [],[],_=>exact⟨[],rfl,rfl,λj x v hj=>by simp at hj⟩
 | [x],[v],_=>exact h2 0 x v rfl rfl
 |x::y::xs,v::u::vs,h1=>exact⟨v::u::vs,rfl,h1,h2⟩
end
end Go.Sx
namespace Go.Sx
set_option linter.unusedVariables false
set_option linter.unusedSimpArgs false
theorem WaK(i:Nat):∀l:List Nat,Wcf i l=true↔i∈l
 | []=>by simp[Wcf]
 |j::l=>by
  simp only[Wcf,Bool.or_eq_true,WaK i l,Xq];rw[show(Nat.beq i j=true)=(i=j)from by simp]
theorem WeJ:∀l:List Nat,Wbr l=true↔l.Nodup
 | []=>by simp[Wbr]
 |i::l=>by
  have h:=WaK i l;simp only[Wbr,Xi,Xap,Xah,WeJ l]
  grind
theorem Wll{l m:List Nat}(h:Wgp l m=true):∀i∈l,i∉m:=λi hi hm=>by
 grind [Wgp,Xai,WaK]
section
variable{w0:World}{F:CS}{nt:Slots}{G0 G G':GH}{ν:Nat->Nu}{φ:Nat->CS}{objs:Wac}{nx:Nat}{st ah:St}{a:Act}{w w':World}{P:Program}{T:Tab}
theorem WkU(h:HR w0 F G ν φ objs nx w){t:Ty}{agg:Bool}{x:AVal}{v:Value}{cs:List Cell}{d:t.den}{m l:List Nat}(hg:GLe G G')(hx:AValRel G ν nx x v)(hl:Lent G' w φ objs l)(hm:m.Nodup)
  (hc:cellsOf agg x=some cs) (hf:Waq t cs objs=some (d,m,l)):∃ns,WiE G' w t agg d v ns/\Sep (fps ns)/\(∀p∈ns,CS.le p.fp (FromL φ objs m))/\(∀i∈m,Live objs i)/\(∀i∈l,Live objs i):=by
 unfold cellsOf at hc;split at hc
 .split at hc
  .cases hc
  .rename_i c ha;injection hc with hc;subst hc;obtain⟨ns,h1,h2,h3,h4,h5,_⟩:=Wae h hg t [c] [v] d m l (CellsRel.one hx.1 hx.2) hl hm hf;refine⟨ns,?_,h2,h3,h4,h5⟩;simp_all [WiE,Wa]
 .split at hc
  .rename_i ds ha;injection hc with hc;subst hc;obtain⟨us,rfl,bC⟩:=hx;obtain⟨ns,h1,h2,h3,h4,h5,_⟩:=Wae h hg t ds us d m l bC hl hm hf;refine⟨ns,?_,h2,h3,h4,h5⟩;unfold WiE;simp_all
  .cases hc
 .cases hc
def Wvc(objs:Wac)(m:List Nat):Prop:=∀i∈m,∃(e:Ty) (xs:List e.den),look objs i=some (.arr e xs)
theorem Whq:∀(t:Ty) (cs:List Cell) (d:t.den) (m l:List Nat),Wvc objs m->Waq t cs objs=some (d,m,l)->m.length<=t.owns
 | .prod a b,cs,d,m,l,ha,h=>by
  simp only[Waq]at h;split at h
  .rename_i x m1 l1 y m2 l2 h1 h2;simp only[Option.some.injEq,Prod.mk.injEq]at h;obtain⟨rfl,rfl,rfl⟩:=h;have:=Whq a _ _ _ _ (λi hi=>ha i (Xl _ hi)) h1;have:=Whq b _ _ _ _ (λi hi=>ha i (Xg _ hi)) h2;rw[Xac];show _<=a.owns+b.owns;omega
  grind
 | .own e,cs,d,m,l,ha,h=>by
  simp only[Waq]at h;split at h
  .rename_i id;obtain⟨⟨ys,m'⟩,ho,hf⟩:=Xy.1 h;simp only[Prod.mk.injEq]at hf;obtain⟨rfl,rfl,rfl⟩:=hf;unfold WsR at ho;split at ho
   .obtain⟨zs,_,ho⟩:=Xy.1 ho;obtain⟨_,rfl⟩:=Prod.mk.inj ho;exact Xn 1
   .rename_i e' xs i p bb;split at ho
    .split at ho
     .simp only[Option.some.injEq,Prod.mk.injEq]at ho;obtain⟨_,rfl⟩:=ho;obtain⟨e2,wT,h2⟩:=ha id (Xh ..);simp_all
     grind
    grind
   grind
  .split at h
   .obtain⟨zs,_,h⟩:=Xy.1 h;have h2:=(Prod.mk.inj (Prod.mk.inj h).2).1;subst h2;exact Xn 1
   grind
  .grind
  grind
 | .slice e,cs,d,m,l,_,h=>by
  have hm:m= []:=by
   simp only[Waq]at h
   grind [Xy,Prod.mk.inj]
  simp_all
 | .int k,cs,d,m,l,_,h=>by
  simp only[Waq]at h;split at h
  .obtain⟨q,hq,h⟩:=Xy.1 h;simp_all
  grind
 | .bool,cs,d,m,l,_,h=>by
  simp only[Waq]at h;split at h
  .obtain⟨q,hq,h⟩:=Xy.1 h;simp_all
  grind
 | .str,cs,d,m,l,_,h=>by
  simp only[Waq]at h;split at h
  .obtain⟨q,hq,h⟩:=Xy.1 h;simp_all
  grind
theorem WeU(h:HR w0 F G ν φ objs nx w)(hg:GLe G G'){t:Ty}(ht:t.owns=0){cs:List Cell}{vs:List Value}{d:t.den}{m l:List Nat}(hc:CellsRel G ν nx cs vs)(hl:Lent G' w φ objs l)(hf:Waq t cs objs=some (d,m,l))(hm:m= []):TyRel G' w t d vs []:=by
 subst hm;obtain⟨ns,h1,_⟩:=Wae h hg t cs vs d [] l hc hl Xcq hf;have:=W5 _ _ _ _ h1;simp_all
def pcs(ν:Nat->Nu)(φ:Nat->CS)(m:List Nat):List Pc:=m.map λi=>⟨ν i,φ i⟩
theorem WuN(m:List Nat):nus (pcs ν φ m)=m.map ν:=by simp[nus,pcs,Function.comp_def]
theorem Wng(m:List Nat):fps (pcs ν φ m)=m.map φ:=by simp[fps,pcs,Function.comp_def]
theorem WeS(h:HR w0 F G ν φ objs nx w)(hg:GLe G G'):∀(t:Ty) (cs:List Cell) (vs:List Value) (d:t.den) (m l:List Nat),CellsRel G ν nx cs vs->Lent G' w φ objs l->(∀c∈cs,WqH c=true)->Wvc objs m->
  Waq t cs objs=some (d,m,l)->m.length=t.owns->TyRel G' w t d vs (pcs ν φ m)/\Wiw objs t m
 | .prod a b,cs,vs,d,m,l,hc,hl,hw,ha,hf,hm=>by
  have uK:=hf;simp only[Waq]at hf;split at hf
  .rename_i x m1 l1 y m2 l2 h1 h2;simp only[Option.some.injEq,Prod.mk.injEq]at hf;obtain⟨rfl,rfl,rfl⟩:=hf;have uL:Wvc objs m1:=λi hi=>ha i (Xl _ hi);have kw:Wvc objs m2:=λi hi=>ha i (Xg _ hi);have q1:=Whq a _ _ _ _ uL h1;have q2:=Whq b _ _ _ _ kw h2;rw[Xac]at hm;have gE:m1.length+m2.length=a.owns+b.owns:=hm;obtain⟨g1,g2⟩:=WeS h hg a _ (vs.take a.size) x m1 l1 (hc.take _) (hl.mono (by simp_all)) (λc hc=>hw c (Xbq hc)) uL h1 (by omega);obtain⟨g3,g4⟩:=WeS h hg b _ (vs.drop a.size) y m2 l2 (hc.drop _) (hl.mono (by simp_all)) (λc hc=>hw c (Xer hc)) kw h2 (by omega);exact⟨⟨_,_,pcs ν φ m1,pcs ν φ m2,(Xcx a.size vs).symm,by simp[pcs],g1,g3⟩,m1,m2,rfl,g2,g4⟩
  grind
 | .own e,cs,vs,d,m,l,hc,hl,hw,ha,hf,hm=>by
  simp only[Waq]at hf;split at hf
  .rename_i id;obtain⟨v,rfl,⟨_,hv⟩,_⟩:=hc.single;subst hv;obtain⟨⟨ys,m'⟩,ho,hf⟩:=Xy.1 hf;simp only[Prod.mk.injEq]at hf;obtain⟨rfl,rfl,rfl⟩:=hf;unfold WsR at ho;split at ho
   .rename_i e' xs bb;obtain⟨zs,bs,ho⟩:=Xy.1 ho;obtain⟨rfl,rfl⟩:=Prod.mk.inj ho;obtain⟨he,hy⟩:=War bs;subst he;simp only at hy;subst hy;have az:OwnL w (TyRel G w e') e'.size (ν id) xs (φ id):=h.ob _ _ bb;exact⟨⟨⟨ν id,φ id⟩,rfl,rfl,WcH hg (Same.refl _ w) (λ_ _ hh=>hh) az⟩,id,xs,rfl,bb⟩
   .rename_i e' xs i p bb;split at ho
    .split at ho
     .simp only[Option.some.injEq,Prod.mk.injEq]at ho;obtain⟨_,rfl⟩:=ho;obtain⟨e2,wT,h2⟩:=ha id (Xh ..);simp_all
     grind
    grind
   grind
  .have:=hw _ (Xaa.2 rfl);cases this
  .simp only[Option.some.injEq,Prod.mk.injEq]at hf;obtain⟨rfl,rfl,rfl⟩:=hf;exact Wl hm (by show¬(0=1);omega)
  grind
 | .slice e,cs,vs,d,m,l,hc,hl,hw,ha,hf,hm=>by
  have jK:m= []:=Xab hm;have:=WeU h hg (t:=.slice e) rfl hc hl hf jK;subst jK;exact⟨this,rfl⟩
 | .int k,cs,vs,d,m,l,hc,hl,hw,ha,hf,hm=>by
  have jK:m= []:=Xab hm;have:=WeU h hg (t:=.int k) rfl hc hl hf jK;subst jK;exact⟨this,rfl⟩
 | .bool,cs,vs,d,m,l,hc,hl,hw,ha,hf,hm=>by
  have jK:m= []:=Xab hm;have:=WeU h hg (t:=.bool) rfl hc hl hf jK;subst jK;exact⟨this,rfl⟩
 | .str,cs,vs,d,m,l,hc,hl,hw,ha,hf,hm=>by
  have jK:m= []:=Xab hm;have:=WeU h hg (t:=.str) rfl hc hl hf jK;subst jK;exact⟨this,rfl⟩
theorem WpF{t:Ty}{m:List Nat}{x:AVal}(h:WlW objs t m x=true):m.length=t.owns/\Wtt x=true/\Wvc objs m:=by
 unfold WlW at h;simp only[Xi,Wh,Xai]at h;obtain⟨⟨h1,h2⟩,h3⟩:=h;refine⟨h1,h2,λi hi=>?_⟩
 grind
theorem Wma(h:HR w0 F G ν φ objs nx w){t:Ty}{agg:Bool}{x:AVal}{v:Value}{cs:List Cell}{d:t.den}{m l:List Nat}(hg:GLe G G')(hx:AValRel G ν nx x v)(hl:Lent G' w φ objs l)
  (hc:cellsOf agg x=some cs) (hf:Waq t cs objs=some (d,m,l)) (ha:WlW objs t m x=true):WiE G' w t agg d v (pcs ν φ m)/\Wiw objs t m:=by
 obtain⟨hm,hw,fT⟩:=WpF ha;unfold cellsOf at hc;split at hc
 .split at hc
  .cases hc
  .rename_i c nU;injection hc with hc;subst hc;obtain⟨h1,h2⟩:=WeS h hg t [c] [v] d m l (CellsRel.one hx.1 hx.2) hl (λc' fy=>by rw[Xaa.1 fy];exact hw) fT hf hm;simp_all [WiE,Wa]
 .split at hc
  .rename_i ds nU;injection hc with hc;subst hc;obtain⟨us,rfl,bC⟩:=hx;obtain⟨h1,h2⟩:=WeS h hg t ds us d m l bC hl (λc' fy=>Xai.1 hw c' fy) fT hf hm;refine⟨?_,h2⟩;unfold WiE;simp_all
  .cases hc
 .cases hc
def Tk(φ:Nat->CS)(objs:Wac)(bx:List (Nat×CS))(l:List Nat):CS:=λb o=>∃i∈l,Live objs i/\φ i b o/\∀p∈bx,p.1=i->p.2 b o
structure AOk(G':GH)(ν:Nat->Nu)(φ:Nat->CS)(objs:Wac)(w:World)(ps:List PTy)(A:Args ps)(vs:List Value)(ns:List Pc)(ks:List Nu)(bx:List (Nat×CS)):Prop where
 args:Wbj G' w ps A.d vs ns ks
 kept:KeptOk objs ν bx ps A.kept ks
 sep:Sep (fps ns)
 tk:∀q∈ns,CS.le q.fp (Tk φ objs bx A.all)
 bx:∀p∈bx,p.1∈A.all
 live:∀i∈A.all,Live objs i
 lent:∀i∈A.lent,Live objs i
 mv:∀i∈A.moved,i∈A.all
 mvk:∀i∈A.all,i∈A.moved\/i∈kids A.kept
 sub:(kids A.kept).Sublist A.all
 dis:∀i∈kids A.kept,i∉A.moved
theorem Wh0{bx:List (Nat×CS)}{l:List Nat}:CS.le (Tk φ objs bx l) (FromL φ objs l):=λb o ⟨i,hi,h1,h2,_⟩=>⟨i,hi,h1,h2⟩
theorem WjT{bx lQ:List (Nat×CS)}{l l':List Nat}(hl:∀i∈l,i∈l')(hb:∀p∈lQ,p∈bx\/p.1∉l):CS.le (Tk φ objs bx l) (Tk φ objs lQ l'):=λb o ⟨i,hi,h1,h2,h3⟩=>
 ⟨i,hl i hi,h1,h2,λp hp e=>by
  grind⟩
theorem Wnl{bx:List (Nat×CS)}{m l:List Nat}(hm:∀i∈m,i∈l)(hb:∀p∈bx,p.1∉m):CS.le (FromL φ objs m) (Tk φ objs bx l):=λb o ⟨i,hi,h1,h2⟩=>
 ⟨i,hm i hi,h1,h2,λp hp e=>Wl (by simp_all) (hb p hp)⟩
theorem Wcc(h:HR w0 F G ν φ objs nx w){n1 n2:List Pc}{m l:List Nat}(h1:Sep (fps n1))(h2:Sep (fps n2))(g1:∀q∈n1,CS.le q.fp (FromL φ objs m))(g2:∀q∈n2,CS.le q.fp (FromL φ objs l))(hd:∀i∈m,i∉l):Sep (fps (n1++n2)):=by
 unfold fps;rw[Xz];refine Wnj h1 h2 (A:=FromL φ objs m) (B:=FromL φ objs l) (λs hs=>?_) (λs hs=>?_) (FromL.disj h hd)
 .grind
 grind
theorem WnX(h:HR w0 F G ν φ objs nx w)(hg:GLe G G'){t:Ty}{ps:List PTy}{id off:Nat}{cs:List Cell}{d:t.den}{m:List Nat}{A:Args ps}{vs:List Value}{ns:List Pc}{ks:List Nu}{bx:List (Nat×CS)}{v:Value}
  (hv:CellRel G ν nx (.ptr id off) v) (bb:look objs id=some (.box cs)) (hf:Waq t ((cs.drop off).take t.size) objs=some (d,m,[])) (aV:(id::(m++A.all)).Nodup) (hA:AOk G' ν φ objs w ps A vs ns ks bx):
  ∃b n1,v= .pointer (some ⟨b,(ν id).off+off,none⟩)/\(ν id).blk=some b/\Wfa G' w t d b ((ν id).off+off) n1/\Leaf ν t ((cs.drop off).take t.size) n1/\
   KeptBox objs ν ((id,rng b ((ν id).off+off) t.size)::bx) t ⟨id,off⟩ (WbX b ((ν id).off+off))/\KeptOk objs ν ((id,rng b ((ν id).off+off) t.size)::bx) ps A.kept ks/\
   Sep (fps (⟨WbX b ((ν id).off+off),rng b ((ν id).off+off) t.size⟩::(n1++ns)))/\
   (∀q∈(⟨WbX b ((ν id).off+off),rng b ((ν id).off+off) t.size⟩:Pc)::(n1++ns),CS.le q.fp (Tk φ objs ((id,rng b ((ν id).off+off) t.size)::bx) (id::(m++A.all))))/\
   (∀p∈(id,rng b ((ν id).off+off) t.size)::bx,p.1∈id::(m++A.all))/\(∀i∈id::(m++A.all),Live objs i)/\
   (∀i∈m++A.moved,i∈id::(m++A.all))/\(∀i∈id::(m++A.all),i∈m++A.moved\/i∈id::kids A.kept)/\(id::kids A.kept).Sublist (id::(m++A.all))/\(∀i∈id::kids A.kept,i∉m++A.moved):=by
 obtain⟨bB,b,bg,rfl⟩:=hv;obtain⟨n1,n2⟩:=Xah.1 aV;obtain⟨n3,n4,n5⟩:=Xag.1 n2;have aI:Live objs id:=⟨_,bb,by simp⟩;obtain⟨b',us,hb',hrow,hmem,bC,eC⟩:Wcs G ν nx w id (φ id) (.box cs):=h.ob _ _ bb;rw[bg]at hb';injection hb' with hb';subst hb';obtain⟨q1,t1,t2,t3,t4,_,t5⟩:=Wae h hg t _ ((us.drop off).take t.size) d m [] ((bC.drop off).take _) (λi hi=>by simp at hi) n3 hf;have hlen:=WD _ _ _ _ t1;have bY:off+t.size<=cs.length:=by
  have:=bC.1
  grind [Xaw,Xdh,WbO]
 have fR:CS.le (rng b ((ν id).off+off) t.size) (φ id):=λb' o ⟨k0,k1,k2⟩=>eC b' o ⟨k0,by omega,by omega⟩;refine⟨b,q1,rfl,bg,⟨_,?_,?_,t1⟩,t5,⟨cs,b,bb,bY,bg,rfl,Xh ..⟩,KeptOk.mono (λp hp=>Xe _ hp) _ _ _ hA.kept,?_,?_,?_,?_,?_,?_,?_,?_⟩
 .obtain⟨row,TT,r1,r2⟩:=hrow;exact⟨row,TT,r1,by omega⟩
 .intro j v hj;rw[Xbk]at hj;split at hj
  .rw[Xbm]at hj;rw[Xay];exact hmem _ v hj
  grind
 .have s1:=Wcc h t2 hA.sep t3 (λq hq b o hh=>Wh0 b o (hA.tk q hq b o hh)) (λi hi hj=>n5 i hi i hj rfl);refine Xv.2 ⟨λs hs=>?_,s1⟩;obtain⟨p,hp,rfl⟩:=Xt.1 hs;refine CS.disj.mono (FromL.disj h (m:=[id]) (m':=m++A.all) (λi hi hj=>n1 (by simp_all))) (λb o hh=>⟨id,by simp,aI,fR b o hh⟩) (λb o hh=>?_);rcases Xm.1 hp with hp|hp
  .exact FromL.mono (λi hi=>Xl _ hi) b o (t3 p hp b o hh)
  .exact FromL.mono (λi hi=>Xg _ hi) b o (Wh0 b o (hA.tk p hp b o hh))
 .intro q hq;rcases Xq.1 hq with rfl|hq
  .exactλb o hh=>⟨id,Xh ..,aI,fR b o hh,λp hp e=>by
    rcases Xq.1 hp with rfl|hp
    .exact hh
    .exact Wl (Xg _ (by rw[←e];exact hA.bx p hp)) n1⟩
  .rcases Xm.1 hq with hq|hq
   .refineλb o hh=>Wnl (m:=m) (λi hi=>Xe _ (Xl _ hi)) (λp hp hm=>?_) b o (t3 q hq b o hh)
    rcases Xq.1 hp with rfl|hp
    .simp_all
    .exact n5 _ hm _ (hA.bx p hp) rfl
   .refineλb o hh=>WjT (λi hi=>Xe _ (Xg _ hi)) (λp hp=>?_) b o (hA.tk q hq b o hh)
    grind
 .intro p hp;rcases Xq.1 hp with rfl|hp
  .simp_all
  .exact Xe _ (Xg _ (hA.bx p hp))
 .intro i hi;rcases Xq.1 hi with rfl|hi
  .exact aI
  .rcases Xm.1 hi with hi|hi
   .grind
   .exact hA.live i hi
 .intro i hi;rcases Xm.1 hi with hi|hi
  .exact Xe _ (Xl _ hi)
  .exact Xe _ (Xg _ (hA.mv i hi))
 .intro i hi;rcases Xq.1 hi with rfl|hi
  .exact .inr (Xh ..)
  .rcases Xm.1 hi with hi|hi
   .exact .inl (Xl _ hi)
   .rcases hA.mvk i hi with hi|hi
    .exact .inl (Xg _ hi)
    .exact .inr (Xe _ hi)
 .exact List.Sublist.cons_cons _ (List.Sublist.trans hA.sub (Xfg _ _))
 .intro i hi hm;rcases Xq.1 hi with rfl|hi
  .rcases Xm.1 hm with hm|hm
   .exact n1 (Xl _ hm)
   .exact n1 (Xg _ (hA.mv _ hm))
  .rcases Xm.1 hm with hm|hm
   .exact n5 _ hm _ (hA.sub.subset hi) rfl
   .exact hA.dis i hi hm
theorem WpP(h:HR w0 F G ν φ objs nx w){c:Cell}{y:AVal}{i:Nat}{u:Value}(hy:AValRel G ν nx y u)(he:Wrw objs c y=some i):
  ∃r b,c= .own r/\(ν r).blk=some b/\i<(ν r).len/\u= .pointer (some ⟨b,(ν r).off+(i*(ν r).esz+0),none⟩):=by
 unfold Wrw at he;split at he
 .rename_i r p off;split at he
  .rename_i e xs j p' bb;split at he
   .rename_i hp;injection he with he;subst he;have hp:=Xci hp;subst hp;obtain⟨kI,k1,k2,k3,b,k4,k5,k6,_⟩:p<nx/\Whk w (TyRel G w e) e.size (ν r) (ν p) xs j (φ r):=h.ob _ _ bb;obtain⟨⟨_,b',hb',rfl⟩,_⟩:=hy;rw[k5]at hb';injection hb' with hb';subst hb';exact⟨r,b,rfl,k4,by omega,by rw[k6,k2,Xbb,Xbb]⟩
   .simp at he
  .simp at he
 .rename_i r r' j off;split at he
  .rename_i e xs bb;split at he
   .rename_i hp;injection he with he;subst he;have hp:=Xci hp;subst hp;obtain⟨⟨_,hlt,b,hb,rfl⟩,_⟩:=hy;exact⟨r,b,rfl,hb,hlt,rfl⟩
   .simp at he
  .simp at he
 .simp at he
theorem WaB(h:HR w0 F G ν φ objs nx w)(hg:GLe G G'):∀(ps:List PTy) (xs:List AVal) (vs:List Value) (A:Args ps),vs.length=xs.length->
  (∀(j:Nat) (x:AVal) (v:Value),xs[j]?=some x->vs[j]?=some v->AValRel G ν nx x v)->Lent G' w φ objs A.lent->A.all.Nodup->W9 ps xs objs=some A->
  ∃ns ks bx,AOk G' ν φ objs w ps A vs ns ks bx
 | [],xs,vs,A,hlen,hx,hl,aV,hf=>by
  simp only[W9]at hf;split at hf
  .injection hf with hf;subst hf;have eO:vs= []:=Xab (by simpa using hlen);exact⟨[],[],[],⟨eO,rfl,rfl⟩,⟨rfl,rfl⟩,List.Pairwise.nil,by simp,by simp,by simp,by simp,by simp,by simp,List.Sublist.refl _,by simp[kids]⟩
  .cases hf
 | .v t agg::ps,xs,vs,A,hlen,hx,hl,aV,hf=>by
  simp only[W9]at hf;split at hf
  .rename_i x xs;split at hf
   .rename_i d m r A' h1 h2;injection hf with hf;subst hf
    match vs,hlen with
    |v::vs,hlen=>
     cases hc:cellsOf agg x with
     |none=>simp[hc]at h1
     |some cs=>
      simp[hc]at h1;obtain⟨n1,n2,n3⟩:=Xag.1 aV;obtain⟨q1,g1,g2,g3,g4,g5⟩:=WkU h hg (hx 0 x v rfl rfl) (hl.mono (λi hi=>Xl _ hi)) n1 hc h1;obtain⟨ns,ks,bx,hA⟩:=WaB h hg ps xs vs A' (by simpa using hlen) (λj y u hj hu=>hx (j+1) y u (by simpa using hj) (by simpa using hu)) (hl.mono (λi hi=>Xg _ hi)) n2 h2;refine⟨q1++ns,ks,bx,⟨v,vs,q1,ns,rfl,rfl,g1,hA.args⟩,hA.kept,Wcc h g2 hA.sep g3 (λq hq b o hh=>Wh0 b o (hA.tk q hq b o hh)) (λi hi hj=>n3 i hi i hj rfl),λq hq=>?_,λp hp=>Xg _ (hA.bx p hp),λi hi=>?_,λi hi=>?_,λi hi=>?_,λi hi=>?_,List.Sublist.trans hA.sub (Xfg _ _),λi hi hm=>?_⟩
      .rcases Xm.1 hq with hq|hq
       .exactλb o hh=>Wnl (λi hi=>Xl _ hi) (λp hp hm=>n3 _ hm _ (hA.bx p hp) rfl) b o (g3 q hq b o hh)
       .exactλb o hh=>WjT (λi hi=>Xg _ hi) (λp hp=>.inl hp) b o (hA.tk q hq b o hh)
      .rcases Xm.1 hi with hi|hi
       .exact g4 i hi
       .exact hA.live i hi
      .rcases Xm.1 hi with hi|hi
       .exact g5 i hi
       .exact hA.lent i hi
      .rcases Xm.1 hi with hi|hi
       .exact Xl _ hi
       .exact Xg _ (hA.mv i hi)
      .rcases Xm.1 hi with hi|hi
       .exact .inl (Xl _ hi)
       .rcases hA.mvk i hi with hi|hi
        .exact .inl (Xg _ hi)
        .exact .inr hi
      .rcases Xm.1 hm with hm|hm
       .exact n3 _ hm _ (hA.sub.subset hi) rfl
       .exact hA.dis i hi hm
   .cases hf
  .cases hf
 | .box t::ps,xs,vs,A,hlen,hx,hl,aV,hf=>by
  simp only[W9]at hf;split at hf
  .rename_i id off xs;split at hf
   .rename_i cs bb;split at hf
    .rename_i d m A' h1 h2;injection hf with hf;subst hf
     match vs,hlen with
     |v::vs,hlen=>
      obtain⟨n1,n2⟩:=Xah.1 aV;obtain⟨ns,ks,bx,hA⟩:=WaB h hg ps xs vs A' (by simpa using hlen) (λj y u hj hu=>hx (j+1) y u (by simpa using hj) (by simpa using hu)) hl (Xag.1 n2).2.1 h2;obtain⟨b,q1,rfl,bg,k1,_,k2,k3,k4,k5,k6,k7,k8,k9,k10,bP⟩:=WnX h hg (hx 0 _ v rfl rfl).1 bb h1 aV hA;exact⟨_,_,_,⟨b,_,vs,q1,ns,ks,rfl,rfl,rfl,k1,hA.args⟩,⟨_,_,_,_,rfl,rfl,k2,k3⟩,k4,k5,k6,k7,hA.lent,k8,k9,k10,bP⟩
    .cases hf
   .cases hf
  .cases hf
 | .vj _::_,_,_,_,_,_,_,_,hf=>by simp only[W9]at hf;cases hf
 | .boxal t lf::ps,xs,vs,A,hlen,hx,hl,aV,hf=>by
  simp only[W9]at hf;split at hf
  .rename_i id off y xs;split at hf
   .rename_i cs bb;split at hf
    .rename_i d m A' i h1 h2 h3;injection hf with hf;subst hf
     match vs,hlen with
     |v::u::vs,hlen=>
      obtain⟨n1,n2⟩:=Xah.1 aV;obtain⟨ns,ks,bx,hA⟩:=WaB h hg ps xs vs A' (by simpa using hlen) (λj y u hj hu=>hx (j+2) y u (by simpa using hj) (by simpa using hu)) hl (Xag.1 n2).2.1 h2;obtain⟨b,q1,rfl,bg,k1,kl,k2,k3,k4,k5,k6,k7,k8,k9,k10,bP⟩:=WnX h hg (hx 0 _ v rfl rfl).1 bb h1 aV hA;obtain⟨c,hc,h3⟩:=Xbu.1 h3;obtain⟨k,hk,hc⟩:=Xbu.1 hc;obtain⟨r,b',rfl,e1,e2,rfl⟩:=WpP h (hx 1 y u rfl rfl) h3;obtain⟨pc,e3,e4⟩:=kl lf k r hk hc;exact⟨_,_,_,⟨b,_,b',pc,vs,q1,ns,ks,by rw[e4],rfl,rfl,k1,e3,by rw[e4];exact e1,by rw[e4];exact e2,hA.args⟩,⟨_,_,_,_,rfl,rfl,k2,k3⟩,k4,k5,k6,k7,hA.lent,k8,k9,k10,bP⟩
    .cases hf
   .cases hf
  .cases hf
 | .mut e::ps,xs,vs,A,hlen,hx,hl,aV,hf=>by
  simp only[W9]at hf;split at hf
  .rename_i id xs;split at hf
   .rename_i e' ys bb;split at hf
    .rename_i d A' h1 h2;injection hf with hf;subst hf;obtain⟨he,hd⟩:=War h1;subst he;simp only at hd;subst hd
     match vs,hlen with
     |v::vs,hlen=>
      obtain⟨⟨_,hv⟩,_⟩:=hx 0 _ v rfl rfl;subst hv;obtain⟨n1,n2⟩:=Xah.1 aV;have aI:Live objs id:=⟨_,bb,by simp⟩;have hown:OwnL w (TyRel G w e') e'.size (ν id) ys (φ id):=h.ob _ _ bb;obtain⟨ns,ks,bx,hA⟩:=WaB h hg ps xs vs A' (by simpa using hlen) (λj y u hj hu=>hx (j+1) y u (by simpa using hj) (by simpa using hu)) hl n2 h2;refine⟨⟨ν id,φ id⟩::ns,ν id::ks,bx,⟨⟨ν id,φ id⟩,vs,ns,ks,rfl,rfl,rfl,WcH hg (Same.refl _ w) (λ_ _ hh=>hh) hown,hA.args⟩,⟨id,_,ks,ys,rfl,rfl,bb,hA.kept⟩,?_,λq hq=>?_,λp hp=>Xe _ (hA.bx p hp),λi hi=>?_,hA.lent,λi hi=>Xe _ (hA.mv i hi),λi hi=>?_,List.Sublist.cons_cons _ hA.sub,λi hi hm=>?_⟩
      .refine Wcc h (n1:=[⟨ν id,φ id⟩]) (m:=[id]) (List.pairwise_singleton _ _) hA.sep (λq hq=>?_) (λq hq b o hh=>Wh0 b o (hA.tk q hq b o hh)) (λi hi hj=>n1 (by rw[←Xaa.1 hi];exact hj));rw[Xaa.1 hq];exact FromL.one (by simp) aI
      .rcases Xq.1 hq with rfl|hq
       .exactλb o hh=>⟨id,Xh ..,aI,hh,λp hp e=>Wl (by rw[←e];exact hA.bx p hp) n1⟩
       .exactλb o hh=>WjT (λi hi=>Xe _ hi) (λp hp=>.inl hp) b o (hA.tk q hq b o hh)
      .rcases Xq.1 hi with rfl|hi
       .exact aI
       .exact hA.live i hi
      .rcases Xq.1 hi with rfl|hi
       .exact .inr (Xh ..)
       .rcases hA.mvk i hi with hi|hi
        .exact .inl hi
        .exact .inr (Xe _ hi)
      .rcases Xq.1 hi with rfl|hi
       .exact n1 (hA.mv _ hm)
       .exact hA.dis i hi hm
    .cases hf
   .cases hf
  .cases hf
 | .clos g n::ps,xs,vs,A,hlen,hx,hl,aV,hf=>by
  simp only[W9]at hf;split at hf
  .rename_i g' caps xs;split at hf
   .rename_i hc;obtain⟨rfl,hcl⟩:=hc;cases hA:W9 ps (Wjh caps++xs) objs with
    |none=>simp[hA]at hf
    |some A'=>
     simp only[hA,Xbz,Option.some.injEq]at hf;subst hf
     match vs,hlen with
     |v::vs,hlen=>
      obtain⟨⟨cvs,hv,hcv,pj⟩,_⟩:=hx 0 _ v rfl rfl;subst hv;obtain⟨ns,ks,bx,hAk⟩:=WaB h hg ps (Wjh caps++xs) (cvs++vs) A' (by simp[Wjh,hcv];simpa using hlen) (λj y u hj hu=>by
       rw[Xax]at hj hu;simp only[Wjh,Xu]at hj;rw[hcv]at hu;split at hj
       .rename_i hlt;rw[Wb hlt]at hu;rw[Xao]at hj;obtain⟨id,bB,rfl⟩:=Xy.1 hj;obtain⟨h1,h3,h2⟩:=pj _ id u bB hu;exact⟨⟨h1,h2⟩,h3⟩
       .rename_i hlt;rw[Wa hlt]at hu;exact hx (j-caps.length+1) y u (by simpa using hj) (by simpa using hu)) hl aV hA
      refine⟨ns,ks,bx,⟨cvs,vs,rfl,by rw[hcv];exact hcl,λu hu=>?_,hAk.args⟩,hAk.kept,hAk.sep,hAk.tk,hAk.bx,hAk.live,hAk.lent,hAk.mv,hAk.mvk,hAk.sub,hAk.dis⟩;obtain⟨j,hj⟩:=Xdp hu;have hlt:j<caps.length:=by rw[←hcv];exact(Xad.1 hj).1
      exact(pj j _ u (Xp hlt) hj).2.1
   .cases hf
  .cases hf
 | .kv t agg::ps,xs,vs,A,hlen,hx,hl,aV,hf=>by
  simp only[W9]at hf;split at hf
  .rename_i x xs;split at hf
   .rename_i d m r A' h1 h2;split at hf
    .rename_i fT;injection hf with hf;subst hf
     match vs,hlen with
     |v::vs,hlen=>
      cases hc:cellsOf agg x with
      |none=>simp[hc]at h1
      |some cs=>
       simp[hc]at h1;obtain⟨n1,n2,n3⟩:=Xag.1 aV;have bq:Lent G' w φ objs r:=hl.mono (λi hi=>Xl _ hi);obtain⟨_,_,_,_,g4,g5⟩:=WkU h hg (hx 0 x v rfl rfl) bq n1 hc h1;obtain⟨k1,k2⟩:=Wma h hg (hx 0 x v rfl rfl) bq hc h1 fT;obtain⟨ns,ks,bx,hA⟩:=WaB h hg ps xs vs A' (by simpa using hlen) (λj y u hj hu=>hx (j+1) y u (by simpa using hj) (by simpa using hu)) (hl.mono (λi hi=>Xg _ hi)) n2 h2;have jJ:kids (kp0 m++A'.kept)=m++kids A'.kept:=by simp only[kids,Xz];congr 1;exact Whw m
       have gp:∀q∈pcs ν φ m,CS.le q.fp (FromL φ objs m):=λq hq=>by
        obtain⟨i,hi,rfl⟩:=Xt.1 hq;exact FromL.one hi (g4 i hi)
       have gs:Sep (fps (pcs ν φ m)):=by
        rw[Wng];refine List.pairwise_map.2 (n1.imp_of_mem λ{i j} hi hj hne=>?_)
        exactλb o h1 h2=>hne (h.inj i j b o (g4 i hi) (g4 j hj) h1 h2)
       refine⟨pcs ν φ m++ns,m.map ν++ks,bx,⟨v,vs,pcs ν φ m,ns,ks,rfl,rfl,by rw[WuN],k1,hA.args⟩,⟨m,A'.kept,ks,rfl,rfl,k2,hA.kept⟩,Wcc h gs hA.sep gp (λq hq b o hh=>Wh0 b o (hA.tk q hq b o hh)) (λi hi hj=>n3 i hi i hj rfl),λq hq=>?_,λp hp=>Xg _ (hA.bx p hp),λi hi=>?_,λi hi=>?_,λi hi=>Xg _ (hA.mv i hi),λi hi=>?_,by rw[jJ];exact List.Sublist.append (List.Sublist.refl _) hA.sub,λi hi hm=>?_⟩
       .rcases Xm.1 hq with hq|hq
        .exactλb o hh=>Wnl (λi hi=>Xl _ hi) (λp hp hm=>n3 _ hm _ (hA.bx p hp) rfl) b o (gp q hq b o hh)
        .exactλb o hh=>WjT (λi hi=>Xg _ hi) (λp hp=>.inl hp) b o (hA.tk q hq b o hh)
       .rcases Xm.1 hi with hi|hi
        .exact g4 i hi
        .exact hA.live i hi
       .rcases Xm.1 hi with hi|hi
        .exact g5 i hi
        .exact hA.lent i hi
       .rw[jJ];rcases Xm.1 hi with hi|hi
        .exact .inr (Xl _ hi)
        .rcases hA.mvk i hi with hi|hi
         .exact .inl hi
         .exact .inr (Xg _ hi)
       .rw[jJ]at hi;rcases Xm.1 hi with hi|hi
        .exact n3 _ hi _ (hA.mv i hm) rfl
        .exact hA.dis i hi hm
    .cases hf
   .cases hf
  .cases hf
 | .rp t::ps,xs,vs,A,hlen,hx,hl,aV,hf=>by
  simp only[W9]at hf;split at hf
  .rename_i id off xs;split at hf
   .rename_i cs bb;split at hf
    .rename_i d r A' h1 h2;split at hf
     case isFalse=>cases hf
     rename_i sE;injection hf with hf;subst hf
     match vs,hlen with
     |v::vs,hlen=>
      obtain⟨ns,ks,bx,hA⟩:=WaB h hg ps xs vs A' (by simpa using hlen) (λj y u hj hu=>hx (j+1) y u (by simpa using hj) (by simpa using hu)) (hl.mono (λi hi=>Xe _ (Xg _ hi))) aV h2;obtain⟨⟨bB,b,bg,rfl⟩,_⟩:=hx 0 _ v rfl rfl;have aI:Live objs id:=⟨_,bb,by simp⟩;obtain⟨b',us,hb',hrow,hmem,bC,eC⟩:Wcs G ν nx w id (φ id) (.box cs):=h.ob _ _ bb;rw[bg]at hb';injection hb' with hb';subst hb';obtain⟨q1,t1,t2,t3,t4,t5,_⟩:=Wae h hg t _ ((us.drop off).take t.size) d [] r ((bC.drop off).take _) (hl.mono (λi hi=>Xe _ (Xl _ hi))) Xcq h1;have lR:∀p∈q1,Froz G' w p.fp:=λp hp b o v hh=>by
       obtain⟨i,hi,_⟩:=t3 p hp b o hh;simp at hi
      have henc:Enc G' t.ro (WtB t d) ((us.drop off).take t.size):=WdE (λ_ _ _ hh=>hh) t d _ q1 lR t1;have ia:=WD _ _ _ _ t1;have bY:off+t.size<=cs.length:=by
       have:=bC.1;rw[Xaw,Xdh]at ia;have:=WbO t;omega
      have aS:We0 G' b ((ν id).off+off) ((us.drop off).take t.size):=λj v hj=>by
       have rr:j<t.size:=by have:=(Xad.1 hj).1;omega
       rw[Xbk,Wb rr,Xbm]at hj;have h3:=hmem _ v hj;rw[←Xay]at h3;exact hl id (Xh ..) aI b _ v (eC b _ ⟨rfl,by omega,by omega⟩) h3
      exact⟨ns,ks,bx,⟨b,(ν id).off+off,(us.drop off).take t.size,vs,rfl,((Wa3 t d _ q1 sE).1 t1).1,aS,hA.args⟩,hA.kept,hA.sep,hA.tk,hA.bx,hA.live,λi hi=>by
       rcases Xq.1 hi with rfl|hi
       .exact aI
       .rcases Xm.1 hi with hi|hi
        .exact t5 i hi
        .exact hA.lent i hi,hA.mv,hA.mvk,hA.sub,hA.dis⟩
    .cases hf
   .cases hf
  .rename_i t' d' off xs;split at hf
   .rename_i d A' h1 h2;split at hf
    case isFalse=>cases hf
    rename_i sE;injection hf with hf;subst hf
    match vs,hlen with
    |v::vs,hlen=>
     obtain⟨ns,ks,bx,hA⟩:=WaB h hg ps xs vs A' (by simpa using hlen) (λj y u hj hu=>hx (j+1) y u (by simpa using hj) (by simpa using hu)) hl aV h2;obtain⟨⟨b,o,cs,rfl,e1,e2⟩,_⟩:=hx 0 _ v rfl rfl;have bC:=WaA (ν:=ν) (nx:=nx) t' d' cs e1;obtain⟨q1,t1,t2,t3,t4,t5,_⟩:=Wae h hg t _ ((cs.drop off).take t.size) d [] [] ((bC.drop off).take _) (λi hi=>by simp at hi) Xcq h1;exact⟨ns,ks,bx,⟨b,o+off,(cs.drop off).take t.size,vs,rfl,((Wa3 t d _ q1 sE).1 t1).1,λj v hj=>by
      rw[Xbk]at hj;split at hj
      .rw[Xbm]at hj;rw[Xay];exact hg _ _ _ (e2 _ v hj)
      .simp at hj,hA.args⟩,hA.kept,hA.sep,hA.tk,hA.bx,hA.live,hA.lent,hA.mv,hA.mvk,hA.sub,hA.dis⟩
   .cases hf
  .cases hf
end
end Go.Sx
namespace Go.Sx
set_option linter.unusedVariables false
set_option linter.unusedSimpArgs false
theorem Wbe{G G':GH}{w:World}:∀(t:Ty) (d:t.den) (vs:List Value) (ns:List Pc),t.noRo=true->TyRel G w t d vs ns->TyRel G' w t d vs ns
 | .own e,_,_,_,hn,⟨pc,h1,h2,h3⟩=>⟨pc,h1,h2,WhA (λx c q hx=>WD e x c q hx) (Same.refl _ w) (λ_ _ hh=>hh) (λx c q _ hx=>Wbe e x c q hn hx) h3⟩
 | .prod a b,_,_,_,hn,⟨v1,v2,n1,n2,h1,h2,h3,h4⟩=>by
  simp only[Ty.noRo,Xi]at hn;exact⟨v1,v2,n1,n2,h1,h2,Wbe a _ _ _ hn.1 h3,Wbe b _ _ _ hn.2 h4⟩
 | .int _,_,_,_,_,h=>h
 | .bool,_,_,_,_,h=>h
 | .str,_,_,_,_,h=>h
 | .slice _,_,_,_,hn,_=>by simp[Ty.noRo]at hn
theorem Wr3{G G':GH}{w:World}{e:Ty}{nu:Nu}{xs:List e.den}{S:CS}(hn:e.noRo=true)(h:OwnL w (TyRel G w e) e.size nu xs S):OwnL w (TyRel G' w e) e.size nu xs S:=
 WhA (λx c q hx=>WD e x c q hx) (Same.refl _ w) (λ_ _ hh=>hh) (λx c q _ hx=>Wbe e x c q hn hx) h
theorem Wfj{G G':GH}{w:World}{t:Ty}{d:t.den}{b o:Nat}{ns:List Pc}(hn:t.noRo=true)(h:Wfa G w t d b o ns):Wfa G' w t d b o ns:=by
 obtain⟨us,h1,h2,h3⟩:=h;exact⟨us,h1,h2,Wbe _ _ _ _ hn h3⟩
theorem Wql{G G':GH}{w:World}{t:Ty}{agg:Bool}{d:t.den}{v:Value}{ns:List Pc}(hn:t.noRo=true)(h:WiE G w t agg d v ns):WiE G' w t agg d v ns:=by
 unfold WiE at h⊢;split
 .rename_i ha;rw[Wb ha]at h;obtain⟨us,h1,h2⟩:=h;exact⟨us,h1,Wbe _ _ _ _ hn h2⟩
 .rename_i ha;rw[Wa ha]at h;exact Wbe _ _ _ _ hn h
theorem WdG{G G':GH}{w:World}:∀(rs:List PTy) (d:WgG rs) (vs:List Value) (ns:List Pc),rs.all PTy.freshR=true->WfO G w rs d vs ns->WfO G' w rs d vs ns
 | [],_,_,_,_,h=>h
 | .v t agg::rs,d,vs,ns,hn,⟨v,vs',n1,n2,h1,h2,h3,h4⟩=>by
  simp only[Xcn,Xi]at hn;exact⟨v,vs',n1,n2,h1,h2,Wql hn.1 h3,WdG rs _ _ _ hn.2 h4⟩
 | .box t::rs,d,vs,ns,hn,⟨b,o,vs',n1,n2,h1,h2,h3,h5⟩=>by
  simp only[Xcn,Xi]at hn;exact⟨b,o,vs',n1,n2,h1,h2,Wfj hn.1 h3,WdG rs _ _ _ hn.2 h5⟩
 | .mut _::_,_,_,_,_,h=>h.elim
 | .clos _ _::_,_,_,_,_,h=>h.elim
 | .kv _ _::_,_,_,_,_,h=>h.elim
 | .rp _::_,_,_,_,_,h=>h.elim
 | .vj t::rs,d,vs,ns,hn,⟨us,u,vs',n1,n2,h1,h0,h2,h3,h4⟩=>by
  simp only[Xcn,Xi]at hn;exact⟨us,u,vs',n1,n2,h1,h0,h2,Wbe _ _ _ _ hn.1 h3,WdG rs _ _ _ hn.2 h4⟩
 | .boxal _ _::_,_,_,_,_,h=>h.elim
theorem WaQ{G G':GH}{w:World}:∀(ps:List PTy) (o:WfH ps) (ks:List Nu) (kf:List CS) (ns:List Pc),ps.all PTy.fresh=true->Wbz G w ps o ks kf ns->Wbz G' w ps o ks kf ns
 | [],_,_,_,_,_,h=>h
 | .v _ _::ps,o,ks,kf,ns,hn,h=>by
  simp only[Xcn,Xi]at hn;exact WaQ ps o ks kf ns hn.2 h
 | .box t::ps,o,ks,kf,ns,hn,⟨b,off,ks',cX,n1,n2,h1,h2,h3,h4,h5⟩=>by
  simp only[Xcn,Xi]at hn;exact⟨b,off,ks',cX,n1,n2,h1,h2,h3,Wfj hn.1 h4,WaQ ps _ _ _ _ hn.2 h5⟩
 | .mut e::ps,o,ks,kf,ns,hn,⟨pc,ks',cX,h1,h2,h3,h4⟩=>by
  simp only[Xcn,Xi]at hn;exact⟨pc,ks',cX,h1,h2,Wr3 hn.1 h3,WaQ ps _ _ _ _ hn.2 h4⟩
 | .clos _ _::ps,o,ks,kf,ns,hn,h=>by
  simp only[Xcn,Xi]at hn;exact WaQ ps o ks kf ns hn.2 h
 | .kv t _::ps,o,ks,kf,ns,hn,⟨n1,ks',cX,us,h1,h2,h3,h4⟩=>by
  simp only[Xcn,Xi]at hn;exact⟨n1,ks',cX,us,h1,h2,Wbe _ _ _ _ hn.1 h3,WaQ ps _ _ _ _ hn.2 h4⟩
 | .rp _::ps,o,ks,kf,ns,hn,h=>by
  simp only[Xcn,Xi]at hn;exact WaQ ps o ks kf ns hn.2 h
 | .vj _::_,_,_,_,_,_,h=>h.elim
 | .boxal t _::ps,o,ks,kf,ns,hn,⟨b,off,ks',cX,n1,n2,h1,h2,h3,h4,h5⟩=>by
  simp only[Xcn,Xi]at hn;exact⟨b,off,ks',cX,n1,n2,h1,h2,h3,Wfj hn.1 h4,WaQ ps _ _ _ _ hn.2 h5⟩
theorem WeA{objs:Wac}:∀(l:List Nat) (id:Nat),id∉l->look (kill objs l) id=look objs id
 | [],id,_=>rfl
 |i::l,id,h=>by
  simp only[kill];rw[WF,Wa (λe=>h (by rw[e];exact Xh ..))];exact WeA l id λhm=>h (Xe _ hm)
theorem Wk1:∀{l:List CS},Sep l->∀{i j:Nat} {A B:CS} {b o:Nat},l[i]?=some A->l[j]?=some B->A b o->B b o->i=j
 | [],_,i,j,A,B,b,o,hi,_,_,_=>by simp at hi
 |C::l,hs,i,j,A,B,b,o,hi,hj,ha,hb=>by
  obtain⟨h1,h2⟩:=Xv.1 hs;cases i with
  |zero=>
   simp at hi;subst hi;cases j with
   |zero=>rfl
   |succ j=>
    simp at hj;exact(h1 B (Xav hj) b o ha hb).elim
  |succ i=>
   simp at hi;cases j with
   |zero=>
    simp at hj;subst hj;exact(h1 A (Xav hi) b o hb ha).elim
   |succ j=>
    simp at hj;rw[Wk1 h2 hi hj ha hb]
section
variable{w0:World}{F:CS}{nt:Slots}{G0 G G':GH}{ν:Nat->Nu}{φ:Nat->CS}{objs:Wac}{nx:Nat}{st ah:St}{a:Act}{w w':World}{P:Program}{T:Tab}
theorem Wpb{f g:Nat->Nu}:∀{l:List Nat},(∀i∈l,g i=f i)->l.map f=l.map g:=λ{l} h=>List.map_congr_left λi hi=>(h i hi).symm
theorem Wcn{ν':Nat->Nu}{bx:List (Nat×CS)}:∀(ps:List PTy) (ids:List Kp) (ks:List Nu),(∀i∈kids ids,ν' i=ν i)->KeptOk objs ν bx ps ids ks->KeptOk objs ν' bx ps ids ks
 | [],_,_,_,h=>h
 | .v _ _::ps,ids,ks,hn,h=>Wcn ps ids ks hn h
 | .box t::ps,ids,ks,hn,⟨k,bh,nu,ks',h1,h2,⟨cs,b,g1,g2,g3,g4,g5⟩,h4⟩=>by
  subst h1;have e:=hn k.id (Xh ..);exact⟨k,bh,nu,ks',rfl,h2,⟨cs,b,g1,g2,by rw[e];exact g3,by rw[e];exact g4,by rw[e];exact g5⟩,Wcn ps bh ks' (λi hi=>hn i (Xe _ hi)) h4⟩
 | .mut e::ps,ids,ks,hn,⟨id,bh,ks',ys,h1,h2,h3,h4⟩=>by
  subst h1;exact⟨id,bh,ks',ys,rfl,by rw[hn id (Xh ..)];exact h2,h3,Wcn ps bh ks' (λi hi=>hn i (Xe _ hi)) h4⟩
 | .clos _ _::ps,ids,ks,hn,h=>Wcn ps ids ks hn h
 | .kv t _::ps,ids,ks,hn,⟨i1,i2,ks',h1,h2,h3,h4⟩=>by
  subst h1;have jJ:kids (kp0 i1++i2)=i1++kids i2:=by simp only[kids,Xz];congr 1;exact Whw i1
  rw[jJ]at hn;exact⟨i1,i2,ks',rfl,by rw[h2,Wpb (λi hi=>hn i (Xl _ hi))],h3,Wcn ps i2 ks' (λi hi=>hn i (Xg _ hi)) h4⟩
 | .rp _::ps,ids,ks,hn,h=>Wcn ps ids ks hn h
 | .vj _::_,_,_,_,h=>h.elim
 | .boxal t _::ps,ids,ks,hn,⟨k,bh,nu,ks',h1,h2,⟨cs,b,g1,g2,g3,g4,g5⟩,h4⟩=>by
  subst h1;have e:=hn k.id (Xh ..);exact⟨k,bh,nu,ks',rfl,h2,⟨cs,b,g1,g2,by rw[e];exact g3,by rw[e];exact g4,by rw[e];exact g5⟩,Wcn ps bh ks' (λi hi=>hn i (Xe _ hi)) h4⟩
theorem WqF(hr:Rel w0 F nt G0 G ν st a w):∀(l:List Operand) (xs:List AVal),evs st l=some xs->xs.length=l.length/\
  ∀(j:Nat) (x:AVal) (v:Value),xs[j]?=some x->(l.map a.eval)[j]?=some v->AValRel G ν st.nx x v
 | [],xs,h=>by simp[evs]at h;subst h;exact⟨rfl,λj x v hj=>by simp at hj⟩
 |o::l,xs,h=>by
  simp only[evs]at h;split at h
  .rename_i y ys h1 h2;injection h with h;subst h;obtain⟨h3,h4⟩:=WqF hr l ys h2;refine⟨by simp[h3],λj x v hj hv=>?_⟩;cases j with
   |zero=>simp at hj hv;subst hj hv;exact WM hr o _ h1
   |succ j=>exact h4 j x v (by simpa using hj) (by simpa using hv)
  .simp at h
theorem Wss{o:Oper}{c:Call}{f:Operand}{g:FuncId}{caps:List Value}(ho:o.op= .call c)(hc:c.callee= .value f)(hf:a.eval f= .func (.func g) #[] caps.toArray)(pm:Wf6 P g):
  (execOp a.eval o).run P w= .ok (.enter g (c.args.toList.map a.eval++caps).toArray) w:=by
 obtain⟨fn,h1,h2,h3⟩:=pm;obtain⟨callee,args,argTypes⟩:=c;simp only at hc;subst hc;have e:(#[]++args.map a.eval++caps.toArray)=(args.toList.map a.eval++caps).toArray:=by
  apply Array.ext';simp
 simp only[execOp,ho,resolve,Deferred.ofValue,hf,Sem.run_bind,Sem.run_pure,Result.andThen_ok,invoke,callFunc,run_program,h1,h2,h3,Xbl,WaE,e]
theorem Wtl{b o k:Nat}{vs us:List Value}(hm:Mem w b o vs)(hu:Mem w' b (o+k) us)(hk:k+us.length<=vs.length)(bp:∀j,j<vs.length->¬(k<=j/\j<k+us.length)->w'.cell? ⟨b,o+j,none⟩=w.cell? ⟨b,o+j,none⟩):
  Mem w' b o (vs.take k++us++vs.drop (k+us.length)):=λj v hj=>by
 have fO:∀v',vs[j]?=some v'->¬(k<=j/\j<k+us.length)->w'.cell? ⟨b,o+j,none⟩=some v':=λv' hv hn=>by
  rw[bp j (Xad.1 hv).1 hn];exact hm j v' hv
 have eR:(vs.take k).length=k:=by simp;omega
 rw[Xbj,Xax,eR]at hj;split at hj
 .rename_i hlt;rw[Xbk,Wb hlt]at hj;exact fO v hj (by omega)
 .rw[Xax]at hj;split at hj
  .have:=hu (j-k) v hj;rw[show o+j=o+k+(j-k) by omega];exact this
  .rw[Xbm,show k+us.length+(j-k-us.length)=j by omega]at hj;exact fO v hj (by omega)
theorem WkL{Γ:Ctx}(hΓ:WeZ P Γ)(hr:Rel w0 F nt G0 G ν st a w){o:Oper}(hd:∀d,o.dst=some d->nt.Ok d){c:Call}{f:Operand}{g:FuncId}{cvs:List Value}{xs:List AVal}{sg:Sig}{R:Type}{k:St->Option R}{r:R}
  (ho:o.op= .call c) (hc:c.callee= .value f) (pn:a.eval f= .func (.func g) #[] cvs.toArray) (mE:look Γ g=some sg) (hlen:xs.length=(c.args.toList.map a.eval++cvs).length)
  (hargs:∀(j:Nat) (x:AVal) (v:Value),xs[j]?=some x->(c.args.toList.map a.eval++cvs)[j]?=some v->AValRel G ν st.nx x v)
  (h:Wfc sg st xs (λx objs nx=>k (({env:=st.env,objs:=objs,nx:=nx}:St).put o.dst x))=some r) {K:Act->World->Prop} {Q:Exit->Act->World->Prop}
  (hK:∀ah a' w' G' ν',Rel w0 F nt G0 G' ν' ah a' w'->k ah=some r->K a' w'):o.wp P a w K Q:=by
 obtain⟨jL,iA⟩:=hΓ g sg mE;unfold Wfc at h;split at h
 .rename_i A hA;split at h
  .rename_i br;simp only[Xi]at br;obtain⟨⟨aV,kP⟩,rt⟩:=br;have aV:=(WeJ _).1 aV;have kP:=Wll kP;obtain⟨out,hrun,hk⟩:=sg.law' A.d _ r h;dsimp only at hk;obtain⟨φ,hφ⟩:=hr.h;have fM:=hφ.addG_le A.lent;have hG1w:=hφ.addG_w A.lent;obtain⟨ns,ks,bx,hO⟩:=WaB hφ fM sg.ps _ (c.args.toList.map a.eval++cvs) A hlen.symm hargs (λid bB hl=>(Win _).mono (FromL.one bB hl)) aV hA;have hTk:∀b o,Of ns b o->Tk φ st.objs bx A.all b o:=λb o ⟨q,hq,hh⟩=>hO.tk q hq b o hh;have hfree:∀q∈ns,∀b off,q.fp b off->WpY G w (FromL φ st.objs A.lent) b off=none/\b<w.heap.size:=λq hq b off hh=>by
    obtain⟨i,hi,h1,h2,_⟩:=hO.tk q hq b off hh;refine⟨?_,hφ.bl i b off h1 h2⟩;rw[Wc6 (λ⟨j,hj,h3,h4⟩=>by
     have:=hφ.inj i j b off h1 h3 h2 h4;subst this;exact kP _ hj hi)]
    exact hφ.gf i b off h1 h2
   have mF:=jL A.d out hrun _ w _ ns _ hO.args hO.sep hfree hG1w;unfold Oper.wp;rw[Wss ho hc pn iA,Oper.upon_enter];refine mF.mono λe w' po=>?_;obtain⟨rv,kf,ms,cE,G2,rfl,hA2⟩:=po;simp only;have hG3:∃G3:GH,GLe G G3/\(∀b off v,G3 b off=some v->w'.cell? ⟨b,off,none⟩=some v)/\WfO G3 w' sg.rs out.2 rv cE/\Wbz G3 w' sg.ps out.1 ks kf ms/\
     GExt w0.heap.size F G0 G3/\(∀S∈kf++fps (ms++cE),∀b off,S b off->G3 b off=none)/\(∀id b off,Live st.objs id->φ id b off->¬Tk φ st.objs bx A.all b off->G3 b off=none):=by
    by_cases hle:A.lent= []
    .have hGG:WpY G w (FromL φ st.objs A.lent)=G:=by
      rw[hle];funext b off;exact Wc6 (λ⟨i,hi,_⟩=>by simp at hi)
     rw[hGG]at hA2;refine⟨G2,hA2.gx.le,hA2.g,hA2.res,hA2.outs,⟨λb o v hv=>hA2.gx.le b o v (hr.gx.le b o v hv),λb o v hv=>?_⟩,λS hS b off hh=>(hA2.own S hS b off hh).1,λid b off hl hp hn=>?_⟩
     .rcases hA2.gx.new b o v hv with h1|h1|h1
      .exact hr.gx.new b o v h1
      .exact .inr (.inl (Xcm hφ.le.size h1))
      .obtain⟨i,hi,h2,h3,_⟩:=hTk b o h1;exact .inr (hφ.own i b o h2 h3)
     .cases hv:G2 b off with
      |none=>rfl
      |some v=>
       rcases hA2.gx.new b off v hv with h1|h1|h1
       .rw[hφ.gf id b off hl hp]at h1;cases h1
       .have:=hφ.bl id b off hl hp;omega
       .exact Wl (hTk b off h1) hn
    .have ff:sg.fresh=true:=by
      rcases Bool.or_eq_true_iff.1 rt with h1|h1
      .exact h1
      .exact Wl (by simpa using h1) hle
     unfold Sig.fresh at ff;simp only[Xi]at ff;refine⟨G,λ_ _ _ hh=>hh,λb o v hv=>hA2.g b o v (hA2.gx.le b o v (fM b o v hv)),WdG _ _ _ _ ff.1 hA2.res,WaQ _ _ _ _ _ ff.2 hA2.outs,hr.gx,λS hS b off hh=>?_,λid b off hl hp _=>hφ.gf id b off hl hp⟩;cases hv:G b off with
     |none=>rfl
     |some v=>
      have:=hA2.gx.le b off v (fM b off v hv);rw[(hA2.own S hS b off hh).1]at this;cases this
   obtain⟨G3,sF,sG,gF,pq,sH,sJ,sL⟩:=hG3;obtain⟨ν2,hν2⟩:∃ν2:Nat->Nu,ν2= λi=>if i<st.nx then ν i else((nus (ms++cE))[i-st.nx]?).getD ⟨none,0,0,0,0⟩:=⟨_,rfl⟩;obtain⟨φ2,hφ2⟩:∃φ2:Nat->CS,φ2= λi=>if i<st.nx then(λb o=>(∃(j:Nat) (S:CS),(kids A.kept)[j]?=some i/\kf[j]?=some S/\S b o)\/(φ i b o/\¬Tk φ st.objs bx A.all b o))else((fps (ms++cE))[i-st.nx]?).getD (λ_ _=>False):=⟨_,rfl⟩;have hνold:WrF st.nx ν ν2:=λi hi=>by rw[hν2];simp[hi]
   have hAt:At ν2 φ2 st.nx (ms++cE):=λj pc hj=>by
    have e1:(nus (ms++cE))[j]?=some pc.nu:=by unfold nus;rw[Xao,hj];rfl
    have e2:(fps (ms++cE))[j]?=some pc.fp:=by unfold fps;rw[Xao,hj];rfl
    rw[hν2,hφ2];simp only;rw[Wa (by omega),Wa (by omega),Xcc,e1,e2];exact⟨rfl,rfl⟩
   have kQ:∀i∈kids A.kept,i<st.nx:=λi hi=>hφ.lt i (hO.live i (hO.sub.subset hi));have kR:(kids A.kept).Nodup:=aV.sublist hO.sub;obtain⟨nZ,wU,dA⟩:=WaO (ν:=ν2) (φ:=φ2) (bx:=bx) st.objs sg.ps out.1 A.kept ks kf ms (kill st.objs A.moved) st.nx (st.nx+ms.length+cE.length) pq (Wcn _ _ _ (λi hi=>hνold i (kQ i hi)) hO.kept) hAt.left kR (λq hq=>by
    have ko:q.id∈kids A.kept:=Xan hq;exact⟨kQ _ ko,WeA _ _ (hO.dis _ ko)⟩) (by omega)
   generalize hp:Wad sg.ps out.1 A.kept (kill st.objs A.moved) st.nx=p at*;obtain⟨lR,wV,wW⟩:=WdR (ν:=ν2) (φ:=φ2) sg.rs out.2 rv cE p.1 (st.nx+ms.length) (st.nx+ms.length+cE.length) gF (hAt.right rfl) (by omega);rw[nZ]at hk;generalize hq:Wbp sg.rs out.2 p.1 (st.nx+ms.length)=q at*;have gG:∀id ob,look q.2.1 id=some ob->ob≠ .dead->
     (st.nx<=id/\id<st.nx+ms.length+cE.length/\Wve G3 ν2 φ2 w' (st.nx+ms.length+cE.length) id ob)\/
     (∃(j:Nat) (S:CS),(kids A.kept)[j]?=some id/\kf[j]?=some S/\Wmb G3 ν2 w' st.objs bx (st.nx+ms.length+cE.length) id S ob)\/(look st.objs id=some ob/\id∉A.all):=λid ob hl cK=>by
    rcases wV id ob hl with⟨h1,h2,h3⟩|h1
    .exact .inl ⟨by omega,h2,h3⟩
    .rcases dA id ob h1 with⟨h2,h3,h4⟩|h2|⟨h2,h3⟩
     .exact .inl ⟨h2,by omega,.inl h4⟩
     .exact .inr (.inl h2)
     .obtain⟨h4,h5⟩:=Wet A.moved id ob h2 cK;exact .inr (.inr ⟨h4,λhm=>by rcases hO.mvk id hm with h6|h6;exact h5 h6;exact h3 h6⟩)
   have ar:∀id b off,Live q.2.1 id->φ2 id b off->
     (∃(pos:Nat) (S:CS),(kf++fps (ms++cE))[pos]?=some S/\S b off/\id=(if pos<kf.length then((kids A.kept)[pos]?).getD 0 else st.nx+(pos-kf.length)))\/
     (Live st.objs id/\φ id b off/\¬Tk φ st.objs bx A.all b off/\id<st.nx):=λid b off ⟨ob,hl,cK⟩ hp=>by
    have mG:id<st.nx->Live st.objs id:=λhlt=>by
     rcases gG id ob hl cK with⟨h1,_⟩|⟨j,S,h1,_⟩|⟨h1,_⟩
     .omega
     .exact hO.live id (hO.sub.subset (Xav h1))
     .exact⟨ob,h1,cK⟩
    rw[hφ2]at hp
    try simp only at hp
    by_cases hlt:id<st.nx
    .rw[Wb hlt]at hp;rcases hp with⟨j,S,h1,h2,h3⟩|⟨h1,h2⟩
     .left;have hj:j<kf.length:=(Xad.1 h2).1;refine⟨j,S,by rw[Xcs hj];exact h2,h3,?_⟩;rw[Wb hj,h1];rfl
     .exact .inr ⟨mG hlt,h1,h2,hlt⟩
    .rw[Wa hlt]at hp;left;cases hS:(fps (ms++cE))[id-st.nx]? with
     |none=>rw[hS]at hp;exact hp.elim
     |some S=>
      rw[hS]at hp;refine⟨kf.length+(id-st.nx),S,by rw[Xce (by omega),Xcc];exact hS,hp,?_⟩;rw[Wa (by omega)];omega
   have hown:=hA2.own;have ib:∀{pos:Nat} {S:CS},(kf++fps (ms++cE))[pos]?=some S->S∈kf++fps (ms++cE):=λh=>Xav h;have hH:HR w0 F G3 ν2 φ2 q.2.1 (st.nx+ms.length+cE.length) w':={
    g:=sG
    ob:=λid ob hl=>by
     by_cases cK:ob= .dead
     .subst cK;trivial
     .rcases gG id ob hl cK with⟨h1,h2,⟨e,xs,rfl,h3⟩|⟨cs,b,us,rfl,h3,h4,h5,h6,h7⟩⟩|⟨j,S,h1,h2,h3⟩|⟨h1,h2⟩
      .exact h3
      .exact⟨b,us,h3,h4,h5,h6,h7⟩
      .have bB:id∈kids A.kept:=Xav h1;have hlt:=kQ id bB;have aI:Live st.objs id:=hO.live id (hO.sub.subset bB);have hSφ:CS.le S (φ2 id):=λb o hh=>by
        rw[hφ2];(try simp only);rw[Wb hlt];exact .inl ⟨j,S,h1,h2,hh⟩
       rcases h3 with⟨kq,off,ds,b,us,g1,rfl,g2,g3,g4,g5,rfl,g6⟩|⟨e,ys,xs,g1,rfl,g2⟩
       .rw[hνold id hlt]at g3 g4 g6 hSφ;obtain⟨b',vs,e1,e2,e3,e4,e5⟩:Wcs G ν st.nx w id (φ id) (.box kq):=hφ.ob _ _ g1;rw[g3]at e1;injection e1 with e1;subst e1;have cV:us.length=ds.length:=g5.1;have rh:vs.length=kq.length:=e4.1;have fU:∀o,(ν id).off<=o->o<(ν id).off+kq.length->¬((ν id).off+off<=o/\o<(ν id).off+off+ds.length)->φ id b o/\¬Tk φ st.objs bx A.all b o:=λo k1 k2 k3=>by
         have hφo:=e5 b o ⟨rfl,k1,k2⟩;refine⟨hφo,λ⟨i,hi,k4,k5,k6⟩=>?_⟩;have:=hφ.inj i id b o k4 aI k5 hφo;subst this;obtain⟨_,k7,k8⟩:=k6 _ g6 rfl;exact k3 ⟨k7,k8⟩
        refine⟨b,_,by rw[hνold id hlt];exact g3,by rw[hνold id hlt,WeK g2];exact hA2.le.rows.row _ _ e2,?_,WeN (e4.mono sF hνold (by omega)) g5,?_⟩
        .rw[hνold id hlt];refine Wtl e3 g4 (by omega) (λj hj hn=>?_);obtain⟨k1,k2⟩:=fU ((ν id).off+j) (by omega) (by omega) (λ⟨k3,k4⟩=>hn ⟨by omega,by omega⟩);exact hA2.le.cell b _ (hφ.bl id b _ aI k1) (λmH=>k2 (hTk b _ mH))
        .rw[hνold id hlt,WeK g2];intro b' o ⟨k0,k1,k2⟩;subst k0;by_cases eG:(ν id).off+off<=o/\o<(ν id).off+off+ds.length
         .exact hSφ b' o ⟨rfl,eG.1,eG.2⟩
         .rw[hφ2];(try simp only);rw[Wb hlt];exact .inr (fU o k1 k2 eG)
       .exact WcH (λ_ _ _ hh=>hh) (Same.refl _ w') hSφ g2
      .have kJ:Live st.objs id:=⟨ob,h1,cK⟩;have hlt:=hφ.lt id kJ;have uM:∀b o,φ id b o->¬Tk φ st.objs bx A.all b o:=λb o hp ⟨i,hi,k1,k2,_⟩=>by
        have:=hφ.inj i id b o k1 kJ k2 hp;subst this;exact h2 hi
       refine Wdm sF (hA2.le.same (λb o mH hp=>uM b o hp (hTk b o mH)) (λb o hp=>hφ.bl id b o kJ hp)) (λb o hp=>?_) hνold (by omega) hlt ob (hφ.ob id ob h1);rw[hφ2];(try simp only);rw[Wb hlt];exact .inr ⟨hp,uM b o hp⟩
    gf:=λid b off hl hp=>by
     rcases ar id b off hl hp with⟨pos,S,h1,h2,_⟩|⟨h1,h2,h3,_⟩
     .exact sJ S (ib h1) b off h2
     .exact sL id b off h1 h2 h3
    inj:=λid bK b off hl bQ hp dG=>by
     have key:∀bK,Live st.objs bK->φ bK b off->¬Tk φ st.objs bx A.all b off->∀(pos:Nat) (S:CS),(kf++fps (ms++cE))[pos]?=some S->S b off->False:=λbK g1 g2 g3 pos S g4 g5=>by
      rcases(hown S (ib g4) b off g5).2.1 with g6|g6
      .exact g3 (hTk b off g6)
      .have:=hφ.bl bK b off g1 g2;omega
     rcases ar id b off hl hp with⟨pos,S,h1,h2,he⟩|⟨h1,h2,h3,h4⟩<;>rcases ar bK b off bQ dG with⟨sM,S',iU,iW,d6⟩|⟨iU,iW,cU,h4'⟩
     .have:=Wk1 hA2.sep h1 iU h2 iW;subst this;rw[he,d6]
     .exact(key bK iU iW cU pos S h1 h2).elim
     .exact(key id h1 h2 h3 sM S' iU iW).elim
     .exact hφ.inj id bK b off h1 iU h2 iW
    own:=λid b off hl hp=>by
     rcases ar id b off hl hp with⟨pos,S,h1,h2,_⟩|⟨h1,h2,h3,_⟩
     .rcases(hown S (ib h1) b off h2).2.1 with h5|h5
      .obtain⟨i,hi,h6,h7,_⟩:=hTk b off h5;exact hφ.own i b off h6 h7
      .exact .inl (Xcm hφ.le.size h5)
     .exact hφ.own id b off h1 h2
    lt:=λid ⟨ob,hl,cK⟩=>by
     rcases gG id ob hl cK with⟨_,h2,_⟩|⟨j,S,h1,_⟩|⟨h1,h2⟩
     .exact h2
     .have:=kQ id (Xav h1);omega
     .have:=hφ.lt id ⟨ob,h1,cK⟩;omega
    bl:=λid b off hl hp=>by
     rcases ar id b off hl hp with⟨pos,S,h1,h2,_⟩|⟨h1,h2,h3,_⟩
     .exact(hown S (ib h1) b off h2).2.2
     .exact Nat.lt_of_lt_of_le (hφ.bl id b off h1 h2) hA2.le.size
    le:=hφ.le.trans hA2.le (λb off mH=>by
     obtain⟨i,hi,h6,h7,_⟩:=hTk b off mH;exact hφ.own i b off h6 h7)}
   have hR:=hr.on sF hνold (by omega) ⟨φ2,hH⟩ sH;have hR2:=hR.put (dst:=o.dst) hd (Wqd wW);rw[lR]at hk;exact hK _ _ _ _ _ hR2 hk
  .cases h
 .cases h
theorem Wuy{Γ:Ctx}(hΓ:WeZ P Γ)(hr:Rel w0 F nt G0 G ν st a w){o:Oper}(hd:∀d,o.dst=some d->nt.Ok d){c:Call}{f:Operand}{g:FuncId}{caps:List Nat}{xs:List AVal}{sg:Sig}{R:Type}{k:St->Option R}{r:R}
  (ho:o.op= .call c) (hc:c.callee= .value f) (hf:ev st f=some (.s (.one (.clos g caps)))) (mI:evs st c.args.toList=some xs) (mE:look Γ g=some sg)
  (h:WlK sg st (xs++Wjh caps) (λx objs nx=>k (({env:=st.env,objs:=objs,nx:=nx}:St).put o.dst x))=some r) {K:Act->World->Prop} {Q:Exit->Act->World->Prop}
  (hK:∀ah a' w' G' ν',Rel w0 F nt G0 G' ν' ah a' w'->k ah=some r->K a' w'):o.wp P a w K Q:=by
 obtain⟨⟨cvs,pn,hcl,hcv⟩,_⟩:=WM hr f _ hf;obtain⟨iw,wX⟩:=WqF hr _ _ mI;have hlen:(xs++Wjh caps).length=(c.args.toList.map a.eval++cvs).length:=by simp[iw,Wjh,hcl]
 have hargs:∀(j:Nat) (x:AVal) (v:Value),(xs++Wjh caps)[j]?=some x->(c.args.toList.map a.eval++cvs)[j]?=some v->AValRel G ν st.nx x v:=λj x v hj hv=>by
  rw[Xax]at hj hv;rw[Xu,←iw]at hv;split at hj
  .rename_i hlt;rw[Wb hlt]at hv;exact wX j x v hj hv
  .rename_i hlt;rw[Wa hlt]at hv;simp only[Wjh,Xao]at hj;cases hcj:caps[j-xs.length]? with
   |none=>simp[hcj]at hj
   |some id=>
    simp[hcj]at hj;subst hj;obtain⟨h1,h3,h2⟩:=hcv _ id v hcj hv;exact⟨⟨h1,h2⟩,h3⟩
 unfold WlK at h;cases rt:sg.fresh with
 |true=>
  rw[rt]at h;exact WkL hΓ hr hd ho hc pn mE hlen hargs h hK
 |false=>
  rw[rt]at h;simp only[Wc]at h;split at h
  .rename_i A hA;split at h
   .exact WkL hΓ hr hd ho hc pn mE hlen hargs h hK
   .obtain⟨G1,hz⟩:=hr.frz A.lent;refine WkL hΓ hz.rel hd ho hc pn mE (by simpa using hlen) (λj x v hj hv=>?_) h hK;rw[Xao]at hj;obtain⟨y,hy,rfl⟩:=Xy.1 hj;exact hz.val y v (hargs j y v hy hv)
  .cases h
end
end Go.Sx
namespace Go.Sx
set_option linter.unusedVariables false
set_option linter.unusedSimpArgs false
section
variable{w0:World}{F:CS}{nt:Slots}{G0 G G':GH}{ν:Nat->Nu}{objs:Wac}{nx:Nat}{st ah:St}{a:Act}{w w':World}{P:Program}{T:Tab}{Γ:Ctx}
theorem Done.wp{o:Oper}{ah:St}(h:Done P w0 F nt G0 o a w ah){K:Act->World->Prop}{Q:Exit->Act->World->Prop}
  (hK:∀a' w' G' ν',Rel w0 F nt G0 G' ν' ah a' w'->K a' w'):o.wp P a w K Q:=by
 obtain⟨n,v,w',G',ν',h1,h2,h3⟩:=h;unfold Oper.wp;rw[h1];rcases h2 with rfl|⟨rfl,rfl⟩
 .exact hK _ _ _ _ h3
 .exact hK _ _ _ _ h3
theorem WlI{t:TypeId}{x v:AVal}{ah:St}(h:WcP T st t x v=some ah):({env:=st.env,objs:=ah.objs,nx:=ah.nx}:St)=ah:=by
 unfold WcP at h;split at h
 .split at h
  .split at h
   .injection h with h;subst h;rfl
   .cases h
  .cases h
 .split at h
  .split at h
   .split at h
    .injection h with h;subst h;rfl
    .cases h
   .split at h
    .split at h
     .split at h
      .injection h with h;subst h;rfl
      .cases h
     .cases h
    .cases h
  .cases h
 .cases h
theorem WaI{R:Type}{c:Bool}{x:Option R}{r:R}(h:(bif c then x else none)=some r):c=true/\x=some r:=by
 cases c
 .cases h
 .exact⟨rfl,h⟩
theorem WbN{R:Type}{c:Prop}[Decidable c]{x:Option R}{r:R}(h:(if c then x else none)=some r):c/\x=some r:=by
 split at h
 .exact⟨by assumption,h⟩
 .cases h
theorem Wmj{e:Ty}{ps:List (Nat×AVal)}{R:Type}{k:KV R}{r:R}(h:Wde st e ps k=some r):
  ∃x ds d m,ps= [(0,x)]/\WgF (WgZ st.objs (WgU e x) x)=some ds/\Waq e ds (WdI st.objs (WgU e x))=some (d,m,[])/\Wbr m=true/\
   k (.s (.one (.own st.nx))) ((st.nx,.arr e [d])::kill (WdI st.objs (WgU e x)) m) (st.nx+1)=some r:=by
 match ps with
 | [p]=>
  simp only[Wde]at h;obtain⟨hp,h⟩:=WbN h;split at h
  .rename_i ds gh;split at h
   .rename_i d m hf;obtain⟨aV,h⟩:=WbN h;exact⟨p.2,ds,d,m,by rw[←hp],gh,hf,aV,h⟩
   .cases h
  .cases h
 | []=>cases h
 |_::_::_=>cases h
theorem Wno(hT:Wag P T)(hr:Rel w0 F nt G0 G ν st a w){o:Oper}(hd:∀d,o.dst=some d->nt.Ok d){R:Type}{k:St->Option R}{r:R}
  (h:(match Waf T st o.op with|some (c,v)=>bif c then k (({env:=st.env,objs:=st.objs,nx:=st.nx}:St).put o.dst v)else none|none=>none)=some r)
  {K:Act->World->Prop} {Q:Exit->Act->World->Prop} (hK:∀ah a' w' G' ν',Rel w0 F nt G0 G' ν' ah a' w'->k ah=some r->K a' w'):o.wp P a w K Q:=by
 split at h
 .rename_i c v hp;obtain⟨rfl,h⟩:=WaI h;exact(Wrl hT hr hd hp).wp λa' w' G' ν' bi=>hK _ _ _ _ _ bi h
 .cases h
theorem Wr4(hT:Wag P T)(hΓ:WeZ P Γ)(hr:Rel w0 F nt G0 G ν st a w){o:Oper}(hd:∀d,o.dst=some d->nt.Ok d){A:List (Nat×An)}{R:Type}{k:St->Option R}{r:R}(h:rx1 T Γ A o st k=some r)
  {K:Act->World->Prop} {Q:Exit->Act->World->Prop} (hK:∀ah a' w' G' ν',Rel w0 F nt G0 G' ν' ah a' w'->k ah=some r->K a' w'):o.wp P a w K Q:=by
 unfold rx1 rxe at h;split at h
 .rename_i t ho;split at h
  .rename_i e n et hl;obtain⟨hc,h⟩:=WbN h;simp only[Xi]at hc;exact(WkG hT hr hd ho hl hc.1 hc.2).wp λa' w' G' ν' bi=>hK _ _ _ _ _ bi h
  .rename_i te _ hl;obtain⟨hc,h⟩:=WbN h;exact(Wpl hT hr hd ho hl hc).wp λa' w' G' ν' bi=>hK _ _ _ _ _ bi h
  .cases h
 .rename_i t x ho;split at h
  .rename_i te cs hl hb;cases hv:ev st x with
   |none=>simp[hv]at hb
   |some v=>
    simp only[hv,Xd]at hb;exact(Wsh hr hd ho hv hb).wp λa' w' G' ν' bi=>hK _ _ _ _ _ bi h
  .cases h
 .rename_i t parts ho;split at h
  .rename_i ty fs ps hl ct;obtain⟨hc,h⟩:=WbN h;split at h
   .rename_i cs hf;refine(WoZ hT hr hd ho hl ct hf ?_).wp λa' w' G' ν' bi=>hK _ _ _ _ _ bi h;intro f hf;have:=Xai.1 hc f hf;split at this
    .rename_i te bF;exact⟨te,bF,this⟩
    .cases this
   .cases h
  .cases h
 .rename_i t n parts ho;split at h
  .rename_i ty et ps hl ct;split at h
   .rename_i te hle;split at h
    .rename_i e _;obtain⟨hc,h1⟩:=WbN h;clear h;simp only[Xi,Wh]at hc;obtain⟨⟨⟨hn,he⟩,hp⟩,hsz⟩:=hc;obtain⟨x,ds,d,m,rfl,gh,hf,aV,h⟩:=Wmj h1;clear h1;subst hn;have aV:=(WcO _).1 aV;obtain⟨G1,hz⟩:=hr.frz (WgU e x);obtain⟨p1,p2⟩:=Wf5 hr _ _ ct;have eB:∃y,parts.toList= [(0,y)]/\AValRel G ν st.nx x (a.eval y):=by
      match gw:parts.toList,p1 with
      | [q],_=>
       rw[gw]at p2;obtain⟨q1,q2⟩:=p2 0 _ q rfl rfl;refine⟨q.2,?_,q2⟩;have:q=(0,q.2):=Prod.ext q1.symm rfl;rw[←this]
     obtain⟨y,wY,wZ⟩:=eB;exact(Wlt hT hz.rel hd ho wY hl hle (hz.val _ _ wZ) gh hf aV he hp hsz).wp λa' w' G' ν' bi=>hK _ _ _ _ _ bi h
    split at h
    .rename_i xs hf;obtain⟨hc,h⟩:=WbN h;simp only[Xi,Wh]at hc;obtain⟨G1,hz⟩:=hr.frz (Wj7 ps);obtain⟨p1,p2⟩:=Wf5 hr _ _ ct;exact(WhO hT hz.rel hd ho hl hle (by simpa [Wkz]using p1) (λj p q hp hq=>by
      simp only[Wkz,Xao]at hp;obtain⟨y,hy,rfl⟩:=Xy.1 hp;exact⟨(p2 j y q hy hq).1,hz.val _ _ (p2 j y q hy hq).2⟩) hf hc.1.1 hc.1.2 hc.2).wp λa' w' G' ν' bi=>hK _ _ _ _ _ bi h
    .cases h
   .cases h
  .cases h
 .rename_i t n c ho;split at h
  .rename_i ty et n' c' hl hn hc;split at h
   .rename_i te hle;obtain⟨k1,sD⟩:∃k,a.eval n= .int k n':=by
     cases hv:ev st n with
     |none=>simp[hv]at hn
     |some v=>simp only[hv,Xd]at hn;exact Wfi _ _ _ (WM hr n _ hv) hn
    obtain⟨k2,kO⟩:∃k,a.eval c= .int k c':=by
     cases hv:ev st c with
     |none=>simp[hv]at hc
     |some v=>simp only[hv,Xd]at hc;exact Wfi _ _ _ (WM hr c _ hv) hc
    split at h
    .obtain⟨kS,h⟩:=WbN h;obtain⟨hb,h⟩:=WaI h;simp only[Xi,Wh]at hb kS;exact(Wh3 hT hr hd ho hl hle sD kO hb.1.1 hb.1.2 hb.2 kS.1 kS.2).wp λa' w' G' ν' bi=>hK _ _ _ _ _ bi h
    .obtain⟨kS,h⟩:=WbN h;obtain⟨hb,h⟩:=WaI h;simp only[Xi,Wh]at hb kS;exact(WiJ hT hr hd ho hl hle sD kO hb.1.1 hb.1.2 hb.2 kS.1 kS.2).wp λa' w' G' ν' bi=>hK _ _ _ _ _ bi h
   .cases h
  .cases h
 .rename_i t x y ho;split at h
  .rename_i p v hp hv;split at h
   .rename_i ah hs;split at h
    .rename_i iy;have h:k (({env:=st.env,objs:=ah.objs,nx:=ah.nx}:St).put o.dst (.tup []))=some r:=h;obtain⟨G1,hz⟩:=hr.frz (Wfo st.objs p v);have bp:=WlI hs;simp only at bp;rw[bp,iy]at h;exact(WpH hT hz.rel ho iy (AValRel.mono hz.le (λ_ _=>rfl) (Xn _) _ _ (WM hr x _ hp)) (hz.val _ _ (WM hr y _ hv)) hs).wp λa' w' G' ν' bi=>hK _ _ _ _ _ bi h
    .cases h
   .cases h
  .cases h
 .rename_i t x lo hi ho;split at h
  .rename_i id hx;split at h
   .rename_i ty et l hh hl bb oa;split at h
    .rename_i te hle;split at h
     .obtain⟨hp,h⟩:=WbN h;obtain⟨ah,hk,eS⟩:=WqV hT hr hd ho hx hl hle hp bb oa h;exact eS.wp λa' w' G' ν' bi=>hK _ _ _ _ _ bi hk
     .split at h
      .rename_i h' e xs _ az;obtain⟨⟨he,hp⟩,h⟩:=WbN h;obtain⟨hb,h⟩:=WaI h;simp only[Xi,Wh]at hb;exact(WoY hT hr hd ho hx hl hle hp he az bb oa hb.1 hb.2).wp λa' w' G' ν' bi=>hK _ _ _ _ _ bi h
      .rename_i h' e xs i p _ az;obtain⟨⟨he,hp,sA⟩,h⟩:=WbN h;obtain⟨hb,h⟩:=WaI h;simp only[Xi,Wh]at hb;exact(WiY hT hr hd ho hx hl hle hp he az sA bb oa hb.1.1 hb.1.2 hb.2).wp λa' w' G' ν' bi=>hK _ _ _ _ _ bi h
      .cases h
    .cases h
   .cases h
  .rename_i hx;exact Wno hT hr hd (by rw[ho];rw[ho]at h;exact h) hK
 .rename_i c ho;split at h
  .rename_i s x t t2 hc ha cW;split at h
   .rename_i sv xv hs hx;obtain⟨ah,hk,eS⟩:=Wnn hT hr hd ho hc ha cW hs hx h;exact eS.wp λa' w' G' ν' bi=>hK _ _ _ _ _ bi hk
   .cases h
  .rename_i x t hc ha cW;split at h
   .rename_i id lo hi hx;split at h
    .rename_i ty et e xs hl az;split at h
     .rename_i te hle;obtain⟨⟨he,hp,bd⟩,h⟩:=WbN h;exact(Wo9 hT hr hd ho hc ha cW hx hl hle az he hp bd).wp λa' w' G' ν' bi=>hK _ _ _ _ _ bi h
     .cases h
    .cases h
   .cases h
  .exact Wno hT hr hd h hK
  .rename_i f args _ hc;split at h
   .rename_i g caps xs hf mI;split at h
    .rename_i sg mE;exact Wuy hΓ hr hd ho hc hf mI mE h hK
    .cases h
   .cases h
  .cases h
 .exact Wno hT hr hd h hK
end
end Go.Sx
namespace Go.Sx
set_option linter.unusedVariables false
set_option linter.unusedSimpArgs false
section
variable{w0:World}{F:CS}{nt:Slots}{G0 G G':GH}{ν ν':Nat->Nu}{φ φ':Nat->CS}{objs objs':Wac}{nx ak:Nat}{st ah:St}{a:Act}{w w':World}{P:Program}{T:Tab}{Γ:Ctx}
theorem Rel.rebind(h:Rel w0 F nt G0 G ν st a w){i:Nat}{x:AVal}{v:Value}(hv:a.tmps[i]?=some v)(hx:AValRel G ν st.nx x v):Rel w0 F nt G0 G ν (st.put (some i) x) a w:=
 ⟨h.defers,h.ntm,h.par,λj y hy=>by
  simp only[St.put]at hy;rw[WF]at hy;split at hy
  .rename_i e;subst e;injection hy with hy;subst hy;exact⟨v,hv,hx⟩
  .exact h.env j y hy,h.h,h.gx⟩
theorem CellsRel.set{cs:List Cell}{vs:List Value}(h:CellsRel G ν nx cs vs){off:Nat}{c:Cell}(hc:∀v,vs[off]?=some v->CellRel G ν nx c v):CellsRel G ν nx (cs.set off c) vs:=by
 refine⟨by simp[h.1],λj d v hd hv=>?_⟩;rw[List.getElem?_set]at hd;split at hd
 .rename_i e;subst e;split at hd
  .rename_i hlt;injection hd with hd;subst hd;exact⟨hc v hv,(h.2 off cs[off] v (Xp hlt) hv).2⟩
  .cases hd
 .exact h.2 j d v hd hv
theorem HRel.mk_box(h:HRel w0 F G ν objs nx w){id:Nat}{cs cs':List Cell}(ho:look objs id=some (.box cs))(hl:cs'.length=cs.length)
  (hc:∀vs,CellsRel G ν nx cs vs->CellsRel G ν nx cs' vs):HRel w0 F G ν ((id,.box cs')::objs) nx w:=by
 obtain⟨φ,h⟩:=h;have aI:Live objs id:=⟨_,ho,by simp⟩;obtain⟨b,vs,h1,h2,h3,h4,h5⟩:Wcs G ν nx w id (φ id) (.box cs):=h.ob _ _ ho;exact⟨_,h.put (ν':=ν) (m:=[]) (λ_ _=>rfl) (Xn _) (h.lt id aI) (WLe.refl _ w) (λb o hh=>.inl ⟨id,.inl rfl,aI,hh⟩) (λ_=>⟨b,vs,h1,by rw[hl];exact h2,h3,hc _ h4,by rw[hl];exact h5⟩)⟩
theorem HRel.empt(h:HRel w0 F G ν objs nx w){id:Nat}{e e':Ty}(ho:look objs id=some (.arr e' []))(hs:e.size=e'.size):HRel w0 F G ν ((id,.arr e [])::objs) nx w:=by
 obtain⟨φ,h⟩:=h;have aI:Live objs id:=⟨_,ho,by simp⟩;have az:Wcs G ν nx w id (φ id) (.arr e' []):=h.ob _ _ ho;have az:OwnL w (TyRel G w e') e'.size (ν id) [] (φ id):=az;refine⟨_,h.put (ν':=ν) (m:=[]) (λ_ _=>rfl) (Xn _) (h.lt id aI) (WLe.refl _ w) (λb o hh=>.inl ⟨id,.inl rfl,aI,hh⟩) (λ_=>?_)⟩;show OwnL w (TyRel G w e) e.size (ν id) [] (φ id);rw[hs];unfold OwnL at*;refine⟨az.1,az.2.1,?_⟩;have h3:=az.2.2;cases hb:(ν id).blk with
 |none=>rfl
 |some b=>
  rw[hb]at h3;obtain⟨a1,a2,a3,cs,ps,a4,a5,a6,a7⟩:=h3;exact⟨a1,a2,a3,cs,ps,by simpa [EncP]using a4,a5,a6,a7⟩
theorem HRel.adopt(h:HRel w0 F G ν objs nx w)(e:Ty):HRel w0 F G (upd ν nx ⟨none,0,0,0,e.size⟩) ((nx,.arr e [])::objs) (nx+1) w:=by
 obtain⟨φ,h⟩:=h;refine⟨_,h.put (m:=[]) (S:=λ_ _=>False) (We8 ν nx _) (Xdc _) (Xbt _) (WLe.refl _ w) (λb o hh=>hh.elim) (λ_=>?_)⟩;show OwnL _ _ _ (upd ν nx ⟨none,0,0,0,e.size⟩ nx) _ _;rw[Wbm];exact⟨rfl,rfl,rfl⟩
theorem WjD(e:Ty):CellRel G (upd ν nx ⟨none,0,0,0,e.size⟩) (nx+1) (.own nx) (.slice none 0 0):=
 ⟨Xbt _,by rw[Wbm];rfl⟩
theorem HRel.solo(h:HRel w0 F G ν objs nx w){id lo hi:Nat}{e:Ty}{xs:List e.den}(ho:look objs id=some (.arr e xs))(h1:lo<=hi)(h2:hi<=(ν id).len):
  HRel w0 F G (upd ν nx ((ν id).part lo hi)) ((nx,.arr e ((xs.take hi).drop lo))::(id,.dead)::objs) (nx+1) w:=by
 obtain⟨φ,h⟩:=h;have aI:Live objs id:=⟨_,ho,by simp⟩;have hown:OwnL w (TyRel G w e) e.size (ν id) xs (φ id):=h.ob _ _ ho;refine⟨_,h.put (m:=[id]) (S:=φ id) (We8 ν nx _) (Xdc _) (Xbt _) (WLe.refl _ w) (λb o hh=>.inl ⟨id,.inr (by simp),aI,hh⟩) (λ_=>?_)⟩;show OwnL _ _ _ (upd ν nx ((ν id).part lo hi) nx) _ _;rw[Wbm];exact Wld hown h1 h2
theorem Wmn{id lo hi:Nat}:CellRel G (upd ν nx ((ν id).part lo hi)) (nx+1) (.own nx) ((ν id).vhdr lo hi):=
 ⟨Xbt _,by rw[Wbm,WjN]⟩
theorem WnL(h:Rel w0 F nt G0 G ν st a w){p:Nat}(hg:WnI st p=some ah):Rel w0 F nt G0 G ν ah a w:=by
 unfold WnI at hg;split at hg
 .rename_i r _;split at hg
  .rename_i e xs i p' cs bb gi;split at hg
   .rename_i d m hf;split at hg
    .rename_i br;injection hg with hg;subst hg;simp only[Xi]at br;obtain⟨hp,aV⟩:=br;have hp:=Xci hp;subst hp;have aV:=(WcO _).1 aV;obtain⟨n1,n2⟩:=Xah.1 aV;obtain⟨n3,n4⟩:=Xah.1 n2;obtain⟨φ,hφ⟩:=h.h;have aI:Live st.objs r:=⟨_,bb,by simp⟩;have d4:Live st.objs p:=⟨_,gi,by simp⟩;obtain⟨kI,hole⟩:p<st.nx/\Whk w (TyRel G w e) e.size (ν r) (ν p) xs i (φ r):=hφ.ob _ _ bb;obtain⟨b,us,hb,hrow,hmem,bC,eC⟩:Wcs G ν st.nx w p (φ p) (.box cs):=hφ.ob _ _ gi;obtain⟨ns,t1,t2,t3,t4,_⟩:=Wae (G':=G) hφ (λ_ _ _ hh=>hh) e cs us d m [] bC (λi hi=>by simp at hi) n4 hf;have cV:=WD _ _ _ _ t1;rw[←bC.1,cV]at eC;have hne:r≠p:=λe=>n1 (by rw[e];exact Xh ..);refine h.on (λ_ _ _ hh=>hh) (λ_ _=>rfl) (Xn _) ⟨_,hφ.put (ν':=ν) (S:=λb o=>φ r b o\/FromL φ st.objs (p::m) b o) (λ_ _=>rfl) (Xn _) (hφ.lt r aI) (WLe.refl _ w) (λb o hh=>?_) (λ_=>?_)⟩ h.gx
     .rcases hh with hh|⟨j,hj,h1,h2⟩
      .exact .inl ⟨r,.inl rfl,aI,hh⟩
      .exact .inl ⟨j,.inr hj,h1,h2⟩
     .refine WoB hole t1 hb hmem eC t2 t3 ?_ ?_ ?_ (λb o hh=>.inl hh) (λb o hh=>.inr ⟨p,Xh ..,d4,hh⟩) (λb o hh=>.inr (FromL.mono (λi hi=>Xe _ hi) b o hh))
      .exactλb o h1 h2=>hne (hφ.inj r p b o aI d4 h1 h2)
      .exactλb o h1 ⟨j,hj,h2,h3⟩=>by
        have:=hφ.inj r j b o aI h2 h1 h3;subst this;exact n1 (Xe _ hj)
      .exactλb o h1 ⟨j,hj,h2,h3⟩=>by
        have:=hφ.inj p j b o d4 h2 h1 h3;subst this;exact n3 hj
    .cases hg
   .cases hg
  .cases hg
 .cases hg
theorem WjH(h:Rel w0 F nt G0 G ν st a w){r i:Nat}{e:Ty}{xs:List e.den}(bb:look st.objs r=some (.arr e xs))(hi:i<xs.length)(hg:WlL st r i=some ah):
  ∃ν' b,Rel w0 F nt G0 G ν' ah a w/\st.nx<ah.nx/\(ν r).blk=some b/\(ν' st.nx)=WbX b ((ν r).off+i*(ν r).esz)/\ah.env=st.env:=by
 unfold WlL at hg;rw[bb]at hg;simp only[Option.some.injEq]at hg;subst hg;obtain⟨φ,hφ⟩:=h.h;have aI:Live st.objs r:=⟨_,bb,by simp⟩;have hown:OwnL w (TyRel G w e) e.size (ν r) xs (φ r):=hφ.ob _ _ bb;obtain⟨g1,g2,g3⟩:=hown;have sN:=hφ.lt r aI;cases hb:(ν r).blk with
 |none=>simp only[hb]at g3;rw[g3]at hi;simp at hi
 |some b=>
  simp only[hb]at g3;obtain⟨g4,g5,g6,cs,ps,g7,g8,g9,rf⟩:=g3;obtain⟨c1,c,c2,p1,pc,p2,k1,k2,k3,k4,k5⟩:=Wnp g7 e.dflt hi;have l1:=WaZ (λx c q hx=>WD e x c q hx) _ _ _ k3;rw[Xaw,Xca (by omega)]at l1;have lc:=WD _ _ _ _ k4;have lo:=W5 _ _ _ _ k4;have e1:(i+1)*e.size=i*e.size+e.size:=Xbx i e.size;have e2:((ν r).cap-(i+1))*e.size+(i+1)*e.size=(ν r).cap*e.size:=by rw[←Xct];congr 1;omega
  have pr:=WaL e (xs.getD i e.dflt) (st.nx+1);have cV:=Wb3 e (xs.getD i e.dflt) (st.nx+1);rw[k1]at g8;have m1:Mem w b (ν r).off c1:=g8.left;have m2:Mem w b ((ν r).off+i*e.size) c:=(g8.right l1).left;have m3:Mem w b ((ν r).off+(i+1)*e.size) c2:=by
   have:=(g8.right l1).right lc;rw[Xay,←e1]at this;exact this
  obtain⟨q1,q2⟩:=Xv.1 g9;have fR:=rf _ (Xh ..);have lO:∀p∈p1++(pc++p2),CS.le p.fp (φ r):=λp hp=>rf _ (Xe _ (Xan (by rw[k2];exact hp)));have oc:∀p∈p1++(pc++p2),CS.disj (rng b (ν r).off ((ν r).cap*e.size)) p.fp:=λp hp=>q1 _ (Xan (by rw[k2];exact hp));rw[k2,Xz,Xz]at q2;obtain⟨s1,s2,s3⟩:=Xaj.1 q2;obtain⟨s4,s5,s6⟩:=Xaj.1 s2;have rA:CS.le (rng b (ν r).off (i*e.size)) (rng b (ν r).off ((ν r).cap*e.size)):=λb o ⟨x0,x1,x2⟩=>⟨x0,by omega,by omega⟩;have rB:CS.le (rng b ((ν r).off+i*e.size) e.size) (rng b (ν r).off ((ν r).cap*e.size)):=λb o ⟨x0,x1,x2⟩=>⟨x0,by omega,by omega⟩;have rC:CS.le (rng b ((ν r).off+(i+1)*e.size) (((ν r).cap-(i+1))*e.size)) (rng b (ν r).off ((ν r).cap*e.size)):=λb o ⟨x0,x1,x2⟩=>⟨x0,by omega,by omega⟩;obtain⟨SR,hSR⟩:∃SR:CS,SR= λb' o=>rng b (ν r).off (i*e.size) b' o\/rng b ((ν r).off+(i+1)*e.size) (((ν r).cap-(i+1))*e.size) b' o\/∃p∈p1++p2,p.fp b' o:=⟨_,rfl⟩;have hSRφ:CS.le SR (φ r):=λb o hh=>by
   rw[hSR]at hh;rcases hh with hh|hh|⟨p,hp,hh⟩
   .exact fR b o (rA b o hh)
   .exact fR b o (rC b o hh)
   .refine lO p ?_ b o hh;rcases Xm.1 hp with hp|hp
    .exact Xl _ hp
    .exact Xg _ (Xg _ hp)
  obtain⟨ν',hν'⟩:∃ν':Nat->Nu,ν'= λj=>if j<st.nx then ν j else if j=st.nx then WbX b ((ν r).off+i*e.size)else((nus pc)[j-(st.nx+1)]?).getD ⟨none,0,0,0,0⟩:=⟨_,rfl⟩;obtain⟨φ',hφ'⟩:∃φ':Nat->CS,φ'= λj=>if j=r then SR else if j<st.nx then φ j else if j=st.nx then rng b ((ν r).off+i*e.size) e.size else((fps pc)[j-(st.nx+1)]?).getD (λ_ _=>False):=⟨_,rfl⟩;have hνold:WrF st.nx ν ν':=λj hj=>by rw[hν'];simp[hj]
  have hνp:ν' st.nx=WbX b ((ν r).off+i*e.size):=by rw[hν'];simp
  have hφr:φ' r=SR:=by rw[hφ'];simp
  have hφp:φ' st.nx=rng b ((ν r).off+i*e.size) e.size:=by rw[hφ'];simp;omega
  have hφold:∀j,j<st.nx->j≠r->φ' j=φ j:=λj hj hn=>by rw[hφ'];simp[hj,hn]
  have hAt:At ν' φ' (st.nx+1) pc:=λj q hj=>by
   have x1:(nus pc)[j]?=some q.nu:=by unfold nus;rw[Xao,hj];rfl
   have x2:(fps pc)[j]?=some q.fp:=by unfold fps;rw[Xao,hj];rfl
   rw[hν',hφ'];constructor
   .show(if st.nx+1+j<st.nx then _ else if st.nx+1+j=st.nx then _ else _)=_;rw[Wa (by omega),Wa (by omega),Xcc,x1];rfl
   .show(if st.nx+1+j=r then _ else if st.nx+1+j<st.nx then _ else if st.nx+1+j=st.nx then _ else _)=_;rw[Wa (by omega),Wa (by omega),Wa (by omega),Xcc,x2];rfl
  obtain⟨uc,uo⟩:=Was (ν:=ν') (φ:=φ') e (xs.getD i e.dflt) (st.nx+1) c pc k4 hAt;have gG:∀id ob,look ((r,Ob.hole e xs i st.nx)::(st.nx,Ob.box (unfold e (xs.getD i e.dflt) (st.nx+1)).1)::((unfold e (xs.getD i e.dflt) (st.nx+1)).2.1++st.objs)) id=some ob->ob≠ .dead->
    (id=r/\ob= .hole e xs i st.nx)\/(id=st.nx/\ob= .box (unfold e (xs.getD i e.dflt) (st.nx+1)).1)\/(st.nx+1<=id/\id<st.nx+1+e.owns/\WpT G ν' φ' w id ob)\/(id≠r/\id<st.nx/\look st.objs id=some ob):=λid ob hl hd=>by
   rw[WF]at hl;split at hl
   .rename_i x;injection hl with hl;exact .inl ⟨x.symm,hl.symm⟩
   .rename_i ri;rw[WF]at hl;split at hl
    .rename_i x;injection hl with hl;exact .inr (.inl ⟨x.symm,hl.symm⟩)
    .rcases WK hl with hl|hl
     .obtain⟨x1,x2,x3⟩:=uo id ob hl;exact .inr (.inr (.inl ⟨x1,x2,x3⟩))
     .exact .inr (.inr (.inr ⟨λx=>ri x.symm,hφ.lt id ⟨ob,hl,hd⟩,hl⟩))
  have eT:∀id b' o,Live ((r,Ob.hole e xs i st.nx)::(st.nx,Ob.box (unfold e (xs.getD i e.dflt) (st.nx+1)).1)::((unfold e (xs.getD i e.dflt) (st.nx+1)).2.1++st.objs)) id->φ' id b' o->
    (id=r/\SR b' o)\/(id=st.nx/\rng b ((ν r).off+i*e.size) e.size b' o)\/(∃(j:Nat) (q:Pc),id=st.nx+1+j/\pc[j]?=some q/\q.fp b' o)\/(id≠r/\id<st.nx/\Live st.objs id/\φ id b' o):=λid b' o ⟨ob,hl,hd⟩ hp=>by
   rcases gG id ob hl hd with⟨rfl,_⟩|⟨rfl,_⟩|⟨x1,x2,_⟩|⟨x1,x2,x3⟩
   .rw[hφr]at hp;exact .inl ⟨rfl,hp⟩
   .rw[hφp]at hp;exact .inr (.inl ⟨rfl,hp⟩)
   .right;right;left;have hlt:id-(st.nx+1)<pc.length:=by omega
    refine⟨id-(st.nx+1),pc[id-(st.nx+1)],by omega,Xp hlt,?_⟩;have:=(hAt (id-(st.nx+1)) _ (Xp hlt)).2;rw[show st.nx+1+(id-(st.nx+1))=id by omega]at this;rw[this]at hp;exact hp
   .rw[hφold id x2 x1]at hp;exact .inr (.inr (.inr ⟨x1,x2,⟨ob,x3,hd⟩,hp⟩))
  have hq:∀(j:Nat) (q:Pc),pc[j]?=some q->q∈p1++(pc++p2):=λj q hj=>Xg _ (Xl _ (Xav hj));have dR:∀id b' o,(id=r/\SR b' o)\/(id=st.nx/\rng b ((ν r).off+i*e.size) e.size b' o)\/(∃(j:Nat) (q:Pc),id=st.nx+1+j/\pc[j]?=some q/\q.fp b' o)->φ r b' o:=λid b' o hh=>by
   rcases hh with⟨_,hh⟩|⟨_,hh⟩|⟨j,q,_,hj,hh⟩
   .exact hSRφ b' o hh
   .exact fR b' o (rB b' o hh)
   .exact lO q (hq j q hj) b' o hh
  have hH:HR w0 F G ν' φ' ((r,Ob.hole e xs i st.nx)::(st.nx,Ob.box (unfold e (xs.getD i e.dflt) (st.nx+1)).1)::((unfold e (xs.getD i e.dflt) (st.nx+1)).2.1++st.objs)) (st.nx+1+e.owns) w:=by
   refine hφ.step (WLe.refl _ w) (λid ob hl hd=>?_) (λid ⟨ob,hl,hd⟩=>?_) (λid b' o jG hp=>?_) (λid b' o jG hp=>?_) (λid bK b' o hl bQ hp dG=>?_)
   .rcases gG id ob hl hd with⟨rfl,rfl⟩|⟨rfl,rfl⟩|⟨x1,x2,e',ru,rfl,x3⟩|⟨x1,x2,x3⟩
    .refine⟨by omega,?_⟩;rw[hφr,hνold id sN,hνp];refine⟨g1,g2,hi,b,hb,rfl,rfl,g4,g5,g6,c1,c2,p1,p2,k3,k5,m1,m3,?_,λs hs b' o hh=>?_⟩
     .refine Xv.2 ⟨λs hs=>?_,Xv.2 ⟨λs hs=>?_,?_⟩⟩
      .rcases Xq.1 hs with rfl|hs
       .exact Ws1 (by omega)
       .obtain⟨p,hp,rfl⟩:=Xt.1 hs;refine(oc p ?_).mono rA (λ_ _ hh=>hh);rcases Xm.1 hp with hp|hp
        .exact Xl _ hp
        .exact Xg _ (Xg _ hp)
      .obtain⟨p,hp,rfl⟩:=Xt.1 hs;refine(oc p ?_).mono rC (λ_ _ hh=>hh);rcases Xm.1 hp with hp|hp
       .exact Xl _ hp
       .exact Xg _ (Xg _ hp)
      .rw[Xz];exact Xaj.2 ⟨s1,s5,λs hs t ht=>s3 s hs t (Xg _ ht)⟩
     .rw[hSR];rcases Xq.1 hs with rfl|hs
      .exact .inl hh
      .rcases Xq.1 hs with rfl|hs
       .exact .inr (.inl hh)
       .obtain⟨p,hp,rfl⟩:=Xt.1 hs;exact .inr (.inr ⟨p,hp,hh⟩)
    .refine⟨b,c,by rw[hνp];rfl,?_,by rw[hνp];exact m2,uc _ (Xn _),?_⟩
     .rw[hνp,cV];obtain⟨row,TT,y1,y2⟩:=g6;exact⟨row,TT,y1,by show(ν r).off+i*e.size+e.size<=row.size;omega⟩
     .rw[hνp,cV,hφp];exactλ_ _ hh=>hh
    .exact x3
    .rw[hφold id x2 x1];exact Wdm (λ_ _ _ hh=>hh) (Same.refl _ w) (λ_ _ hh=>hh) hνold (by omega) x2 ob (hφ.ob id ob x3)
   .rcases gG id ob hl hd with⟨rfl,_⟩|⟨rfl,_⟩|⟨_,x2,_⟩|⟨_,x2,_⟩<;>omega
   .rcases eT id b' o jG hp with hh|hh|hh|⟨_,_,x3,x4⟩
    .exact .inl ⟨r,aI,dR id b' o (.inl hh)⟩
    .exact .inl ⟨r,aI,dR id b' o (.inr (.inl hh))⟩
    .exact .inl ⟨r,aI,dR id b' o (.inr (.inr hh))⟩
    .exact .inl ⟨id,x3,x4⟩
   .rcases eT id b' o jG hp with hh|hh|hh|⟨_,_,x3,x4⟩
    .exact hφ.bl r b' o aI (dR id b' o (.inl hh))
    .exact hφ.bl r b' o aI (dR id b' o (.inr (.inl hh)))
    .exact hφ.bl r b' o aI (dR id b' o (.inr (.inr hh)))
    .exact hφ.bl id b' o x3 x4
   .have out:∀bK,bK≠r->Live st.objs bK->φ bK b' o->φ r b' o->False:=λbK y1 y2 y3 y4=>y1 (hφ.inj bK r b' o y2 aI y3 y4);have dSP:SR b' o->∀s,(s=rng b ((ν r).off+i*e.size) e.size\/∃q∈pc,s=q.fp)->s b' o->False:=λy1 s y2 y3=>by
     rw[hSR]at y1;rcases y2 with rfl|⟨q,sO,rfl⟩
     .rcases y1 with y1|y1|⟨p,hp,y1⟩
      .obtain⟨z0,z1,z2⟩:=y1;obtain⟨z3,z4,z5⟩:=y3;omega
      .obtain⟨z0,z1,z2⟩:=y1;obtain⟨z3,z4,z5⟩:=y3;omega
      .refine oc p ?_ b' o (rB b' o y3) y1;rcases Xm.1 hp with hp|hp
       .exact Xl _ hp
       .exact Xg _ (Xg _ hp)
     .have pt:q∈p1++(pc++p2):=Xg _ (Xl _ sO);rcases y1 with y1|y1|⟨p,hp,y1⟩
      .exact oc q pt b' o (rA b' o y1) y3
      .exact oc q pt b' o (rC b' o y1) y3
      .rcases Xm.1 hp with hp|hp
       .exact s3 _ (Xan hp) _ (Xl _ (Xan sO)) b' o y1 y3
       .exact s6 _ (Xan sO) _ (Xan hp) b' o y3 y1
    have dPQ:∀(j:Nat) (q:Pc),pc[j]?=some q->rng b ((ν r).off+i*e.size) e.size b' o->q.fp b' o->False:=λj q hj y1 y2=>oc q (hq j q hj) b' o (rB b' o y1) y2;rcases eT id b' o hl hp with hh|hh|hh|⟨x1,x2,x3,x4⟩<;>rcases eT bK b' o bQ dG with eH|eH|eH|⟨sP,x2',ry,rz⟩
    .rw[hh.1,eH.1]
    .exact(dSP hh.2 _ (.inl rfl) eH.2).elim
    .obtain⟨j,q,_,hj,y⟩:=eH;exact(dSP hh.2 _ (.inr ⟨q,Xav hj,rfl⟩) y).elim
    .exact(out bK sP ry rz (dR id b' o (.inl hh))).elim
    .exact(dSP eH.2 _ (.inl rfl) hh.2).elim
    .rw[hh.1,eH.1]
    .obtain⟨j,q,_,hj,y⟩:=eH;exact(dPQ j q hj hh.2 y).elim
    .exact(out bK sP ry rz (dR id b' o (.inr (.inl hh)))).elim
    .obtain⟨j,q,_,hj,y⟩:=hh;exact(dSP eH.2 _ (.inr ⟨q,Xav hj,rfl⟩) y).elim
    .obtain⟨j,q,_,hj,y⟩:=hh;exact(dPQ j q hj eH.2 y).elim
    .obtain⟨j,q,bB,hj,y⟩:=hh;obtain⟨j',q',sQ,hj',y'⟩:=eH;have x1:(fps pc)[j]?=some q.fp:=by unfold fps;rw[Xao,hj];rfl
     have x2:(fps pc)[j']?=some q'.fp:=by unfold fps;rw[Xao,hj'];rfl
     have:=Wk1 (l:=fps pc) s4 x1 x2 y y';rw[bB,sQ,this]
    .exact(out bK sP ry rz (dR id b' o (.inr (.inr hh)))).elim
    .exact(out id x1 x3 x4 (dR bK b' o (.inl eH))).elim
    .exact(out id x1 x3 x4 (dR bK b' o (.inr (.inl eH)))).elim
    .exact(out id x1 x3 x4 (dR bK b' o (.inr (.inr eH)))).elim
    .exact hφ.inj id bK b' o x3 ry x4 rz
  refine⟨ν',b,?_,?_,rfl,by rw[hνp,g2],rfl⟩
  .have:=h.on (λ_ _ _ hh=>hh) hνold (by omega) ⟨φ',hH⟩ h.gx;rw[pr];exact this
  .show st.nx<(unfold e (xs.getD i e.dflt) (st.nx+1)).2.2;rw[pr];omega
end
end Go.Sx
namespace Go.Sx
set_option linter.unusedVariables false
set_option linter.unusedSimpArgs false
theorem Wc3:∀(l:List Nat) (i j:Nat),WqW i l=some j->l[j]?=some i
 | [],i,j,h=>by cases h
 |k::l,i,j,h=>by
  simp only[WqW]at h;split at h
  .rename_i hb;injection h with h;subst h;have:i=k:=by simpa using hb
   rw[this];rfl
  .cases hp:WqW i l with
   |none=>simp[hp]at h
   |some n=>
    simp[hp]at h;subst h;exact Wc3 l i n hp
theorem Wi6{m:List Nat}:∀(l r:List Nat),WlP m l=some r->r.length=l.length/\∀(q j:Nat),r[q]?=some j->∃i,l[q]?=some i/\m[j]?=some i
 | [],r,h=>by simp[WlP]at h;subst h;exact⟨rfl,λq j hq=>by simp at hq⟩
 |i::l,r,h=>by
  simp only[WlP]at h;split at h
  .rename_i j r' h1 h2;injection h with h;subst h;obtain⟨h3,h4⟩:=Wi6 l r' h2;refine⟨by simp[h3],λq j' hq=>?_⟩;cases q with
   |zero=>simp at hq;subst hq;exact⟨i,rfl,Wc3 m i j h1⟩
   |succ q=>exact h4 q j' (by simpa using hq)
  .cases h
theorem Wb0:∀(n:Nat) (todo acc:List Nat) (objs:Wac),acc.Nodup->(Wkk n todo acc objs).Nodup
 |0,_,_,_,h=>h
 |n+1,[],acc,objs,h=>h
 |n+1,i::l,acc,objs,h=>by
  simp only[Wkk];split
  .exact Wb0 n l acc objs h
  .rename_i hi;have sS:i∉acc:=λhm=>hi ((WaK i acc).2 hm);have h2:(acc++ [i]).Nodup:=by
    rw[Xag];refine⟨h,by simp,λx hx y hy=>?_⟩;simp at hy;subst hy
    exactλe=>sS (e▸hx)
   split
   .exact Wb0 n _ _ objs h2
   .exact Wb0 n _ _ objs h2
   .exact Wb0 n _ _ objs h2
   .exact Wb0 n _ _ objs h
theorem Wg8{m:List Nat}{objs:Wac}:∀(l:List Nat) (j0:Nat) (j:Nat) (ob:Ob),look (Wdz m objs j0 l) j=some ob->∃i cD,j0<=j/\l[j-j0]?=some i/\look objs i=some cD/\ob=Wrb m cD
 | [],j0,j,ob,h=>by cases h
 |i::l,j0,j,ob,h=>by
  simp only[Wdz]at h;have step:look (Wdz m objs (j0+1) l) j=some ob->∃i' cD,j0<=j/\(i::l)[j-j0]?=some i'/\look objs i'=some cD/\ob=Wrb m cD:=λh=>by
   obtain⟨i',cD,h1,h2,h3,h4⟩:=Wg8 l (j0+1) j ob h;refine⟨i',cD,by omega,?_,h3,h4⟩;rw[show j-j0=(j-(j0+1))+1 by omega];simpa using h2
  split at h
  .rename_i cD ho;rw[WF]at h;split at h
   .rename_i e;subst e;injection h with h;exact⟨i,cD,Xn _,by simp,ho,h.symm⟩
   .exact step h
  .exact step h
theorem WhT{env:List (Nat×AVal)}{f:AVal->AVal}:∀(l:List Nat) (i:Nat) (x:AVal),look ((WfE env l).map λp=>(p.1,f p.2)) i=some x->∃y,look env i=some y/\x=f y
 | [],i,x,h=>by cases h
 |j::l,i,x,h=>by
  simp only[WfE]at h;split at h
  .rename_i y hy;simp only[Xam]at h;rw[WF]at h;split at h
   .rename_i e;subst e;injection h with h;exact⟨y,hy,h.symm⟩
   .exact WhT l i x h
  .exact WhT l i x h
section
variable{w0:World}{F:CS}{nt:Slots}{G0 G G':GH}{ν ν':Nat->Nu}{objs objs':Wac}{nx ak:Nat}{st ah:St}{a:Act}{w w':World}{P:Program}{T:Tab}{Γ:Ctx}
structure Ren(m:List Nat)(ν ν':Nat->Nu)(ak:Nat):Prop where
 nx:∀(i j:Nat),m[j]?=some i->j<ak
 nu:∀(i j:Nat),m[j]?=some i->ν' j=ν i
theorem CellRel.ren{m:List Nat}(hm:Ren m ν ν' ak):∀(c:Cell) (v:Value),CellRel G ν nx c v->CellRel G ν' ak (WcT m c) v
 | .val t d,v,h=>h
 | .nils,v,h=>h
 | .rptr t d off,v,h=>h
 | .junk,v,h=>h
 | .own id,v,h=>by
  simp only[WcT];split
  .rename_i j hj;have hj:=Wc3 _ _ _ hj;exact⟨hm.nx _ _ hj,by rw[hm.nu _ _ hj];exact h.2⟩
  .trivial
 | .vw id lo hi,v,h=>by
  simp only[WcT];split
  .rename_i j hj;have hj:=Wc3 _ _ _ hj;exact⟨hm.nx _ _ hj,by rw[hm.nu _ _ hj];exact h.2⟩
  .trivial
 | .aptr id,v,h=>by
  simp only[WcT];split
  .rename_i j hj;have hj:=Wc3 _ _ _ hj;exact⟨hm.nx _ _ hj,by rw[hm.nu _ _ hj];exact h.2⟩
  .trivial
 | .ptr id off,v,h=>by
  simp only[WcT];split
  .rename_i j hj;have hj:=Wc3 _ _ _ hj;exact⟨hm.nx _ _ hj,by rw[hm.nu _ _ hj];exact h.2⟩
  .trivial
 | .eptr id i off,v,h=>by
  simp only[WcT];split
  .rename_i j hj;have hj:=Wc3 _ _ _ hj;exact⟨hm.nx _ _ hj,by rw[hm.nu _ _ hj];exact h.2⟩
  .trivial
 | .clos f caps,v,h=>by
  simp only[WcT];split
  .rename_i js hj;obtain⟨h1,h2⟩:=Wi6 _ _ hj;obtain⟨vs,h3,h4,h5⟩:=h;refine⟨vs,h3,h4.trans h1.symm,λq id u hq hu=>?_⟩;obtain⟨i,h6,h7⟩:=h2 q id hq;obtain⟨h8,h9,cC⟩:=h5 q i u h6 hu;exact⟨hm.nx _ _ h7,h9,by rw[hm.nu _ _ h7];exact cC⟩
  .trivial
theorem CellsRel.ren{m:List Nat}(hm:Ren m ν ν' ak){cs:List Cell}{vs:List Value}(h:CellsRel G ν nx cs vs):CellsRel G ν' ak (cs.map (WcT m)) vs:=by
 refine⟨by simp[h.1],λj c v hc hv=>?_⟩;simp only[Xao]at hc;cases hd:cs[j]? with
 |none=>simp[hd]at hc
 |some d=>
  simp[hd]at hc;subst hc;obtain⟨h1,h2⟩:=h.2 j d v hd hv;exact⟨h1.ren hm,h2⟩
theorem AvRel.ren{m:List Nat}(hm:Ren m ν ν' ak):∀(x:AV) (v:Value),AvRel G ν nx x v->AvRel G ν' ak (Wut m x) v
 | .one c,v,h=>⟨h.1.ren hm,h.2⟩
 | .agg cs,v,⟨vs,h1,h2⟩=>⟨vs,h1,h2.ren hm⟩
theorem AValRel.ren{m:List Nat}(hm:Ren m ν ν' ak):∀(x:AVal) (v:Value),AValRel G ν nx x v->AValRel G ν' ak (WnA m x) v
 | .s x,v,h=>AvRel.ren hm x v h
 | .tup xs,v,⟨vs,h1,h2,h3⟩=>⟨vs,h1,by simp[h2],λj x u hx hu=>by
  simp only[Xao]at hx;cases hd:xs[j]? with
  |none=>simp[hd]at hx
  |some d=>
   simp[hd]at hx;subst hx;exact AvRel.ren hm d u (h3 j d u hd hu)⟩
theorem Wq8(slots:List Nat)(h:Rel w0 F nt G0 G ν st a w):∃ν',Rel w0 F nt G0 G ν' (canon slots st) a w:=by
 obtain⟨m,hm⟩:∃m,m=Wkk 400 ((WfE st.env slots).flatMap λp=>WaY p.2) [] st.objs:=⟨_,rfl⟩;have aV:m.Nodup:=by rw[hm];exact Wb0 _ _ _ _ (by simp)
 have mJ:canon slots st={env:=(WfE st.env slots).map λp=>(p.1,WnA m p.2),objs:=Wdz m st.objs 0 m,nx:=m.length}:=by rw[hm];rfl
 obtain⟨ν',hν'⟩:∃ν':Nat->Nu,ν'= λj=>ν ((m[j]?).getD 0):=⟨_,rfl⟩;have ku:∀(i j:Nat),m[j]?=some i->ν' j=ν i:=λi j hj=>by rw[hν'];simp[hj]
 have pu:∀(j:Nat) (ob:Ob),look (Wdz m st.objs 0 m) j=some ob->∃i cD,m[j]?=some i/\look st.objs i=some cD/\ob=Wrb m cD:=λj ob ho=>by
  obtain⟨i,cD,_,h2,h3,h4⟩:=Wg8 _ _ _ _ ho;exact⟨i,cD,by simpa using h2,h3,h4⟩
 have px:Ren m ν ν' m.length:={
  nx:=λi j hj=>(Xad.1 hj).1
  nu:=ku}
 have dJ:∀j,Live (Wdz m st.objs 0 m) j->∃i,m[j]?=some i/\Live st.objs i:=λj ⟨ob,ho,hd⟩=>by
  obtain⟨i,cD,h1,h2,h3⟩:=pu j ob ho;refine⟨i,h1,cD,h2,λcL=>hd ?_⟩;rw[h3,cL];rfl
 rw[mJ];refine⟨ν',h.defers,h.ntm,h.par,λi x hx=>?_,?_,h.gx⟩
 .obtain⟨y,h1,rfl⟩:=WhT _ _ _ hx;obtain⟨v,h2,h3⟩:=h.env i y h1;exact⟨v,h2,AValRel.ren px y v h3⟩
 .obtain⟨φ,hφ⟩:=h.h;refine⟨λj=>φ ((m[j]?).getD 0),?_⟩;have lS:∀(i j:Nat),m[j]?=some i->φ ((m[j]?).getD 0)=φ i:=λi j hj=>by simp[hj]
  exact{
   g:=hφ.g
   ob:=λj ob ho=>by
    obtain⟨i,cD,h1,h2,rfl⟩:=pu j ob ho;have:=hφ.ob i cD h2;cases cD with
    |dead=>trivial
    |arr e xs=>
     show OwnL w (TyRel G w e) e.size (ν' j) xs (φ ((m[j]?).getD 0));rw[ku i j h1,lS i j h1];exact this
    |hole e xs k p=>
     simp only[Wrb];split
     .rename_i q hq;have hq:=Wc3 _ _ _ hq;obtain⟨g1,g2⟩:=this;show q<m.length/\Whk w (TyRel G w e) e.size (ν' j) (ν' q) xs k (φ ((m[j]?).getD 0));rw[ku i j h1,lS i j h1,ku p q hq];exact⟨(Xad.1 hq).1,g2⟩
     .trivial
    |box cs=>
     obtain⟨b,vs,h4,h5,h6,h7,h8⟩:=this;refine⟨b,vs,by rw[ku i j h1];exact h4,?_,by rw[ku i j h1];exact h6,h7.ren px,?_⟩
     .rw[ku i j h1,Xu];exact h5
     .rw[ku i j h1,lS i j h1,Xu];exact h8
   gf:=λj b o hj hp=>by
    obtain⟨i,h1,h2⟩:=dJ j hj;rw[lS i j h1]at hp;exact hφ.gf i b o h2 hp
   inj:=λj j' b o hj hj' hp dG=>by
    obtain⟨i,h1,h2⟩:=dJ j hj;obtain⟨i',iU,iW⟩:=dJ j' hj';rw[lS i j h1]at hp;rw[lS i' j' iU]at dG;have:=hφ.inj i i' b o h2 iW hp dG;subst this;have hlt:=(Xad.1 h1).1;exact(List.getElem?_inj hlt aV).1 (h1.trans iU.symm)
   own:=λj b o hj hp=>by
    obtain⟨i,h1,h2⟩:=dJ j hj;rw[lS i j h1]at hp;exact hφ.own i b o h2 hp
   lt:=λj hj=>by
    obtain⟨i,h1,h2⟩:=dJ j hj;exact(Xad.1 h1).1
   bl:=λj b o hj hp=>by
    obtain⟨i,h1,h2⟩:=dJ j hj;rw[lS i j h1]at hp;exact hφ.bl i b o h2 hp
   le:=hφ.le}
theorem Wje(h:Rel w0 F nt G0 G ν st a w){r:Nat}{ix:Option Nat}(hg:Woe st r ix=some (true,ah)):∃ν',Rel w0 F nt G0 G ν' ah a w:=by
 unfold Woe at hg;split at hg
 .rename_i c i kx;obtain⟨s,hs,hg⟩:=Xy.1 hg;simp only[Prod.mk.injEq]at hg;obtain⟨rfl,rfl⟩:=hg;have hlt:∃(e:Ty) (xs:List e.den),look st.objs r=some (.arr e xs)/\i<xs.length:=by
   unfold Wtv at kx;split at kx
   .split at kx
    .rename_i e xs ho;simp only[Option.some.injEq,Prod.mk.injEq]at kx;obtain⟨h1,rfl⟩:=kx;obtain⟨h2,h3⟩:=WdO h1;exact⟨e,xs,ho,by omega⟩
    .cases kx
   .split at kx
    .rename_i e xs n ho hn;simp only[Option.some.injEq,Prod.mk.injEq]at kx;obtain⟨h1,rfl⟩:=kx;obtain⟨h2,h3⟩:=WdO h1;exact⟨e,xs,ho,by omega⟩
    .cases kx
  obtain⟨e,xs,ho,hlt⟩:=hlt;obtain⟨ν',b,h1,_⟩:=WjH h ho hlt hs;exact⟨ν',h1⟩
 .cases hg
theorem Wl4{g:Ghost}(h:Rel w0 F nt G0 G ν st a w)(hg:Wfq g st=some (true,ah)):∃G' ν',Rel w0 F nt G0 G' ν' ah a w:=by
 cases g with
 |canon slots=>
  simp only[Wfq]at hg;injection hg with hg;injection hg with _ hg;subst hg;obtain⟨ν',h'⟩:=Wq8 slots h;exact⟨G,ν',h'⟩
 |adopt slot e=>
  simp only[Wfq]at hg;split at hg
  .rename_i hs;injection hg with hg;injection hg with _ hg;subst hg;obtain⟨v,hv,hr⟩:=h.env _ _ hs;have gl:v= .slice none 0 0:=hr.1;subst gl;have h2:=h.on (λ_ _ _ hh=>hh) (We8 ν st.nx _) (Xdc _) (h.h.adopt e) h.gx;exact⟨G,_,h2.rebind hv ⟨WjD e,rfl⟩⟩
  .injection hg with hg;injection hg with _ hg;subst hg;exact⟨G,ν,h⟩
  .cases hg
 |freeze slot=>
  simp only[Wfq]at hg;split at hg
  .rename_i id hs;split at hg
   .rename_i e xs ho;injection hg with hg;injection hg with _ hg;subst hg;obtain⟨G1,h1,h2,h3,h4⟩:=h.h.freezeL h.gx [id];obtain⟨v,hv,hr⟩:=h.env _ _ hs;have gl:v=(ν id).hdr:=hr.1.2;have h5:=h.on h1 (λ_ _=>rfl) (Xn _) h2 h3;exact⟨G1,ν,h5.rebind hv ⟨⟨v,rfl,gl▸h4 id (by simp) e xs ho⟩,hr.2⟩⟩
   .cases hg
  .cases hg
 |adoptC slot off e=>
  simp only[Wfq]at hg;split at hg
  .rename_i id hs;split at hg
   .rename_i cs ho;split at hg
    .rename_i hc;injection hg with hg;injection hg with _ hg;subst hg;have hne:st.nx≠id:=λe=>by
      obtain⟨φ,hφ⟩:=h.h;have:=hφ.lt id ⟨_,ho,by simp⟩;omega
     have h2:=h.h.adopt e;have kN:look ((st.nx,Ob.arr e [])::st.objs) id=some (.box cs):=by rw[WF,Wa hne];exact ho
     have h3:=h2.mk_box kN (cs':=cs.set off (.own st.nx)) (by simp) (λvs eO=>eO.set λv hv=>by
      have:v= .slice none 0 0:=(eO.2 off _ v hc hv).1;subst this;exact WjD e)
     exact⟨G,_,h.on (λ_ _ _ hh=>hh) (We8 ν st.nx _) (Xdc _) h3 h.gx⟩
    .injection hg with hg;injection hg with _ hg;subst hg;exact⟨G,ν,h⟩
    .cases hg
   .cases hg
  .cases hg
 |freezeC slot off=>
  simp only[Wfq]at hg;split at hg
  .rename_i id hs;split at hg
   .rename_i cs ho;split at hg
    .rename_i j hc;split at hg
     .rename_i e xs lT;injection hg with hg;injection hg with _ hg;subst hg;obtain⟨G1,h1,h2,h3,h4⟩:=h.h.freezeL h.gx [j];have hne:j≠id:=λe=>by subst e;rw[ho]at lT;cases lT
      have kN:look ((j,Ob.dead)::st.objs) id=some (.box cs):=by rw[WF,Wa hne];exact ho
      have h5:HRel w0 F G1 ν ((id,.box (cs.set off (.val (.slice e.ro) (Wct e xs))))::(j,.dead)::st.objs) st.nx w:=by
       refine HRel.mk_box h2 kN (by simp) (λvs eO=>eO.set λv hv=>?_);have gl:v=(ν j).hdr:=(eO.2 off _ v hc hv).1.2;exact⟨v,rfl,gl▸h4 j (by simp) e xs lT⟩
      exact⟨G1,ν,h.on h1 (λ_ _=>rfl) (Xn _) h5 h3⟩
     .cases hg
    .injection hg with hg;injection hg with _ hg;subst hg;exact⟨G,ν,h⟩
    .injection hg with hg;injection hg with _ hg;subst hg;exact⟨G,ν,h⟩
    .cases hg
   .cases hg
  .cases hg
 |nest d e=>injection hg with hg;injection hg with _ hg;subst hg;exact⟨G,ν,h⟩
 |view d=>injection hg with hg;injection hg with _ hg;subst hg;exact⟨G,ν,h⟩
 |opn d=>injection hg with hg;injection hg with _ hg;subst hg;exact⟨G,ν,h⟩
 |empt slot e=>
  simp only[Wfq]at hg;split at hg
  .split at hg
   .rename_i e' ho;split at hg
    .rename_i hc;injection hg with hg;injection hg with _ hg;subst hg;exact⟨G,ν,h.on (λ_ _ _ hh=>hh) (λ_ _=>rfl) (Xn _) (h.h.empt ho hc.1) h.gx⟩
    .cases hg
   .cases hg
  .cases hg
 |unfE slot=>
  simp only[Wfq]at hg;split at hg
  .rename_i r i hs;obtain⟨s,cS,hg⟩:=Xy.1 hg;injection hg with _ hg;subst hg;obtain⟨v,hv,hr⟩:=h.env _ _ hs;have fT:∃(e:Ty) (xs:List e.den),look st.objs r=some (.arr e xs):=by
    unfold WlL at cS;split at cS
    .rename_i e xs ho;exact⟨e,xs,ho⟩
    .cases cS
   obtain⟨e,xs,ho⟩:=fT;obtain⟨⟨_,hlt,b,hb,rfl⟩,_⟩:=hr;obtain⟨S,hown⟩:=h.h.obj ho;obtain⟨ν',b',h1,h2,h3,h4,h5⟩:=WjH h ho (by rw[hown.1];exact hlt) cS;rw[hb]at h3;injection h3 with h3;subst h3;refine⟨G,ν',h1.rebind hv ⟨⟨h2,b,by rw[h4];rfl,?_⟩,rfl⟩⟩;rw[h4];rfl
  .cases hg
 |unfS slot ix=>
  simp only[Wfq]at hg;split at hg
  .obtain⟨ν',h'⟩:=Wje h hg;exact⟨G,ν',h'⟩
  .cases hg
 |unfC slot off ix=>
  simp only[Wfq]at hg;split at hg
  .split at hg
   .split at hg
    .obtain⟨ν',h'⟩:=Wje h hg;exact⟨G,ν',h'⟩
    .cases hg
   .cases hg
  .cases hg
 |refold slot=>
  simp only[Wfq]at hg;split at hg
  .obtain⟨s,cS,hg⟩:=Xy.1 hg;injection hg with _ hg;subst hg;exact⟨G,ν,WnL h cS⟩
  .cases hg
 |solo slot=>
  simp only[Wfq]at hg;split at hg
  .rename_i id lo hi hs;split at hg
   .rename_i e xs ho;injection hg with hg;injection hg with _ hg;subst hg;obtain⟨v,hv,hr⟩:=h.env _ _ hs;obtain⟨⟨_,g1,g2,g3,rfl⟩,_⟩:=hr;have h2:=h.on (λ_ _ _ hh=>hh) (We8 ν st.nx _) (Xdc _) (h.h.solo ho g1 g2) h.gx;exact⟨G,_,h2.rebind hv ⟨Wmn,Wn2 _ _ _⟩⟩
   .cases hg
  .injection hg with hg;injection hg with _ hg;subst hg;exact⟨G,ν,h⟩
  .cases hg
 |soloC slot off=>
  simp only[Wfq]at hg;split at hg
  .rename_i id o hs;split at hg
   .rename_i cs ho;split at hg
    .rename_i j lo hi hc;split at hg
     .rename_i e xs lT;injection hg with hg;injection hg with _ hg;subst hg;have hne:j≠id:=λe=>by subst e;rw[ho]at lT;cases lT
      have sT:st.nx≠id:=λe=>by
       obtain⟨φ,hφ⟩:=h.h;have:=hφ.lt id ⟨_,ho,by simp⟩;omega
      have ar:lo<=hi/\hi<=(ν j).len:=by
       obtain⟨S,b,vs,k1,k2,k3,k4,k5⟩:=h.h.obj ho;have hlt:o+off<vs.length:=by rw[k4.1];exact(Xad.1 hc).1
       obtain⟨⟨_,g1,g2,_⟩,_⟩:=k4.2 _ _ _ hc (Xp hlt);exact⟨g1,g2⟩
      have h2:=h.h.solo lT ar.1 ar.2;have kN:look ((st.nx,Ob.arr e ((xs.take hi).drop lo))::(j,Ob.dead)::st.objs) id=some (.box cs):=by rw[WF,Wa sT,WF,Wa hne];exact ho
      have rW:j<st.nx:=by
       obtain⟨φ,hφ⟩:=h.h;exact hφ.lt j ⟨_,lT,by simp⟩
      have h3:=h2.mk_box kN (cs':=cs.set (o+off) (.own st.nx)) (by simp) (λvs eO=>eO.set λv hv=>by
       obtain⟨_,_,_,_,uN⟩:=(eO.2 _ _ v hc hv).1;rw[We8 ν st.nx _ j rW]at uN;rw[uN];exact Wmn)
      exact⟨G,_,h.on (λ_ _ _ hh=>hh) (We8 ν st.nx _) (Xdc _) h3 h.gx⟩
     .cases hg
    .injection hg with hg;injection hg with _ hg;subst hg;exact⟨G,ν,h⟩
    .cases hg
   .cases hg
  .cases hg
theorem Wdu:∀(l:List Ghost) (st ah:St) (G:GH) (ν:Nat->Nu),Rel w0 F nt G0 G ν st a w->WdT l st=some (true,ah)->∃G' ν',Rel w0 F nt G0 G' ν' ah a w
 | [],st,ah,G,ν,h,hg=>by injection hg with hg;injection hg with _ hg;subst hg;exact⟨G,ν,h⟩
 |g::l,st,ah,G,ν,h,hg=>by
  simp only[WdT]at hg;split at hg
  .rename_i c s w4;split at hg
   .rename_i c' s' hl;simp only[Option.some.injEq,Prod.mk.injEq,Xi]at hg;obtain⟨⟨rfl,rfl⟩,rfl⟩:=hg;obtain⟨G1,ν1,h1⟩:=Wl4 h w4;exact Wdu l s s' G1 ν1 h1 hl
   .cases hg
  .cases hg
end
end Go.Sx
namespace Go.Sx
set_option linter.unusedVariables false
set_option linter.unusedSimpArgs false
section
variable{T:Tab}{Γ:Ctx}{env w5:List (Nat×AVal)}{objs objs':Wac}{nx ak:Nat}
theorem Wcz{st am:St}:∀(l:List (Nat×Operand)),(∀p∈l,ev am p.2=ev st p.2)->Wcu am l=Wcu st l
 | [],_=>rfl
 |(i,x)::l,h=>by
  have h1:ev am x=ev st x:=h (i,x) (Xh ..);simp only[Wcu,h1,Wcz l λp hp=>h p (Xe _ hp)]
theorem Wmw{st am:St}:∀(l:List Operand),(∀x∈l,ev am x=ev st x)->evs am l=evs st l
 | [],_=>rfl
 |x::l,h=>by simp only[evs,h x (Xh ..),Wmw l λp hp=>h p (Xe _ hp)]
theorem Wg6{st am:St}:∀(l:List Operand),(∀x∈l,ev am x=ev st x)->Wgf am l=Wgf st l
 | [],_=>rfl
 |x::l,h=>by simp only[Wgf,h x (Xh ..),Wg6 l λp hp=>h p (Xe _ hp)]
theorem WjE{st am:St}(x:Option Operand)(h:∀y∈x.toList,ev am y=ev st y):Wk9 am x=Wk9 st x:=by
 cases x with
 |none=>rfl
 |some y=>simp only[Wk9,h y (by simp)]
def WdS(st am:St)(v:AVal):Prop:=∀id∈WaY v,look am.objs id=look st.objs id
theorem Wnd{st am:St}{t:TypeId}{v:AVal}(h:WdS st am v):WgP T am t v=WgP T st t v:=by
 unfold WgP;cases v with
 |tup xs=>rfl
 |s x=>
  cases x with
  |agg cs=>rfl
  |one c=>
   cases c with
   |ptr id off=>have:=h id (by simp[WaY,WeX,Wbd]);simp only[this]
   |eptr id i off=>have:=h id (by simp[WaY,WeX,Wbd]);simp only[this]
   |_=>rfl
theorem Wl9{st am:St}{t:TypeId}{v:AVal}(h:WdS st am v):Wfu T am t v=Wfu T st t v:=by
 unfold Wfu;cases v with
 |tup xs=>rfl
 |s x=>
  cases x with
  |agg cs=>rfl
  |one c=>
   cases c with
   |aptr id=>have:=h id (by simp[WaY,WeX,Wbd]);simp only[this]
   |_=>rfl
theorem WmA{st:St}{t:TypeId}{id:Nat}:WiK T st t (.s (.one (.own id)))=match look T t with
  |some ⟨_,false,.slice _⟩=>obL (look st.objs id)
  |_=>none:=by
 unfold WiK;generalize look T t=q;rcases q with _|⟨ty,agg,shape⟩
 .rfl
 .cases ty<;>cases agg<;>cases shape<;>rfl
theorem WmX{st am:St}{t:TypeId}{v:AVal}(h:∀id,v≠ .s (.one (.own id))):WiK T am t v=WiK T st t v:=by
 unfold WiK;generalize look T t=q;rcases q with _|⟨ty,agg,shape⟩
 .cases v<;>rfl
 .cases v with
  |tup xs=>cases ty<;>cases agg<;>cases shape<;>rfl
  |s x=>
   cases x with
   |agg cs=>cases ty<;>cases agg<;>cases shape<;>rfl
   |one c=>
    cases c with
    |own id=>exact Wl rfl (h id)
    |val t' d=>cases ty<;>cases agg<;>cases shape<;>cases t'<;>rfl
    |_=>cases ty<;>cases agg<;>cases shape<;>rfl
theorem WtI(v:AVal):(∃id,v= .s (.one (.own id)))\/∀id,v≠ .s (.one (.own id)):=by
 rcases v with x|xs
 .rcases x with c|cs
  .cases c with
   |own id=>exact .inl ⟨id,rfl⟩
   |_=>exact .inr λid h=>by injection h with h;injection h with h;cases h
  .exact .inr λid h=>by injection h with h;cases h
 .exact .inr λid h=>by cases h
theorem Wo2{st am:St}{t:TypeId}{v:AVal}(h:WdS st am v):WiK T am t v=WiK T st t v:=by
 rcases WtI v with⟨id,rfl⟩|hv
 .rw[WmA,WmA,h id (by simp[WaY,WeX,Wbd])]
 .exact WmX hv
theorem Whj{st am:St}{t:TypeId}{v:AVal}{f:Nat}(h:WdS st am v):WbY T am t v f=WbY T st t v f:=by
 unfold WbY;generalize WfI T t f=q;rcases q with _|⟨off,te⟩
 .cases v<;>rfl
 .cases v with
  |tup xs=>rfl
  |s x=>
   cases x with
   |agg cs=>rfl
   |one c=>
    cases c with
    |ptr id o=>
     have:=h id (by simp[WaY,WeX,Wbd]);show(λq:Option Ob=>match q with|some (.box _)=>some (true,AVal.s (.one (.ptr id (o+off))))|_=>none) (look am.objs id)=(λq:Option Ob=>match q with|some (.box _)=>some (true,AVal.s (.one (.ptr id (o+off))))|_=>none) (look st.objs id);rw[this]
    |eptr id i o=>
     have:=h id (by simp[WaY,WeX,Wbd]);show(λq:Option Ob=>match q with|some (.arr _ _)=>some (true,AVal.s (.one (.eptr id i (o+off))))|_=>none) (look am.objs id)=(λq:Option Ob=>match q with|some (.arr _ _)=>some (true,AVal.s (.one (.eptr id i (o+off))))|_=>none) (look st.objs id);rw[this]
    |_=>rfl
theorem Whf{st am:St}{t:TypeId}{v i:AVal}(h:WdS st am v):Wca T am t v i=Wca T st t v i:=by
 unfold Wca;generalize look T t=q;generalize asI i=z;rcases q with _|⟨ty,agg,shape⟩
 .rfl
 rcases z with _|n
 .cases shape<;>rfl
 cases shape with
 |slice et=>
  show(match look T et with|some te=>_|none=>_)=(match look T et with|some te=>_|none=>_);generalize look T et=q;rcases q with _|te
  .rfl
  .show(if te.plain=true then _ else _)=(if te.plain=true then _ else _);by_cases hp:te.plain=true
   .rw[Wb hp,Wb hp];cases v with
    |tup xs=>rfl
    |s x=>
     cases x with
     |agg cs=>rfl
     |one c=>
      cases c with
      |own id=>
       have:=h id (by simp[WaY,WeX,Wbd]);show obI te n id (look am.objs id)=obI te n id (look st.objs id);rw[this]
      |vw id lo hi=>
       have:=h id (by simp[WaY,WeX,Wbd]);show WvD te n id lo hi (look am.objs id)=WvD te n id lo hi (look st.objs id);rw[this]
      |val t' d=>cases t'<;>rfl
      |_=>rfl
   .rw[Wa hp,Wa hp]
 |arr k et=>
  show(match look T et with|some te=>_|none=>_)=(match look T et with|some te=>_|none=>_);generalize look T et=q;rcases q with _|te
  .rfl
  .show(if te.plain=true then _ else _)=(if te.plain=true then _ else _);by_cases hp:te.plain=true
   .rw[Wb hp,Wb hp];cases v with
    |tup xs=>rfl
    |s x=>
     cases x with
     |agg cs=>rfl
     |one c=>
      cases c with
      |aptr id=>
       have:=h id (by simp[WaY,WeX,Wbd]);show Wvx te n k id (look am.objs id)=Wvx te n k id (look st.objs id);rw[this]
      |_=>rfl
   .rw[Wa hp,Wa hp]
 |_=>rfl
theorem Wpc{st am:St}{v:AVal}(h:WdS st am v):WsH am v=WsH st v:=by
 rcases WtI v with⟨id,rfl⟩|hv
 .exact h id (by simp[WaY,WeX,Wbd])
 .unfold WsH;split
  .rename_i id;exact Wl rfl (hv id)
  .rfl
theorem WnP{st am:St}{s d:TypeId}{v:AVal}(h:WdS st am v):WjB T am s d v=WjB T st s d v:=by
 unfold WjB;rw[Wpc h]
theorem Wpr{st am:St}{v:AVal}(h:WdS st am v):Wpd am v=Wpd st v:=by
 unfold Wpd;cases v with
 |tup xs=>rfl
 |s x=>
  cases x with
  |agg cs=>rfl
  |one c=>
   cases c with
   |ptr id off=>have:=h id (by simp[WaY,WeX,Wbd]);simp only[this]
   |eptr id i off=>have:=h id (by simp[WaY,WeX,Wbd]);simp only[this]
   |aptr id=>have:=h id (by simp[WaY,WeX,Wbd]);simp only[this]
   |_=>rfl
theorem WoW{st am:St}{op:BinOp}{t:TypeId}{v z:AVal}(h:WdS st am v):WpL T am op t v z=WpL T st op t v z:=by
 unfold WpL;split
 .rename_i id;rw[h id (by simp[WaY,WeX,Wbd])]
 .rfl
theorem Wb5{α β:Type}{x:Option α}{f g:α->Option β}(h:∀v,x=some v->f v=g v):x.bind f=x.bind g:=by
 cases x with
 |none=>rfl
 |some v=>exact h v rfl
theorem Wha{st am:St}(op:Op)(hm:∀t x l h m,op≠ .slice t x l h m)(he:∀x∈Wab op,ev am x=ev st x)(hl:Wum op=true->∀x∈Wab op,∀v,ev st x=some v->WdS st am v):Waf T am op=Waf T st op:=by
 cases op with
 |move x=>simp only[Waf,he x (by simp[Wab])]
 |assign x=>simp only[Waf,he x (by simp[Wab])]
 |pick c a b=>simp only[Waf,he c (by simp[Wab]),he a (by simp[Wab]),he b (by simp[Wab])]
 |load t a=>
  simp only[Waf,he a (by simp[Wab])];exact Wb5 λv hv=>by rw[Wnd (hl rfl a (by simp[Wab]) v hv),Wl9 (hl rfl a (by simp[Wab]) v hv)]
 |nilCheck x=>
  simp only[Waf,he x (by simp[Wab])];exact Wb5 λv hv=>Wpr (hl rfl x (by simp[Wab]) v hv)
 |binOp op t x y z=>
  simp only[Waf,he x (by simp[Wab]),he y (by simp[Wab])];split
  .rename_i a b h1 h2;rw[WoW (hl rfl x (by simp[Wab]) _ h1)]
  .rfl
 |unOp op t x=>simp only[Waf,he x (by simp[Wab])]
 |convert s d x=>
  simp only[Waf,he x (by simp[Wab])];exact Wb5 λv hv=>WnP (hl rfl x (by simp[Wab]) v hv)
 |slice t x l h m=>exact Wl rfl (hm t x l h m)
 |fieldAddr s x f=>
  simp only[Waf,he x (by simp[Wab])];exact Wb5 λv hv=>Whj (hl rfl x (by simp[Wab]) v hv)
 |field t x f=>simp only[Waf,he x (by simp[Wab])]
 |indexAddr t x i=>
  simp only[Waf,he x (by simp[Wab]),he i (by simp[Wab])];split
  .rename_i a b h1 h2;exact Whf (hl rfl x (by simp[Wab]) _ h1)
  .rfl
 |index t x i=>simp only[Waf,he x (by simp[Wab]),he i (by simp[Wab])]
 |extract t ix=>simp only[Waf,he t (by simp[Wab])]
 |makeFunc f first captured=>
  cases f with
  |func f=>simp only[Waf,Wg6 (st:=st) (am:=am) captured.toList λx hx=>he x (by simp[Wab];right;simpa using hx)]
  |_=>rfl
 |call c=>
  have hargs:∀x∈c.args.toList,ev am x=ev st x:=λx hx=>he x (Xg _ hx);have mK:∀x∈c.args.toList,∀v,ev st x=some v->WdS st am v:=λx hx=>hl rfl x (Xg _ hx);simp only[Waf];split
  .rename_i x t _ ha _;rw[hargs x (by rw[ha];simp)];exact Wb5 λv hv=>Wo2 (mK x (by rw[ha];simp) v hv)
  .rename_i x y _ _ _ ha _;rw[hargs x (by rw[ha];simp),hargs y (by rw[ha];simp)]
  .rename_i x y _ _ _ ha _;rw[hargs x (by rw[ha];simp),hargs y (by rw[ha];simp)]
  .rfl
 |_=>rfl
end
end Go.Sx
namespace Go.Sx
set_option linter.unusedVariables false
set_option linter.unusedSimpArgs false
abbrev Out:=AVal×Wac×Nat
def WcK(x:AVal)(objs:Wac)(nx:Nat):Option Out:=some (x,objs,nx)
section
variable{T:Tab}{Γ:Ctx}{A:List (Nat×An)}
theorem WaW{α β:Type}{c:Prop}[Decidable c]{x:Option α}{f:α->Option β}:(if c then x else none).bind f=if c then x.bind f else none:=by split<;>rfl
theorem Wcb{α β:Type}{c:Bool}{x:Option α}{f:α->Option β}:(bif c then x else none).bind f=bif c then x.bind f else none:=by cases c<;>rfl
theorem WfB{R:Type}(sg:Sig)(st:St)(xs:List AVal)(k:KV R):Wfc sg st xs k=(Wfc sg st xs WcK).bind λp=>k p.1 p.2.1 p.2.2:=by
 unfold Wfc;split
 .split
  .rw[sg.law,sg.law,Option.bind_assoc];rfl
  .rfl
 .rfl
theorem Wpn{R:Type}(sg:Sig)(st:St)(xs:List AVal)(k:KV R):WlK sg st xs k=(WlK sg st xs WcK).bind λp=>k p.1 p.2.1 p.2.2:=by
 unfold WlK;cases sg.fresh with
 |true=>exact WfB _ _ _ _
 |false=>
  simp only[Wc];split
  .split
   .exact WfB _ _ _ _
   .exact WfB _ _ _ _
  .rfl
theorem Wmo{R:Type}(st:St)(te:Ty)(s x:AVal)(k:KV R):Wep st te s x k=(Wep st te s x WcK).bind λp=>k p.1 p.2.1 p.2.2:=by
 unfold Wep;split
 .split
  .split
   .split
    .rw[Wcb];rfl
    .rfl
   .rfl
  .rfl
 .split
  .split
   .split
    .rw[WaW,Wcb];rfl
    .rfl
   .rfl
  .rfl
 .rfl
theorem WmD{R:Type}(st:St)(e:Ty)(ps:List (Nat×AVal))(k:KV R):Wde st e ps k=(Wde st e ps WcK).bind λp=>k p.1 p.2.1 p.2.2:=by
 unfold Wde;split
 .rw[WaW];split
  .split
   .split
    .rw[WaW];rfl
    .rfl
   .rfl
  .rfl
 .rfl
theorem WnB{R:Type}(st:St)(te:Ty)(id:Nat)(l h:Option Int)(k:KV R):We7 st te id l h k=(We7 st te id l h WcK).bind λp=>k p.1 p.2.1 p.2.2:=by
 unfold We7;split
 .rw[WaW,Wcb];rfl
 .rfl
theorem Wk4{R:Type}(st:St)(t t2:TypeId)(s x:AVal)(k:KV R):Wdx T st t t2 s x k=(Wdx T st t t2 s x WcK).bind λp=>k p.1 p.2.1 p.2.2:=by
 unfold Wdx;split
 .split
  .split
   .cases WsK st s x with
    |false=>exact Wmo _ _ _ _ _
    |true=>
    simp only[Xr,Wc];split
    .rw[Wcb];rfl
    .split
     .split
      .rw[Wcb];rfl
      .rfl
     .rfl
    .split
     .split
      .rw[Wcb];rfl
      .rfl
     .rfl
    .rfl
   .rfl
  .rfl
 .rfl
theorem Wub{R:Type}(p:Option (Bool×AVal))(objs:Wac)(nx:Nat)(k:KV R):(match p with|some (c,v)=>bif c then k v objs nx else none|none=>none)=(match p with|some (c,v)=>bif c then WcK v objs nx else none|none=>none).bind λp=>k p.1 p.2.1 p.2.2:=by
 rcases p with _|⟨c,v⟩
 .rfl
 .cases c<;>rfl
theorem WfN{R:Type}(o:Oper)(st:St)(k:KV R):rxe T Γ A o st k=(rxe T Γ A o st WcK).bind λp=>k p.1 p.2.1 p.2.2:=by
 unfold rxe;split
 .split
  .rw[WaW];rfl
  .rw[WaW];rfl
  .rfl
 .split<;>rfl
 .split
  .split
   .split<;>rfl
   .rfl
  .rfl
 .split
  .split
   .split
    .rw[WaW];split
     .exact WmD _ _ _ _
     .rfl
    .split
     .rw[WaW];rfl
     .rfl
   .rfl
  .rfl
 .split
  .split
   .split
    .rw[WaW,Wcb];rfl
    .rw[WaW,Wcb];rfl
   .rfl
  .rfl
 .split
  .split
   .split<;>rfl
   .rfl
  .rfl
 .split
  .split
   .split
    .split
     .rw[WaW];split
      .exact WnB _ _ _ _ _ _
      .rfl
     .split
      .rw[WaW,Wcb];rfl
      .rw[WaW,Wcb];rfl
      .rfl
    .rfl
   .rfl
  .exact Wub _ _ _ _
 .split
  .split
   .exact Wk4 _ _ _ _ _ _
   .rfl
  .split
   .split
    .split
     .rw[WaW];rfl
     .rfl
    .rfl
   .rfl
  .exact Wub _ _ _ _
  .split
   .split
    .exact Wpn _ _ _ _
    .rfl
   .rfl
  .rfl
 .exact Wub _ _ _ _
end
section
variable{T:Tab}{Γ:Ctx}{A:List (Nat×An)}
theorem Wny{st:St}{env:List (Nat×AVal)}{t:TypeId}{x v:AVal}:WcP T {env:=env,objs:=st.objs,nx:=st.nx} t x v=(WcP T st t x v).map λs=>{env:=env,objs:=s.objs,nx:=s.nx}:=by
 unfold WcP;generalize look T t=q;generalize WgF v=z;rcases q with _|te
 .rfl
 rcases z with _|ds
 .rcases x with(c|cs)|xs
  .cases c<;>rfl
  .rfl
  .rfl
 rcases x with(c|cs)|xs
 .cases c with
  |ptr id off=>
   show(match look st.objs id with|some (.box cs)=>_|_=>_)=Xfi _ (match look st.objs id with|some (.box cs)=>_|_=>_);generalize look st.objs id=ob;rcases ob with _|ob
   .rfl
   cases ob with
   |box cs=>
    show(if _ then _ else _)=Xfi _ (if _ then _ else _);split<;>rfl
   |arr e xs=>rfl
   |hole e xs i p=>rfl
   |dead=>rfl
  |eptr id i off=>
   show(match look st.objs id with|some (.arr e xs)=>_|_=>_)=Xfi _ (match look st.objs id with|some (.arr e xs)=>_|_=>_);generalize look st.objs id=ob;rcases ob with _|ob
   .rfl
   cases ob with
   |box cs=>rfl
   |hole e xs i p=>rfl
   |dead=>rfl
   |arr e xs=>
    show(if _ then _ else _)=Xfi _ (if _ then _ else _);by_cases hc:(decide (te.ty.size=ds.length)&&te.plain&&decide (off+ds.length<=e.size)&&e.data)=true
    .rw[Wb hc,Wb hc];generalize Waq e (WdX (split e (Xb xs i e.dflt)) off ds) st.objs=r;rcases r with _|⟨d,m,l⟩
     .rfl
     .cases m<;>cases l<;>rfl
    .rw[Wa hc,Wa hc];by_cases dZ:(decide (te.ty.size=ds.length)&&te.plain&&decide (off=0)&&decide (ds.length=e.size))=true
     .rw[Wb dZ,Wb dZ];generalize Waq e ds st.objs=r;rcases r with _|⟨d,m,l⟩
      .rfl
      .cases l with
       |nil=>
        show(if _ then _ else _)=Xfi _ (if _ then _ else _);split<;>rfl
       |cons _ _=>rfl
     .rw[Wa dZ,Wa dZ];rfl
  |_=>rfl
 .rfl
 .rfl
theorem WrZ{R:Type}(o:Oper){st:St}{env:List (Nat×AVal)}(k:KV R)(he:∀x∈Wab o.op,ev {env:=env,objs:=st.objs,nx:=st.nx} x=ev st x):
  rxe T Γ A o {env:=env,objs:=st.objs,nx:=st.nx} k=rxe T Γ A o st k:=by
 have bt:(∀t x l h m,o.op≠ .slice t x l h m)->Waf T {env:=env,objs:=st.objs,nx:=st.nx} o.op=Waf T st o.op:=λhm=>Wha o.op hm he (λ_ _ _ _ _ _ _=>rfl);obtain⟨dst,op,type,pos,after,guard⟩:=o;simp only at he bt;cases op with
 |alloc t=>rfl
 |box t x=>simp only[rxe,he x (by simp[Wab])]
 |build t parts=>simp only[rxe,Wcz (st:=st) parts.toList λp hp=>he p.2 (by simp only[Wab];exact Xt.2 ⟨p,hp,rfl⟩)]
 |buildSlice t n parts=>
  have e1:∀e ps,Wde {env:=env,objs:=st.objs,nx:=st.nx} e ps k=Wde st e ps k:=λ_ _=>rfl;simp only[rxe,e1,Wcz (st:=st) parts.toList λp hp=>he p.2 (by simp only[Wab];exact Xt.2 ⟨p,hp,rfl⟩)]
 |makeSlice t n c=>simp only[rxe,he n (by simp[Wab]),he c (by simp[Wab])]
 |store t a x=>
  simp only[rxe,he a (by simp[Wab]),he x (by simp[Wab])];split
  .rename_i p v _ _;have e:=Wny (T:=T) (st:={env:=st.env,objs:=WdI st.objs (Wfo st.objs p v),nx:=st.nx}) (env:=env) (t:=t) (x:=p) (v:=WgZ st.objs (Wfo st.objs p v) v);simp only at e;rw[e];cases WcP T {env:=st.env,objs:=WdI st.objs (Wfo st.objs p v),nx:=st.nx} t p (WgZ st.objs (Wfo st.objs p v) v)<;>rfl
  .rfl
 |slice t x lo hi m=>
  have hx:=he x (by simp[Wab]);have bb:=WjE (st:=st) (am:={env:=env,objs:=st.objs,nx:=st.nx}) lo λy hy=>he y (by simp only[Wab];exact Xe _ (Xl _ hy));have oa:=WjE (st:=st) (am:={env:=env,objs:=st.objs,nx:=st.nx}) hi λy hy=>he y (by simp only[Wab];exact Xe _ (Xg _ (Xl _ hy)));cases m with
  |none=>
   have hp:Waf T {env:=env,objs:=st.objs,nx:=st.nx} (.slice t x lo hi none)=Waf T st (.slice t x lo hi none):=by
    simp only[Waf,hx];refine Wb5 λv _=>?_;simp only[WkY,bb,oa]
   have e1:∀te id l h,We7 {env:=env,objs:=st.objs,nx:=st.nx} te id l h k=We7 st te id l h k:=λ_ _ _ _=>rfl;simp only[rxe,hx,bb,oa,hp,e1]
  |some y=>rfl
 |call c=>
  have hargs:=Wmw (st:=st) (am:={env:=env,objs:=st.objs,nx:=st.nx}) c.args.toList λx hx=>he x (by simp only[Wab];exact Xg _ hx);have hp:=bt (λ_ _ _ _ _ h=>by cases h);simp only[rxe];split
  .rename_i s x t t2 hc ha cW;have h1:ev {env:=env,objs:=st.objs,nx:=st.nx} s=ev st s:=he s (by simp only[Wab];rw[ha];exact Xg _ (by simp));have h2:ev {env:=env,objs:=st.objs,nx:=st.nx} x=ev st x:=he x (by simp only[Wab];rw[ha];exact Xg _ (by simp));rw[h1,h2];rfl
  .rename_i x t hc ha cW;have h1:ev {env:=env,objs:=st.objs,nx:=st.nx} x=ev st x:=he x (by simp only[Wab];rw[ha];exact Xg _ (by simp));rw[h1]
  .rw[hp]
  .rename_i f hc;have h1:ev {env:=env,objs:=st.objs,nx:=st.nx} f=ev st f:=he f (by simp only[Wab];rw[hc];exact Xl _ (by simp));rw[h1,hargs];rfl
  .rfl
 |move x=>simp only[rxe,bt (λ_ _ _ _ _ h=>by cases h)]
 |assign x=>simp only[rxe,bt (λ_ _ _ _ _ h=>by cases h)]
 |pick c a b=>simp only[rxe,bt (λ_ _ _ _ _ h=>by cases h)]
 |load t a=>simp only[rxe,bt (λ_ _ _ _ _ h=>by cases h)]
 |nilCheck x=>simp only[rxe,bt (λ_ _ _ _ _ h=>by cases h)]
 |binOp op t x y z=>simp only[rxe,bt (λ_ _ _ _ _ h=>by cases h)]
 |unOp op t x=>simp only[rxe,bt (λ_ _ _ _ _ h=>by cases h)]
 |convert s d x=>simp only[rxe,bt (λ_ _ _ _ _ h=>by cases h)]
 |fieldAddr s x f=>simp only[rxe,bt (λ_ _ _ _ _ h=>by cases h)]
 |field t x f=>simp only[rxe,bt (λ_ _ _ _ _ h=>by cases h)]
 |indexAddr t x i=>simp only[rxe,bt (λ_ _ _ _ _ h=>by cases h)]
 |index t x i=>simp only[rxe,bt (λ_ _ _ _ _ h=>by cases h)]
 |extract t ix=>simp only[rxe,bt (λ_ _ _ _ _ h=>by cases h)]
 |makeFunc f first captured=>simp only[rxe,bt (λ_ _ _ _ _ h=>by cases h)]
 |_=>rfl
def WtP(T:Tab)(o:Oper)(st:St):Option AVal:=match o.op with
 | .build t parts=>match look T t,Wcu st parts.toList with
  |some ⟨ty,true,.struct fs⟩,some ps=>
   if fs.all (λf=>match look T f.2 with|some te=>te.plain|none=>false)then
    match Wlp T fs ps (Wej ty)with
    |some cs=>some (.s (.agg cs))
    |none=>none
   else none
  |_,_=>none
 |op=>match Waf T st op with
  |some (c,v)=>bif c then some v else none
  |none=>none
theorem Wvw(p:Option (Bool×AVal))(objs:Wac)(nx:Nat):(match p with|some (c,v)=>bif c then WcK v objs nx else none|none=>none)=(match p with|some (c,v)=>bif c then some v else none|none=>none).bind λv=>WcK v objs nx:=by
 rcases p with _|⟨c,v⟩
 .rfl
 .cases c<;>rfl
theorem Wlz{o:Oper}(hm:WaN o=false)(st:St):rxe T Γ A o st WcK=(WtP T o st).bind λv=>WcK v st.objs st.nx:=by
 obtain⟨dst,op,type,pos,after,guard⟩:=o;cases op with
 |alloc t=>cases hm
 |box t x=>cases hm
 |buildSlice t n parts=>cases hm
 |makeSlice t n c=>cases hm
 |store t a x=>cases hm
 |slice t x lo hi m=>cases hm
 |build t parts=>
  simp only[rxe,WtP];generalize look T t=q;generalize Wcu st parts.toList=z;rcases q with _|⟨ty,agg,shape⟩
  .rfl
  rcases z with _|ps
  .cases agg<;>cases shape<;>rfl
  cases agg with
  |false=>rfl
  |true=>
   cases shape with
   |struct fs=>
    show(if _ then _ else _)=Option.bind (if _ then _ else _) _;rw[WaW];cases Wlp T fs ps (Wej ty)<;>rfl
   |_=>rfl
 |call c=>
  simp only[rxe,WtP];split
  .rename_i hc _ _;simp only[WaN,hc]at hm;cases hm
  .rename_i hc _ _;simp only[WaN,hc]at hm;cases hm
  .exact Wvw _ _ _
  .rename_i hc;simp only[WaN,hc]at hm;cases hm
  .rename_i h0 h1 h2 h3;have:Waf T st (.call c)=none:=by
    simp only[Waf];split
    .rename_i hc _ _;first|exact Wl hc (h0 _)|exact Wl hc (h1 _)|exact Wl hc (h2 _)|exact Wl hc (h3 _)
    .rename_i hc _ _;first|exact Wl hc (h0 _)|exact Wl hc (h1 _)|exact Wl hc (h2 _)|exact Wl hc (h3 _)
    .rename_i hc _ _;first|exact Wl hc (h0 _)|exact Wl hc (h1 _)|exact Wl hc (h2 _)|exact Wl hc (h3 _)
    .rfl
   rw[this];rfl
 |_=>first|rfl|exact Wvw (Waf T st _) st.objs st.nx
theorem WpR{o:Oper}(hm:WaN o=false){st am:St}(he:∀x∈Wab o.op,ev am x=ev st x)(hl:Wum o.op=true->∀x∈Wab o.op,∀v,ev st x=some v->WdS st am v):WtP T o am=WtP T o st:=by
 have bt:(∀t x l h m,o.op≠ .slice t x l h m)->Waf T am o.op=Waf T st o.op:=λhm=>Wha o.op hm he hl;obtain⟨dst,op,type,pos,after,guard⟩:=o;simp only at he bt;cases op with
 |slice t x lo hi m=>cases hm
 |build t parts=>simp only[WtP,Wcz (st:=st) parts.toList λp hp=>he p.2 (by simp only[Wab];exact Xt.2 ⟨p,hp,rfl⟩)]
 |_=>simp only[WtP,bt (λ_ _ _ _ _ h=>by cases h)]
theorem WcS(objs:Wac):∀l,∃pre,kill objs l=pre++objs
 | []=>⟨[],rfl⟩
 |i::l=>by
  obtain⟨pre,h⟩:=WcS objs l;exact⟨(i,.dead)::pre,by simp only[kill,h];rfl⟩
theorem Waa:∀(ps:List PTy) (o:WfH ps) (ids:List Kp) (objs:Wac) (nx:Nat),∃pre,(Wad ps o ids objs nx).1=pre++objs
 | [],_,_,objs,_=>⟨[],rfl⟩
 | .v _ _::ps,o,ids,objs,nx=>Waa ps o ids objs nx
 | .rp _::ps,o,ids,objs,nx=>Waa ps o ids objs nx
 | .box t::ps,o,ids,objs,nx=>by
  cases ids with
  |nil=>exact⟨[],rfl⟩
  |cons k ids=>
   obtain⟨pre,h⟩:=Waa ps o.2 ids ((k.id,WgY (look objs k.id) k.off (unfold t o.1 nx).1)::((unfold t o.1 nx).2.1++objs)) (unfold t o.1 nx).2.2;exact⟨pre++(k.id,WgY (look objs k.id) k.off (unfold t o.1 nx).1)::(unfold t o.1 nx).2.1,by simp only[Wad,h];simp⟩
 | .vj _::ps,o,ids,objs,nx=>Waa ps o ids objs nx
 | .boxal t _::ps,o,ids,objs,nx=>by
  cases ids with
  |nil=>exact⟨[],rfl⟩
  |cons k ids=>
   obtain⟨pre,h⟩:=Waa ps o.2 ids ((k.id,WgY (look objs k.id) k.off (unfold t o.1 nx).1)::((unfold t o.1 nx).2.1++objs)) (unfold t o.1 nx).2.2;exact⟨pre++(k.id,WgY (look objs k.id) k.off (unfold t o.1 nx).1)::(unfold t o.1 nx).2.1,by simp only[Wad,h];simp⟩
 | .mut e::ps,o,ids,objs,nx=>by
  cases ids with
  |nil=>exact⟨[],rfl⟩
  |cons k ids=>
   obtain⟨pre,h⟩:=Waa ps o.2 ids ((k.id,.arr e o.1)::objs) nx;exact⟨pre++ [(k.id,.arr e o.1)],by simp only[Wad,h];simp⟩
 | .clos _ _::ps,o,ids,objs,nx=>Waa ps o ids objs nx
 | .kv t _::ps,o,ids,objs,nx=>by
  obtain⟨pre,h⟩:=Waa ps o.2 (ids.drop t.owns) (Wcq t o.1 ((ids.take t.owns).map Kp.id)++objs) nx;exact⟨pre++Wcq t o.1 ((ids.take t.owns).map Kp.id),by simp only[Wad,h];simp⟩
theorem Waj:∀(rs:List PTy) (d:WgG rs) (objs:Wac) (nx:Nat),∃pre,(Wbp rs d objs nx).2.1=pre++objs
 | [],_,objs,_=>⟨[],rfl⟩
 | .v t agg::rs,d,objs,nx=>by
  obtain⟨pre,h⟩:=Waj rs d.2 ((unfold t d.1 nx).2.1++objs) (unfold t d.1 nx).2.2;exact⟨pre++(unfold t d.1 nx).2.1,by simp only[Wbp,h];simp⟩
 | .box t::rs,d,objs,nx=>by
  obtain⟨pre,h⟩:=Waj rs d.2 ((nx,.box (unfold t d.1 (nx+1)).1)::((unfold t d.1 (nx+1)).2.1++objs)) (unfold t d.1 (nx+1)).2.2;exact⟨pre++(nx,.box (unfold t d.1 (nx+1)).1)::(unfold t d.1 (nx+1)).2.1,by simp only[Wbp,h];simp⟩
 | .mut _::rs,d,objs,nx=>Waj rs d objs nx
 | .clos _ _::rs,d,objs,nx=>Waj rs d objs nx
 | .kv _ _::rs,d,objs,nx=>Waj rs d objs nx
 | .rp _::rs,d,objs,nx=>Waj rs d objs nx
 | .vj t::rs,d,objs,nx=>by
  obtain⟨pre,h⟩:=Waj rs d.2 ((unfold t d.1 nx).2.1++objs) (unfold t d.1 nx).2.2;exact⟨pre++(unfold t d.1 nx).2.1,by simp only[Wbp,h];simp⟩
 | .boxal _ _::rs,d,objs,nx=>Waj rs d objs nx
def Suf(objs:Wac)(r:Option Out):Prop:=∀x objs' nx,r=some (x,objs',nx)->∃pre,objs'=pre++objs
theorem Suf.none{objs:Wac}:Suf objs none:=λ_ _ _ h=>by cases h
theorem Suf.out{objs pre:Wac}{x:AVal}{nx:Nat}:Suf objs (WcK x (pre++objs) nx):=λ_ _ _ h=>by
 injection h with h;have:=Wj (λp:Out=>p.2.1) h;exact⟨pre,this.symm⟩
theorem Suf.ite{objs:Wac}{c:Prop}[Decidable c]{r:Option Out}(h:Suf objs r):Suf objs (if c then r else Option.none):=by split;exact h;exact .none
theorem Suf.bif{objs:Wac}{c:Bool}{r:Option Out}(h:Suf objs r):Suf objs (bif c then r else Option.none):=by cases c;exact .none;exact h
theorem WiR{st ah:St}{t:TypeId}{x v:AVal}(h:WcP T st t x v=some ah):∃pre,ah.objs=pre++st.objs:=by
 unfold WcP at h;split at h
 .split at h
  .split at h
   .injection h with h;subst h;exact⟨[_],rfl⟩
   .cases h
  .cases h
 .split at h
  .split at h
   .split at h
    .injection h with h;subst h;exact⟨[_],rfl⟩
    .cases h
   .split at h
    .split at h
     .rename_i m _;split at h
      .injection h with h;subst h;obtain⟨pre,hp⟩:=WcS st.objs m;exact⟨_::pre,by simp only[hp];rfl⟩
      .cases h
     .cases h
    .cases h
  .cases h
 .cases h
theorem Wm7(p:Option (Bool×AVal))(objs:Wac)(nx:Nat):Suf objs (match p with|some (c,v)=>bif c then WcK v objs nx else none|none=>none):=by
 rcases p with _|⟨c,v⟩
 .exact .none
 .exact Suf.bif (Suf.out (pre:=[]))
theorem WdJ(sg:Sig)(st:St)(xs:List AVal):Suf st.objs (Wfc sg st xs WcK):=by
 unfold Wfc;split
 .rename_i A _;split
  .intro x objs' nx h;rw[sg.law]at h;cases hr:sg.run A.d with
   |none=>rw[hr]at h;cases h
   |some out=>
    rw[hr]at h;simp only[Xd]at h;injection h with h;have h2:=Wj (λp:Out=>p.2.1) h;simp only at h2;obtain⟨p1,e1⟩:=WcS st.objs A.moved;obtain⟨p2,e2⟩:=Waa sg.ps out.1 A.kept (kill st.objs A.moved) st.nx;obtain⟨p3,e3⟩:=Waj sg.rs out.2 (Wad sg.ps out.1 A.kept (kill st.objs A.moved) st.nx).1 (Wad sg.ps out.1 A.kept (kill st.objs A.moved) st.nx).2;refine⟨p3++(p2++p1),?_⟩;rw[←h2,e3,e2,e1];simp
  .exact .none
 .exact .none
theorem Suf.over{objs:Wac}{l:List Nat}{r:Option Out}(h:Suf (kill objs l) r):Suf objs r:=λx objs' nx hr=>by
 obtain⟨p1,e1⟩:=h x objs' nx hr;obtain⟨p2,e2⟩:=WcS objs l;exact⟨p1++p2,by rw[e1,e2];simp⟩
theorem Wmp(sg:Sig)(st:St)(xs:List AVal):Suf st.objs (WlK sg st xs WcK):=by
 unfold WlK;cases sg.fresh with
 |true=>exact WdJ _ _ _
 |false=>
  simp only[Wc];split
  .split
   .exact WdJ _ _ _
   .exact Suf.over (WdJ sg {env:=st.env,objs:=kill st.objs _,nx:=st.nx} _)
  .exact .none
theorem WnD{objs:Wac}{x:AVal}{p:Nat×Ob}{l:List Nat}{nx:Nat}:Suf objs (WcK x (p::kill objs l) nx):=by
 obtain⟨pre,h⟩:=WcS objs l;rw[h];exact Suf.out (pre:=p::pre)
theorem WiI(st:St)(te:Ty)(s x:AVal):Suf st.objs (Wep st te s x WcK):=by
 unfold Wep;split
 .split
  .split
   .split
    .exact Suf.bif WnD
    .exact .none
   .exact .none
  .exact .none
 .split
  .split
   .split
    .exact Suf.ite (Suf.bif WnD)
    .exact .none
   .exact .none
  .exact .none
 .exact .none
theorem WiX(st:St)(e:Ty)(ps:List (Nat×AVal)):Suf st.objs (Wde st e ps WcK):=by
 unfold Wde;split
 .refine Suf.ite ?_;split
  .split
   .exact Suf.ite (Suf.over WnD)
   .exact .none
  .exact .none
 .exact .none
theorem Wj4(st:St)(te:Ty)(id:Nat)(l h:Option Int):Suf st.objs (We7 st te id l h WcK):=by
 unfold We7;split
 .exact Suf.ite (Suf.bif (Suf.out (pre:=[])))
 .exact .none
theorem WpE(o:Oper)(st:St):Suf st.objs (rxe T Γ A o st WcK):=by
 unfold rxe;split
 .split
  .exact Suf.ite (Suf.out (pre:=[_]))
  .exact Suf.ite (Suf.out (pre:=[_]))
  .exact .none
 .split
  .exact Suf.out (pre:=[_])
  .exact .none
 .split
  .split
   .split
    .exact Suf.out (pre:=[])
    .exact .none
   .exact .none
  .exact .none
 .split
  .split
   .split
    .exact Suf.ite (WiX _ _ _)
    .split
     .exact Suf.ite (Suf.over (Suf.out (pre:=[_])))
     .exact .none
   .exact .none
  .exact .none
 .split
  .split
   .split
    .exact Suf.ite (Suf.bif (Suf.out (pre:=[_])))
    .exact Suf.ite (Suf.bif (Suf.out (pre:=[_])))
   .exact .none
  .exact .none
 .split
  .split
   .rename_i ah hs;split
    .obtain⟨pre,h⟩:=WiR hs;rw[h];exact Suf.over Suf.out
    .exact .none
   .exact .none
  .exact .none
 .split
  .split
   .split
    .split
     .exact Suf.ite (Wj4 _ _ _ _ _)
     .split
      .exact Suf.ite (Suf.bif (Suf.out (pre:=[_,_])))
      .exact Suf.ite (Suf.bif (Suf.out (pre:=[_,_,_])))
      .exact .none
    .exact .none
   .exact .none
  .exact Wm7 _ _ _
 .split
  .split
   .unfold Wdx;split
    .split
     .split
      .cases WsK st _ _ with
       |false=>exact WiI _ _ _ _
       |true=>
       simp only[Xr,Wc];split
       .exact Suf.bif (Suf.out (pre:=[_]))
       .split
        .split
         .exact Suf.bif (Suf.out (pre:=[_,_]))
         .exact .none
        .exact .none
       .split
        .split
         .exact Suf.bif (Suf.out (pre:=[_,_]))
         .exact .none
        .exact .none
       .exact .none
      .exact .none
     .exact .none
    .exact .none
   .exact .none
  .split
   .split
    .split
     .exact Suf.ite (Suf.out (pre:=[_]))
     .exact .none
    .exact .none
   .exact .none
  .exact Wm7 _ _ _
  .split
   .split
    .exact Wmp _ _ _
    .exact .none
   .exact .none
  .exact .none
 .exact Wm7 _ _ _
end
end Go.Sx
