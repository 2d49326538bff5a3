/- The abstract machine, part 2: a reflective interpreter of the program's code over data, with its soundness over the model. -/
import Derived.Test.YtnkbflecplbceaaGreatEng1
open Bool renaming and_eq_true→Xh,not_eq_true'→Xao,false_eq_true→Xbm
open List renaming nodup_cons→Xai,getElem?_append_left→Xba,getD→Xd,getElem?_append_right→Xaw,ext_getElem?→Xfk,getElem?_eq_none→Xbj,replicate→Xv,getElem?_map→Xam,prefix_refl→Xfv,nil_prefix→Xgw,prefix_append_right_inj→Xfc,length_replicate→Xga,append_nil→Xcw,getElem?_toArray→Xeo,append_assoc→Xbs,getElem?_append→Xaz,getElem?_take→Xbl,getElem?_drop→Xbk,getElem?_eq_some_iff→Xq,drop_drop→Xds,take_append_drop→Xdb,length_take→Xan,mem_cons_self→Xi,mem_cons_of_mem→Xe,mem_map_of_mem→Xal,pairwise_cons→Xab,mem_append_left→Xk,mem_append_right→Xg,length_append→Xz,map_append→Xp,pairwise_append→Xag,mem_append→Xn,mem_map→Xu,mem_cons→Xo,getElem?_of_mem→Xdw,getElem?_eq_getElem→Xs,eq_nil_of_length_eq_zero→Xy,map_toArray→Xdx,map_cons→Xaj,map_nil→Xch,append→Xf,take_length→Xem,mem_singleton→Xac,length→Xa,append_inj→Xfx,length_map→Xaf,mem_of_mem_take→Xcl,mem_of_mem_drop→Xev,nodup_append→Xak,all_eq_true→Xae,nodup_nil→Xdi,length_drop→Xdl,sublist_append_right→Xfm,all_cons→Xci,mem_of_getElem?→Xav
open Nat renaming succ_mul→Xbx,mul_le_mul_right→Xbg,add_zero→Xax,le_trans→Xcn,zero_mul→Xes,le_refl→Xm,min_eq_left→Xce,add_assoc→Xap,lt_succ_self→Xbu,add_mul→Xcv,zero_le→Xbo,eq_of_beq_eq_true→Xcb,add_sub_cancel_left→Xbd,le_succ→Xdh
open Array renaming range→Xcj,foldl_toList→Xfe,length_toList→Xau
open Int renaming mul_le_mul_of_nonneg_right→Xeu
open Option renaming map_eq_some_iff→Xx,map_some→Xcf,bind_eq_some_iff→Xbv,bind_some→Xc
namespace Go.Sx
set_option linter.unusedVariables false
set_option linter.unusedSimpArgs false
theorem Whb:∀l:List Nat,Wdw l=true↔l.Nodup
 | []=>by simp[Wdw]
 |i::l=>by
  have h:=Wpq i l
  simp only[Wdw,Xh,Xao,Xai,Whb l]
  constructor
  ·rintro⟨h1,h2⟩;exact⟨λhm=>(by rw[h.2 hm]at h1;exact absurd h1 (by simp)),h2⟩
  ·rintro⟨h1,h2⟩
   refine⟨?_,h2⟩
   cases he:Wez i l with
   |false=>rfl
   |true=>exact absurd (h.1 he) h1
theorem rep_get{α:Type}(l:List α)(d:α):∀(n i:Nat),i<n*l.length→(rep l n)[i]?=some (l.getD (i%l.length) d)
 |0,i,h=>by simp at h
 |n+1,i,h=>by
  rw[rep]
  by_cases hi:i<l.length
  ·rw[Xba hi,Nat.mod_eq_of_lt hi];simp[Xd,hi]
  ·have hge:l.length≤i:=by omega
   rw[Xaw hge,rep_get l d n (i-l.length) (by rw[Xbx]at h;omega)]
   rw[Nat.mod_eq_sub_mod hge]
theorem Wpl(z:Array Value)(n:Nat):((Xcj (n*z.size)).map λi=>z[i%z.size]!).toList=rep z.toList n:=by
 apply Xfk
 intro i
 by_cases hi:i<n*z.size
 ·rw[rep_get z.toList default n i (by simpa using hi)]
  have hpos:0<z.size:=Nat.pos_of_ne_zero (λh=>by rw[h]at hi;simp at hi)
  have hm:i%z.size<z.size:=Nat.mod_lt _ hpos
  simp[hi,Xd,hm]
 ·have h1:n*z.size≤i:=by omega
  rw[Xbj (by simp;exact h1),Xbj (by rw[Wyr];simp;exact h1)]
section
variable{w0:World}{F:CS}{nt:Slots}{G0 G:GH}{ν:Nat→Nu}{objs:Objs}{nx:Nat}{st st':St}{a:Act}{w w':World}{P:Program}{T:Tab}
theorem Wug(hh:HRel w0 F G ν objs nx w){e:Ty}(he:e.data=true):
  ∀(l:List (Nat×AVal)) (ps:List (Nat×Value)) (xs ys:List e.den) (vs:Array Value),EncL (Enc G e) xs vs.toList→ps.length=l.length→
   (∀(j:Nat) (p:Nat×AVal) (q:Nat×Value),l[j]?=some p→ps[j]?=some q→p.1=q.1∧AValRel G ν nx p.2 q.2)→fillL e objs l xs=some ys→
   ∃vs',Instr.fill (λi=>some (i*e.size,e.size)) vs ps=some vs'∧EncL (Enc G e) ys vs'.toList∧ys.length=xs.length
 | [],[],xs,ys,vs,hc,_,_,h=>by simp[fillL]at h;subst h;exact⟨vs,rfl,hc,rfl⟩
 |(i,x)::l,[],_,_,_,_,hl,_,_=>by simp at hl
 | [],_::_,_,_,_,_,hl,_,_=>by simp at hl
 |(i,x)::l,(i',v)::ps,xs,ys,vs,hc,hl,hp,h=>by
  obtain⟨hi,hx⟩:=hp 0 _ _ rfl rfl
  simp only at hi hx;subst hi
  simp only[fillL]at h
  split at h
  ·rename_i ds hds
   split at h
   ·rename_i d hf
    split at h
    ·rename_i hlt
     obtain⟨h1,_⟩:=Wih hx hds
     have henc:=foldC_enc hh h1 he hf
     have hlen:v.cells.toList.length=e.size:=Enc_len _ _ _ henc
     have hvs:vs.toList.length=xs.length*e.size:=EncL_len (λx c hc=>Enc_len e x c hc) _ _ hc
     have hfit:i*e.size+e.size≤xs.length*e.size:=by rw[←Xbx];exact Xbg _ hlt
     have hfold:=Wtb v.cells.toList (i*e.size) 0 vs (by simp at hlen hvs⊢;omega)
     simp only[Xax]at hfold
     have hset:=Wxq (λx c hc=>Enc_len e x c hc) xs vs.toList i d v.cells.toList hc hlt henc
     obtain⟨vs',h4,h5,h6⟩:=Wug hh he l ps (xs.set i d) ys _ (by rw[hfold,hlen];exact hset) (by simpa using hl) (λj p q hj hq=>hp (j+1) p q (by simpa using hj) (by simpa using hq)) h
     refine⟨vs',?_,h5,by rw[h6];simp⟩
     simp only[Instr.fill]
     rw[if_neg (by simp at hlen hvs⊢;omega)]
     rw[←h4]
     congr 1
     rw[←Xfe]
     simp
    ·simp at h
   ·simp at h
  ·simp at h
theorem Wtp(hT:Wbj P T)(hr:Rel w0 F nt G0 G ν st a w){o:Oper}(hd:∀d,o.dst=some d→nt.Ok d){t:TypeId}{n:Nat}{parts:Array (Nat×Operand)}(ho:o.op= .buildSlice t n parts)
  {ty:Ty} {et:TypeId} {te:TE} {ps:List (Nat×AVal)} {xs:List te.ty.den} (hl:look T t=some ⟨ty,false,.slice et⟩) (hle:look T et=some te)
  (h1:ps.length=parts.toList.length) (h2:∀(j:Nat) (p:Nat×AVal) (q:Nat×Operand),ps[j]?=some p→parts.toList[j]?=some q→p.1=q.1∧AValRel G ν st.nx p.2 (a.eval q.2))
  (hf:fillL te.ty st.objs ps (Xv n te.ty.dflt)=some xs) (hsz:n*te.ty.size≤16777216) (hdata:te.ty.data=true) (hp:te.plain=true):
  Done P w0 F nt G0 o a w (st.new o.dst (.arr te.ty xs) (.s (.one (.own st.nx)))):=by
 have hu:=(hT _ _ hl).und.2.1
 obtain⟨z,hz,hzc⟩:=Wlu (w:=w) (hT _ _ hle)
 rw[Wee hp]at hzc
 have hzs:z.cells.size=te.ty.size:=by rw[←Xau,hzc,Wdy]
 have hmade:=Wpl z.cells n
 rw[hzs,hzc]at hmade
 obtain⟨vs',h3,h4,h5⟩:=Wug hr.h hdata ps (parts.toList.map λp=>(p.1,a.eval p.2)) _ xs ((Xcj (n*te.ty.size)).map λi=>z.cells[i%te.ty.size]!) (by rw[hmade];exact Wqg hdata n) (by simp[h1]) (λj p q hp hq=>by
   simp only[Xam]at hq
   cases hq':parts.toList[j]? with
   |none=>simp only[Array.getElem?_toList]at hq';simp[hq']at hq
   |some q'=>
    rw[hq']at hq
    simp at hq;subst hq
    exact h2 j p q' hp hq') hf
 have hxl:xs.length=n:=by rw[h5];simp
 have hpos:=Wec te.ty
 have hn:n≤16777216:=Xcn (Nat.le_mul_of_pos_right n hpos) hsz
 have hvl:vs'.size=n*te.ty.size:=by
  rw[←Xau,EncL_len (λx c hc=>Enc_len te.ty x c hc) _ _ h4,hxl]
 obtain⟨⟨ν',h6⟩,_⟩:=new_arr (t:=et) (vs:=vs') hr hd (e:=te.ty) hdata (xs:=xs) (cap:=n) (cs:=vs'.toList) (by omega) (by unfold maxLen;omega) hvl h4 (Xfv _) w rfl rfl rfl rfl
 rw[hxl]at h6
 refine⟨_,_,_,G,ν',?_,.inl rfl,h6⟩
 have hparts:(parts.map λx=>match x with|(i,x)=>(i,a.eval x)).toList=parts.toList.map λp=>(p.1,a.eval p.2):=by simp
 simp only[execOp,ho,Instr.buildSlice,Sem.run_bind,Wb hu,Result.andThen_ok,(hT _ _ hle).sizeOf,Wap hp,if_neg (show¬n*te.ty.size>2^24 by omega),Sem.run_pure]
 by_cases h0:n*te.ty.size=0
 ·have hn0:n=0:=by rcases Nat.mul_eq_zero.1 h0 with h|h<;>omega
  have e1:((Xcj (n*te.ty.size)).map λi=>z.cells[i%te.ty.size]!)= #[]:=by rw[h0];simp
  rw[e1]at h3
  have e2:∀zz:Array Value,((Xcj (n*te.ty.size)).map λi=>zz[i%zz.size]!)= #[]:=λzz=>by rw[h0];simp
  simp only[if_pos h0,Sem.run_pure,Result.andThen_ok,e2,hparts,h3,Wgx]
  rfl
 ·simp only[if_neg h0,Sem.run_bind,hz,Result.andThen_ok,Sem.run_pure,hzs,hparts,h3,Wgx]
theorem Wvk(hT:Wbj P T)(hr:Rel w0 F nt G0 G ν st a w){o:Oper}(hd:∀d,o.dst=some d→nt.Ok d){t:TypeId}{n c:Operand}(ho:o.op= .makeSlice t n c)
  {ty:Ty} {et:TypeId} {te:TE} {n' c':Int} {k k':IntKind} (hl:look T t=some ⟨ty,false,.slice et⟩) (hle:look T et=some te) (hn:a.eval n= .int k n') (hc:a.eval c= .int k' c')
  (h0:0≤n') (h1:n'≤c') (h2:room c'.toNat=true) (hdata:te.ty.data=true) (hp:te.plain=true):
  Done P w0 F nt G0 o a w (st.new o.dst (.arr te.ty (Xv n'.toNat te.ty.dflt)) (.s (.one (.own st.nx)))):=by
 have hu:=(hT _ _ hl).und.2.1
 obtain⟨i,z,hi,hs,hz,hzc,hby⟩:=(hT _ _ hle).info
 rw[Wee hp]at hzc
 rw[Wap hp]at hs
 have hzs:z.cells.size=te.ty.size:=by rw[←Xau,hzc,Wdy]
 have hroom:c'.toNat≤1073741824:=by simpa [room]using h2
 have hmade:=Wpl z.cells c'.toNat
 rw[hzs,hzc]at hmade
 have hpre:rep (Wej te.ty) n'.toNat<+:rep (Wej te.ty) c'.toNat:=by
  have:∀(l:List Value) (p q:Nat),rep l p<+:rep l (p+q):=λl p q=>by
   induction p with
   |zero=>exact Xgw
   |succ p ih=>rw[Nat.succ_add];simp only[rep];exact(Xfc _).2 ih
  have h:=this (Wej te.ty) n'.toNat (c'.toNat-n'.toNat)
  rwa [show n'.toNat+(c'.toNat-n'.toNat)=c'.toNat by omega]at h
 have hb:(i.bytes:Int)*c'≤281474976710656:=by
  have h3:(i.bytes:Int)*c'≤4096*c':=Xeu (by omega) (by omega)
  omega
 have hm:madeCells z.cells (c'.toNat*i.size)=(Xcj (c'.toNat*te.ty.size)).map λi=>z.cells[i%te.ty.size]!:=by
  rw[hs,←hzs];rfl
 obtain⟨⟨ν',h6⟩,_⟩:=new_arr (t:=et) (vs:=(Xcj (c'.toNat*te.ty.size)).map λi=>z.cells[i%te.ty.size]!) hr hd (e:=te.ty) hdata (xs:=Xv n'.toNat te.ty.dflt) (cap:=c'.toNat) (cs:=rep (Wej te.ty) n'.toNat) (by simp;omega) (by unfold maxLen;omega)
  (by simp) (Wqg hdata _) (by rw[hmade];exact hpre) w rfl rfl rfl rfl
 rw[Xga]at h6
 refine⟨_,_,_,G,ν',?_,.inl rfl,h6⟩
 simp only[execOp,ho,hn,hc,Sem.run_bind,run_make (P:=P) w t et i z hu hi hz k k' n' c' h0 h1 hb (by omega),Result.andThen_ok,hm,Sem.run_pure]
theorem Wsp(hT:Wbj P T)(hr:Rel w0 F nt G0 G ν st a w){o:Oper}(hd:∀d,o.dst=some d→nt.Ok d){t:TypeId}{n c:Operand}(ho:o.op= .makeSlice t n c)
  {ty:Ty} {et:TypeId} {te:TE} {e:Ty} {n' c':Int} {k k':IntKind} (hl:look T t=some ⟨ty,false,.slice et⟩) (hle:look T et=some te) (hn:a.eval n= .int k n') (hc:a.eval c= .int k' c')
  (h0:0≤n') (h1:n'≤c') (h2:room c'.toNat=true) (he:e.ro=te.ty) (hp:te.plain=true):
  Done P w0 F nt G0 o a w (st.new o.dst (.arr e (Xv n'.toNat e.dflt)) (.s (.one (.own st.nx)))):=by
 have hu:=(hT _ _ hl).und.2.1
 obtain⟨i,z,hi,hs,hz,hzc,hby⟩:=(hT _ _ hle).info
 rw[Wee hp]at hzc
 rw[Wap hp]at hs
 have hes:te.ty.size=e.size:=by rw[←he,Wef]
 have hzs:z.cells.size=te.ty.size:=by rw[←Xau,hzc,Wdy]
 have hroom:c'.toNat≤1073741824:=by simpa [room]using h2
 have hmade:=Wpl z.cells c'.toNat
 rw[hzs,hzc]at hmade
 have hpre:rep (Wej te.ty) n'.toNat<+:rep (Wej te.ty) c'.toNat:=by
  have:∀(l:List Value) (p q:Nat),rep l p<+:rep l (p+q):=λl p q=>by
   induction p with
   |zero=>exact Xgw
   |succ p ih=>rw[Nat.succ_add];simp only[rep];exact(Xfc _).2 ih
  have h:=this (Wej te.ty) n'.toNat (c'.toNat-n'.toNat)
  rwa [show n'.toNat+(c'.toNat-n'.toNat)=c'.toNat by omega]at h
 have hb:(i.bytes:Int)*c'≤281474976710656:=by
  have h3:(i.bytes:Int)*c'≤4096*c':=Xeu (by omega) (by omega)
  omega
 have hm:madeCells z.cells (c'.toNat*i.size)=(Xcj (c'.toNat*te.ty.size)).map λi=>z.cells[i%te.ty.size]!:=by
  rw[hs,←hzs];rfl
 obtain⟨⟨ν',h6⟩,_⟩:=Wsg (t:=et) (vs:=(Xcj (c'.toNat*te.ty.size)).map λi=>z.cells[i%te.ty.size]!) hr hd [] (e:=e) (xs:=Xv n'.toNat e.dflt) (cap:=c'.toNat) (cs:=rep (Wej te.ty) n'.toNat) (by simp;omega) (by unfold maxLen;omega)
  (by simp[hes]) (λφ _=>by
   obtain⟨ps,g1,g2⟩:=rep_ty (G:=G) (w:=w) e n'.toNat
   rw[he]at g1
   exact⟨ps,g1,sep_empty ps g2,λp hp b o hh=>by rw[g2 p hp]at hh;exact hh.elim⟩) (by rw[hmade];exact hpre) w rfl rfl rfl rfl
 rw[Xga]at h6
 refine⟨_,_,_,G,ν',?_,.inl rfl,h6⟩
 simp only[execOp,ho,hn,hc,Sem.run_bind,run_make (P:=P) w t et i z hu hi hz k k' n' c' h0 h1 hb (by omega),Result.andThen_ok,hm,Sem.run_pure]
theorem nestOne_done(hT:Wbj P T)(hr:Rel w0 F nt G0 G ν st a w){o:Oper}(hd:∀d,o.dst=some d→nt.Ok d){t:TypeId}{parts:Array (Nat×Operand)}{x:Operand}(ho:o.op= .buildSlice t 1 parts)(hps:parts.toList= [(0,x)])
  {ty:Ty} {et:TypeId} {te:TE} {e:Ty} {xv:AVal} {ds:List Cell} {d:e.den} {m:List Nat} (hl:look T t=some ⟨ty,false,.slice et⟩) (hle:look T et=some te) (hx:AValRel G ν st.nx xv (a.eval x)) (hds:Wpy xv=some ds)
  (hf:Wbr e ds st.objs=some (d,m,[])) (hm:m.Nodup) (he:e.ro=te.ty) (hp:te.plain=true) (hsz:te.ty.size≤16777216):
  Done P w0 F nt G0 o a w (({env:=st.env,objs:=(st.nx,.arr e [d])::kill st.objs m,nx:=st.nx+1}:St).put o.dst (.s (.one (.own st.nx)))):=by
 have hu:=(hT _ _ hl).und.2.1
 obtain⟨z,hz,hzc⟩:=Wlu (w:=w) (hT _ _ hle)
 rw[Wee hp]at hzc
 have hes:te.ty.size=e.size:=by rw[←he,Wef]
 have hzs:z.cells.size=te.ty.size:=by rw[←Xau,hzc,Wdy]
 have hmade:=Wpl z.cells 1
 rw[hzs,hzc]at hmade
 simp only[rep,Xcw,Nat.one_mul]at hmade
 obtain⟨h1,h2⟩:=Wih hx hds
 have hfold:∀φ,HR w0 F G ν φ st.objs st.nx w→∃ps,EncP (TyRel G w e) [d] (a.eval x).cells.toList ps∧Sep (ps.map Pc.fp)∧∀p∈ps,CS.le p.fp (FromL φ st.objs m):=λφ hφ=>by
  obtain⟨ns,g1,g2,g3,_⟩:=Wbg (G':=G) hφ (λ_ _ _ hh=>hh) e ds _ d m [] h1 (λi hi=>by simp at hi) hm hf
  exact⟨ns,EncP_one.2 g1,g2,g3⟩
 have hlen:(a.eval x).cells.size=e.size:=by
  obtain⟨φ,hφ⟩:=hr.h
  obtain⟨ps,g1,_⟩:=hfold φ hφ
  have:=Wp _ _ _ _ (EncP_one.1 g1)
  simpa using this
 have hmsz:((Xcj te.ty.size).map λi=>z.cells[i%te.ty.size]!).size=te.ty.size:=by simp
 have hset:=Wtb (a.eval x).cells.toList 0 0 ((Xcj te.ty.size).map λi=>z.cells[i%te.ty.size]!) (by simp;omega)
 have hmk:((Xcj te.ty.size).map λi=>z.cells[i%te.ty.size]!).toList.length=e.size:=by simp[hes]
 have hvs:((a.eval x).cells.toList.zipIdx.foldl (λcs (c,j)=>cs.setIfInBounds (0+j) c) ((Xcj te.ty.size).map λi=>z.cells[i%te.ty.size]!)).toList=(a.eval x).cells.toList:=by
  rw[hset]
  simp only[Nat.zero_add,List.take_zero,List.nil_append]
  rw[List.drop_eq_nil_of_le (by rw[hmk];simp;omega),Xcw]
 generalize hV:(a.eval x).cells.toList.zipIdx.foldl (λcs (c,j)=>cs.setIfInBounds (0+j) c) ((Xcj te.ty.size).map λi=>z.cells[i%te.ty.size]!)=V at hvs
 have hVs:V.size=1*e.size:=by rw[←Xau,hvs];simp[hlen]
 obtain⟨⟨ν',h6⟩,_⟩:=Wsg (t:=et) (vs:=V) hr hd m (e:=e) (xs:=[d]) (cap:=1) (cs:=(a.eval x).cells.toList) (by simp) (by unfold maxLen;omega) hVs hfold (by rw[hvs];exact Xfv _) w rfl rfl rfl rfl
 refine⟨_,_,_,G,ν',?_,.inl rfl,h6⟩
 have hfill:Instr.fill (λi=>some (i*te.ty.size,te.ty.size)) ((Xcj te.ty.size).map λi=>z.cells[i%te.ty.size]!) [(0,a.eval x)]=some V:=by
  simp only[Instr.fill,Xes]
  rw[if_neg (by simp;omega),←hV]
  congr 1
  rw[←Xfe]
  simp
 have hparts:(parts.map λx=>match x with|(i,x)=>(i,a.eval x)).toList= [(0,a.eval x)]:=by simp[hps]
 have hpos:=Wec te.ty
 simp only[execOp,ho,Instr.buildSlice,Sem.run_bind,Wb hu,Result.andThen_ok,(hT _ _ hle).sizeOf,Wap hp,Nat.one_mul,if_neg (show¬te.ty.size>2^24 by omega),if_neg (show¬te.ty.size=0 by omega),Sem.run_pure,hz,hzs,hparts,hfill,Wgx]
 rfl
theorem Wln{t:TypeId}{te:TE}(hte:TEok P T t te){b off:Nat}{v:Value}{cur:Array Value}{TT:TypeId}(hg:w.heap[b]?=some (.cells cur TT (0,0)))(hsz:te.size=v.cells.size)(hfit:off+v.cells.size≤cur.size)(h1:∀u∈v.cells.toList,u.oneCell'=true):
  (storeVar t ⟨b,off,none⟩ v).run P w= .ok () (w.setRow b (cur.toList.take off++v.cells.toList++cur.toList.drop (off+v.cells.size)).toArray):=by
 have h:=run_storeCells_at P b off TT v.cells.toList 0 cur w hg (by simpa using hfit) h1
 simp only[Xax,Xau]at h
 simp[storeVar,hte.sizeOf,hsz,h]
theorem Whl{b k:Nat}{vs:Array Value}{T:TypeId}{news:List Value}(h:w.heap[b]?=some (Obj.cells vs T (0,0)))(hfit:k+news.length≤vs.size):
  WLe (rng b k news.length) w (w.setRow b (vs.toList.take k++news++vs.toList.drop (k+news.length)).toArray)∧Mem (w.setRow b (vs.toList.take k++news++vs.toList.drop (k+news.length)).toArray) b k news:=by
 have hk:(vs.toList.take k).length=k:=by simp;omega
 constructor
 ·refine WLe.setRow h (by simp;omega) (λo hn=>?_)
  have hn':¬(k≤o∧o<k+news.length):=λ⟨h1,h2⟩=>hn ⟨rfl,h1,h2⟩
  simp only[Xeo,Xbs]
  rw[Xaz,hk]
  split
  ·rename_i hlt
   rw[Xbl,if_pos hlt];simp
  ·rw[Xaz]
   split
   ·omega
   ·rw[Xbk,show k+news.length+(o-k-news.length)=o by omega];simp
 ·intro j v hj
  rw[cell_of_row _ b _ _ T (0,0) (setRow_heap w b vs _ T (0,0) h)]
  have hlt:j<news.length:=(Xq.1 hj).1
  simp only[Xeo,Xbs]
  rw[Xaw (by omega),hk,Xba (by omega),show k+j-k=j by omega]
  exact hj
theorem Wlr{b o k:Nat}{vs us:List Value}(hm:Mem w b o vs)(hw:WLe (rng b (o+k) us.length) w w')(hu:Mem w' b (o+k) us)(hk:k+us.length≤vs.length):Mem w' b o (vs.take k++us++vs.drop (k+us.length)):=λj v hj=>by
 have hold:∀v',vs[j]?=some v'→¬(k≤j∧j<k+us.length)→w'.cell? ⟨b,o+j,none⟩=some v':=λv' hv hn=>by
  have h1:=hm j v' hv
  rw[hw.cell b (o+j) (block_lt_of_cell h1) (λ⟨_,h2,h3⟩=>hn ⟨by omega,by omega⟩)]
  exact h1
 have hk':(vs.take k).length=k:=by simp;omega
 rw[Xbs,Xaz,hk']at hj
 split at hj
 ·rename_i hlt
  rw[Xbl,if_pos hlt]at hj
  exact hold v hj (by omega)
 ·rw[Xaz]at hj
  split at hj
  ·have:=hu (j-k) v hj
   rw[show o+j=o+k+(j-k) by omega];exact this
  ·rw[Xbk,show k+us.length+(j-k-us.length)=j by omega]at hj
   exact hold v hj (by omega)
theorem HR.turn{φ:Nat→CS}(h:HR w0 F G ν φ objs nx w){id:Nat}{ob ob':Ob}{m:List Nat}(ho:look objs id=some ob)(hd:ob≠ .dead){S:CS}(hw:WLe S w w')(hs:CS.le S (φ id))
  (hnew:Wgn G ν nx w' id (λb o=>φ id b o∨FromL φ objs m b o) ob'):HRel w0 F G ν ((id,ob')::kill objs m) nx w':=by
 have hl:Live objs id:=⟨ob,ho,hd⟩
 exact⟨_,h.put (ν':=ν) (λ_ _=>rfl) (Xm _) (h.lt id hl) (hw.mono λb o hh=>⟨id,.inl rfl,hl,hs b o hh⟩) (λb o hh=>by
  rcases hh with hh|⟨i,hi,h1,h2⟩
  ·exact .inl ⟨id,.inl rfl,hl,hh⟩
  ·exact .inl ⟨i,.inr hi,h1,h2⟩) (λ_=>hnew)⟩
theorem store_done(hT:Wbj P T)(hr:Rel w0 F nt G0 G ν st a w){o:Oper}{t:TypeId}{x y:Operand}(ho:o.op= .store t x y)(hdst:o.dst=none){p v:AVal}(hx:AValRel G ν st.nx p (a.eval x))(hy:AValRel G ν st.nx v (a.eval y))
  (h:Whk T st t p v=some st'):Done P w0 F nt G0 o a w st':=by
 unfold Whk at h
 split at h
 ·rename_i te id off ds hl hds
  obtain⟨hds1,hds2⟩:=Wih hy hds
  split at h
  ·rename_i cs hob
   split at h
   ·rename_i hcond
    simp only[Xh,decide_eq_true_eq]at hcond
    obtain⟨⟨hs,hpl⟩,hfit⟩:=hcond
    injection h with h;subst h
    obtain⟨⟨_,b,hb,hpe⟩,_⟩:=hx
    obtain⟨φ,hφ⟩:=hr.h
    obtain⟨b',vs,hb',⟨row,TT,hhp,hrow⟩,hmem,hcs,hrs⟩:=hφ.ob _ _ hob
    rw[hb]at hb';injection hb' with hb';subst hb'
    have hlen:(a.eval y).cells.size=ds.length:=by have:=hds1.1;simpa using this
    have hrun:=Wln (w:=w) (hT _ _ hl) (b:=b) (off:=(ν id).off+off) (v:=a.eval y) hhp (by rw[Wap hpl,hlen];exact hs) (by omega) hds2
    obtain⟨hw,hm⟩:=Whl (k:=(ν id).off+off) (news:=(a.eval y).cells.toList) hhp (by simp;omega)
    simp only[Xau]at hw hm
    generalize w.setRow b (row.toList.take ((ν id).off+off)++(a.eval y).cells.toList++row.toList.drop ((ν id).off+off+(a.eval y).cells.size)).toArray=W at hrun hw hm
    have hnew:HRel w0 F G ν ((id,.box (Wka cs off ds))::st.objs) st.nx W:=by
     refine hφ.turn (m:=[]) hob (by simp) hw (λb' o ⟨e,h1,h2⟩=>hrs b' o ⟨e,by omega,by omega⟩) ?_
     refine⟨b,_,hb,by rw[Wmd hfit];exact hw.rows.row _ _ ⟨row,TT,hhp,hrow⟩,Wlr hmem (us:=(a.eval y).cells.toList) (by rw[Xau];exact hw) hm (by rw[hcs.1];simp;omega),Wlq hcs hds1,λb o hh=>.inl (hrs b o (by rw[Wmd hfit]at hh;exact hh))⟩
    refine⟨.skip,undef,W,G,ν,?_,.inr ⟨rfl,rfl⟩,?_⟩
    ·simp only[execOp,ho,hpe,Instr.storeAt,Instr.sureAddr,Sem.run_bind,Sem.run_pure,Result.andThen_ok,hrun]
    ·rw[hdst]
     exact hr.on (λ_ _ _ hh=>hh) (λ_ _=>rfl) (Xm _) hnew hr.gx
   ·simp at h
  ·simp at h
 ·rename_i te id i off ds hl hds
  obtain⟨hds1,hds2⟩:=Wih hy hds
  split at h
  ·rename_i e xs hob
   split at h
   ·rename_i hcond
    simp only[Xh,decide_eq_true_eq]at hcond
    obtain⟨⟨⟨hs,hpl⟩,hfit⟩,hdata⟩:=hcond
    split at h
    ·rename_i d hf
     injection h with h;subst h
     obtain⟨⟨_,hilt,b,hb,hpe⟩,_⟩:=hx
     obtain⟨φ,hφ⟩:=hr.h
     have hown:OwnL w (TyRel G w e) e.size (ν id) xs (φ id):=hφ.ob _ _ hob
     obtain⟨hxl,h4,h5,hrow0,cs,h7,h8,h9⟩:=Win hdata hown hb
     obtain⟨row,TT,hhp,hrow⟩:=hrow0
     have hesz:=hown.2.1
     have hlt:i<xs.length:=by omega
     have hlen:(a.eval y).cells.toList.length=ds.length:=hds1.1
     have hl':(a.eval y).cells.size=ds.length:=by simpa using hlen
     have hcl:cs.length=xs.length*e.size:=EncL_len (λx c hc=>Enc_len e x c hc) _ _ h7
     have hie:i*e.size+e.size≤xs.length*e.size:=by rw[←Xbx];exact Xbg _ hlt
     have hic:xs.length*e.size≤(ν id).cap*e.size:=Xbg _ h4
     have hen:=EncL_getD (λx c hc=>Enc_len e x c hc) xs cs i e.dflt h7 hlt
     have hspl:=Wlq (off:=off) (Wcb (G:=G) (ν:=ν) (nx:=st.nx) e _ _ hen) hds1
     have henc:=foldC_enc hr.h hspl hdata hf
     have hset:=Wxq (λx c hc=>Enc_len e x c hc) xs cs i d _ h7 hlt henc
     have hrun:=Wln (w:=w) (hT _ _ hl) (b:=b) (off:=(ν id).off+(i*e.size+off)) (v:=a.eval y) hhp (by rw[Wap hpl];omega) (by omega) hds2
     obtain⟨hw,hm⟩:=Whl (k:=(ν id).off+(i*e.size+off)) (news:=(a.eval y).cells.toList) hhp (by omega)
     simp only[Xau]at hw hm
     generalize w.setRow b (row.toList.take ((ν id).off+(i*e.size+off))++(a.eval y).cells.toList++row.toList.drop ((ν id).off+(i*e.size+off)+(a.eval y).cells.size)).toArray=W at hrun hw hm
     have hcells:cs.take (i*e.size+off)++(a.eval y).cells.toList++cs.drop (i*e.size+off+(a.eval y).cells.toList.length)=
       cs.take (i*e.size)++(((cs.drop (i*e.size)).take e.size).take off++(a.eval y).cells.toList++((cs.drop (i*e.size)).take e.size).drop (off+(a.eval y).cells.toList.length))++cs.drop (i*e.size+e.size):=by
      rw[hlen]
      have e1:cs.take (i*e.size+off)=cs.take (i*e.size)++((cs.drop (i*e.size)).take e.size).take off:=by
       rw[List.take_take,Xce (by omega),←List.take_add]
      have e2:cs.drop (i*e.size+off+ds.length)=((cs.drop (i*e.size)).take e.size).drop (off+ds.length)++cs.drop (i*e.size+e.size):=by
       rw[List.drop_take,Xds]
       have:cs.drop (i*e.size+e.size)=(cs.drop (i*e.size+(off+ds.length))).drop (e.size-(off+ds.length)):=by rw[Xds];congr 1;omega
       rw[this,Xdb]
       congr 1;omega
      rw[e1,e2]
      simp
     have hnew:HRel w0 F G ν ((id,.arr e (xs.set i d))::st.objs) st.nx W:=by
      refine hφ.turn (m:=[]) hob (by simp) hw (λb' o ⟨e',h1,h2⟩=>h9 b' o ⟨e',by omega,by omega⟩) ?_
      refine flat_OwnL hdata hb (by simpa using hxl) hesz (by simpa using h4) h5 (hw.rows.row _ _ ⟨row,TT,hhp,hrow⟩) hset ?_ (λb o hh=>.inl (h9 b o hh))
      rw[←hcells]
      exact Wlr h8 (us:=(a.eval y).cells.toList) (by rw[Xau];exact hw) hm (by omega)
     refine⟨.skip,undef,W,G,ν,?_,.inr ⟨rfl,rfl⟩,?_⟩
     ·simp only[execOp,ho,hpe,hesz,Instr.storeAt,Instr.sureAddr,Sem.run_bind,Sem.run_pure,Result.andThen_ok,hrun]
     ·rw[hdst]
      exact hr.on (λ_ _ _ hh=>hh) (λ_ _=>rfl) (Xm _) hnew hr.gx
    ·simp at h
   ·split at h
    ·rename_i hcond
     simp only[Xh,decide_eq_true_eq]at hcond
     obtain⟨⟨⟨hs,hpl⟩,hoff⟩,hdsz⟩:=hcond
     subst hoff
     split at h
     ·rename_i d m hf
      split at h
      ·rename_i hnd
       injection h with h;subst h
       have hnd:(id::m).Nodup:=(Whb _).1 hnd
       obtain⟨hn1,hn2⟩:=Xai.1 hnd
       obtain⟨⟨_,hilt,b,hb,hpe⟩,_⟩:=hx
       obtain⟨φ,hφ⟩:=hr.h
       have hown:OwnL w (TyRel G w e) e.size (ν id) xs (φ id):=hφ.ob _ _ hob
       have hlv:Live st.objs id:=⟨_,hob,by simp⟩
       obtain⟨hxl,hesz,h3⟩:=hown
       simp only[hb]at h3
       obtain⟨h4,h5,hrow0,cs,ps,h7,h8,h9,h10⟩:=h3
       obtain⟨row,TT,hhp,hrow⟩:=hrow0
       have hlt:i<xs.length:=by omega
       have hlen:(a.eval y).cells.toList.length=ds.length:=hds1.1
       have hl':(a.eval y).cells.size=ds.length:=by simpa using hlen
       have hie:i*e.size+e.size≤xs.length*e.size:=by rw[←Xbx];exact Xbg _ hlt
       have hic:xs.length*e.size≤(ν id).cap*e.size:=Xbg _ h4
       obtain⟨c1,c,c2,p1,pc,p2,g1,g2,g3,g4,g5⟩:=EncP_at h7 e.dflt hlt
       have l1:=Wct (λx c q hx=>Wp e x c q hx) _ _ _ g3
       rw[Xan,Xce (by omega)]at l1
       have lc:=Wp _ _ _ _ g4
       obtain⟨ns,t1,t2,t3,t4,_⟩:=Wbg (G':=G) hφ (λ_ _ _ hh=>hh) e ds _ d m [] hds1 (λi hi=>by simp at hi) hn2 hf
       have hrun:=Wln (w:=w) (hT _ _ hl) (b:=b) (off:=(ν id).off+(i*e.size+0)) (v:=a.eval y) hhp (by rw[Wap hpl];omega) (by omega) hds2
       obtain⟨hw,hm⟩:=Whl (k:=(ν id).off+(i*e.size+0)) (news:=(a.eval y).cells.toList) hhp (by omega)
       simp only[Xau]at hw hm
       generalize w.setRow b (row.toList.take ((ν id).off+(i*e.size+0))++(a.eval y).cells.toList++row.toList.drop ((ν id).off+(i*e.size+0)+(a.eval y).cells.size)).toArray=W at hrun hw hm
       have hrle:CS.le (rng b ((ν id).off+(i*e.size+0)) (a.eval y).cells.size) (rng b (ν id).off ((ν id).cap*e.size)):=λb' o ⟨e',k1,k2⟩=>⟨e',by omega,by omega⟩
       have hrφ:=h10 _ (Xi ..)
       have hbl:∀p∈p1++(pc++p2),∀b o,p.fp b o→b<w.heap.size:=λp hp b o hh=>hφ.bl id b o hlv (h10 p.fp (Xe _ (Xal (by rw[g2];exact hp))) b o hh)
       obtain⟨q1,q2⟩:=Xab.1 h9
       have same1:∀p∈p1++(pc++p2),Same p.fp w W:=λp hp=>hw.same ((q1 p.fp (Xal (by rw[g2];exact hp))).mono hrle (λ_ _ hh=>hh)) (hbl p hp)
       have same2:∀p∈ns,Same p.fp w W:=λp hp=>hw.same (λb o k1 k2=>by
        obtain⟨j,hj,k3,k4⟩:=t3 p hp b o k2
        have:=hφ.inj id j b o hlv k3 (hrφ b o (hrle b o k1)) k4
        subst this;exact hn1 hj) (λb o hh=>by
        obtain⟨j,hj,k3,k4⟩:=t3 p hp b o hh
        exact hφ.bl j b o k3 k4)
       have hEnc:EncP (TyRel G W e) (xs.set i d) (c1++((a.eval y).cells.toList++c2)) (p1++(ns++p2)):=by
        refine EncP_put hlt ?_ (Wby (λ_ _ _ hh=>hh) e _ _ _ same2 t1) ?_
        ·exact Wex (Q:=λq=>Same q.fp w W) (λx c q hq hx=>Wby (λ_ _ _ hh=>hh) e x c q hq hx) _ _ _ (λq hq=>same1 q (Xk _ hq)) g3
        ·exact Wex (Q:=λq=>Same q.fp w W) (λx c q hq hx=>Wby (λ_ _ _ hh=>hh) e x c q hq hx) _ _ _ (λq hq=>same1 q (Xg _ (Xg _ hq))) g5
       have hMem:Mem W b (ν id).off (c1++((a.eval y).cells.toList++c2)):=by
        have:=Wlr h8 (k:=i*e.size+0) (us:=(a.eval y).cells.toList) (by rw[Xau];exact hw) hm (by rw[g1];simp;omega)
        rw[g1,Xax,List.take_append_of_le_length (by omega),List.take_of_length_le (by omega)]at this
        have hdrop:(c1++(c++c2)).drop (i*e.size+(a.eval y).cells.toList.length)=c2:=by
         rw[←Xbs,show i*e.size+(a.eval y).cells.toList.length=(c1++c).length by rw[Xz];omega,List.drop_left]
        rw[hdrop,Xbs]at this
        exact this
       have hnew:HRel w0 F G ν ((id,.arr e (xs.set i d))::kill st.objs m) st.nx W:=by
        refine hφ.turn hob (by simp) hw (λb' o hh=>hrφ b' o (hrle b' o hh)) ?_
        refine⟨by simpa using hxl,hesz,?_⟩
        simp only[hb]
        rw[g2,Xp,Xp]at q2 q1
        have qA:=Xag.1 q2
        have qB:=Xag.1 qA.2.1
        have hns:∀p∈ns,∀s,CS.le s (φ id)→CS.disj p.fp s:=λp hp s hs b o k1 k2=>by
         obtain⟨j,hj,k3,k4⟩:=t3 p hp b o k1
         have:=hφ.inj id j b o hlv k3 (hs b o k2) k4
         subst this;exact hn1 hj
        have hps:∀p∈p1++(pc++p2),CS.le p.fp (φ id):=λp hp=>h10 p.fp (Xe _ (Xal (by rw[g2];exact hp)))
        refine⟨by simpa using h4,h5,hw.rows.row _ _ ⟨row,TT,hhp,hrow⟩,_,p1++(ns++p2),hEnc,hMem,Xab.2 ⟨λs hs=>?_,?_⟩,λs hs=>?_⟩
        ·simp only[Xp,Xn]at hs
         rcases hs with hs|hs|hs
         ·exact q1 s (Xk _ hs)
         ·obtain⟨p,hp,rfl⟩:=Xu.1 hs
          exact(hns p hp _ hrφ).symm
         ·exact q1 s (Xg _ (Xg _ hs))
        ·rw[Xp,Xp]
         refine Sep_perm3 (Xag.2 ⟨qA.1,qB.2.1,λs hs t ht=>qA.2.2 s hs t (Xg _ ht)⟩) t2 (λs hs t ht=>?_)
         obtain⟨p,hp,rfl⟩:=Xu.1 hs
         rcases Xn.1 ht with ht|ht
         ·obtain⟨q,hq,rfl⟩:=Xu.1 ht
          exact hns p hp _ (hps q (Xk _ hq))
         ·obtain⟨q,hq,rfl⟩:=Xu.1 ht
          exact hns p hp _ (hps q (Xg _ (Xg _ hq)))
        ·intro b o hh
         rcases Xo.1 hs with rfl|hs
         ·exact .inl (hrφ b o hh)
         ·simp only[Xp,Xn]at hs
          rcases hs with hs|hs|hs
          ·obtain⟨q,hq,rfl⟩:=Xu.1 hs
           exact .inl (hps q (Xk _ hq) b o hh)
          ·obtain⟨q,hq,rfl⟩:=Xu.1 hs
           exact .inr (t3 q hq b o hh)
          ·obtain⟨q,hq,rfl⟩:=Xu.1 hs
           exact .inl (hps q (Xg _ (Xg _ hq)) b o hh)
       refine⟨.skip,undef,W,G,ν,?_,.inr ⟨rfl,rfl⟩,?_⟩
       ·simp only[execOp,ho,hpe,hesz,Instr.storeAt,Instr.sureAddr,Sem.run_bind,Sem.run_pure,Result.andThen_ok,hrun]
       ·rw[hdst]
        exact hr.on (λ_ _ _ hh=>hh) (λ_ _=>rfl) (Xm _) hnew hr.gx
      ·simp at h
     ·simp at h
    ·simp at h
  ·simp at h
 ·simp at h
end
end Go.Sx
namespace Go.Sx
set_option linter.unusedVariables false
set_option linter.unusedSimpArgs false
theorem Enc_one{G:GH}(t:Ty)(d:t.den)(cs:List Value)(h:Enc G t d cs):∀u∈cs,u.oneCell'=true:=λu hu=>by
 obtain⟨j,hj⟩:=Xdw hu
 have hc:=Wcb (ν:=λ_=>⟨none,0,0,0,0⟩) (nx:=0) t d cs h
 have hlt:j<(split t d).length:=by rw[←hc.1];exact(Xq.1 hj).1
 exact(hc.2 j _ u (Xs hlt) hj).2
theorem EncL_one{G:GH}{t:Ty}:∀(l:List t.den) (cs:List Value),EncL (Enc G t) l cs→∀u∈cs,u.oneCell'=true
 | [],cs,h,u,hu=>by simp[EncL]at h;subst h;simp at hu
 |x::l,cs,⟨c1,c2,he,h1,h2⟩,u,hu=>by
  subst he
  rcases Xn.1 hu with hu|hu
  ·exact Enc_one t x c1 h1 u hu
  ·exact EncL_one l c2 h2 u hu
theorem TyRel_one{G:GH}{w:World}(t:Ty)(d:t.den)(cs:List Value)(ps:List Pc)(h:TyRel G w t d cs ps):∀u∈cs,u.oneCell'=true:=λu hu=>by
 obtain⟨j,hj⟩:=Xdw hu
 have hc:=Wsm (ν:=λ_=>⟨none,0,0,0,0⟩) (nx:=0) t d cs ps h
 have hlt:j<(split t d).length:=by rw[←hc.1];exact(Xq.1 hj).1
 exact(hc.2 j _ u (Xs hlt) hj).2
theorem EncP_one'{G:GH}{w:World}{t:Ty}:∀(l:List t.den) (cs:List Value) (ps:List Pc),EncP (TyRel G w t) l cs ps→∀u∈cs,u.oneCell'=true
 | [],cs,ps,h,u,hu=>by rw[h.1]at hu;simp at hu
 |x::l,cs,ps,⟨c1,c2,p1,p2,he,hp,h1,h2⟩,u,hu=>by
  subst he
  rcases Xn.1 hu with hu|hu
  ·exact TyRel_one t x c1 p1 h1 u hu
  ·exact EncP_one' l c2 p2 h2 u hu
section
variable{w0:World}{F:CS}{nt:Slots}{G0 G:GH}{ν:Nat→Nu}{φ:Nat→CS}{objs:Objs}{nx:Nat}{st st':St}{a:Act}{w w':World}{P:Program}{T:Tab}
structure Src(w0:World)(F:CS)(G:GH)(ν:Nat→Nu)(st:St)(w:World)(e:Ty)(l:List e.den)(m:List Nat)(v:Value)(news:List Value):Prop where
 enc:∀φ,HR w0 F G ν φ st.objs st.nx w→∃ps,EncP (TyRel G w e) l news ps∧Sep (ps.map Pc.fp)∧∀p∈ps,CS.le p.fp (FromL φ st.objs m)
 rd:(v= .slice none 0 0∧l= [])∨∃(p:Addr) (c:Nat),v= .slice (some p) l.length c∧∀(j:Nat) (u:Value),news[j]?=some u→w.cell? (p.add j)=some u
theorem Wgv{e:Ty}(he:e.data=true){l:List e.den}{m:List Nat}{v:Value}{news:List Value}(h:EncL (Enc G e) l news)
  (rd:(v= .slice none 0 0∧l= [])∨∃(p:Addr) (c:Nat),v= .slice (some p) l.length c∧∀(j:Nat) (u:Value),news[j]?=some u→w.cell? (p.add j)=some u):Src w0 F G ν st w e l m v news:=
 ⟨λφ _=>⟨[],(EncP_data he l news []).2 ⟨h,rfl⟩,List.Pairwise.nil,by simp⟩,rd⟩
theorem Wtr(hr:Rel w0 F nt G0 G ν st a w){e:Ty}(he:e.data=true){x:AVal}{u:Value}{l:List e.den}(m:List Nat)(hx:AValRel G ν st.nx x u)(h:readL st e x=some l):∃news,Src w0 F G ν st w e l m u news:=by
 unfold readL at h
 split at h
 ·rename_i e' d'
  obtain⟨he',hd⟩:=Wbq h
  subst he'
  simp only at hd
  subst hd
  obtain⟨⟨v,hv,hs⟩,_⟩:=hx
  simp at hv;subst hv
  rcases hs with⟨rfl,hn⟩|⟨b,off,cap,cs,rfl,h1,h2,h3,h4⟩|⟨a',cap,rfl,hn⟩
  rotate_left 2
  ·exact⟨[],Wgv he (by rw[hn];rfl) (.inr ⟨a',cap,by rw[hn];rfl,λj u hj=>by simp at hj⟩)⟩
  ·exact⟨[],Wgv he (by rw[hn];rfl) (.inl ⟨rfl,hn⟩)⟩
  ·exact⟨cs,Wgv he h3 (.inr ⟨⟨b,off,none⟩,cap,rfl,λj u hj=>by rw[Wcu];exact hr.h.g (h4 j u hj)⟩)⟩
 ·injection h with h;subst h
  obtain⟨hv,_⟩:=hx
  simp only[CellRel]at hv;subst hv
  exact⟨[],Wgv he rfl (.inl ⟨rfl,rfl⟩)⟩
 ·rename_i id
  split at h
  ·rename_i e' xs ho
   obtain⟨he',hd⟩:=Wbq h
   subst he'
   simp only at hd
   subst hd
   obtain⟨⟨_,hv⟩,_⟩:=hx
   subst hv
   obtain⟨S,hob⟩:=hr.h.obj ho
   unfold Nu.hdr
   cases hb:(ν id).blk with
   |none=>have:=Wgh hob hb;exact⟨[],Wgv he (by rw[this];rfl) (.inl ⟨rfl,this⟩)⟩
   |some b=>
    obtain⟨h1,h2,h3,h4,cs,h5,h6,h7⟩:=Win he hob hb
    exact⟨cs,Wgv he h5 (.inr ⟨⟨b,(ν id).off,none⟩,(ν id).cap,by rw[h1],λj u hj=>by rw[Wcu];exact h6 j u hj⟩)⟩
  ·simp at h
 ·rename_i id lo hi
  split at h
  ·rename_i e' xs ho
   obtain⟨ys,hc,h⟩:=Xx.1 h
   subst h
   obtain⟨he',hd⟩:=Wbq hc
   subst he'
   simp only at hd
   subst hd
   obtain⟨⟨_,g1,g2,g3,hv⟩,_⟩:=hx
   subst hv
   obtain⟨S,hob⟩:=hr.h.obj ho
   have hesz:=hob.2.1
   have hlen0:=hob.1
   unfold Nu.vhdr
   cases hb:(ν id).blk with
   |none=>
    have:=Wgh hob hb
    subst this
    exact⟨[],Wgv he (by simp;rfl) (.inl ⟨rfl,by simp⟩)⟩
   |some b=>
    obtain⟨h1,h2,h3,h4,cs,h5,h6,h7⟩:=Win he hob hb
    have hl:((xs.take hi).drop lo).length=hi-lo:=by simp;omega
    by_cases hc0:(ν id).cap=lo
    ·have h0:(xs.take hi).drop lo= []:=Xy (by omega)
     exact⟨[],Wgv he (by rw[h0];rfl) (.inr ⟨_,_,by rw[hl],λj u hj=>by simp at hj⟩)⟩
    ·refine⟨(cs.take (hi*e'.size)).drop (lo*e'.size),Wgv he (Wkj (λx c hc=>Enc_len e' x c hc) _ _ lo (Wlb (λx c hc=>Enc_len e' x c hc) _ _ hi h5)) (.inr ⟨_,_,by rw[hl,if_neg hc0],λj u hj=>?_⟩)⟩
     rw[Xbk,Xbl]at hj
     rw[Wcu,hesz,Xap]
     split at hj
     ·exact h6 _ u hj
     ·simp at hj
  ·simp at h
 ·simp at h
theorem new_nil(hr:Rel w0 F nt G0 G ν st a w){dst:Option Tmp}(hd:∀d,dst=some d→nt.Ok d)(e:Ty)(m:List Nat):
  ∃ν',Rel w0 F nt G0 G ν' (({env:=st.env,objs:=(st.nx,.arr e [])::kill st.objs m,nx:=st.nx+1}:St).put dst (.s (.one (.own st.nx)))) (a.put dst (.slice none 0 0)) w:=by
 refine⟨upd ν st.nx ⟨none,0,0,0,e.size⟩,hr.fresh hd m (.arr e []) _ (λ_ _ _=>False) _ _ (λφ _=>WLe.refl _ w) (λφ _ b o hh=>hh.elim) (λφ _=>?_) ⟨⟨Xbu _,by rw[Wdt];rfl⟩,rfl⟩⟩
 show OwnL _ _ _ (upd ν st.nx ⟨none,0,0,0,e.size⟩ st.nx) _ _
 rw[Wdt];exact⟨rfl,rfl,rfl⟩
theorem Wtn(t ty e TT:TypeId)(i:TypeInfo)(ht:P.underlying t=some (.slice e))(hi:P.info? e=some i)
  (g off sLen sCap:Nat) (cur:Array Value) (hg:w.heap[g]?=some (.cells cur TT (0,0)))
  (p:Addr) (m c:Nat) (news:List Value) (hl:news.length=m*i.size) (hnews:∀j u,news[j]?=some u→w.cell? (p.add j)=some u) (h1:∀u∈news,u.oneCell'=true)
  (hroom:sLen+m≤sCap) (hfit:off+sLen*i.size+news.length≤cur.size):
  (Builtin.append_ #[t,t] ty #[.slice (some ⟨g,off,none⟩) sLen sCap,.slice (some p) m c]).run P w=
   .ok (.slice (some ⟨g,off,none⟩) (sLen+m) sCap) (w.setRow g (cur.toList.take (off+sLen*i.size)++news++cur.toList.drop (off+sLen*i.size+news.length)).toArray):=by
 have hf:=run_firstCells_some (P:=P) w i.size m p m c news hl hnews
 have hst:=run_storeCells_at P g (off+sLen*i.size) TT news 0 cur w hg (by simpa using hfit) h1
 simp only[Xax]at hst
 simp[Builtin.append_,Wb ht,sizeOf,typeInfo,hi,Builtin.lenOf,hroom,hf,Wcu,hst]
theorem Wlc(t ty e:TypeId)(i:TypeInfo)(ht:P.underlying t=some (.slice e))(hi:P.info? e=some i)(base:Option Addr)(n cap:Nat)(h:n≤cap):
  (Builtin.append_ #[t,t] ty #[.slice base n cap,.slice none 0 0]).run P w= .ok (.slice base n cap) w:=by
 cases base<;>simp[Builtin.append_,Wb ht,sizeOf,typeInfo,hi,Builtin.lenOf,h,Builtin.firstCells,storeCells]
theorem Wsy(t ty e:TypeId)(i:TypeInfo)(ht:P.underlying t=some (.slice e))(hi:P.info? e=some i)(p:Addr)(c:Nat):
  (Builtin.append_ #[t,t] ty #[.slice none 0 0,.slice (some p) 0 c]).run P w= .ok (.slice none 0 0) w:=by
 simp[Builtin.append_,Wb ht,sizeOf,typeInfo,hi,Builtin.lenOf,Builtin.firstCells,loadCells,loadCellsFrom]
theorem Wfj{o:Oper}{c:Call}(ho:o.op= .call c){s x:Operand}{t:TypeId}(hc:c.callee= .builtin .append)(ha:c.args.toList= [s,x])(hat:c.argTypes.toList= [t,t]){v:Value}
  (hrun:(Builtin.append_ #[t,t] o.type #[a.eval s,a.eval x]).run P w= .ok v w'):(execOp a.eval o).run P w= .ok (.value v) w':=by
 obtain⟨callee,args,argTypes⟩:=c
 obtain⟨args⟩:=args
 obtain⟨argTypes⟩:=argTypes
 simp only at hc ha hat
 subst hc ha hat
 simp only[execOp,ho,resolve,invoke,builtin,Sem.run_bind,Sem.run_pure,Result.andThen_ok,Xdx,Xaj,Xch,hrun]
theorem cap_ok(w:World)(need old:Nat)(e:TypeId)(h:room need=true):need≤grownCap w need old e∧grownCap w need old e≤maxLen:=
 ⟨grownCap_ge w need old e,grownCap_le_maxLen w need old e (by simp[room]at h;unfold maxLen;omega)⟩
theorem Wwl(hr:Rel w0 F nt G0 G ν st a w){dst:Option Tmp}(hd:∀d,dst=some d→nt.Ok d)(m:List Nat){e:Ty}{xs:List e.den}{cs:List Value}(hl:cs.length=xs.length*e.size)
  (hc:∀φ,HR w0 F G ν φ st.objs st.nx w→∃ps,EncP (TyRel G w e) xs cs ps∧Sep (ps.map Pc.fp)∧∀p∈ps,CS.le p.fp (FromL φ st.objs m)) {cap:Nat} (hcap:xs.length≤cap) (hcm:cap≤maxLen) (z:Array Value) (hz:z.size=e.size) (t:TypeId):
  ∃ν',Rel w0 F nt G0 G ν' (({env:=st.env,objs:=(st.nx,.arr e xs)::kill st.objs m,nx:=st.nx+1}:St).put dst (.s (.one (.own st.nx)))) (a.put dst (.slice (some ⟨w.heap.size,0,none⟩) xs.length cap)) (w.drew.alloc (.cells (cs.toArray++Builtin.zeroCells z (cap-xs.length)) t)):=by
 refine(Wsg hr hd m (e:=e) (xs:=xs) (cap:=cap) (cs:=cs) (vs:=cs.toArray++Builtin.zeroCells z (cap-xs.length)) (t:=t) hcap hcm ?_ hc ?_ w.drew rfl rfl rfl rfl).1
 ·simp only[Array.size_append,List.size_toArray,size_zeroCells,hz,hl,←Xcv]
  congr 1;omega
 ·simp
structure ElT(P:Program)(t et:TypeId)(e:Ty):Prop where
 u:P.underlying t=some (.slice et)
 i:∃i z,P.info? et=some i∧i.size=e.size∧i.zero=some z∧z.cells.size=e.size∧i.bytes≤4096
theorem elT(hT:Wbj P T){t et:TypeId}{ty:Ty}{ag:Bool}{te:TE}{e:Ty}(hl:look T t=some ⟨ty,ag,.slice et⟩)(hle:look T et=some te)(hp:te.plain=true)(he:te.ty.size=e.size):ElT P t et e:=by
 obtain⟨i,z,hi,hsz,hz,hzc,hby⟩:=(hT _ _ hle).info
 rw[Wap hp]at hsz
 rw[Wee hp]at hzc
 exact⟨(hT _ _ hl).und.2.1,i,z,hi,by rw[hsz,he],hz,by rw[←Xau,hzc,Wdy,he],hby⟩
theorem Web(hr:Rel w0 F nt G0 G ν st a w){o:Oper}(hd:∀d,o.dst=some d→nt.Ok d){c:Call}{s x:Operand}{t et:TypeId}{e:Ty}(hE:ElT P t et e)
  (ho:o.op= .call c) (hc:c.callee= .builtin .append) (ha:c.args.toList= [s,x]) (hat:c.argTypes.toList= [t,t]) (hsv:a.eval s= .slice none 0 0)
  {l:List e.den} {m m':List Nat} {news:List Value} (hx:Src w0 F G ν st w e l m (a.eval x) news) (hm:∀i∈m,i∈m') (hroom:room l.length=true):
  Done P w0 F nt G0 o a w (({env:=st.env,objs:=(st.nx,.arr e l)::kill st.objs m',nx:=st.nx+1}:St).put o.dst (.s (.one (.own st.nx)))):=by
 obtain⟨hu,i,z,hi,hsz,hz,hzs,hby⟩:=hE
 have hrm:l.length≤1073741824:=by simpa [room]using hroom
 have hpos:=Wec e
 rcases hx.rd with⟨hxe,hnil⟩|⟨pa,cc,hxe,hcell⟩
 ·subst hnil
  obtain⟨ν',hh⟩:=new_nil hr hd e m'
  exact⟨_,_,_,G,ν',Wfj ho hc ha hat (by rw[hsv,hxe];exact Wlc t _ et i hu hi none 0 0 (Xm _)),.inl rfl,hh⟩
 ·by_cases h0:l.length=0
  ·have hnil:l= []:=Xy h0
   subst hnil
   obtain⟨ν',hh⟩:=new_nil hr hd e m'
   exact⟨_,_,_,G,ν',Wfj ho hc ha hat (by rw[hsv,hxe];exact Wsy t _ et i hu hi _ _),.inl rfl,hh⟩
  ·obtain⟨φ,hφ⟩:=hr.h
   obtain⟨ps0,e0,_⟩:=hx.enc φ hφ
   have hnl:news.length=l.length*e.size:=Wct (λx c q hx=>Wp e x c q hx) _ _ _ e0
   obtain⟨hc1,hc2⟩:=cap_ok w l.length 0 et hroom
   obtain⟨ν',hh⟩:=Wwl hr hd m' hnl (λφ hφ=>by
    obtain⟨ps,k1,k2,k3⟩:=hx.enc φ hφ
    exact⟨ps,k1,k2,λp hp b o hh=>FromL.mono hm b o (k3 p hp b o hh)⟩) hc1 hc2 z.cells hzs et
   have hb4:l.length*i.bytes≤281474976710656:=by
    have:=Nat.mul_le_mul hrm hby
    omega
   refine⟨_,_,_,G,ν',Wfj ho hc ha hat ?_,.inl rfl,hh⟩
   rw[hsv,hxe]
   exact run_append_nil (P:=P) w t _ et i z hu hi hz pa l.length cc news (by rw[hsz];exact hnl) (λj v hj=>hcell j v hj) (by omega) (by omega) hb4
theorem Wir{e:Ty}{nu:Nu}{xs:List e.den}{S:CS}{b k:Nat}(h:OwnL w (TyRel G w e) e.size nu xs S)(hb:nu.blk=some b)(hk:k≤xs.length):
  ∃c1 p1,EncP (TyRel G w e) (xs.take k) c1 p1∧c1.length=k*e.size∧Mem w b nu.off c1∧Sep (rng b nu.off (nu.cap*e.size)::p1.map Pc.fp)∧(∀s∈rng b nu.off (nu.cap*e.size)::p1.map Pc.fp,CS.le s S):=by
 obtain⟨h1,h2,h3⟩:=h
 simp only[hb]at h3
 obtain⟨h4,h5,h6,cs,ps,h7,h8,h9,h10⟩:=h3
 obtain⟨c1,c2,p1,p2,g1,g2,g3,g4⟩:=Wle xs cs ps k h7
 have hl:=Wct (λx c q hx=>Wp e x c q hx) _ _ _ g3
 rw[Xan,Xce hk]at hl
 obtain⟨q1,q2⟩:=Xab.1 h9
 rw[g2,Xp]at q1 q2 h10
 refine⟨c1,p1,g3,hl,by rw[g1]at h8;exact h8.left,Xab.2 ⟨λs hs=>q1 s (Xk _ hs),(Xag.1 q2).1⟩,λs hs=>?_⟩
 rcases Xo.1 hs with rfl|hs
 ·exact h10 _ (Xi ..)
 ·exact h10 s (Xe _ (Xk _ hs))
theorem Whz(hr:Rel w0 F nt G0 G ν st a w){o:Oper}(hd:∀d,o.dst=some d→nt.Ok d){c:Call}{s x:Operand}{t et:TypeId}{e:Ty}(hE:ElT P t et e)
  (ho:o.op= .call c) (hc:c.callee= .builtin .append) (ha:c.args.toList= [s,x]) (hat:c.argTypes.toList= [t,t])
  {id g k:Nat} {xs:List e.den} (hob:look st.objs id=some (.arr e xs)) (hblk:(ν id).blk=some g) (hk:k≤xs.length) (hsv:a.eval s= .slice (some ⟨g,(ν id).off,none⟩) k (ν id).cap)
  {l:List e.den} {m:List Nat} {news:List Value} (hx:Src w0 F G ν st w e l m (a.eval x) news) (hm:id∉m) (hroom:room (k+l.length)=true):
  Done P w0 F nt G0 o a w (({env:=st.env,objs:=(st.nx,.arr e (Xf (xs.take k) l))::kill st.objs (id::m),nx:=st.nx+1}:St).put o.dst (.s (.one (.own st.nx)))):=by
 obtain⟨hu,i,z,hi,hsz,hz,hzs,hby⟩:=hE
 have hrm:k+l.length≤1073741824:=by simpa [room]using hroom
 have hpos:=Wec e
 have hlen:(Xf (xs.take k) l).length=k+l.length:=by show(xs.take k++l).length=_;rw[Xz,Xan,Xce hk]
 obtain⟨φ0,hφ0⟩:=hr.h
 have hown0:OwnL w (TyRel G w e) e.size (ν id) xs (φ0 id):=hφ0.ob _ _ hob
 have hcap0:=hown0.2.2
 simp only[hblk]at hcap0
 obtain⟨hxc,hcm,⟨row,TT,hhp,hrow⟩,_⟩:=hcap0
 obtain⟨c1,p10,_,hc1l,hc1m,_,_⟩:=Wir hown0 hblk hk
 obtain⟨ps0,e0,_⟩:=hx.enc φ0 hφ0
 have hnl:news.length=l.length*e.size:=Wct (λx c q hx=>Wp e x c q hx) _ _ _ e0
 have hlv:Live st.objs id:=⟨_,hob,by simp⟩
 have huniq:∀{c2:List Value},c2.length=k*e.size→Mem w g (ν id).off c2→c2=c1:=λ{c2} h1 h2=>Xfk λj=>by
  by_cases hj:j<k*e.size
  ·have hja:j<c2.length:=by omega
   have hjb:j<c1.length:=by omega
   have a1:=h2 j _ (Xs hja)
   have a2:=hc1m j _ (Xs hjb)
   rw[a1]at a2
   rw[Xs hja,Xs hjb];exact a2
  ·rw[Xbj (by omega),Xbj (by omega)]
 have inplace:∀(W:World),WLe (rng g ((ν id).off+k*e.size) (l.length*e.size)) w W→Mem W g ((ν id).off+k*e.size) news→k+l.length≤(ν id).cap→
   ∃ν',Rel w0 F nt G0 G ν' (({env:=st.env,objs:=(st.nx,.arr e (Xf (xs.take k) l))::kill st.objs (id::m),nx:=st.nx+1}:St).put o.dst (.s (.one (.own st.nx)))) (a.put o.dst (.slice (some ⟨g,(ν id).off,none⟩) (k+l.length) (ν id).cap)) W:=by
  intro W hW hM hfit
  have hmul:(k+l.length)*e.size≤(ν id).cap*e.size:=Xbg _ hfit
  rw[Xcv]at hmul
  have hrle:CS.le (rng g ((ν id).off+k*e.size) (l.length*e.size)) (rng g (ν id).off ((ν id).cap*e.size)):=λb o ⟨k0,k1,k2⟩=>⟨k0,by omega,by omega⟩
  refine⟨upd ν st.nx ⟨some g,(ν id).off,k+l.length,(ν id).cap,e.size⟩,hr.fresh hd (id::m) (.arr e (Xf (xs.take k) l)) _ (λφ b o=>φ id b o∨FromL φ st.objs m b o) _ _ (λφ hφ=>?_) (λφ hφ b o hh=>?_) (λφ hφ=>?_) ⟨⟨Xbu _,by rw[Wdt];rfl⟩,rfl⟩⟩
  ·have hown:OwnL w (TyRel G w e) e.size (ν id) xs (φ id):=hφ.ob _ _ hob
   obtain⟨_,_,_,_,_,_,hle⟩:=Wir hown hblk hk
   exact hW.mono λb o hh=>⟨id,.inr (Xi ..),hlv,hle _ (Xi ..) b o (hrle b o hh)⟩
  ·rcases hh with hh|⟨j,hj,h1,h2⟩
   ·exact .inl ⟨id,.inr (Xi ..),hlv,hh⟩
   ·exact .inl ⟨j,.inr (Xe _ hj),h1,h2⟩
  ·have hown:OwnL w (TyRel G w e) e.size (ν id) xs (φ id):=hφ.ob _ _ hob
   obtain⟨c1',p1,g3,g4,g5,g6,g7⟩:=Wir hown hblk hk
   obtain⟨ps,k1,k2,k3⟩:=hx.enc φ hφ
   obtain⟨q1,q2⟩:=Xab.1 g6
   have hrφ:=g7 _ (Xi ..)
   have hpφ:∀p∈p1,CS.le p.fp (φ id):=λp hp=>g7 _ (Xe _ (Xal hp))
   have hdisj:∀p∈ps,∀S,CS.le S (φ id)→CS.disj S p.fp:=λp hp S hS b o h1 h2=>by
    obtain⟨j,hj,h3,h4⟩:=k3 p hp b o h2
    have:=hφ.inj id j b o hlv h3 (hS b o h1) h4
    subst this;exact hm hj
   have same1:∀p∈p1,Same p.fp w W:=λp hp=>hW.same ((q1 p.fp (Xal hp)).mono hrle (λ_ _ hh=>hh)) (λb o hh=>hφ.bl id b o hlv (hpφ p hp b o hh))
   have same2:∀p∈ps,Same p.fp w W:=λp hp=>hW.same (hdisj p hp _ (λb o hh=>hrφ b o (hrle b o hh))) (λb o hh=>by
    obtain⟨j,hj,h3,h4⟩:=k3 p hp b o hh
    exact hφ.bl j b o h3 h4)
   show OwnL W (TyRel G W e) e.size (upd ν st.nx ⟨some g,(ν id).off,k+l.length,(ν id).cap,e.size⟩ st.nx) _ _
   rw[Wdt]
   refine⟨hlen,rfl,by rw[hlen];exact hfit,hcm,hW.rows.row _ _ ⟨row,TT,hhp,hrow⟩,c1'++news,p1++ps,Wjt _ _ _ _ _ _ ?_ ?_,?_,Xab.2 ⟨λs hs=>?_,?_⟩,λs hs b o hh=>?_⟩
   ·exact Wex (Q:=λq=>Same q.fp w W) (λx c q hq hx=>Wby (λ_ _ _ hh=>hh) e x c q hq hx) _ _ _ same1 g3
   ·exact Wex (Q:=λq=>Same q.fp w W) (λx c q hq hx=>Wby (λ_ _ _ hh=>hh) e x c q hq hx) _ _ _ same2 k1
   ·refine Mem.app (n:=k*e.size) (λj v hj=>?_) hM g4
    have h1:=g5 j v hj
    have hj':j<c1'.length:=(Xq.1 hj).1
    rw[hW.cell g ((ν id).off+j) (block_lt_of_cell h1) (λ⟨_,h2,_⟩=>by omega)]
    exact h1
   ·rw[Xp]at hs
    rcases Xn.1 hs with hs|hs
    ·exact q1 s hs
    ·obtain⟨p,hp,rfl⟩:=Xu.1 hs
     exact hdisj p hp _ hrφ
   ·rw[Xp]
    refine Xag.2 ⟨q2,k2,λs hs t ht=>?_⟩
    obtain⟨p,hp,rfl⟩:=Xu.1 hs
    obtain⟨q,hq,rfl⟩:=Xu.1 ht
    exact hdisj q hq _ (hpφ p hp)
   ·rcases Xo.1 hs with rfl|hs
    ·exact .inl (hrφ b o hh)
    ·rw[Xp]at hs
     rcases Xn.1 hs with hs|hs
     ·obtain⟨p,hp,rfl⟩:=Xu.1 hs
      exact .inl (hpφ p hp b o hh)
     ·obtain⟨q,hq,rfl⟩:=Xu.1 hs
      exact .inr (k3 q hq b o hh)
 rcases hx.rd with⟨hxe,hnil⟩|⟨pa,cc,hxe,hcell⟩
 ·have hl0:l.length=0:=by rw[hnil];rfl
  have hn0:news= []:=Xy (by rw[hnl,hl0];simp)
  obtain⟨ν',hh⟩:=inplace w (WLe.refl _ w) (by rw[hn0];exactλj v hj=>by simp at hj) (by omega)
  refine⟨_,_,_,G,ν',Wfj ho hc ha hat ?_,.inl rfl,hh⟩
  rw[hsv,hxe,Wlc t _ et i hu hi _ _ _ (by omega),hl0];rfl
 ·by_cases hfit:k+l.length≤(ν id).cap
  ·have hle1:(k+l.length)*e.size≤(ν id).cap*e.size:=Xbg _ hfit
   rw[Xcv]at hle1
   have hrun:=Wtn (P:=P) (w:=w) t o.type et TT i hu hi g (ν id).off k (ν id).cap row hhp pa l.length cc news (by rw[hsz];exact hnl) (λj v hj=>hcell j v hj) (EncP_one' _ _ _ e0) hfit (by rw[hsz,hnl];omega)
   obtain⟨hw,hmm⟩:=Whl (k:=(ν id).off+k*i.size) (news:=news) hhp (by rw[hsz,hnl];omega)
   generalize w.setRow g (row.toList.take ((ν id).off+k*i.size)++news++row.toList.drop ((ν id).off+k*i.size+news.length)).toArray=W at hrun hw hmm
   rw[hsz]at hw hmm
   rw[hnl]at hw
   obtain⟨ν',hh⟩:=inplace W hw hmm hfit
   exact⟨_,_,_,G,ν',Wfj ho hc ha hat (by rw[hsv,hxe,hrun]),.inl rfl,hh⟩
  ·obtain⟨hc1,hc2⟩:=cap_ok w (k+l.length) (ν id).cap et hroom
   have hcl:(c1++news).length=(Xf (xs.take k) l).length*e.size:=by rw[Xz,hc1l,hnl,hlen,Xcv]
   obtain⟨ν',hh⟩:=Wwl hr hd (id::m) (xs:=Xf (xs.take k) l) hcl (λφ hφ=>by
    have hown:OwnL w (TyRel G w e) e.size (ν id) xs (φ id):=hφ.ob _ _ hob
    obtain⟨c1',p1,g3,g4,g5,g6,g7⟩:=Wir hown hblk hk
    obtain⟨ps,k1,k2,k3⟩:=hx.enc φ hφ
    have:=huniq g4 g5
    subst this
    obtain⟨q1,q2⟩:=Xab.1 g6
    have hpφ:∀p∈p1,CS.le p.fp (φ id):=λp hp=>g7 _ (Xe _ (Xal hp))
    refine⟨p1++ps,Wjt _ _ _ _ _ _ g3 k1,?_,λp hp b o hh=>?_⟩
    ·rw[Xp]
     refine Xag.2 ⟨q2,k2,λs hs t ht=>?_⟩
     obtain⟨p,hp,rfl⟩:=Xu.1 hs
     obtain⟨q,hq,rfl⟩:=Xu.1 ht
     intro b o h1 h2
     obtain⟨j,hj,h3,h4⟩:=k3 q hq b o h2
     have:=hφ.inj id j b o hlv h3 (hpφ p hp b o h1) h4
     subst this;exact hm hj
    ·rcases Xn.1 hp with hp|hp
     ·exact⟨id,Xi ..,hlv,hpφ p hp b o hh⟩
     ·exact FromL.mono (λi hi=>Xe _ hi) b o (k3 p hp b o hh)) (by rw[hlen];exact hc1) hc2 z.cells hzs et
   have hb4:(k+l.length)*i.bytes≤140737488355328:=by
    have:=Nat.mul_le_mul hrm hby
    omega
   have hrun:=run_append_grow (P:=P) w t o.type et i z hu hi hz ⟨g,(ν id).off,none⟩ k (ν id).cap c1 (by rw[hsz];exact hc1l) (λj v hj=>by rw[Wcu];exact hc1m j v hj) pa l.length cc news (by rw[hsz];exact hnl) (λj v hj=>hcell j v hj) (by omega) (by omega) (growslice_fits (by omega) hb4)
   refine⟨_,_,_,G,ν',Wfj ho hc ha hat ?_,.inl rfl,hh⟩
   rw[hsv,hxe,hrun,hlen]
   simp
theorem Wyf{id:Nat}{e:Ty}{xs:List e.den}(hh:HRel w0 F G ν objs nx w)(hob:look objs id=some (.arr e xs)):
  ((ν id).blk=none∧xs= []∧(ν id).hdr= .slice none 0 0)∨∃g,(ν id).blk=some g∧(ν id).hdr= .slice (some ⟨g,(ν id).off,none⟩) xs.length (ν id).cap:=by
 obtain⟨S,ho⟩:=hh.obj hob
 unfold Nu.hdr
 cases hb:(ν id).blk with
 |none=>exact .inl ⟨rfl,Wgh ho hb,rfl⟩
 |some g=>exact .inr ⟨g,rfl,by rw[ho.1]⟩
theorem appendN_done(hT:Wbj P T)(hr:Rel w0 F nt G0 G ν st a w){o:Oper}(hd:∀d,o.dst=some d→nt.Ok d){c:Call}{s x:Operand}{t et:TypeId}{ty:Ty}{te:TE}{sv xv:AVal}{R:Type}{k:St→Option R}{r:R}
  (hl:look T t=some ⟨ty,false,.slice et⟩) (hle:look T et=some te) (hp:te.plain=true)
  (ho:o.op= .call c) (hc:c.callee= .builtin .append) (ha:c.args.toList= [s,x]) (hat:c.argTypes.toList= [t,t]) (hs:ev st s=some sv) (hx:ev st x=some xv)
  (h:Wkx st te.ty sv xv (λx objs nx=>k (({env:=st.env,objs:=objs,nx:=nx}:St).put o.dst x))=some r):∃st',k st'=some r∧Done P w0 F nt G0 o a w st':=by
 have move:∀(e:Ty) (l:List e.den) (m:List Nat),moveL st e xv=some (l,m)→∃news,Src w0 F G ν st w e l m (a.eval x) news:=λe l m hmv=>by
  unfold moveL at hmv
  split at hmv
  ·simp only[Option.some.injEq,Prod.mk.injEq]at hmv
   obtain⟨rfl,rfl⟩:=hmv
   obtain⟨hv,_⟩:=Wab hr x _ hx
   exact⟨[],λφ _=>⟨[],⟨rfl,rfl⟩,List.Pairwise.nil,by simp⟩,.inl ⟨hv,rfl⟩⟩
  ·rename_i id
   split at hmv
   ·rename_i e' xs hob
    obtain⟨ys,hcast,hmv⟩:=Xx.1 hmv
    have h2:=Prod.mk.inj hmv
    obtain⟨h3,h4⟩:=h2
    subst h3 h4
    obtain⟨he',hdd⟩:=Wbq hcast
    subst he'
    simp only at hdd;subst hdd
    obtain⟨⟨_,hv⟩,_⟩:=Wab hr x _ hx
    have hlv:Live st.objs id:=⟨_,hob,by simp⟩
    rcases Wyf hr.h hob with⟨hb,hnil,hh⟩|⟨g,hb,hh⟩
    ·subst hnil
     exact⟨[],λφ _=>⟨[],⟨rfl,rfl⟩,List.Pairwise.nil,by simp⟩,.inl ⟨by rw[hv,hh],rfl⟩⟩
    ·obtain⟨φ0,hφ0⟩:=hr.h
     have hown0:OwnL w (TyRel G w e') e'.size (ν id) xs (φ0 id):=hφ0.ob _ _ hob
     obtain⟨c1,p1,g1,g2,g3,g4,g5⟩:=Wir hown0 hb (Xm _)
     refine⟨c1,λφ hφ=>?_,.inr ⟨⟨g,(ν id).off,none⟩,(ν id).cap,by rw[hv,hh],λj u hj=>by rw[Wcu];exact g3 j u hj⟩⟩
     have hown:OwnL w (TyRel G w e') e'.size (ν id) xs (φ id):=hφ.ob _ _ hob
     obtain⟨c1',p1',k1,k2,k3,k4,k5⟩:=Wir hown hb (Xm _)
     have:c1'=c1:=Xfk λj=>by
      by_cases hj:j<xs.length*e'.size
      ·have hja:j<c1'.length:=by omega
       have hjb:j<c1.length:=by omega
       have a1:=k3 j _ (Xs hja)
       have a2:=g3 j _ (Xs hjb)
       rw[a1]at a2
       rw[Xs hja,Xs hjb];exact a2
      ·rw[Xbj (by omega),Xbj (by omega)]
     subst this
     rw[Xem]at k1
     exact⟨p1',k1,(Xab.1 k4).2,λp hp b o hh=>⟨id,Xac.2 rfl,hlv,k5 _ (Xe _ (Xal hp)) b o hh⟩⟩
   ·simp at hmv
  ·simp at hmv
 unfold Wkx at h
 split at h
 ·split at h
  ·rename_i e hel
   split at h
   ·rename_i he
    split at h
    ·rename_i l m hmv
     obtain⟨news,hsrc⟩:=move e l m hmv
     cases hroom:room l.length with
     |false=>simp[hroom]at h
     |true=>
      simp[hroom]at h
      obtain⟨hsv,_⟩:=Wab hr s _ hs
      exact⟨_,h,Web hr hd (elT hT hl hle hp (by rw[←he,Wef])) ho hc ha hat hsv hsrc (λi hi=>hi) hroom⟩
    ·simp at h
   ·simp at h
  ·simp at h
 ·rename_i id
  split at h
  ·rename_i e xs hob
   split at h
   ·rename_i he
    split at h
    ·rename_i l m hmv
     obtain⟨news,hsrc⟩:=move e l m hmv
     split at h
     ·rename_i hnd
      have hnd:=(Xai.1 ((Whb _).1 hnd)).1
      cases hroom:room (xs.length+l.length)with
      |false=>simp[hroom]at h
      |true=>
       simp[hroom]at h
       refine⟨_,h,?_⟩
       have hE:ElT P t et e:=elT hT hl hle hp (by rw[←he,Wef])
       obtain⟨⟨_,hsv⟩,_⟩:=Wab hr s _ hs
       rcases Wyf hr.h hob with⟨hb,hnil,hh⟩|⟨g,hb,hh⟩
       ·subst hnil
        exact Web hr hd hE ho hc ha hat (by rw[hsv,hh]) hsrc (λi hi=>Xe _ hi) (by simpa [room]using hroom)
       ·have:=Whz hr hd hE ho hc ha hat hob hb (Xm _) (by rw[hsv,hh]) hsrc hnd hroom
        rw[Xem]at this
        exact this
     ·simp at h
    ·simp at h
   ·simp at h
  ·simp at h
 ·simp at h
theorem append_done(hT:Wbj P T)(hr:Rel w0 F nt G0 G ν st a w){o:Oper}(hd:∀d,o.dst=some d→nt.Ok d){c:Call}{s x:Operand}{t t2:TypeId}{sv xv:AVal}{R:Type}{k:St→Option R}{r:R}
  (ho:o.op= .call c) (hc:c.callee= .builtin .append) (ha:c.args.toList= [s,x]) (hat:c.argTypes.toList= [t,t2]) (hs:ev st s=some sv) (hx:ev st x=some xv)
  (h:Wix T st t t2 sv xv (λx objs nx=>k (({env:=st.env,objs:=objs,nx:=nx}:St).put o.dst x))=some r):∃st',k st'=some r∧Done P w0 F nt G0 o a w st':=by
 unfold Wix at h
 split at h
 ·rename_i ty et _ hl _
  split at h
  ·rename_i te hle
   split at h
   ·rename_i hcond
    obtain⟨rfl,hp,hdata⟩:=hcond
    have hE:ElT P t et te.ty:=elT hT hl hle hp rfl
    cases hfl:flatS st sv xv with
    |false=>
     simp only[hfl,Bool.not_false,cond_true]at h
     exact appendN_done hT hr hd hl hle hp ho hc ha hat hs hx h
    |true=>
    simp only[hfl,Bool.not_true,cond_false]at h
    split at h
    ·rename_i l hl'
     cases hroom:room l.length with
     |false=>simp[hroom]at h
     |true=>
      simp[hroom]at h
      obtain⟨hsv,_⟩:=Wab hr s _ hs
      obtain⟨news,hsrc⟩:=Wtr hr hdata [] (Wab hr x _ hx) hl'
      exact⟨_,h,Web (m':=[]) hr hd hE ho hc ha hat hsv hsrc (λi hi=>hi) hroom⟩
    ·rename_i id l hl'
     split at h
     ·rename_i e0 xs hob
      split at h
      ·rename_i ys hcast
       obtain⟨he,hy⟩:=Wnp hcast
       injection he with he;subst he
       simp only at hy;subst hy
       cases hroom:room (Xa xs+l.length)with
       |false=>simp[hroom]at h
       |true=>
        simp[hroom]at h
        refine⟨_,h,?_⟩
        obtain⟨⟨_,hsv⟩,_⟩:=Wab hr s _ hs
        obtain⟨news,hsrc⟩:=Wtr hr hdata [] (Wab hr x _ hx) hl'
        rcases Wyf hr.h hob with⟨hb,hnil,hh⟩|⟨g,hb,hh⟩
        ·subst hnil
         exact Web (m':=[id]) hr hd hE ho hc ha hat (by rw[hsv,hh]) hsrc (λi hi=>by simp at hi) (by simpa [room]using hroom)
        ·have:=Whz hr hd hE ho hc ha hat hob hb (Xm _) (by rw[hsv,hh]) hsrc (by simp) hroom
         rw[Xem]at this
         exact this
      ·simp at h
     ·simp at h
    ·rename_i id hi l hl'
     split at h
     ·rename_i e0 xs hob
      split at h
      ·rename_i ys hcast
       obtain⟨he,hy⟩:=Wnp hcast
       injection he with he;subst he
       simp only at hy;subst hy
       cases hroom:room (hi+l.length)with
       |false=>simp[hroom]at h
       |true=>
        simp[hroom]at h
        refine⟨_,h,?_⟩
        obtain⟨⟨_,g1,g2,g3,hsv⟩,_⟩:=Wab hr s _ hs
        obtain⟨news,hsrc⟩:=Wtr hr hdata [] (Wab hr x _ hx) hl'
        obtain⟨S,hown⟩:=hr.h.obj hob
        unfold Nu.vhdr at hsv
        cases hb:(ν id).blk with
        |none=>
         have hnil:=Wgh hown hb
         simp only[hb]at hsv
         have h0:=g3 hb
         subst h0
         show Done P w0 F nt G0 o a w (({env:=st.env,objs:=(st.nx,.arr te.ty l)::(id,.dead)::st.objs,nx:=st.nx+1}:St).put o.dst (.s (.one (.own st.nx))))
         exact Web (m':=[id]) hr hd hE ho hc ha hat hsv hsrc (λi hi=>by simp at hi) (by simpa [room]using hroom)
        |some g=>
         simp only[hb,Nat.sub_zero,Xes,Xax,ite_self]at hsv
         exact Whz hr hd hE ho hc ha hat hob hb (by rw[hown.1];exact g2) hsv hsrc (by simp) hroom
      ·simp at h
     ·simp at h
    ·simp at h
   ·simp at h
  ·simp at h
 ·simp at h
end
end Go.Sx
namespace Go.Sx
set_option linter.unusedVariables false
set_option linter.unusedSimpArgs false
section
variable{w0:World}{F:CS}{nt:Slots}{G0 G:GH}{ν:Nat→Nu}{φ:Nat→CS}{objs:Objs}{nx:Nat}{st st':St}{a:Act}{w w':World}{P:Program}{T:Tab}
theorem Wti{t et:TypeId}{te:TE}{nu:Nu}{n:Nat}{lo hi:Option Int}{vl vh:Option Value}(hu:P.underlying t=some (.slice et))(hte:TEok P T et te)(hp:te.plain=true)(hesz:nu.esz=te.ty.size)
  (hc:n≤nu.cap) (hn:n=nu.len) (hblk:nu.blk=none→n=0) (hl:BRel lo vl) (hh:BRel hi vh) (hb:(bnds n lo hi).1=true):
  (Instr.sliceAt t nu.hdr vl vh none).run P w= .ok (nu.vhdr (bnds n lo hi).2.1 (bnds n lo hi).2.2) w∧(bnds n lo hi).2.1≤(bnds n lo hi).2.2∧(bnds n lo hi).2.2≤n:=by
 unfold Nu.hdr Nu.vhdr
 cases hk:nu.blk with
 |none=>
  have h0:=hblk hk
  subst h0
  obtain⟨hr,h3,h4⟩:=Wgw (P:=P) (w:=w) (isSlice:=true) (cap:=0) hl hh (Xm _) hb
  have e1:(bnds 0 lo hi).2.2=0:=by omega
  have e2:(bnds 0 lo hi).2.1=0:=by omega
  rw[e1,e2]at hr⊢
  refine⟨?_,Xm _,Xm _⟩
  simp[Instr.sliceAt,Instr.slice,Wb hu,hr,hte.sizeOf]
 |some b=>
  obtain⟨hr,h7,h8⟩:=Wgw (P:=P) (w:=w) (isSlice:=true) (cap:=nu.cap) hl hh hc hb
  refine⟨?_,h7,h8⟩
  rw[←hn]
  generalize (bnds n lo hi).2.1=p at*
  generalize (bnds n lo hi).2.2=q at*
  have hsz:te.size=nu.esz:=by rw[Wap hp,hesz]
  simp only[Instr.sliceAt,Instr.slice,Sem.run_bind,Wb hu,Result.andThen_ok,hr,hte.sizeOf,Sem.run_pure,hsz,Xcf,Wcu]
  split<;>rfl
theorem own_cap{id:Nat}{e:Ty}{xs:List e.den}{S:CS}(h:Wgn G ν nx w id S (.arr e xs)):((ν id).blk=none→xs.length=0)∧((ν id).blk≠none→xs.length≤(ν id).cap):=by
 refine⟨λhb=>by rw[Wgh h hb];rfl,λhb=>?_⟩
 obtain⟨_,_,h3⟩:=h
 cases hk:(ν id).blk with
 |none=>exact absurd hk hb
 |some b=>simp only[hk]at h3;exact h3.1
theorem slice_own{t et:TypeId}{te:TE}{id:Nat}{e:Ty}{xs:List e.den}{S:CS}(ho:Wgn G ν nx w id S (.arr e xs)){lo hi:Option Int}{vl vh:Option Value}(hu:P.underlying t=some (.slice et))(hte:TEok P T et te)(hp:te.plain=true)(he:te.ty.size=e.size)
  (hl:BRel lo vl) (hh:BRel hi vh) (hb:(bnds xs.length lo hi).1=true):
  (Instr.sliceAt t (ν id).hdr vl vh none).run P w= .ok ((ν id).vhdr (bnds xs.length lo hi).2.1 (bnds xs.length lo hi).2.2) w∧(bnds xs.length lo hi).2.1≤(bnds xs.length lo hi).2.2∧(bnds xs.length lo hi).2.2≤xs.length:=by
 obtain⟨h1,h2⟩:=own_cap ho
 have hlen:=ho.1
 have hesz:=ho.2.1
 cases hk:(ν id).blk with
 |some b=>exact Wti hu hte hp (by rw[hesz,he]) (h2 (by rw[hk];simp)) hlen (λh=>by rw[hk]at h;cases h) hl hh hb
 |none=>
  have h0:=h1 hk
  have hnil:xs= []:=Xy h0
  have e0:(ν id).hdr=(⟨none,(ν id).off,(ν id).len,0,(ν id).esz⟩:Nu).hdr:=by unfold Nu.hdr;simp only[hk]
  have e1:∀p q,(ν id).vhdr p q=(⟨none,(ν id).off,(ν id).len,0,(ν id).esz⟩:Nu).vhdr p q:=λp q=>by unfold Nu.vhdr;simp only[hk]
  rw[e0,e1]
  exact Wti hu hte hp (by show(ν id).esz=_;rw[hesz,he]) (by rw[h0];exact Xm _) hlen (λ_=>h0) hl hh hb
theorem Wqd{o:Oper}{t:TypeId}{x:Operand}{lo hi:Option Operand}{v:Value}(ho:o.op= .slice t x lo hi none)(h:(Instr.sliceAt t (a.eval x) (lo.map a.eval) (hi.map a.eval) none).run P w= .ok v w):(execOp a.eval o).run P w= .ok (.value v) w:=by
 simp only[execOp,ho,Option.map_none,Sem.run_bind,h,Result.andThen_ok,Sem.run_pure]
theorem view_done(hT:Wbj P T)(hr:Rel w0 F nt G0 G ν st a w){o:Oper}(hd:∀d,o.dst=some d→nt.Ok d){t et:TypeId}{ty:Ty}{te:TE}{x:Operand}{lo hi:Option Operand}(ho:o.op= .slice t x lo hi none)
  {id:Nat} {l h:Option Int} {R:Type} {k:St→Option R} {r:R} (hx:ev st x=some (.s (.one (.own id)))) (hl:look T t=some ⟨ty,false,.slice et⟩) (hle:look T et=some te) (hp:te.plain=true) (h1:optI st lo=some l) (h2:optI st hi=some h)
  (hk:Wmt st te.ty id l h (λx objs nx=>k (({env:=st.env,objs:=objs,nx:=nx}:St).put o.dst x))=some r):∃st',k st'=some r∧Done P w0 F nt G0 o a w st':=by
 unfold Wmt at hk
 split at hk
 ·rename_i e xs hob
  split at hk
  case isFalse=>simp at hk
  rename_i hes
  cases hb:(bnds (Xa xs) l h).1 with
  |false=>simp[hb]at hk
  |true=>
   simp only[hb,cond_true]at hk
   refine⟨_,hk,?_⟩
   obtain⟨⟨hid,hsv⟩,_⟩:=Wab hr x _ hx
   obtain⟨S,hown⟩:=hr.h.obj hob
   have hbl:=Whv hr lo _ h1
   have hbh:=Whv hr hi _ h2
   obtain⟨g1,g2,g3⟩:=slice_own (w:=w) hown (hT _ _ hl).und.2.1 (hT _ _ hle) hp (by rw[hes,Wef]) hbl hbh hb
   refine⟨_,_,w,G,ν,Wqd ho (by rw[hsv];exact g1),.inl rfl,hr.put hd ⟨⟨hid,g2,by rw[←hown.1];exact g3,λhbn=>?_,rfl⟩,vhdr_one _ _ _⟩⟩
   have:=(own_cap hown).1 hbn
   omega
 ·simp at hk
theorem part0(n:Nu)(h:Nat):n.part 0 h=⟨n.blk,n.off,h,n.cap,n.esz⟩:=by
 unfold Nu.part;simp
theorem vhdr0(n:Nu)(h:Nat):n.vhdr 0 h=(⟨n.blk,n.off,h,n.cap,n.esz⟩:Nu).hdr:=by
 rw[←part0,Wyp]
theorem trunc_done(hT:Wbj P T)(hr:Rel w0 F nt G0 G ν st a w){o:Oper}(hd:∀d,o.dst=some d→nt.Ok d){t et:TypeId}{ty:Ty}{x:Operand}{lo hi:Option Operand}(ho:o.op= .slice t x lo hi none)
  {id:Nat} {e:Ty} {xs:List e.den} {te:TE} {h:Int} (hx:ev st x=some (.s (.one (.own id)))) (hl:look T t=some ⟨ty,false,.slice et⟩) (hle:look T et=some te) (hp:te.plain=true) (he:te.ty=e.ro) (hob:look st.objs id=some (.arr e xs)) (hlo:optI st lo=some none) (hh:optI st hi=some (some h))
  (h0:0≤h) (h1:h≤(xs.length:Int)):Done P w0 F nt G0 o a w (({env:=st.env,objs:=(st.nx,.arr e (xs.take h.toNat))::kill st.objs [id],nx:=st.nx+1}:St).put o.dst (.s (.one (.own st.nx)))):=by
 obtain⟨⟨hid,hsv⟩,_⟩:=Wab hr x _ hx
 obtain⟨S,hown⟩:=hr.h.obj hob
 have hbl:=Whv hr lo _ hlo
 have hbh:=Whv hr hi _ hh
 have hb:(bnds xs.length none (some h)).1=true:=by simp[bnds,h0,h1]
 obtain⟨g1,g2,g3⟩:=slice_own (w:=w) hown (hT _ _ hl).und.2.1 (hT _ _ hle) hp (by rw[he,Wef]) hbl hbh hb
 have e1:(bnds xs.length none (some h)).2.1=0:=rfl
 have e2:(bnds xs.length none (some h)).2.2=h.toNat:=rfl
 rw[e1,e2,vhdr0]at g1
 refine⟨_,_,w,G,upd ν st.nx ((ν id).part 0 h.toNat),Wqd ho (by rw[hsv];exact g1),.inl rfl,?_⟩
 have hlv:Live st.objs id:=⟨_,hob,by simp⟩
 refine hr.fresh hd [id] (.arr e (xs.take h.toNat)) _ (λφ=>φ id) _ _ (λφ _=>WLe.refl _ w) (λφ _ b o hh=>.inl ⟨id,.inr (Xac.2 rfl),hlv,hh⟩) (λφ hφ=>?_) ⟨⟨Xbu _,by rw[Wdt,part0]⟩,Wsw _⟩
 show OwnL w (TyRel G w e) e.size (upd ν st.nx ((ν id).part 0 h.toNat) st.nx) (xs.take h.toNat) (φ id)
 rw[Wdt]
 have hown':OwnL w (TyRel G w e) e.size (ν id) xs (φ id):=hφ.ob _ _ hob
 have:=part_own (lo:=0) (hi:=h.toNat) hown' (Xbo _) (by rw[←hown'.1];omega)
 simpa using this
theorem Wux(hT:Wbj P T)(hr:Rel w0 F nt G0 G ν st a w){o:Oper}(hd:∀d,o.dst=some d→nt.Ok d){t et:TypeId}{ty:Ty}{x:Operand}{lo hi:Option Operand}(ho:o.op= .slice t x lo hi none)
  {id i p:Nat} {e:Ty} {xs:List e.den} {te:TE} {h:Int} (hx:ev st x=some (.s (.one (.own id)))) (hl:look T t=some ⟨ty,false,.slice et⟩) (hle:look T et=some te) (hp:te.plain=true) (he:te.ty=e.ro) (hob:look st.objs id=some (.hole e xs i p)) (hbox:boxLen (look st.objs p) e.size=true) (hlo:optI st lo=some none) (hh:optI st hi=some (some h))
  (h0:0≤h) (h1:h≤(xs.length:Int)) (h2:h≤(i:Int)):Done P w0 F nt G0 o a w (({env:=st.env,objs:=(st.nx,.arr e (xs.take h.toNat))::kill st.objs [id,p],nx:=st.nx+1}:St).put o.dst (.s (.one (.own st.nx)))):=by
 obtain⟨⟨hid,hsv⟩,_⟩:=Wab hr x _ hx
 obtain⟨S,hpn,hole⟩:=hr.h.obj hob
 have hlp:∃cs,look st.objs p=some (.box cs)∧cs.length=e.size:=by
  unfold boxLen at hbox
  split at hbox
  ·rename_i cs hlp;exact⟨cs,hlp,Xcb hbox⟩
  ·cases hbox
 obtain⟨pcs,hlp,hpl⟩:=hlp
 have hbl:=Whv hr lo _ hlo
 have hbh:=Whv hr hi _ hh
 have hb:(bnds xs.length none (some h)).1=true:=by simp[bnds,h0,h1]
 obtain⟨k1,k2,k3,b,k4,k5,k6,k7,k8,k9,_⟩:=hole
 obtain⟨g1,g2,g3⟩:=Wti (w:=w) (nu:=ν id) (hT _ _ hl).und.2.1 (hT _ _ hle) hp (by rw[k2,he,Wef]) k7 k1 (λhn=>by rw[hn]at k4;cases k4) hbl hbh hb
 have e1:(bnds xs.length none (some h)).2.1=0:=rfl
 have e2:(bnds xs.length none (some h)).2.2=h.toNat:=rfl
 rw[e1,e2,vhdr0]at g1
 refine⟨_,_,w,G,upd ν st.nx ((ν id).part 0 h.toNat),Wqd ho (by rw[hsv];exact g1),.inl rfl,?_⟩
 have hlv:Live st.objs id:=⟨_,hob,by simp⟩
 have hlvp:Live st.objs p:=⟨_,hlp,by simp⟩
 refine hr.fresh hd [id,p] (.arr e (xs.take h.toNat)) _ (λφ b o=>φ id b o∨φ p b o) _ _ (λφ _=>WLe.refl _ w) (λφ _ b o hh=>?_) (λφ hφ=>?_) ⟨⟨Xbu _,by rw[Wdt,part0]⟩,Wsw _⟩
 ·rcases hh with hh|hh
  ·exact .inl ⟨id,.inr (by simp),hlv,hh⟩
  ·exact .inl ⟨p,.inr (by simp),hlvp,hh⟩
 ·show OwnL w (TyRel G w e) e.size (upd ν st.nx ((ν id).part 0 h.toNat) st.nx) (xs.take h.toNat) _
  rw[Wdt,part0]
  obtain⟨hpn,hole⟩:p<st.nx∧Wrx w (TyRel G w e) e.size (ν id) (ν p) xs i (φ id):=hφ.ob _ _ hob
  obtain⟨_,_,_,b',k4',k5',_,_,_,_,c1,c2,p1,p2,j1,j2,j3,j4,j5,j6⟩:=hole
  rw[k4]at k4';injection k4' with k4';subst k4'
  obtain⟨b2,vs,q1,q2,q3,q4,q5⟩:Wgn G ν st.nx w p (φ p) (.box pcs):=hφ.ob _ _ hlp
  rw[k5]at q1;injection q1 with q1;subst q1
  rw[hpl,k6]at q5
  obtain⟨d1,d2,r1,r2,t1,t2,t3,t4⟩:=Wle _ _ _ h.toNat j1
  rw[List.take_take,Xce (by omega)]at t3
  have gA:=j6 _ (Xi ..)
  have gC:=j6 _ (Xe _ (Xi ..))
  obtain⟨s1,s2⟩:=Xab.1 j5
  obtain⟨s3,s4⟩:=Xab.1 s2
  have hsub:∀s∈r1.map Pc.fp,s∈(p1++p2).map Pc.fp:=λs hs=>by rw[t2,Xp,Xp];exact Xk _ (Xk _ hs)
  have gp:∀s∈r1.map Pc.fp,CS.le s (φ id):=λs hs=>j6 s (Xe _ (Xe _ (hsub s hs)))
  have hidp:∀b o,φ id b o→φ p b o→False:=λb o x1 x2=>by
   have:=hφ.inj id p b o hlv hlvp x1 x2
   subst this
   rw[hob]at hlp;cases hlp
  refine⟨by simp;omega,k2,?_⟩
  simp only[k4]
  refine⟨by simp;omega,k8,k9,d1,r1,t3,by rw[t1]at j3;exact j3.left,Xab.2 ⟨λs hs=>?_,?_⟩,λs hs=>?_⟩
  ·exactλb' o hro hso=>(Wow (show i<(ν id).cap by omega) (S:=λb o=>¬s b o) (λb o hh hso=>s1 s (Xe _ (hsub s hs)) b o hh hso) (λb o hh hso=>hidp b o (gp s hs b o hso) (q5 b o hh)) (λb o hh hso=>s3 s (hsub s hs) b o hh hso) b' o hro) hso
  ·rw[t2,Xp,Xp]at s4
   exact(Xag.1 (Xag.1 s4).1).1
  ·rcases Xo.1 hs with rfl|hs
   ·exact Wow (show i<(ν id).cap by omega) (λb o hh=>.inl (gA b o hh)) (λb o hh=>.inr (q5 b o hh)) (λb o hh=>.inl (gC b o hh))
   ·exactλb o hh=>.inl (gp s hs b o hh)
theorem clear_done(hT:Wbj P T)(hr:Rel w0 F nt G0 G ν st a w){o:Oper}(hd:∀d,o.dst=some d→nt.Ok d){c:Call}{x:Operand}{t et:TypeId}{ty:Ty}{te:TE}{e:Ty}{xs:List e.den}{id lo hi:Nat}
  (ho:o.op= .call c) (hc:c.callee= .builtin .clear) (ha:c.args.toList= [x]) (hat:c.argTypes.toList= [t]) (hx:ev st x=some (.s (.one (.vw id lo hi)))) (hl:look T t=some ⟨ty,false,.slice et⟩) (hle:look T et=some te)
  (hob:look st.objs id=some (.arr e xs)) (he:te.ty=e) (hp:te.plain=true) (hdata:e.data=true):
  Done P w0 F nt G0 o a w (({env:=st.env,objs:=(id,.arr e (xs.take lo++Xv (hi-lo) e.dflt++xs.drop hi))::st.objs,nx:=st.nx}:St).put o.dst (.tup [])):=by
 have hu:=(hT _ _ hl).und.2.1
 obtain⟨⟨hid,g1,g2,g3,hv⟩,_⟩:=Wab hr x _ hx
 obtain⟨φ,hφ⟩:=hr.h
 have hown:OwnL w (TyRel G w e) e.size (ν id) xs (φ id):=hφ.ob _ _ hob
 have hlv:Live st.objs id:=⟨_,hob,by simp⟩
 have hexec:∀W,(Builtin.clear_ #[t] o.type #[a.eval x]).run P w= .ok (.tuple #[]) W→(execOp a.eval o).run P w= .ok (.value (.tuple #[])) W:=λW hrun=>by
  obtain⟨callee,args,argTypes⟩:=c
  obtain⟨args⟩:=args
  obtain⟨argTypes⟩:=argTypes
  simp only at hc ha hat
  subst hc ha hat
  simp only[execOp,ho,resolve,invoke,builtin,Sem.run_bind,Sem.run_pure,Result.andThen_ok,Xdx,Xaj,Xch,hrun]
 have hdone:∀W,(Builtin.clear_ #[t] o.type #[a.eval x]).run P w= .ok (.tuple #[]) W→HRel w0 F G ν ((id,.arr e (xs.take lo++Xv (hi-lo) e.dflt++xs.drop hi))::st.objs) st.nx W→
   Done P w0 F nt G0 o a w (({env:=st.env,objs:=(id,.arr e (xs.take lo++Xv (hi-lo) e.dflt++xs.drop hi))::st.objs,nx:=st.nx}:St).put o.dst (.tup [])):=λW hrun hH=>
  ⟨_,_,W,G,ν,hexec W hrun,.inl rfl,(hr.on (λ_ _ _ hh=>hh) (λ_ _=>rfl) (Xm _) hH hr.gx).put hd ⟨[],rfl,rfl,λj x v hj=>by simp at hj⟩⟩
 by_cases h0:hi-lo=0
 ·have hhl:hi=lo:=by omega
  have e1:xs.take lo++Xv (hi-lo) e.dflt++xs.drop hi=xs:=by
   rw[h0,hhl];simp
  refine hdone w ?_ ?_
  ·rw[hv]
   unfold Nu.vhdr
   rw[h0]
   cases(ν id).blk<;>simp[Builtin.clear_,Wb hu]
  ·rw[e1]
   exact⟨_,hφ.put (m:=[]) (ν':=ν) (λ_ _=>rfl) (Xm _) (hφ.lt id hlv) (WLe.refl _ w) (λb o hh=>.inl ⟨id,.inl rfl,hlv,hh⟩) (λ_=>hown)⟩
 ·cases hblk:(ν id).blk with
  |none=>have:=g3 hblk;omega
  |some b=>
   obtain⟨hxl,h4,h5,⟨row,TT,hhp,hrow⟩,cs,h7,h8,h9⟩:=Win hdata hown hblk
   obtain⟨z,hz,hzc⟩:=Wlu (w:=w) (hT _ _ hle)
   rw[Wee hp,he]at hzc
   have hzs:z.cells.size=e.size:=by rw[←Xau,hzc,Wdy]
   have hesz:=hown.2.1
   have hcl:cs.length=xs.length*e.size:=EncL_len (λx c hc=>Enc_len e x c hc) _ _ h7
   have hzl:(Builtin.zeroCells z.cells (hi-lo)).toList=rep (Wej e) (hi-lo):=by rw[←hzc];exact Wpl z.cells (hi-lo)
   have hrl:(rep (Wej e) (hi-lo)).length=(hi-lo)*e.size:=by rw[Wyr,Wdy]
   have hm1:lo*e.size+(hi-lo)*e.size=hi*e.size:=by rw[←Xcv];congr 1;omega
   have hm2:hi*e.size≤xs.length*e.size:=Xbg _ (by omega)
   have hm3:xs.length*e.size≤(ν id).cap*e.size:=Xbg _ h4
   have hone:∀u∈rep (Wej e) (hi-lo),u.oneCell'=true:=EncL_one (G:=G) _ _ (Wqg hdata (hi-lo))
   have hst:=run_storeCells_at P b ((ν id).off+lo*e.size) TT (rep (Wej e) (hi-lo)) 0 row w hhp (by rw[hrl];omega) hone
   simp only[Xax]at hst
   obtain⟨hw,hm⟩:=Whl (k:=(ν id).off+lo*e.size) (news:=rep (Wej e) (hi-lo)) hhp (by rw[hrl];omega)
   have hrun:(Builtin.clear_ #[t] o.type #[a.eval x]).run P w= .ok (.tuple #[]) (w.setRow b (row.toList.take ((ν id).off+lo*e.size)++rep (Wej e) (hi-lo)++row.toList.drop ((ν id).off+lo*e.size+(rep (Wej e) (hi-lo)).length)).toArray):=by
    rw[hv]
    unfold Nu.vhdr
    simp only[hblk,hesz]
    rw[if_neg (by omega)]
    obtain⟨n,hn⟩:∃n,hi-lo=n+1:=⟨hi-lo-1,by omega⟩
    simp only[Builtin.clear_,Sem.run_bind,Wb hu,Result.andThen_ok,Xeo,List.getElem?_cons_zero]
    rw[hn]at hst hzl⊢
    simp only[Sem.run_bind,hz,Result.andThen_ok,hzl,hst,Sem.run_pure]
   generalize w.setRow b (row.toList.take ((ν id).off+lo*e.size)++rep (Wej e) (hi-lo)++row.toList.drop ((ν id).off+lo*e.size+(rep (Wej e) (hi-lo)).length)).toArray=W at hrun hw hm
   refine hdone W hrun (hφ.turn (m:=[]) hob (by simp) hw (λb' o ⟨k0,k1,k2⟩=>h9 b' o ⟨k0,by omega,by omega⟩) ?_)
   have hxlen:(xs.take lo++Xv (hi-lo) e.dflt++xs.drop hi).length=xs.length:=by simp;omega
   have henc:EncL (Enc G e) (xs.take lo++Xv (hi-lo) e.dflt++xs.drop hi) (cs.take (lo*e.size)++rep (Wej e) (hi-lo)++cs.drop (hi*e.size)):=
    Wiy _ _ _ _ (Wiy _ _ _ _ (Wlb (λx c hc=>Enc_len e x c hc) _ _ lo h7) (Wqg hdata _)) (Wkj (λx c hc=>Enc_len e x c hc) _ _ hi h7)
   refine flat_OwnL hdata hblk (by rw[hxlen];exact hxl) hesz (by rw[hxlen];exact h4) h5 (hw.rows.row _ _ ⟨row,TT,hhp,hrow⟩) henc ?_ (λb o hh=>.inl (h9 b o hh))
   have:=Wlr h8 hw hm (by rw[hrl];omega)
   rw[hrl,hm1]at this
   exact this
end
end Go.Sx
namespace Go.Sx
set_option linter.unusedVariables false
set_option linter.unusedSimpArgs false
def VRel(G:GH)(w:World)(t:Ty)(agg:Bool)(d:t.den)(v:Value)(ns:List Pc):Prop:=
 if agg then∃us:List Value,v= .agg us.toArray∧TyRel G w t d us ns else TyRel G w t d [v] ns
def Wfr(b o:Nat):Nu:=⟨some b,o,0,0,0⟩
def Wmw(G:GH)(w:World)(t:Ty)(d:t.den)(b o:Nat)(ns:List Pc):Prop:=∃us,Row w b (o+t.size)∧Mem w b o us∧TyRel G w t d us ns
def fps(ns:List Pc):List CS:=ns.map Pc.fp
def nus(ns:List Pc):List Nu:=ns.map Pc.nu
def Wdp(G:GH)(w:World):(ps:List PTy)→PDen ps→List Value→List Pc→List Nu→Prop
 | [],_,vs,ns,ks=>vs= []∧ns= []∧ks= []
 | .v t agg::ps,d,vs,ns,ks=>∃v vs' n1 n2,vs=v::vs'∧ns=n1++n2∧VRel G w t agg d.1 v n1∧Wdp G w ps d.2 vs' n2 ks
 | .box t::ps,d,vs,ns,ks=>∃b o vs' n1 n2 ks',vs= .pointer (some ⟨b,o,none⟩)::vs'∧ns=⟨Wfr b o,rng b o t.size⟩::(n1++n2)∧ks=Wfr b o::ks'∧Wmw G w t d.1 b o n1∧Wdp G w ps d.2 vs' n2 ks'
 | .mut e::ps,d,vs,ns,ks=>∃pc vs' n2 ks',vs=pc.nu.hdr::vs'∧ns=pc::n2∧ks=pc.nu::ks'∧OwnL w (TyRel G w e) e.size pc.nu d.1 pc.fp∧Wdp G w ps d.2 vs' n2 ks'
 | .clos g n::ps,d,vs,ns,ks=>∃cvs vs':List Value,vs= .func (.func g) #[] cvs.toArray::vs'∧cvs.length=n∧(∀u∈cvs,u.oneCell'=true)∧Wdp G w ps d (cvs++vs') ns ks
 | .kv t agg::ps,d,vs,ns,ks=>∃v vs' n1 n2 ks',vs=v::vs'∧ns=n1++n2∧ks=nus n1++ks'∧VRel G w t agg d.1 v n1∧Wdp G w ps d.2 vs' n2 ks'
 | .rp t::ps,d,vs,ns,ks=>∃b o us vs',vs= .pointer (some ⟨b,o,none⟩)::vs'∧Enc G t d.1 us∧Wmq G b o us∧Wdp G w ps d.2 vs' ns ks
 | .vj _::_,_,_,_,_=>False
 | .boxal t lf::ps,d,vs,ns,ks=>∃b o b' pc vs' n1 n2 ks',vs= .pointer (some ⟨b,o,none⟩):: .pointer (some ⟨b',pc.nu.off+(d.2.1*pc.nu.esz+0),none⟩)::vs'∧ns=⟨Wfr b o,rng b o t.size⟩::(n1++n2)∧ks=Wfr b o::ks'∧
   Wmw G w t d.1 b o n1∧n1[lf]?=some pc∧pc.nu.blk=some b'∧d.2.1<pc.nu.len∧Wdp G w ps d.2.2 vs' n2 ks'
def Wei(G:GH)(w:World):(ps:List PTy)→ODen ps→List Nu→List CS→List Pc→Prop
 | [],_,ks,kf,ns=>ks= []∧kf= []∧ns= []
 | .v _ _::ps,o,ks,kf,ns=>Wei G w ps o ks kf ns
 | .box t::ps,o,ks,kf,ns=>∃b off ks' kf' n1 n2,ks=Wfr b off::ks'∧kf=rng b off t.size::kf'∧ns=n1++n2∧Wmw G w t o.1 b off n1∧Wei G w ps o.2 ks' kf' n2
 | .mut e::ps,o,ks,kf,ns=>∃pc:Pc,∃ks' kf',ks=pc.nu::ks'∧kf=pc.fp::kf'∧OwnL w (TyRel G w e) e.size pc.nu o.1 pc.fp∧Wei G w ps o.2 ks' kf' ns
 | .clos _ _::ps,o,ks,kf,ns=>Wei G w ps o ks kf ns
 | .kv t _::ps,o,ks,kf,ns=>∃n1 ks' kf' us,ks=nus n1++ks'∧kf=fps n1++kf'∧TyRel G w t o.1 us n1∧Wei G w ps o.2 ks' kf' ns
 | .rp _::ps,o,ks,kf,ns=>Wei G w ps o ks kf ns
 | .vj _::_,_,_,_,_=>False
 | .boxal t _::ps,o,ks,kf,ns=>∃b off ks' kf' n1 n2,ks=Wfr b off::ks'∧kf=rng b off t.size::kf'∧ns=n1++n2∧Wmw G w t o.1 b off n1∧Wei G w ps o.2 ks' kf' n2
def Woa(G:GH)(w:World):(rs:List PTy)→RDen rs→List Value→List Pc→Prop
 | [],_,vs,ns=>vs= []∧ns= []
 | .v t agg::rs,d,vs,ns=>∃v vs' n1 n2,vs=v::vs'∧ns=n1++n2∧VRel G w t agg d.1 v n1∧Woa G w rs d.2 vs' n2
 | .box t::rs,d,vs,ns=>∃b o vs' n1 n2,vs= .pointer (some ⟨b,o,none⟩)::vs'∧ns=⟨Wfr b o,rng b o t.size⟩::(n1++n2)∧Wmw G w t d.1 b o n1∧Woa G w rs d.2 vs' n2
 | .mut _::_,_,_,_=>False
 | .clos _ _::_,_,_,_=>False
 | .kv _ _::_,_,_,_=>False
 | .rp _::_,_,_,_=>False
 | .vj t::rs,d,vs,ns=>∃us u vs' n1 n2,vs= .agg (us++ [u]).toArray::vs'∧u.oneCell'=true∧ns=n1++n2∧TyRel G w t d.1 us n1∧Woa G w rs d.2 vs' n2
 | .boxal _ _::_,_,_,_=>False
def Wub:List Value→Value
 | [v]=>v
 |vs=>.tuple vs.toArray
def Of(ns:List Pc):CS:=λb o=>∃q∈ns,q.fp b o
structure After(sg:Sig)(o:ODen sg.ps×RDen sg.rs)(G:GH)(w:World)(ns:List Pc)(ks:List Nu)(rv:List Value)(kf:List CS)(ms ns':List Pc)(G':GH)(w':World):Prop where
 res:Woa G' w' sg.rs o.2 rv ns'
 outs:Wei G' w' sg.ps o.1 ks kf ms
 sep:Sep (kf++fps (ms++ns'))
 own:∀S∈kf++fps (ms++ns'),∀b off,S b off→G' b off=none∧(Of ns b off∨w.heap.size≤b)∧b<w'.heap.size
 gx:GExt w.heap.size (Of ns) G G'
 g:∀b o v,G' b o=some v→w'.cell? ⟨b,o,none⟩=some v
 le:WLe (Of ns) w w'
def Good(P:Program)(k:FuncId)(sg:Sig):Prop:=
 ∀(d:PDen sg.ps) (o:ODen sg.ps×RDen sg.rs),sg.run d=some o→∀(G:GH) (w:World) (vs:List Value) (ns:List Pc) (ks:List Nu),Wdp G w sg.ps d vs ns ks→Sep (fps ns)→
  (∀q∈ns,∀b off,q.fp b off→G b off=none∧b<w.heap.size)→(∀b o v,G b o=some v→w.cell? ⟨b,o,none⟩=some v)→
  Calls P k vs.toArray w λe w'=>∃rv kf ms ns' G',e= .returned (Wub rv)∧After sg o G w ns ks rv kf ms ns' G' w'
def Won(P:Program)(k:FuncId):Prop:=∃fn,P.funcs[k]?=some fn∧fn.body.isNone=false∧(fn.name== "runtime.NumGoroutine")=false
def Wmk(P:Program)(Γ:Ctx):Prop:=∀k sg,look Γ k=some sg→Good P k sg∧Won P k
section
variable{w0:World}{F:CS}{nt:Slots}{G0 G G':GH}{ν:Nat→Nu}{φ:Nat→CS}{objs:Objs}{nx:Nat}{st st':St}{a:Act}{w w':World}{P:Program}{T:Tab}
theorem Wck:∀(t:Ty) (d:t.den) (nx:Nat),(unfold t d nx).2.2=nx+t.owns
 | .prod a b,d,nx=>by simp only[unfold,Wck a,Wck b,Ty.owns,Xap]
 | .own _,_,_=>rfl
 | .int _,_,_| .bool,_,_| .str,_,_| .slice _,_,_=>rfl
theorem Wy{α:Type}{l m:List (Nat×α)}{i:Nat}{x:α}(h:look (l++m) i=some x):look l i=some x∨look m i=some x:=by
 rw[Wed]at h
 cases hl:look l i with
 |none=>simp[hl]at h;exact .inr h
 |some y=>simp[hl]at h;subst h;exact .inl rfl
def At(ν:Nat→Nu)(φ:Nat→CS)(nx:Nat)(ns:List Pc):Prop:=∀(j:Nat) (pc:Pc),ns[j]?=some pc→ν (nx+j)=pc.nu∧φ (nx+j)=pc.fp
theorem At.left{n1 n2:List Pc}(h:At ν φ nx (n1++n2)):At ν φ nx n1:=λj pc hj=>h j pc (by rw[Xba (Xq.1 hj).1];exact hj)
theorem At.right{n1 n2:List Pc}{k:Nat}(h:At ν φ nx (n1++n2))(hk:n1.length=k):At ν φ (nx+k) n2:=λj pc hj=>by
 have:=h (k+j) pc (by rw[Xaw (by omega),hk,Xbd];exact hj)
 rw[Xap];exact this
def ArrOb(G:GH)(ν:Nat→Nu)(φ:Nat→CS)(w:World)(id:Nat)(ob:Ob):Prop:=∃(e:Ty) (xs:List e.den),ob= .arr e xs∧OwnL w (TyRel G w e) e.size (ν id) xs (φ id)
theorem Wbp:∀(t:Ty) (d:t.den) (nx:Nat) (vs:List Value) (ns:List Pc),TyRel G w t d vs ns→At ν φ nx ns→
  (∀(nx':Nat),nx+t.owns≤nx'→CellsRel G ν nx' (unfold t d nx).1 vs)∧
  (∀id ob,look (unfold t d nx).2.1 id=some ob→nx≤id∧id<nx+t.owns∧ArrOb G ν φ w id ob)
 | .own e,d,nx,vs,ns,⟨pc,h1,h2,h3⟩,hν=>by
  obtain⟨hn,hp⟩:ν nx=pc.nu∧φ nx=pc.fp:=by have:=hν 0 pc (by rw[h1];rfl);simpa using this
  refine⟨λnx' hx=>?_,λid ob hl=>?_⟩
  ·rw[h2]
   refine CellsRel.one ⟨by simp[Ty.owns]at hx;omega,by rw[hn]⟩ (Wsw _)
  ·simp only[unfold]at hl
   rw[Wt]at hl
   split at hl
   ·rename_i e1;subst e1
    injection hl with hl;subst hl
    exact⟨Xm _,by simp[Ty.owns],e,d,rfl,by rw[hn,hp];exact h3⟩
   ·simp[look]at hl
 | .prod p q,d,nx,vs,ns,⟨v1,v2,n1,n2,h1,h2,h3,h4⟩,hν=>by
  subst h2
  have hl1:=Wau p _ _ _ h3
  obtain⟨c1,o1⟩:=Wbp p d.1 nx v1 n1 h3 hν.left
  obtain⟨c2,o2⟩:=Wbp q d.2 (nx+p.owns) v2 n2 h4 (hν.right hl1)
  refine⟨λnx' hx=>?_,λid ob hl=>?_⟩
  ·simp only[Ty.owns]at hx
   simp only[unfold,Wck]
   rw[h1]
   exact(c1 nx' (by omega)).append (c2 nx' (by omega))
  ·simp only[unfold,Wck]at hl
   simp only[Ty.owns]
   rcases Wy hl with h|h
   ·obtain⟨g1,g2,g3⟩:=o1 id ob h
    exact⟨g1,by omega,g3⟩
   ·obtain⟨g1,g2,g3⟩:=o2 id ob h
    exact⟨by omega,by omega,g3⟩
 | .int k,d,nx,vs,ns,h,_=>⟨λnx' _=>Wcb (.int k) d vs h.2,λid ob hl=>by simp[unfold,look]at hl⟩
 | .bool,d,nx,vs,ns,h,_=>⟨λnx' _=>Wcb .bool d vs h.2,λid ob hl=>by simp[unfold,look]at hl⟩
 | .str,d,nx,vs,ns,h,_=>⟨λnx' _=>Wcb .str d vs h.2,λid ob hl=>by simp[unfold,look]at hl⟩
 | .slice e,d,nx,vs,ns,h,_=>⟨λnx' _=>Wcb (.slice e) d vs h.2,λid ob hl=>by simp[unfold,look]at hl⟩
theorem Wfm:∀(t:Ty) (d:t.den) (nx:Nat),(unfold t d nx).1.length=t.size
 | .prod a b,d,nx=>by simp only[unfold,Xz,Wfm a,Wfm b,Ty.size]
 | .own _,_,_| .int _,_,_| .bool,_,_| .str,_,_| .slice _,_,_=>rfl
theorem mkAV_rel{t:Ty}{agg:Bool}{d:t.den}{v:Value}{ns:List Pc}{nx nx':Nat}(h:VRel G w t agg d v ns)(hν:At ν φ nx ns)(hx:nx+t.owns≤nx'):
  AvRel G ν nx' (mkAV agg (unfold t d nx).1) v:=by
 unfold VRel at h
 unfold mkAV
 cases agg with
 |true=>
  simp only[if_true]at h⊢
  obtain⟨us,rfl,h⟩:=h
  exact⟨us,rfl,(Wbp t d nx us ns h hν).1 nx' hx⟩
 |false=>
  simp only[Xbm,if_false]at h⊢
  have hc:=(Wbp t d nx [v] ns h hν).1 nx' hx
  have hl:=hc.1
  generalize (unfold t d nx).1=cs at*
  match cs,hl with
  | [c],_=>exact hc.2 0 c v rfl rfl
theorem VRel_ty{t:Ty}{agg:Bool}{d:t.den}{v:Value}{ns:List Pc}(h:VRel G w t agg d v ns):∃us,TyRel G w t d us ns:=by
 unfold VRel at h
 split at h
 ·obtain⟨us,_,h⟩:=h;exact⟨us,h⟩
 ·exact⟨_,h⟩
def Wur(objs:Objs):Ty→List Nat→Prop
 | .own e,ids=>∃(id:Nat) (ys:List e.den),ids= [id]∧look objs id=some (.arr e ys)
 | .prod a b,ids=>∃i1 i2,ids=i1++i2∧Wur objs a i1∧Wur objs b i2
 | .int _,ids=>ids= []
 | .bool,ids=>ids= []
 | .str,ids=>ids= []
 | .slice _,ids=>ids= []
theorem Wmf{objs:Objs}:∀(t:Ty) (ids:List Nat),Wur objs t ids→ids.length=t.owns
 | .own e,ids,⟨id,ys,h,_⟩=>by rw[h];rfl
 | .prod a b,ids,⟨i1,i2,h,h1,h2⟩=>by rw[h,Xz,Wmf a _ h1,Wmf b _ h2];rfl
 | .int _,ids,h=>by have:ids= []:=h;rw[this];rfl
 | .bool,ids,h=>by have:ids= []:=h;rw[this];rfl
 | .str,ids,h=>by have:ids= []:=h;rw[this];rfl
 | .slice _,ids,h=>by have:ids= []:=h;rw[this];rfl
def KeptBox(objs:Objs)(ν:Nat→Nu)(bx:List (Nat×CS))(t:Ty)(k:Kp)(nu:Nu):Prop:=
 ∃cs b,look objs k.id=some (.box cs)∧k.off+t.size≤cs.length∧(ν k.id).blk=some b∧nu=Wfr b ((ν k.id).off+k.off)∧(k.id,rng b ((ν k.id).off+k.off) t.size)∈bx
def KeptOk(objs:Objs)(ν:Nat→Nu)(bx:List (Nat×CS)):List PTy→List Kp→List Nu→Prop
 | [],ids,ks=>ids= []∧ks= []
 | .v _ _::ps,ids,ks=>KeptOk objs ν bx ps ids ks
 | .box t::ps,ids,ks=>∃k ids' nu ks',ids=k::ids'∧ks=nu::ks'∧KeptBox objs ν bx t k nu∧KeptOk objs ν bx ps ids' ks'
 | .mut e::ps,ids,ks=>∃(id:Nat) (ids':List Kp) (ks':List Nu) (ys:List e.den),ids=⟨id,0⟩::ids'∧ks=ν id::ks'∧look objs id=some (.arr e ys)∧KeptOk objs ν bx ps ids' ks'
 | .clos _ _::ps,ids,ks=>KeptOk objs ν bx ps ids ks
 | .kv t _::ps,ids,ks=>∃i1 i2 ks',ids=kp0 i1++i2∧ks=i1.map ν++ks'∧Wur objs t i1∧KeptOk objs ν bx ps i2 ks'
 | .rp _::ps,ids,ks=>KeptOk objs ν bx ps ids ks
 | .vj _::_,_,_=>False
 | .boxal t _::ps,ids,ks=>∃k ids' nu ks',ids=k::ids'∧ks=nu::ks'∧KeptBox objs ν bx t k nu∧KeptOk objs ν bx ps ids' ks'
theorem KeptBox.mono{bx bx':List (Nat×CS)}{t:Ty}{k:Kp}{nu:Nu}(hb:∀p∈bx,p∈bx')(h:KeptBox objs ν bx t k nu):KeptBox objs ν bx' t k nu:=by
 obtain⟨cs,b,h1,h2,h3,h4,h5⟩:=h
 exact⟨cs,b,h1,h2,h3,h4,hb _ h5⟩
theorem KeptOk.mono{bx bx':List (Nat×CS)}(hb:∀p∈bx,p∈bx'):∀(ps:List PTy) (ids:List Kp) (ks:List Nu),KeptOk objs ν bx ps ids ks→KeptOk objs ν bx' ps ids ks
 | [],_,_,h=>h
 | .v _ _::ps,ids,ks,h=>KeptOk.mono hb ps ids ks h
 | .box t::ps,ids,ks,⟨k,ids',nu,ks',h1,h2,h3,h4⟩=>⟨k,ids',nu,ks',h1,h2,h3.mono hb,KeptOk.mono hb ps ids' ks' h4⟩
 | .mut e::ps,ids,ks,⟨id,ids',ks',ys,h1,h2,h3,h4⟩=>⟨id,ids',ks',ys,h1,h2,h3,KeptOk.mono hb ps ids' ks' h4⟩
 | .clos _ _::ps,ids,ks,h=>KeptOk.mono hb ps ids ks h
 | .kv t _::ps,ids,ks,⟨i1,i2,ks',h1,h2,h3,h4⟩=>⟨i1,i2,ks',h1,h2,h3,KeptOk.mono hb ps i2 ks' h4⟩
 | .rp _::ps,ids,ks,h=>KeptOk.mono hb ps ids ks h
 | .vj _::_,_,_,h=>h.elim
 | .boxal t _::ps,ids,ks,⟨k,ids',nu,ks',h1,h2,h3,h4⟩=>⟨k,ids',nu,ks',h1,h2,h3.mono hb,KeptOk.mono hb ps ids' ks' h4⟩
def KeptOb(G:GH)(ν:Nat→Nu)(w:World)(objs0:Objs)(bx:List (Nat×CS))(nx':Nat)(id:Nat)(S:CS)(ob:Ob):Prop:=
 (∃cs0 off ds b us,look objs0 id=some (.box cs0)∧ob= .box (Wka cs0 off ds)∧off+ds.length≤cs0.length∧(ν id).blk=some b∧Mem w b ((ν id).off+off) us∧CellsRel G ν nx' ds us∧
  S=rng b ((ν id).off+off) ds.length∧(id,rng b ((ν id).off+off) ds.length)∈bx)∨
 (∃(e:Ty) (ys xs:List e.den),look objs0 id=some (.arr e ys)∧ob= .arr e xs∧OwnL w (TyRel G w e) e.size (ν id) xs S)
theorem Wpv(objs0:Objs){bx:List (Nat×CS)}{nx':Nat}:∀(t:Ty) (d:t.den) (us:List Value) (ns:List Pc) (ids:List Nat),TyRel G w t d us ns→nus ns=ids.map ν→Wur objs0 t ids→
  (∀id ob,look (Wgj t d ids) id=some ob→∃(j:Nat) (S:CS),ids[j]?=some id∧(fps ns)[j]?=some S∧KeptOb G ν w objs0 bx nx' id S ob)∧∀id∈ids,∃ob,look (Wgj t d ids) id=some ob
 | .own e,d,us,ns,ids,⟨pc,h1,h2,h3⟩,hn,⟨id,ys,h,hlo⟩=>by
  subst h h1
  simp only[nus,Xaj,Xch,List.cons.injEq,and_true]at hn
  refine⟨λi ob hl=>?_,λi hi=>?_⟩
  ·simp only[Wgj,Wt]at hl
   split at hl
   ·rename_i e3;subst e3
    injection hl with hl;subst hl
    exact⟨0,pc.fp,rfl,rfl,.inr ⟨e,ys,d,hlo,rfl,by rw[←hn];exact h3⟩⟩
   ·simp[look]at hl
  ·rw[Xac.1 hi]
   exact⟨.arr e d,by simp[Wgj,look]⟩
 | .prod a b,d,us,ns,ids,⟨u1,u2,n1,n2,h1,h2,h3,h4⟩,hn,⟨i1,i2,h,ho1,ho2⟩=>by
  subst h h2
  have hl1:=Wau a _ _ _ h3
  have hl2:=Wmf a _ ho1
  simp only[nus,Xp]at hn
  obtain⟨e1,e2⟩:=Xfx hn (by rw[Xaf,Xaf,hl1,hl2])
  have t1:(i1++i2).take a.owns=i1:=by rw[←hl2];simp
  have t2:(i1++i2).drop a.owns=i2:=by rw[←hl2];simp
  obtain⟨a1,a2⟩:=Wpv objs0 (bx:=bx) (nx':=nx') a d.1 _ n1 i1 h3 e1 ho1
  obtain⟨b1,b2⟩:=Wpv objs0 (bx:=bx) (nx':=nx') b d.2 _ n2 i2 h4 e2 ho2
  simp only[Wgj,t1,t2]
  refine⟨λi ob hl=>?_,λi hi=>?_⟩
  ·rcases Wy hl with hl|hl
   ·obtain⟨j,S,g1,g2,g3⟩:=a1 i ob hl
    simp only[fps]at g2
    refine⟨j,S,?_,?_,g3⟩
    ·rw[Xba (Xq.1 g1).1];exact g1
    ·simp only[fps,Xp]
     rw[Xba (Xq.1 g2).1];exact g2
   ·obtain⟨j,S,g1,g2,g3⟩:=b1 i ob hl
    simp only[fps]at g2
    refine⟨i1.length+j,S,?_,?_,g3⟩
    ·rw[Xaw (by omega),Xbd];exact g1
    ·simp only[fps,Xp]
     rw[Xaw (by rw[Xaf,hl1,hl2];omega),Xaf,hl1,hl2,Xbd];exact g2
  ·rcases Xn.1 hi with hi|hi
   ·obtain⟨ob,ho⟩:=a2 i hi
    exact⟨ob,by rw[Wed,ho]⟩
   ·obtain⟨ob,ho⟩:=b2 i hi
    rw[Wed]
    cases hq:look (Wgj a d.1 i1) i with
    |some ob'=>exact⟨ob',rfl⟩
    |none=>exact⟨ob,ho⟩
 | .int _,d,us,ns,ids,hr,_,h=>by have:ids= []:=h;subst this;exact⟨λi ob hl=>by simp[Wgj,look]at hl,λi hi=>by simp at hi⟩
 | .bool,d,us,ns,ids,hr,_,h=>by have:ids= []:=h;subst this;exact⟨λi ob hl=>by simp[Wgj,look]at hl,λi hi=>by simp at hi⟩
 | .str,d,us,ns,ids,hr,_,h=>by have:ids= []:=h;subst this;exact⟨λi ob hl=>by simp[Wgj,look]at hl,λi hi=>by simp at hi⟩
 | .slice _,d,us,ns,ids,hr,_,h=>by have:ids= []:=h;subst this;exact⟨λi ob hl=>by simp[Wgj,look]at hl,λi hi=>by simp at hi⟩
theorem Wuo:∀(t:Ty) (d:t.den) (ids:List Nat) (id:Nat) (ob:Ob),look (Wgj t d ids) id=some ob→id∈ids
 | .own e,d,ids,id,ob,h=>by
  cases ids with
  |nil=>simp[Wgj,look]at h
  |cons i l=>
   simp only[Wgj,Wt]at h
   split at h
   ·rename_i e;subst e;exact Xi ..
   ·simp[look]at h
 | .prod a b,d,ids,id,ob,h=>by
  simp only[Wgj]at h
  rcases Wy h with h|h
  ·exact Xcl (Wuo a d.1 _ id ob h)
  ·exact Xev (Wuo b d.2 _ id ob h)
 | .int _,_,_,_,_,h=>by simp[Wgj,look]at h
 | .bool,_,_,_,_,h=>by simp[Wgj,look]at h
 | .str,_,_,_,_,h=>by simp[Wgj,look]at h
 | .slice _,_,_,_,_,h=>by simp[Wgj,look]at h
def kids(l:List Kp):List Nat:=l.map Kp.id
theorem Wsh(l:List Nat):kids (kp0 l)=l:=by simp[kids,kp0,Function.comp_def]
theorem Wco(objs0:Objs){bx:List (Nat×CS)}:∀(ps:List PTy) (o:ODen ps) (ids:List Kp) (ks:List Nu) (kf:List CS) (ms:List Pc) (objs:Objs) (nx nx':Nat),Wei G w ps o ks kf ms→KeptOk objs0 ν bx ps ids ks→At ν φ nx ms→
  (kids ids).Nodup→(∀k∈ids,k.id<nx∧look objs k.id=look objs0 k.id)→nx+ms.length≤nx'→
  (Wbe ps o ids objs nx).2=nx+ms.length∧kf.length=ids.length∧
  ∀id ob,look (Wbe ps o ids objs nx).1 id=some ob→(nx≤id∧id<nx+ms.length∧ArrOb G ν φ w id ob)∨(∃(j:Nat) (S:CS),(kids ids)[j]?=some id∧kf[j]?=some S∧KeptOb G ν w objs0 bx nx' id S ob)∨(look objs id=some ob∧id∉kids ids)
 | [],o,ids,ks,kf,ms,objs,nx,nx',⟨_,h1,h2⟩,hk,_,_,_,_=>by subst h1 h2;obtain⟨hk,_⟩:=hk;subst hk;exact⟨rfl,rfl,λid ob hl=>.inr (.inr ⟨hl,by simp[kids]⟩)⟩
 | .v _ _::ps,o,ids,ks,kf,ms,objs,nx,nx',h,hk,hν,hn,hi,hx=>Wco objs0 ps o ids ks kf ms objs nx nx' h hk hν hn hi hx
 | .box t::ps,o,ids,ks,kf,ms,objs,nx,nx',⟨b,off,ks',kf',n1,n2,h1,h2,h3,hb,h5⟩,hk,hν,hn,hi,hx=>putOuts_box objs0 t ps o.1 o.2 ids ks kf ms objs nx nx' (λids ks kf ms objs nx nx'=>Wco objs0 ps o.2 ids ks kf ms objs nx nx') ⟨b,off,ks',kf',n1,n2,h1,h2,h3,hb,h5⟩ hk hν hn hi hx
 | .vj _::_,_,_,_,_,_,_,_,_,h,_,_,_,_,_=>h.elim
 | .boxal t _::ps,o,ids,ks,kf,ms,objs,nx,nx',⟨b,off,ks',kf',n1,n2,h1,h2,h3,hb,h5⟩,hk,hν,hn,hi,hx=>putOuts_box objs0 t ps o.1 o.2 ids ks kf ms objs nx nx' (λids ks kf ms objs nx nx'=>Wco objs0 ps o.2 ids ks kf ms objs nx nx') ⟨b,off,ks',kf',n1,n2,h1,h2,h3,hb,h5⟩ hk hν hn hi hx
 | .mut e::ps,o,ids,ks,kf,ms,objs,nx,nx',⟨pc,ks',kf',h1,h2,h3,h4⟩,hk,hν,hn,hi,hx=>by
  obtain⟨id,ids',ks2,ys,rfl,hks,hlo,hk'⟩:=hk
  rw[h1]at hks
  simp only[List.cons.injEq]at hks
  obtain⟨hνid,rfl⟩:=hks
  subst h2
  have hnd:=Xai.1 hn
  obtain⟨e1,el,e2⟩:=Wco objs0 ps o.2 ids' ks' kf' ms ((id,.arr e o.1)::objs) nx nx' h4 hk' hν hnd.2 (λk hkm=>by
   obtain⟨g1,g2⟩:=hi k (Xe _ hkm)
   have hne:id≠k.id:=λe=>hnd.1 (by show id∈kids ids';rw[e];exact Xal hkm)
   exact⟨g1,by rw[Wt,if_neg hne];exact g2⟩) hx
  simp only[Wbe]
  refine⟨e1,by simp[el],λi ob hl=>?_⟩
  rcases e2 i ob hl with g|⟨j,S,g1,g2,g3⟩|⟨g,gn⟩
  ·exact .inl g
  ·exact .inr (.inl ⟨j+1,S,g1,g2,g3⟩)
  ·rw[Wt]at g
   split at g
   ·rename_i e3;subst e3
    injection g with g;subst g
    exact .inr (.inl ⟨0,pc.fp,rfl,rfl,.inr ⟨e,ys,o.1,hlo,rfl,by rw[←hνid];exact h3⟩⟩)
   ·rename_i hne
    exact .inr (.inr ⟨g,λhm=>by rcases Xo.1 hm with hm|hm;exact hne hm.symm;exact gn hm⟩)
 | .clos _ _::ps,o,ids,ks,kf,ms,objs,nx,nx',h,hk,hν,hn,hi,hx=>Wco objs0 ps o ids ks kf ms objs nx nx' h hk hν hn hi hx
 | .rp _::ps,o,ids,ks,kf,ms,objs,nx,nx',h,hk,hν,hn,hi,hx=>Wco objs0 ps o ids ks kf ms objs nx nx' h hk hν hn hi hx
 | .kv t agg::ps,o,ids,ks,kf,ms,objs,nx,nx',⟨n1,ks',kf',us,h1,h2,h3,h4⟩,⟨i1,i2,ks2,hid,hks2,ho,hk'⟩,hν,hn,hi,hx=>by
  subst hid h2
  have hl1:=Wau t _ _ _ h3
  have hl2:=Wmf t _ ho
  rw[h1]at hks2
  obtain⟨q1,q2⟩:=Xfx hks2 (by simp[nus,hl1,hl2])
  subst q2
  have hkl:(kp0 i1).length=t.owns:=by simp[kp0,hl2]
  have t1:((kp0 i1++i2).take t.owns).map Kp.id=i1:=by rw[←hkl];simp;exact Wsh i1
  have t2:(kp0 i1++i2).drop t.owns=i2:=by rw[←hkl];simp
  obtain⟨r1,r2⟩:=Wpv (bx:=bx) (nx':=nx') objs0 t o.1 us n1 i1 h3 q1 ho
  have hkk:kids (kp0 i1++i2)=i1++kids i2:=by simp only[kids,Xp];congr 1;exact Wsh i1
  rw[hkk]at hn
  obtain⟨m1,m2,m3⟩:=Xak.1 hn
  obtain⟨e1,el,e2⟩:=Wco objs0 ps o.2 i2 ks' kf' ms (Wgj t o.1 i1++objs) nx nx' h4 hk' hν m2 (λk hkm=>by
   obtain⟨g1,g2⟩:=hi k (Xg _ hkm)
   refine⟨g1,?_⟩
   rw[Wed]
   cases hq:look (Wgj t o.1 i1) k.id with
   |none=>exact g2
   |some ob=>exact absurd rfl (m3 _ (Wuo t o.1 i1 _ ob hq) _ (Xal hkm))) hx
  simp only[Wbe,t1,t2]
  have hfl:(fps n1).length=i1.length:=by simp[fps,hl1,hl2]
  refine⟨e1,by simp[hfl,el,kp0],λi ob hl=>?_⟩
  rw[hkk]
  rcases e2 i ob hl with g|⟨j,S,g1,g2,g3⟩|⟨g,gn⟩
  ·exact .inl g
  ·refine .inr (.inl ⟨i1.length+j,S,?_,?_,g3⟩)
   ·rw[Xaw (by omega),Xbd];exact g1
   ·rw[Xaw (by omega),hfl,Xbd];exact g2
  ·rw[Wed]at g
   cases hq:look (Wgj t o.1 i1) i with
   |some ob'=>
    rw[hq]at g
    injection g with g;subst g
    obtain⟨j,S,g1,g2,g3⟩:=r1 i _ hq
    refine .inr (.inl ⟨j,S,?_,?_,g3⟩)
    ·rw[Xba (Xq.1 g1).1];exact g1
    ·rw[Xba (Xq.1 g2).1];exact g2
   |none=>
    rw[hq]at g
    refine .inr (.inr ⟨g,λhm2=>?_⟩)
    rcases Xn.1 hm2 with h|h
    ·obtain⟨ob',ho'⟩:=r2 i h
     rw[hq]at ho';cases ho'
    ·exact gn h
where
 putOuts_box (objs0:Objs) {bx:List (Nat×CS)} (t:Ty) (ps:List PTy) (o1:t.den) (o2:ODen ps) (ids:List Kp) (ks:List Nu) (kf:List CS) (ms:List Pc) (objs:Objs) (nx nx':Nat)
   (ih:∀(ids:List Kp) (ks:List Nu) (kf:List CS) (ms:List Pc) (objs:Objs) (nx nx':Nat),Wei G w ps o2 ks kf ms→KeptOk objs0 ν bx ps ids ks→At ν φ nx ms→
    (kids ids).Nodup→(∀k∈ids,k.id<nx∧look objs k.id=look objs0 k.id)→nx+ms.length≤nx'→
    (Wbe ps o2 ids objs nx).2=nx+ms.length∧kf.length=ids.length∧
    ∀id ob,look (Wbe ps o2 ids objs nx).1 id=some ob→(nx≤id∧id<nx+ms.length∧ArrOb G ν φ w id ob)∨(∃(j:Nat) (S:CS),(kids ids)[j]?=some id∧kf[j]?=some S∧KeptOb G ν w objs0 bx nx' id S ob)∨(look objs id=some ob∧id∉kids ids))
   (h:∃b off ks' kf' n1 n2,ks=Wfr b off::ks'∧kf=rng b off t.size::kf'∧ms=n1++n2∧Wmw G w t o1 b off n1∧Wei G w ps o2 ks' kf' n2)
   (hk:∃k ids' nu ks',ids=k::ids'∧ks=nu::ks'∧KeptBox objs0 ν bx t k nu∧KeptOk objs0 ν bx ps ids' ks') (hν:At ν φ nx ms)
   (hn:(kids ids).Nodup) (hi:∀k∈ids,k.id<nx∧look objs k.id=look objs0 k.id) (hx:nx+ms.length≤nx'):
   (Wbe (.box t::ps) (o1,o2) ids objs nx).2=nx+ms.length∧kf.length=ids.length∧
   ∀id ob,look (Wbe (.box t::ps) (o1,o2) ids objs nx).1 id=some ob→(nx≤id∧id<nx+ms.length∧ArrOb G ν φ w id ob)∨(∃(j:Nat) (S:CS),(kids ids)[j]?=some id∧kf[j]?=some S∧KeptOb G ν w objs0 bx nx' id S ob)∨(look objs id=some ob∧id∉kids ids):=by
  obtain⟨b,off,ks',kf',n1,n2,h1,h2,h3,⟨us,_,hmem,hty⟩,h5⟩:=h
  obtain⟨k,ids',nu,ks2,rfl,hks,⟨cs0,b0,hlo,hfit,hblk,hnu,hbx⟩,hk'⟩:=hk
  rw[h1]at hks
  simp only[List.cons.injEq]at hks
  obtain⟨hbn,rfl⟩:=hks
  rw[hnu]at hbn
  unfold Wfr at hbn
  injection hbn with hb0 ho0
  injection hb0 with hb0
  subst hb0 ho0 h2 h3
  have hl1:=Wau t _ _ _ hty
  have hlen:(n1++n2).length=t.owns+n2.length:=by rw[Xz,hl1]
  obtain⟨c1,o1'⟩:=Wbp t o1 nx us n1 hty hν.left
  have hnd:=Xai.1 hn
  obtain⟨hk1,hk2⟩:=hi k (Xi ..)
  have hul:=Wfm t o1 nx
  have hpb:Wrb (look objs k.id) k.off (unfold t o1 nx).1= .box (Wka cs0 k.off (unfold t o1 nx).1):=by rw[hk2,hlo];rfl
  obtain⟨e1,el,e2⟩:=ih ids' ks' kf' n2 ((k.id,Wrb (look objs k.id) k.off (unfold t o1 nx).1)::((unfold t o1 nx).2.1++objs)) (nx+t.owns) nx' h5 hk' (hν.right hl1) hnd.2 (λk' hkm=>by
   obtain⟨g1,g2⟩:=hi k' (Xe _ hkm)
   refine⟨by omega,?_⟩
   rw[Wt,if_neg (λe=>hnd.1 (by rw[e];exact Xal hkm)),Wed]
   cases hq:look (unfold t o1 nx).2.1 k'.id with
   |none=>exact g2
   |some ob=>have:=(o1' _ ob hq).1;omega) (by omega)
  simp only[Wbe,Wck]
  refine⟨by rw[e1,hlen];omega,by simp[el],λi ob hl=>?_⟩
  rcases e2 i ob hl with⟨g1,g2,g3⟩|⟨j,S,g1,g2,g3⟩|⟨g,gn⟩
  ·exact .inl ⟨by omega,by omega,g3⟩
  ·exact .inr (.inl ⟨j+1,S,g1,g2,g3⟩)
  ·rw[Wt]at g
   split at g
   ·rename_i e3;subst e3
    injection g with g
    rw[hpb]at g
    subst g
    refine .inr (.inl ⟨0,_,rfl,rfl,.inl ⟨cs0,k.off,_,_,us,hlo,rfl,by rw[hul];exact hfit,hblk,hmem,c1 nx' (by omega),by rw[hul],by rw[hul];exact hbx⟩⟩)
   ·rename_i hne
    rcases Wy g with g|g
    ·obtain⟨g1,g2,g3⟩:=o1' i ob g
     exact .inl ⟨g1,by omega,g3⟩
    ·exact .inr (.inr ⟨g,λhm=>by rcases Xo.1 hm with hm|hm;exact hne hm.symm;exact gn hm⟩)
def NewOb(G:GH)(ν:Nat→Nu)(φ:Nat→CS)(w:World)(nx':Nat)(id:Nat)(ob:Ob):Prop:=
 ArrOb G ν φ w id ob∨∃cs b us,ob= .box cs∧(ν id).blk=some b∧Row w b ((ν id).off+cs.length)∧Mem w b (ν id).off us∧CellsRel G ν nx' cs us∧CS.le (rng b (ν id).off cs.length) (φ id)
theorem Wjj:∀(rs:List PTy) (d:RDen rs) (vs:List Value) (ns:List Pc) (objs:Objs) (nx nx':Nat),Woa G w rs d vs ns→At ν φ nx ns→nx+ns.length≤nx'→
  (Wdz rs d objs nx).2.2=nx+ns.length∧
  (∀id ob,look (Wdz rs d objs nx).2.1 id=some ob→(nx≤id∧id<nx+ns.length∧NewOb G ν φ w nx' id ob)∨look objs id=some ob)∧
  AvsRel G ν nx' (Wdz rs d objs nx).1 vs
 | [],d,vs,ns,objs,nx,nx',⟨h1,h2⟩,_,_=>by subst h1 h2;exact⟨rfl,λid ob hl=>.inr hl,rfl,λj x v hj=>by simp[Wdz]at hj⟩
 | .v t agg::rs,d,vs,ns,objs,nx,nx',⟨v,vs',n1,n2,h1,h2,h3,h4⟩,hν,hx=>by
  subst h2
  obtain⟨us,hus⟩:=VRel_ty h3
  have hl1:=Wau _ _ _ _ hus
  have hlen:(n1++n2).length=t.owns+n2.length:=by rw[Xz,hl1]
  obtain⟨_,o1⟩:=Wbp t d.1 nx us n1 hus hν.left
  obtain⟨e1,e2,e4,e5⟩:=Wjj rs d.2 vs' n2 ((unfold t d.1 nx).2.1++objs) (nx+t.owns) nx' h4 (hν.right hl1) (by omega)
  simp only[Wdz,Wck]
  refine⟨by rw[e1,hlen];omega,λi ob hl=>?_,?_⟩
  ·rcases e2 i ob hl with⟨g1,g2,g3⟩|g
   ·exact .inl ⟨by omega,by omega,g3⟩
   ·rcases Wy g with g|g
    ·obtain⟨g1,g2,g3⟩:=o1 i ob g
     exact .inl ⟨g1,by omega,.inl g3⟩
    ·exact .inr g
  ·rw[h1]
   refine⟨by simp[e4],λj x u hj hu=>?_⟩
   cases j with
   |zero=>simp at hj hu;subst hj hu;exact mkAV_rel h3 hν.left (by omega)
   |succ j=>exact e5 j x u (by simpa using hj) (by simpa using hu)
 | .box t::rs,d,vs,ns,objs,nx,nx',⟨b,o,vs',n1,n2,h1,h2,⟨us,hrow,hmem,hty⟩,h5⟩,hν,hx=>by
  subst h2
  have hl1:=Wau _ _ _ _ hty
  have hlen:((⟨Wfr b o,rng b o t.size⟩:Pc)::(n1++n2)).length=1+t.owns+n2.length:=by rw[List.length_cons,Xz,hl1];omega
  obtain⟨hν0,hφ0⟩:ν nx=Wfr b o∧φ nx=rng b o t.size:=by have:=hν 0 _ rfl;simpa using this
  have hν1:At ν φ (nx+1) (n1++n2):=hν.right (n1:=[⟨Wfr b o,rng b o t.size⟩]) rfl
  obtain⟨c1,o1⟩:=Wbp t d.1 (nx+1) us n1 hty hν1.left
  obtain⟨e1,e2,e4,e5⟩:=Wjj rs d.2 vs' n2 ((nx,.box (unfold t d.1 (nx+1)).1)::((unfold t d.1 (nx+1)).2.1++objs)) (nx+1+t.owns) nx' h5 (hν1.right hl1) (by omega)
  have hul:=Wfm t d.1 (nx+1)
  simp only[Wdz,Wck]
  refine⟨by rw[e1,hlen];omega,λid ob hl=>?_,?_⟩
  ·rcases e2 id ob hl with⟨g1,g2,g3⟩|g
   ·exact .inl ⟨by omega,by omega,g3⟩
   ·rw[Wt]at g
    split at g
    ·rename_i e;subst e
     injection g with g;subst g
     refine .inl ⟨Xm _,by omega,.inr ⟨_,b,us,rfl,by rw[hν0];rfl,?_,?_,c1 nx' (by omega),?_⟩⟩
     ·rw[hν0,hul];exact hrow
     ·rw[hν0];exact hmem
     ·rw[hν0,hul,hφ0];exactλ_ _ hh=>hh
    ·rcases Wy g with g|g
     ·obtain⟨g1,g2,g3⟩:=o1 id ob g
      exact .inl ⟨by omega,by omega,.inl g3⟩
     ·exact .inr g
  ·rw[h1]
   refine⟨by simp[e4],λj x u hj hu=>?_⟩
   cases j with
   |zero=>
    simp at hj hu;subst hj hu
    exact⟨⟨by omega,b,by rw[hν0];rfl,by rw[hν0];rfl⟩,rfl⟩
   |succ j=>exact e5 j x u (by simpa using hj) (by simpa using hu)
 | .mut _::_,_,_,_,_,_,_,h,_,_=>h.elim
 | .clos _ _::_,_,_,_,_,_,_,h,_,_=>h.elim
 | .kv _ _::_,_,_,_,_,_,_,h,_,_=>h.elim
 | .rp _::_,_,_,_,_,_,_,h,_,_=>h.elim
 | .vj t::rs,d,vs,ns,objs,nx,nx',⟨us,u,vs',n1,n2,h1,h0,h2,h3,h4⟩,hν,hx=>by
  subst h2
  have hl1:=Wau _ _ _ _ h3
  have hlen:(n1++n2).length=t.owns+n2.length:=by rw[Xz,hl1]
  obtain⟨c1,o1⟩:=Wbp t d.1 nx us n1 h3 hν.left
  obtain⟨e1,e2,e4,e5⟩:=Wjj rs d.2 vs' n2 ((unfold t d.1 nx).2.1++objs) (nx+t.owns) nx' h4 (hν.right hl1) (by omega)
  simp only[Wdz,Wck]
  refine⟨by rw[e1,hlen];omega,λi ob hl=>?_,?_⟩
  ·rcases e2 i ob hl with⟨g1,g2,g3⟩|g
   ·exact .inl ⟨by omega,by omega,g3⟩
   ·rcases Wy g with g|g
    ·obtain⟨g1,g2,g3⟩:=o1 i ob g
     exact .inl ⟨g1,by omega,.inl g3⟩
    ·exact .inr g
  ·rw[h1]
   refine⟨by simp[e4],λj x v hj hv=>?_⟩
   cases j with
   |zero=>simp at hj hv;subst hj hv;exact⟨us++ [u],rfl,(c1 nx' (by omega)).append (CellsRel.one trivial h0)⟩
   |succ j=>exact e5 j x v (by simpa using hj) (by simpa using hv)
 | .boxal _ _::_,_,_,_,_,_,_,h,_,_=>h.elim
theorem resAV_rel{xs:List AV}{vs:List Value}(h:AvsRel G ν nx xs vs):AValRel G ν nx (resAV xs) (Wub vs):=by
 obtain⟨h1,h2⟩:=h
 match xs,vs,h1 with
 | [],[],_=>exact⟨[],rfl,rfl,λj x v hj=>by simp at hj⟩
 | [x],[v],_=>exact h2 0 x v rfl rfl
 |x::y::xs,v::u::vs,h1=>exact⟨v::u::vs,rfl,h1,h2⟩
end
end Go.Sx
namespace Go.Sx
set_option linter.unusedVariables false
set_option linter.unusedSimpArgs false
theorem Wcm(i:Nat):∀l:List Nat,Wez i l=true↔i∈l
 | []=>by simp[Wez]
 |j::l=>by
  simp only[Wez,Bool.or_eq_true,Wcm i l,Xo]
  rw[show(Nat.beq i j=true)=(i=j)from by simp]
theorem Wmh:∀l:List Nat,Wdw l=true↔l.Nodup
 | []=>by simp[Wdw]
 |i::l=>by
  have h:=Wcm i l
  simp only[Wdw,Xh,Xao,Xai,Wmh l]
  constructor
  ·rintro⟨h1,h2⟩;exact⟨λhm=>(by rw[h.2 hm]at h1;exact absurd h1 (by simp)),h2⟩
  ·rintro⟨h1,h2⟩
   refine⟨?_,h2⟩
   cases he:Wez i l with
   |false=>rfl
   |true=>exact absurd (h.1 he) h1
theorem disjN_iff{l m:List Nat}(h:Wql l m=true):∀i∈l,i∉m:=λi hi hm=>by
 unfold Wql at h
 have:=Xae.1 h i hi
 rw[(Wcm i m).2 hm]at this
 cases this
section
variable{w0:World}{F:CS}{nt:Slots}{G0 G G':GH}{ν:Nat→Nu}{φ:Nat→CS}{objs:Objs}{nx:Nat}{st st':St}{a:Act}{w w':World}{P:Program}{T:Tab}
theorem Wyi(h:HR w0 F G ν φ objs nx w){t:Ty}{agg:Bool}{x:AVal}{v:Value}{cs:List Cell}{d:t.den}{m l:List Nat}(hg:GLe G G')(hx:AValRel G ν nx x v)(hl:Lent G' w φ objs l)(hm:m.Nodup)
  (hc:cellsOf agg x=some cs) (hf:Wbr t cs objs=some (d,m,l)):∃ns,VRel G' w t agg d v ns∧Sep (fps ns)∧(∀p∈ns,CS.le p.fp (FromL φ objs m))∧(∀i∈m,Live objs i)∧(∀i∈l,Live objs i):=by
 unfold cellsOf at hc
 split at hc
 ·split at hc
  ·cases hc
  ·rename_i c ha
   injection hc with hc;subst hc
   obtain⟨ns,h1,h2,h3,h4,h5,_⟩:=Wbg h hg t [c] [v] d m l (CellsRel.one hx.1 hx.2) hl hm hf
   refine⟨ns,?_,h2,h3,h4,h5⟩
   unfold VRel
   rw[if_neg ha];exact h1
 ·split at hc
  ·rename_i ds ha
   injection hc with hc;subst hc
   obtain⟨us,rfl,hcs⟩:=hx
   obtain⟨ns,h1,h2,h3,h4,h5,_⟩:=Wbg h hg t ds us d m l hcs hl hm hf
   refine⟨ns,?_,h2,h3,h4,h5⟩
   unfold VRel
   rw[if_pos ha];exact⟨us,rfl,h1⟩
  ·cases hc
 ·cases hc
def Arrs(objs:Objs)(m:List Nat):Prop:=∀i∈m,∃(e:Ty) (xs:List e.den),look objs i=some (.arr e xs)
theorem Wse:∀(t:Ty) (cs:List Cell) (d:t.den) (m l:List Nat),Arrs objs m→Wbr t cs objs=some (d,m,l)→m.length≤t.owns
 | .prod a b,cs,d,m,l,ha,h=>by
  simp only[Wbr]at h
  split at h
  ·rename_i x m1 l1 y m2 l2 h1 h2
   simp only[Option.some.injEq,Prod.mk.injEq]at h
   obtain⟨rfl,rfl,rfl⟩:=h
   have:=Wse a _ _ _ _ (λi hi=>ha i (Xk _ hi)) h1
   have:=Wse b _ _ _ _ (λi hi=>ha i (Xg _ hi)) h2
   rw[Xz]
   show _≤a.owns+b.owns
   omega
  ·simp at h
 | .own e,cs,d,m,l,ha,h=>by
  simp only[Wbr]at h
  split at h
  ·rename_i id
   obtain⟨⟨ys,m'⟩,ho,hf⟩:=Xx.1 h
   simp only[Prod.mk.injEq]at hf
   obtain⟨rfl,rfl,rfl⟩:=hf
   unfold obOwn at ho
   split at ho
   ·obtain⟨zs,_,ho⟩:=Xx.1 ho
    obtain⟨_,rfl⟩:=Prod.mk.inj ho
    exact Xm 1
   ·rename_i e' xs i p hlo
    split at ho
    ·split at ho
     ·simp only[Option.some.injEq,Prod.mk.injEq]at ho
      obtain⟨_,rfl⟩:=ho
      obtain⟨e2,ys2,h2⟩:=ha id (Xi ..)
      rw[hlo]at h2;cases h2
     ·simp at ho
    ·simp at ho
   ·simp at ho
  ·split at h
   ·obtain⟨zs,_,h⟩:=Xx.1 h
    have h2:=(Prod.mk.inj (Prod.mk.inj h).2).1
    subst h2
    exact Xm 1
   ·simp at h
  ·simp only[Option.some.injEq,Prod.mk.injEq]at h
   obtain⟨rfl,rfl,rfl⟩:=h
   exact Xbo _
  ·simp at h
 | .slice e,cs,d,m,l,_,h=>by
  have hm:m= []:=by
   simp only[Wbr]at h
   split at h
   ·obtain⟨q,_,h⟩:=Xx.1 h
    exact((Prod.mk.inj (Prod.mk.inj h).2).1).symm
   ·split at h
    ·obtain⟨q,_,h⟩:=Xx.1 h
     exact((Prod.mk.inj (Prod.mk.inj h).2).1).symm
    ·simp at h
   ·injection h with h;exact((Prod.mk.inj (Prod.mk.inj h).2).1).symm
   ·obtain⟨q,_,h⟩:=Xx.1 h
    exact((Prod.mk.inj (Prod.mk.inj h).2).1).symm
   ·simp at h
  rw[hm];exact Xbo _
 | .int k,cs,d,m,l,_,h=>by
  simp only[Wbr]at h
  split at h
  ·obtain⟨q,hq,h⟩:=Xx.1 h
   simp only[Prod.mk.injEq]at h
   obtain⟨rfl,rfl,rfl⟩:=h
   exact Xm 0
  ·simp at h
 | .bool,cs,d,m,l,_,h=>by
  simp only[Wbr]at h
  split at h
  ·obtain⟨q,hq,h⟩:=Xx.1 h
   simp only[Prod.mk.injEq]at h
   obtain⟨rfl,rfl,rfl⟩:=h
   exact Xm 0
  ·simp at h
 | .str,cs,d,m,l,_,h=>by
  simp only[Wbr]at h
  split at h
  ·obtain⟨q,hq,h⟩:=Xx.1 h
   simp only[Prod.mk.injEq]at h
   obtain⟨rfl,rfl,rfl⟩:=h
   exact Xm 0
  ·simp at h
theorem Wlz(h:HR w0 F G ν φ objs nx w)(hg:GLe G G'){t:Ty}(ht:t.owns=0){cs:List Cell}{vs:List Value}{d:t.den}{m l:List Nat}(hc:CellsRel G ν nx cs vs)(hl:Lent G' w φ objs l)(hf:Wbr t cs objs=some (d,m,l))(hm:m= []):TyRel G' w t d vs []:=by
 subst hm
 obtain⟨ns,h1,_⟩:=Wbg h hg t cs vs d [] l hc hl Xdi hf
 have:=Wau _ _ _ _ h1
 rw[ht]at this
 rw[Xy this]at h1
 exact h1
def pcs(ν:Nat→Nu)(φ:Nat→CS)(m:List Nat):List Pc:=m.map λi=>⟨ν i,φ i⟩
theorem nus_pcs(m:List Nat):nus (pcs ν φ m)=m.map ν:=by simp[nus,pcs,Function.comp_def]
theorem fps_pcs(m:List Nat):fps (pcs ν φ m)=m.map φ:=by simp[fps,pcs,Function.comp_def]
theorem Wlp(h:HR w0 F G ν φ objs nx w)(hg:GLe G G'):∀(t:Ty) (cs:List Cell) (vs:List Value) (d:t.den) (m l:List Nat),CellsRel G ν nx cs vs→Lent G' w φ objs l→(∀c∈cs,wholeC c=true)→Arrs objs m→
  Wbr t cs objs=some (d,m,l)→m.length=t.owns→TyRel G' w t d vs (pcs ν φ m)∧Wur objs t m
 | .prod a b,cs,vs,d,m,l,hc,hl,hw,ha,hf,hm=>by
  have hf0:=hf
  simp only[Wbr]at hf
  split at hf
  ·rename_i x m1 l1 y m2 l2 h1 h2
   simp only[Option.some.injEq,Prod.mk.injEq]at hf
   obtain⟨rfl,rfl,rfl⟩:=hf
   have ha1:Arrs objs m1:=λi hi=>ha i (Xk _ hi)
   have ha2:Arrs objs m2:=λi hi=>ha i (Xg _ hi)
   have q1:=Wse a _ _ _ _ ha1 h1
   have q2:=Wse b _ _ _ _ ha2 h2
   rw[Xz]at hm
   have hm':m1.length+m2.length=a.owns+b.owns:=hm
   obtain⟨g1,g2⟩:=Wlp h hg a _ (vs.take a.size) x m1 l1 (hc.take _) (hl.mono (by simp;intro i hi;exact .inl hi)) (λc hc=>hw c (Xcl hc)) ha1 h1 (by omega)
   obtain⟨g3,g4⟩:=Wlp h hg b _ (vs.drop a.size) y m2 l2 (hc.drop _) (hl.mono (by simp;intro i hi;exact .inr hi)) (λc hc=>hw c (Xev hc)) ha2 h2 (by omega)
   exact⟨⟨_,_,pcs ν φ m1,pcs ν φ m2,(Xdb a.size vs).symm,by simp[pcs],g1,g3⟩,m1,m2,rfl,g2,g4⟩
  ·simp at hf
 | .own e,cs,vs,d,m,l,hc,hl,hw,ha,hf,hm=>by
  simp only[Wbr]at hf
  split at hf
  ·rename_i id
   obtain⟨v,rfl,⟨_,hv⟩,_⟩:=hc.single
   subst hv
   obtain⟨⟨ys,m'⟩,ho,hf⟩:=Xx.1 hf
   simp only[Prod.mk.injEq]at hf
   obtain⟨rfl,rfl,rfl⟩:=hf
   unfold obOwn at ho
   split at ho
   ·rename_i e' xs hlo
    obtain⟨zs,hcast,ho⟩:=Xx.1 ho
    obtain⟨rfl,rfl⟩:=Prod.mk.inj ho
    obtain⟨he,hy⟩:=Wbq hcast
    subst he
    simp only at hy;subst hy
    have hob:OwnL w (TyRel G w e') e'.size (ν id) xs (φ id):=h.ob _ _ hlo
    exact⟨⟨⟨ν id,φ id⟩,rfl,rfl,Whi hg (Same.refl _ w) (λ_ _ hh=>hh) hob⟩,id,xs,rfl,hlo⟩
   ·rename_i e' xs i p hlo
    split at ho
    ·split at ho
     ·simp only[Option.some.injEq,Prod.mk.injEq]at ho
      obtain⟨_,rfl⟩:=ho
      obtain⟨e2,ys2,h2⟩:=ha id (Xi ..)
      rw[hlo]at h2;cases h2
     ·simp at ho
    ·simp at ho
   ·simp at ho
  ·have:=hw _ (Xac.2 rfl)
   cases this
  ·simp only[Option.some.injEq,Prod.mk.injEq]at hf
   obtain⟨rfl,rfl,rfl⟩:=hf
   exact absurd hm (by show¬(0=1);omega)
  ·simp at hf
 | .slice e,cs,vs,d,m,l,hc,hl,hw,ha,hf,hm=>by
  have hm0:m= []:=Xy hm
  have:=Wlz h hg (t:=.slice e) rfl hc hl hf hm0
  subst hm0
  exact⟨this,rfl⟩
 | .int k,cs,vs,d,m,l,hc,hl,hw,ha,hf,hm=>by
  have hm0:m= []:=Xy hm
  have:=Wlz h hg (t:=.int k) rfl hc hl hf hm0
  subst hm0
  exact⟨this,rfl⟩
 | .bool,cs,vs,d,m,l,hc,hl,hw,ha,hf,hm=>by
  have hm0:m= []:=Xy hm
  have:=Wlz h hg (t:=.bool) rfl hc hl hf hm0
  subst hm0
  exact⟨this,rfl⟩
 | .str,cs,vs,d,m,l,hc,hl,hw,ha,hf,hm=>by
  have hm0:m= []:=Xy hm
  have:=Wlz h hg (t:=.str) rfl hc hl hf hm0
  subst hm0
  exact⟨this,rfl⟩
theorem arrsOk_iff{t:Ty}{m:List Nat}{x:AVal}(h:arrsOk objs t m x=true):m.length=t.owns∧wholeV x=true∧Arrs objs m:=by
 unfold arrsOk at h
 simp only[Xh,decide_eq_true_eq,Xae]at h
 obtain⟨⟨h1,h2⟩,h3⟩:=h
 refine⟨h1,h2,λi hi=>?_⟩
 have:=h3 i hi
 split at this
 ·rename_i e xs hl;exact⟨e,xs,hl⟩
 ·cases this
theorem VRel_kept(h:HR w0 F G ν φ objs nx w){t:Ty}{agg:Bool}{x:AVal}{v:Value}{cs:List Cell}{d:t.den}{m l:List Nat}(hg:GLe G G')(hx:AValRel G ν nx x v)(hl:Lent G' w φ objs l)
  (hc:cellsOf agg x=some cs) (hf:Wbr t cs objs=some (d,m,l)) (ha:arrsOk objs t m x=true):VRel G' w t agg d v (pcs ν φ m)∧Wur objs t m:=by
 obtain⟨hm,hw,harr⟩:=arrsOk_iff ha
 unfold cellsOf at hc
 split at hc
 ·split at hc
  ·cases hc
  ·rename_i c hag
   injection hc with hc;subst hc
   obtain⟨h1,h2⟩:=Wlp h hg t [c] [v] d m l (CellsRel.one hx.1 hx.2) hl (λc' hc'=>by rw[Xac.1 hc'];exact hw) harr hf hm
   refine⟨?_,h2⟩
   unfold VRel
   rw[if_neg hag];exact h1
 ·split at hc
  ·rename_i ds hag
   injection hc with hc;subst hc
   obtain⟨us,rfl,hcs⟩:=hx
   obtain⟨h1,h2⟩:=Wlp h hg t ds us d m l hcs hl (λc' hc'=>Xae.1 hw c' hc') harr hf hm
   refine⟨?_,h2⟩
   unfold VRel
   rw[if_pos hag];exact⟨us,rfl,h1⟩
  ·cases hc
 ·cases hc
def Tk(φ:Nat→CS)(objs:Objs)(bx:List (Nat×CS))(l:List Nat):CS:=λb o=>∃i∈l,Live objs i∧φ i b o∧∀p∈bx,p.1=i→p.2 b o
structure AOk(G':GH)(ν:Nat→Nu)(φ:Nat→CS)(objs:Objs)(w:World)(ps:List PTy)(A:Args ps)(vs:List Value)(ns:List Pc)(ks:List Nu)(bx:List (Nat×CS)):Prop where
 args:Wdp G' w ps A.d vs ns ks
 kept:KeptOk objs ν bx ps A.kept ks
 sep:Sep (fps ns)
 tk:∀q∈ns,CS.le q.fp (Tk φ objs bx A.all)
 bx:∀p∈bx,p.1∈A.all
 live:∀i∈A.all,Live objs i
 lent:∀i∈A.lent,Live objs i
 mv:∀i∈A.moved,i∈A.all
 mvk:∀i∈A.all,i∈A.moved∨i∈kids A.kept
 sub:(kids A.kept).Sublist A.all
 dis:∀i∈kids A.kept,i∉A.moved
theorem Wtw{bx:List (Nat×CS)}{l:List Nat}:CS.le (Tk φ objs bx l) (FromL φ objs l):=λb o ⟨i,hi,h1,h2,_⟩=>⟨i,hi,h1,h2⟩
theorem Tk_tail{bx bx':List (Nat×CS)}{l l':List Nat}(hl:∀i∈l,i∈l')(hb:∀p∈bx',p∈bx∨p.1∉l):CS.le (Tk φ objs bx l) (Tk φ objs bx' l'):=λb o ⟨i,hi,h1,h2,h3⟩=>
 ⟨i,hl i hi,h1,h2,λp hp e=>by
  rcases hb p hp with h|h
  ·exact h3 p h e
  ·exact absurd (by rw[e];exact hi) h⟩
theorem from_Tk{bx:List (Nat×CS)}{m l:List Nat}(hm:∀i∈m,i∈l)(hb:∀p∈bx,p.1∉m):CS.le (FromL φ objs m) (Tk φ objs bx l):=λb o ⟨i,hi,h1,h2⟩=>
 ⟨i,hm i hi,h1,h2,λp hp e=>absurd (by rw[e];exact hi) (hb p hp)⟩
theorem Wfy(h:HR w0 F G ν φ objs nx w){n1 n2:List Pc}{m l:List Nat}(h1:Sep (fps n1))(h2:Sep (fps n2))(g1:∀q∈n1,CS.le q.fp (FromL φ objs m))(g2:∀q∈n2,CS.le q.fp (FromL φ objs l))(hd:∀i∈m,i∉l):Sep (fps (n1++n2)):=by
 unfold fps
 rw[Xp]
 refine Sep_app h1 h2 (A:=FromL φ objs m) (B:=FromL φ objs l) (λs hs=>?_) (λs hs=>?_) (FromL.disj h hd)
 ·obtain⟨p,hp,rfl⟩:=Xu.1 hs;exact g1 p hp
 ·obtain⟨p,hp,rfl⟩:=Xu.1 hs;exact g2 p hp
theorem box_args(h:HR w0 F G ν φ objs nx w)(hg:GLe G G'){t:Ty}{ps:List PTy}{id off:Nat}{cs:List Cell}{d:t.den}{m:List Nat}{A:Args ps}{vs:List Value}{ns:List Pc}{ks:List Nu}{bx:List (Nat×CS)}{v:Value}
  (hv:CellRel G ν nx (.ptr id off) v) (hlo:look objs id=some (.box cs)) (hf:Wbr t ((cs.drop off).take t.size) objs=some (d,m,[])) (hnd:(id::(m++A.all)).Nodup) (hA:AOk G' ν φ objs w ps A vs ns ks bx):
  ∃b n1,v= .pointer (some ⟨b,(ν id).off+off,none⟩)∧(ν id).blk=some b∧Wmw G' w t d b ((ν id).off+off) n1∧Leaf ν t ((cs.drop off).take t.size) n1∧
   KeptBox objs ν ((id,rng b ((ν id).off+off) t.size)::bx) t ⟨id,off⟩ (Wfr b ((ν id).off+off))∧KeptOk objs ν ((id,rng b ((ν id).off+off) t.size)::bx) ps A.kept ks∧
   Sep (fps (⟨Wfr b ((ν id).off+off),rng b ((ν id).off+off) t.size⟩::(n1++ns)))∧
   (∀q∈(⟨Wfr b ((ν id).off+off),rng b ((ν id).off+off) t.size⟩:Pc)::(n1++ns),CS.le q.fp (Tk φ objs ((id,rng b ((ν id).off+off) t.size)::bx) (id::(m++A.all))))∧
   (∀p∈(id,rng b ((ν id).off+off) t.size)::bx,p.1∈id::(m++A.all))∧(∀i∈id::(m++A.all),Live objs i)∧
   (∀i∈m++A.moved,i∈id::(m++A.all))∧(∀i∈id::(m++A.all),i∈m++A.moved∨i∈id::kids A.kept)∧(id::kids A.kept).Sublist (id::(m++A.all))∧(∀i∈id::kids A.kept,i∉m++A.moved):=by
 obtain⟨hid,b,hblk,rfl⟩:=hv
 obtain⟨n1,n2⟩:=Xai.1 hnd
 obtain⟨n3,n4,n5⟩:=Xak.1 n2
 have hlv:Live objs id:=⟨_,hlo,by simp⟩
 obtain⟨b',us,hb',hrow,hmem,hcs,hrs⟩:Wgn G ν nx w id (φ id) (.box cs):=h.ob _ _ hlo
 rw[hblk]at hb';injection hb' with hb';subst hb'
 obtain⟨q1,t1,t2,t3,t4,_,t5⟩:=Wbg h hg t _ ((us.drop off).take t.size) d m [] ((hcs.drop off).take _) (λi hi=>by simp at hi) n3 hf
 have hlen:=Wp _ _ _ _ t1
 have hfit:off+t.size≤cs.length:=by
  have:=hcs.1
  rw[Xan,Xdl]at hlen
  have:=Wec t
  omega
 have hrφ:CS.le (rng b ((ν id).off+off) t.size) (φ id):=λb' o ⟨k0,k1,k2⟩=>hrs b' o ⟨k0,by omega,by omega⟩
 refine⟨b,q1,rfl,hblk,⟨_,?_,?_,t1⟩,t5,⟨cs,b,hlo,hfit,hblk,rfl,Xi ..⟩,KeptOk.mono (λp hp=>Xe _ hp) _ _ _ hA.kept,?_,?_,?_,?_,?_,?_,?_,?_⟩
 ·obtain⟨row,TT,r1,r2⟩:=hrow;exact⟨row,TT,r1,by omega⟩
 ·intro j v hj
  rw[Xbl]at hj
  split at hj
  ·rw[Xbk]at hj
   rw[Xap];exact hmem _ v hj
  ·simp at hj
 ·have s1:=Wfy h t2 hA.sep t3 (λq hq b o hh=>Wtw b o (hA.tk q hq b o hh)) (λi hi hj=>n5 i hi i hj rfl)
  refine Xab.2 ⟨λs hs=>?_,s1⟩
  obtain⟨p,hp,rfl⟩:=Xu.1 hs
  refine CS.disj.mono (FromL.disj h (m:=[id]) (m':=m++A.all) (λi hi hj=>n1 (by rw[←Xac.1 hi];exact hj))) (λb o hh=>⟨id,by simp,hlv,hrφ b o hh⟩) (λb o hh=>?_)
  rcases Xn.1 hp with hp|hp
  ·exact FromL.mono (λi hi=>Xk _ hi) b o (t3 p hp b o hh)
  ·exact FromL.mono (λi hi=>Xg _ hi) b o (Wtw b o (hA.tk p hp b o hh))
 ·intro q hq
  rcases Xo.1 hq with rfl|hq
  ·exactλb o hh=>⟨id,Xi ..,hlv,hrφ b o hh,λp hp e=>by
    rcases Xo.1 hp with rfl|hp
    ·exact hh
    ·exact absurd (Xg _ (by rw[←e];exact hA.bx p hp)) n1⟩
  ·rcases Xn.1 hq with hq|hq
   ·refineλb o hh=>from_Tk (m:=m) (λi hi=>Xe _ (Xk _ hi)) (λp hp hm=>?_) b o (t3 q hq b o hh)
    rcases Xo.1 hp with rfl|hp
    ·exact n1 (Xk _ hm)
    ·exact n5 _ hm _ (hA.bx p hp) rfl
   ·refineλb o hh=>Tk_tail (λi hi=>Xe _ (Xg _ hi)) (λp hp=>?_) b o (hA.tk q hq b o hh)
    rcases Xo.1 hp with rfl|hp
    ·exact .inr (λhm=>n1 (Xg _ hm))
    ·exact .inl hp
 ·intro p hp
  rcases Xo.1 hp with rfl|hp
  ·exact Xi ..
  ·exact Xe _ (Xg _ (hA.bx p hp))
 ·intro i hi
  rcases Xo.1 hi with rfl|hi
  ·exact hlv
  ·rcases Xn.1 hi with hi|hi
   ·exact t4 i hi
   ·exact hA.live i hi
 ·intro i hi
  rcases Xn.1 hi with hi|hi
  ·exact Xe _ (Xk _ hi)
  ·exact Xe _ (Xg _ (hA.mv i hi))
 ·intro i hi
  rcases Xo.1 hi with rfl|hi
  ·exact .inr (Xi ..)
  ·rcases Xn.1 hi with hi|hi
   ·exact .inl (Xk _ hi)
   ·rcases hA.mvk i hi with hi|hi
    ·exact .inl (Xg _ hi)
    ·exact .inr (Xe _ hi)
 ·exact List.Sublist.cons_cons _ (List.Sublist.trans hA.sub (Xfm _ _))
 ·intro i hi hm
  rcases Xo.1 hi with rfl|hi
  ·rcases Xn.1 hm with hm|hm
   ·exact n1 (Xk _ hm)
   ·exact n1 (Xg _ (hA.mv _ hm))
  ·rcases Xn.1 hm with hm|hm
   ·exact n5 _ hm _ (hA.sub.subset hi) rfl
   ·exact hA.dis i hi hm
theorem elemIx_rel(h:HR w0 F G ν φ objs nx w){c:Cell}{y:AVal}{i:Nat}{u:Value}(hy:AValRel G ν nx y u)(he:elemIx objs c y=some i):
  ∃r b,c= .own r∧(ν r).blk=some b∧i<(ν r).len∧u= .pointer (some ⟨b,(ν r).off+(i*(ν r).esz+0),none⟩):=by
 unfold elemIx at he
 split at he
 ·rename_i r p off
  split at he
  ·rename_i e xs j p' hlo
   split at he
   ·rename_i hp
    injection he with he;subst he
    have hp:=Xcb hp
    subst hp
    obtain⟨hpn,k1,k2,k3,b,k4,k5,k6,_⟩:p<nx∧Wrx w (TyRel G w e) e.size (ν r) (ν p) xs j (φ r):=h.ob _ _ hlo
    obtain⟨⟨_,b',hb',rfl⟩,_⟩:=hy
    rw[k5]at hb';injection hb' with hb';subst hb'
    exact⟨r,b,rfl,k4,by omega,by rw[k6,k2,Xax,Xax]⟩
   ·simp at he
  ·simp at he
 ·rename_i r r' j off
  split at he
  ·rename_i e xs hlo
   split at he
   ·rename_i hp
    injection he with he;subst he
    have hp:=Xcb hp
    subst hp
    obtain⟨⟨_,hlt,b,hb,rfl⟩,_⟩:=hy
    exact⟨r,b,rfl,hb,hlt,rfl⟩
   ·simp at he
  ·simp at he
 ·simp at he
theorem Wca(h:HR w0 F G ν φ objs nx w)(hg:GLe G G'):∀(ps:List PTy) (xs:List AVal) (vs:List Value) (A:Args ps),vs.length=xs.length→
  (∀(j:Nat) (x:AVal) (v:Value),xs[j]?=some x→vs[j]?=some v→AValRel G ν nx x v)→Lent G' w φ objs A.lent→A.all.Nodup→Wbc ps xs objs=some A→
  ∃ns ks bx,AOk G' ν φ objs w ps A vs ns ks bx
 | [],xs,vs,A,hlen,hx,hl,hnd,hf=>by
  simp only[Wbc]at hf
  split at hf
  ·injection hf with hf;subst hf
   have hvs:vs= []:=Xy (by simpa using hlen)
   exact⟨[],[],[],⟨hvs,rfl,rfl⟩,⟨rfl,rfl⟩,List.Pairwise.nil,by simp,by simp,by simp,by simp,by simp,by simp,List.Sublist.refl _,by simp[kids]⟩
  ·cases hf
 | .v t agg::ps,xs,vs,A,hlen,hx,hl,hnd,hf=>by
  simp only[Wbc]at hf
  split at hf
  ·rename_i x xs
   split at hf
   ·rename_i d m r A' h1 h2
    injection hf with hf;subst hf
    match vs,hlen with
    |v::vs,hlen=>
     cases hc:cellsOf agg x with
     |none=>simp[hc]at h1
     |some cs=>
      simp[hc]at h1
      obtain⟨n1,n2,n3⟩:=Xak.1 hnd
      obtain⟨q1,g1,g2,g3,g4,g5⟩:=Wyi h hg (hx 0 x v rfl rfl) (hl.mono (λi hi=>Xk _ hi)) n1 hc h1
      obtain⟨ns,ks,bx,hA⟩:=Wca h hg ps xs vs A' (by simpa using hlen) (λj y u hj hu=>hx (j+1) y u (by simpa using hj) (by simpa using hu)) (hl.mono (λi hi=>Xg _ hi)) n2 h2
      refine⟨q1++ns,ks,bx,⟨v,vs,q1,ns,rfl,rfl,g1,hA.args⟩,hA.kept,Wfy h g2 hA.sep g3 (λq hq b o hh=>Wtw b o (hA.tk q hq b o hh)) (λi hi hj=>n3 i hi i hj rfl),λq hq=>?_,λp hp=>Xg _ (hA.bx p hp),λi hi=>?_,λi hi=>?_,λi hi=>?_,λi hi=>?_,List.Sublist.trans hA.sub (Xfm _ _),λi hi hm=>?_⟩
      ·rcases Xn.1 hq with hq|hq
       ·exactλb o hh=>from_Tk (λi hi=>Xk _ hi) (λp hp hm=>n3 _ hm _ (hA.bx p hp) rfl) b o (g3 q hq b o hh)
       ·exactλb o hh=>Tk_tail (λi hi=>Xg _ hi) (λp hp=>.inl hp) b o (hA.tk q hq b o hh)
      ·rcases Xn.1 hi with hi|hi
       ·exact g4 i hi
       ·exact hA.live i hi
      ·rcases Xn.1 hi with hi|hi
       ·exact g5 i hi
       ·exact hA.lent i hi
      ·rcases Xn.1 hi with hi|hi
       ·exact Xk _ hi
       ·exact Xg _ (hA.mv i hi)
      ·rcases Xn.1 hi with hi|hi
       ·exact .inl (Xk _ hi)
       ·rcases hA.mvk i hi with hi|hi
        ·exact .inl (Xg _ hi)
        ·exact .inr hi
      ·rcases Xn.1 hm with hm|hm
       ·exact n3 _ hm _ (hA.sub.subset hi) rfl
       ·exact hA.dis i hi hm
   ·cases hf
  ·cases hf
 | .box t::ps,xs,vs,A,hlen,hx,hl,hnd,hf=>by
  simp only[Wbc]at hf
  split at hf
  ·rename_i id off xs
   split at hf
   ·rename_i cs hlo
    split at hf
    ·rename_i d m A' h1 h2
     injection hf with hf;subst hf
     match vs,hlen with
     |v::vs,hlen=>
      obtain⟨n1,n2⟩:=Xai.1 hnd
      obtain⟨ns,ks,bx,hA⟩:=Wca h hg ps xs vs A' (by simpa using hlen) (λj y u hj hu=>hx (j+1) y u (by simpa using hj) (by simpa using hu)) hl (Xak.1 n2).2.1 h2
      obtain⟨b,q1,rfl,hblk,k1,_,k2,k3,k4,k5,k6,k7,k8,k9,k10,k11⟩:=box_args h hg (hx 0 _ v rfl rfl).1 hlo h1 hnd hA
      exact⟨_,_,_,⟨b,_,vs,q1,ns,ks,rfl,rfl,rfl,k1,hA.args⟩,⟨_,_,_,_,rfl,rfl,k2,k3⟩,k4,k5,k6,k7,hA.lent,k8,k9,k10,k11⟩
    ·cases hf
   ·cases hf
  ·cases hf
 | .vj _::_,_,_,_,_,_,_,_,hf=>by simp only[Wbc]at hf;cases hf
 | .boxal t lf::ps,xs,vs,A,hlen,hx,hl,hnd,hf=>by
  simp only[Wbc]at hf
  split at hf
  ·rename_i id off y xs
   split at hf
   ·rename_i cs hlo
    split at hf
    ·rename_i d m A' i h1 h2 h3
     injection hf with hf;subst hf
     match vs,hlen with
     |v::u::vs,hlen=>
      obtain⟨n1,n2⟩:=Xai.1 hnd
      obtain⟨ns,ks,bx,hA⟩:=Wca h hg ps xs vs A' (by simpa using hlen) (λj y u hj hu=>hx (j+2) y u (by simpa using hj) (by simpa using hu)) hl (Xak.1 n2).2.1 h2
      obtain⟨b,q1,rfl,hblk,k1,kl,k2,k3,k4,k5,k6,k7,k8,k9,k10,k11⟩:=box_args h hg (hx 0 _ v rfl rfl).1 hlo h1 hnd hA
      obtain⟨c,hc,h3⟩:=Xbv.1 h3
      obtain⟨k,hk,hc⟩:=Xbv.1 hc
      obtain⟨r,b',rfl,e1,e2,rfl⟩:=elemIx_rel h (hx 1 y u rfl rfl) h3
      obtain⟨pc,e3,e4⟩:=kl lf k r hk hc
      exact⟨_,_,_,⟨b,_,b',pc,vs,q1,ns,ks,by rw[e4],rfl,rfl,k1,e3,by rw[e4];exact e1,by rw[e4];exact e2,hA.args⟩,⟨_,_,_,_,rfl,rfl,k2,k3⟩,k4,k5,k6,k7,hA.lent,k8,k9,k10,k11⟩
    ·cases hf
   ·cases hf
  ·cases hf
 | .mut e::ps,xs,vs,A,hlen,hx,hl,hnd,hf=>by
  simp only[Wbc]at hf
  split at hf
  ·rename_i id xs
   split at hf
   ·rename_i e' ys hlo
    split at hf
    ·rename_i d A' h1 h2
     injection hf with hf;subst hf
     obtain⟨he,hd⟩:=Wbq h1
     subst he
     simp only at hd;subst hd
     match vs,hlen with
     |v::vs,hlen=>
      obtain⟨⟨_,hv⟩,_⟩:=hx 0 _ v rfl rfl
      subst hv
      obtain⟨n1,n2⟩:=Xai.1 hnd
      have hlv:Live objs id:=⟨_,hlo,by simp⟩
      have hown:OwnL w (TyRel G w e') e'.size (ν id) ys (φ id):=h.ob _ _ hlo
      obtain⟨ns,ks,bx,hA⟩:=Wca h hg ps xs vs A' (by simpa using hlen) (λj y u hj hu=>hx (j+1) y u (by simpa using hj) (by simpa using hu)) hl n2 h2
      refine⟨⟨ν id,φ id⟩::ns,ν id::ks,bx,⟨⟨ν id,φ id⟩,vs,ns,ks,rfl,rfl,rfl,Whi hg (Same.refl _ w) (λ_ _ hh=>hh) hown,hA.args⟩,⟨id,_,ks,ys,rfl,rfl,hlo,hA.kept⟩,?_,λq hq=>?_,λp hp=>Xe _ (hA.bx p hp),λi hi=>?_,hA.lent,λi hi=>Xe _ (hA.mv i hi),λi hi=>?_,List.Sublist.cons_cons _ hA.sub,λi hi hm=>?_⟩
      ·refine Wfy h (n1:=[⟨ν id,φ id⟩]) (m:=[id]) (List.pairwise_singleton _ _) hA.sep (λq hq=>?_) (λq hq b o hh=>Wtw b o (hA.tk q hq b o hh)) (λi hi hj=>n1 (by rw[←Xac.1 hi];exact hj))
       rw[Xac.1 hq];exact FromL.one (by simp) hlv
      ·rcases Xo.1 hq with rfl|hq
       ·exactλb o hh=>⟨id,Xi ..,hlv,hh,λp hp e=>absurd (by rw[←e];exact hA.bx p hp) n1⟩
       ·exactλb o hh=>Tk_tail (λi hi=>Xe _ hi) (λp hp=>.inl hp) b o (hA.tk q hq b o hh)
      ·rcases Xo.1 hi with rfl|hi
       ·exact hlv
       ·exact hA.live i hi
      ·rcases Xo.1 hi with rfl|hi
       ·exact .inr (Xi ..)
       ·rcases hA.mvk i hi with hi|hi
        ·exact .inl hi
        ·exact .inr (Xe _ hi)
      ·rcases Xo.1 hi with rfl|hi
       ·exact n1 (hA.mv _ hm)
       ·exact hA.dis i hi hm
    ·cases hf
   ·cases hf
  ·cases hf
 | .clos g n::ps,xs,vs,A,hlen,hx,hl,hnd,hf=>by
  simp only[Wbc]at hf
  split at hf
  ·rename_i g' caps xs
   split at hf
   ·rename_i hc
    obtain⟨rfl,hcl⟩:=hc
    cases hA:Wbc ps (ptrs caps++xs) objs with
    |none=>simp[hA]at hf
    |some A'=>
     simp only[hA,Xcf,Option.some.injEq]at hf
     subst hf
     match vs,hlen with
     |v::vs,hlen=>
      obtain⟨⟨cvs,hv,hcv,hrel⟩,_⟩:=hx 0 _ v rfl rfl
      subst hv
      obtain⟨ns,ks,bx,hAk⟩:=Wca h hg ps (ptrs caps++xs) (cvs++vs) A' (by simp[ptrs,hcv];simpa using hlen) (λj y u hj hu=>by
       rw[Xaz]at hj hu
       simp only[ptrs,Xaf]at hj
       rw[hcv]at hu
       split at hj
       ·rename_i hlt
        rw[if_pos hlt]at hu
        rw[Xam]at hj
        obtain⟨id,hid,rfl⟩:=Xx.1 hj
        obtain⟨h1,h3,h2⟩:=hrel _ id u hid hu
        exact⟨⟨h1,h2⟩,h3⟩
       ·rename_i hlt
        rw[if_neg hlt]at hu
        exact hx (j-caps.length+1) y u (by simpa using hj) (by simpa using hu)) hl hnd hA
      refine⟨ns,ks,bx,⟨cvs,vs,rfl,by rw[hcv];exact hcl,λu hu=>?_,hAk.args⟩,hAk.kept,hAk.sep,hAk.tk,hAk.bx,hAk.live,hAk.lent,hAk.mv,hAk.mvk,hAk.sub,hAk.dis⟩
      obtain⟨j,hj⟩:=Xdw hu
      have hlt:j<caps.length:=by rw[←hcv];exact(Xq.1 hj).1
      exact(hrel j _ u (Xs hlt) hj).2.1
   ·cases hf
  ·cases hf
 | .kv t agg::ps,xs,vs,A,hlen,hx,hl,hnd,hf=>by
  simp only[Wbc]at hf
  split at hf
  ·rename_i x xs
   split at hf
   ·rename_i d m r A' h1 h2
    split at hf
    ·rename_i harr
     injection hf with hf;subst hf
     match vs,hlen with
     |v::vs,hlen=>
      cases hc:cellsOf agg x with
      |none=>simp[hc]at h1
      |some cs=>
       simp[hc]at h1
       obtain⟨n1,n2,n3⟩:=Xak.1 hnd
       have hl1:Lent G' w φ objs r:=hl.mono (λi hi=>Xk _ hi)
       obtain⟨_,_,_,_,g4,g5⟩:=Wyi h hg (hx 0 x v rfl rfl) hl1 n1 hc h1
       obtain⟨k1,k2⟩:=VRel_kept h hg (hx 0 x v rfl rfl) hl1 hc h1 harr
       obtain⟨ns,ks,bx,hA⟩:=Wca h hg ps xs vs A' (by simpa using hlen) (λj y u hj hu=>hx (j+1) y u (by simpa using hj) (by simpa using hu)) (hl.mono (λi hi=>Xg _ hi)) n2 h2
       have hkk:kids (kp0 m++A'.kept)=m++kids A'.kept:=by simp only[kids,Xp];congr 1;exact Wsh m
       have gp:∀q∈pcs ν φ m,CS.le q.fp (FromL φ objs m):=λq hq=>by
        obtain⟨i,hi,rfl⟩:=Xu.1 hq
        exact FromL.one hi (g4 i hi)
       have gs:Sep (fps (pcs ν φ m)):=by
        rw[fps_pcs]
        refine List.pairwise_map.2 (n1.imp_of_mem λ{i j} hi hj hne=>?_)
        exactλb o h1 h2=>hne (h.inj i j b o (g4 i hi) (g4 j hj) h1 h2)
       refine⟨pcs ν φ m++ns,m.map ν++ks,bx,⟨v,vs,pcs ν φ m,ns,ks,rfl,rfl,by rw[nus_pcs],k1,hA.args⟩,⟨m,A'.kept,ks,rfl,rfl,k2,hA.kept⟩,Wfy h gs hA.sep gp (λq hq b o hh=>Wtw b o (hA.tk q hq b o hh)) (λi hi hj=>n3 i hi i hj rfl),λq hq=>?_,λp hp=>Xg _ (hA.bx p hp),λi hi=>?_,λi hi=>?_,λi hi=>Xg _ (hA.mv i hi),λi hi=>?_,by rw[hkk];exact List.Sublist.append (List.Sublist.refl _) hA.sub,λi hi hm=>?_⟩
       ·rcases Xn.1 hq with hq|hq
        ·exactλb o hh=>from_Tk (λi hi=>Xk _ hi) (λp hp hm=>n3 _ hm _ (hA.bx p hp) rfl) b o (gp q hq b o hh)
        ·exactλb o hh=>Tk_tail (λi hi=>Xg _ hi) (λp hp=>.inl hp) b o (hA.tk q hq b o hh)
       ·rcases Xn.1 hi with hi|hi
        ·exact g4 i hi
        ·exact hA.live i hi
       ·rcases Xn.1 hi with hi|hi
        ·exact g5 i hi
        ·exact hA.lent i hi
       ·rw[hkk]
        rcases Xn.1 hi with hi|hi
        ·exact .inr (Xk _ hi)
        ·rcases hA.mvk i hi with hi|hi
         ·exact .inl hi
         ·exact .inr (Xg _ hi)
       ·rw[hkk]at hi
        rcases Xn.1 hi with hi|hi
        ·exact n3 _ hi _ (hA.mv i hm) rfl
        ·exact hA.dis i hi hm
    ·cases hf
   ·cases hf
  ·cases hf
 | .rp t::ps,xs,vs,A,hlen,hx,hl,hnd,hf=>by
  simp only[Wbc]at hf
  split at hf
  ·rename_i id off xs
   split at hf
   ·rename_i cs hlo
    split at hf
    ·rename_i d r A' h1 h2
     split at hf
     case isFalse=>cases hf
     rename_i hd0
     injection hf with hf;subst hf
     match vs,hlen with
     |v::vs,hlen=>
      obtain⟨ns,ks,bx,hA⟩:=Wca h hg ps xs vs A' (by simpa using hlen) (λj y u hj hu=>hx (j+1) y u (by simpa using hj) (by simpa using hu)) (hl.mono (λi hi=>Xe _ (Xg _ hi))) hnd h2
      obtain⟨⟨hid,b,hblk,rfl⟩,_⟩:=hx 0 _ v rfl rfl
      have hlv:Live objs id:=⟨_,hlo,by simp⟩
      obtain⟨b',us,hb',hrow,hmem,hcs,hrs⟩:Wgn G ν nx w id (φ id) (.box cs):=h.ob _ _ hlo
      rw[hblk]at hb';injection hb' with hb';subst hb'
      obtain⟨q1,t1,t2,t3,t4,t5,_⟩:=Wbg h hg t _ ((us.drop off).take t.size) d [] r ((hcs.drop off).take _) (hl.mono (λi hi=>Xe _ (Xk _ hi))) Xdi h1
      have hq1:∀p∈q1,Froz G' w p.fp:=λp hp b o v hh=>by
       obtain⟨i,hi,_⟩:=t3 p hp b o hh;simp at hi
      have henc:Enc G' t.ro (toRo t d) ((us.drop off).take t.size):=Wjd (λ_ _ _ hh=>hh) t d _ q1 hq1 t1
      have hlen2:=Wp _ _ _ _ t1
      have hfit:off+t.size≤cs.length:=by
       have:=hcs.1
       rw[Xan,Xdl]at hlen2
       have:=Wec t
       omega
      have hst:Wmq G' b ((ν id).off+off) ((us.drop off).take t.size):=λj v hj=>by
       have hjt:j<t.size:=by have:=(Xq.1 hj).1;omega
       rw[Xbl,if_pos hjt,Xbk]at hj
       have h3:=hmem _ v hj
       rw[←Xap]at h3
       exact hl id (Xi ..) hlv b _ v (hrs b _ ⟨rfl,by omega,by omega⟩) h3
      exact⟨ns,ks,bx,⟨b,(ν id).off+off,(us.drop off).take t.size,vs,rfl,((Wcy t d _ q1 hd0).1 t1).1,hst,hA.args⟩,hA.kept,hA.sep,hA.tk,hA.bx,hA.live,λi hi=>by
       rcases Xo.1 hi with rfl|hi
       ·exact hlv
       ·rcases Xn.1 hi with hi|hi
        ·exact t5 i hi
        ·exact hA.lent i hi,hA.mv,hA.mvk,hA.sub,hA.dis⟩
    ·cases hf
   ·cases hf
  ·rename_i t' d' off xs
   split at hf
   ·rename_i d A' h1 h2
    split at hf
    case isFalse=>cases hf
    rename_i hd0
    injection hf with hf;subst hf
    match vs,hlen with
    |v::vs,hlen=>
     obtain⟨ns,ks,bx,hA⟩:=Wca h hg ps xs vs A' (by simpa using hlen) (λj y u hj hu=>hx (j+1) y u (by simpa using hj) (by simpa using hu)) hl hnd h2
     obtain⟨⟨b,o,cs,rfl,e1,e2⟩,_⟩:=hx 0 _ v rfl rfl
     have hcs:=Wcb (ν:=ν) (nx:=nx) t' d' cs e1
     obtain⟨q1,t1,t2,t3,t4,t5,_⟩:=Wbg h hg t _ ((cs.drop off).take t.size) d [] [] ((hcs.drop off).take _) (λi hi=>by simp at hi) Xdi h1
     exact⟨ns,ks,bx,⟨b,o+off,(cs.drop off).take t.size,vs,rfl,((Wcy t d _ q1 hd0).1 t1).1,λj v hj=>by
      rw[Xbl]at hj
      split at hj
      ·rw[Xbk]at hj
       rw[Xap];exact hg _ _ _ (e2 _ v hj)
      ·simp at hj,hA.args⟩,hA.kept,hA.sep,hA.tk,hA.bx,hA.live,hA.lent,hA.mv,hA.mvk,hA.sub,hA.dis⟩
   ·cases hf
  ·cases hf
end
end Go.Sx
namespace Go.Sx
set_option linter.unusedVariables false
set_option linter.unusedSimpArgs false
theorem Wdj{G G':GH}{w:World}:∀(t:Ty) (d:t.den) (vs:List Value) (ns:List Pc),t.noRo=true→TyRel G w t d vs ns→TyRel G' w t d vs ns
 | .own e,_,_,_,hn,⟨pc,h1,h2,h3⟩=>⟨pc,h1,h2,Wsk (λx c q hx=>Wp e x c q hx) (Same.refl _ w) (λ_ _ hh=>hh) (λx c q _ hx=>Wdj e x c q hn hx) h3⟩
 | .prod a b,_,_,_,hn,⟨v1,v2,n1,n2,h1,h2,h3,h4⟩=>by
  simp only[Ty.noRo,Xh]at hn
  exact⟨v1,v2,n1,n2,h1,h2,Wdj a _ _ _ hn.1 h3,Wdj b _ _ _ hn.2 h4⟩
 | .int _,_,_,_,_,h=>h
 | .bool,_,_,_,_,h=>h
 | .str,_,_,_,_,h=>h
 | .slice _,_,_,_,hn,_=>by simp[Ty.noRo]at hn
theorem OwnL_noRo{G G':GH}{w:World}{e:Ty}{nu:Nu}{xs:List e.den}{S:CS}(hn:e.noRo=true)(h:OwnL w (TyRel G w e) e.size nu xs S):OwnL w (TyRel G' w e) e.size nu xs S:=
 Wsk (λx c q hx=>Wp e x c q hx) (Same.refl _ w) (λ_ _ hh=>hh) (λx c q _ hx=>Wdj e x c q hn hx) h
theorem Wnv{G G':GH}{w:World}{t:Ty}{d:t.den}{b o:Nat}{ns:List Pc}(hn:t.noRo=true)(h:Wmw G w t d b o ns):Wmw G' w t d b o ns:=by
 obtain⟨us,h1,h2,h3⟩:=h
 exact⟨us,h1,h2,Wdj _ _ _ _ hn h3⟩
theorem VRel_noRo{G G':GH}{w:World}{t:Ty}{agg:Bool}{d:t.den}{v:Value}{ns:List Pc}(hn:t.noRo=true)(h:VRel G w t agg d v ns):VRel G' w t agg d v ns:=by
 unfold VRel at h⊢
 split
 ·rename_i ha;rw[if_pos ha]at h;obtain⟨us,h1,h2⟩:=h;exact⟨us,h1,Wdj _ _ _ _ hn h2⟩
 ·rename_i ha;rw[if_neg ha]at h;exact Wdj _ _ _ _ hn h
theorem Wjp{G G':GH}{w:World}:∀(rs:List PTy) (d:RDen rs) (vs:List Value) (ns:List Pc),rs.all PTy.freshR=true→Woa G w rs d vs ns→Woa G' w rs d vs ns
 | [],_,_,_,_,h=>h
 | .v t agg::rs,d,vs,ns,hn,⟨v,vs',n1,n2,h1,h2,h3,h4⟩=>by
  simp only[Xci,Xh]at hn
  exact⟨v,vs',n1,n2,h1,h2,VRel_noRo hn.1 h3,Wjp rs _ _ _ hn.2 h4⟩
 | .box t::rs,d,vs,ns,hn,⟨b,o,vs',n1,n2,h1,h2,h3,h5⟩=>by
  simp only[Xci,Xh]at hn
  exact⟨b,o,vs',n1,n2,h1,h2,Wnv hn.1 h3,Wjp rs _ _ _ hn.2 h5⟩
 | .mut _::_,_,_,_,_,h=>h.elim
 | .clos _ _::_,_,_,_,_,h=>h.elim
 | .kv _ _::_,_,_,_,_,h=>h.elim
 | .rp _::_,_,_,_,_,h=>h.elim
 | .vj t::rs,d,vs,ns,hn,⟨us,u,vs',n1,n2,h1,h0,h2,h3,h4⟩=>by
  simp only[Xci,Xh]at hn
  exact⟨us,u,vs',n1,n2,h1,h0,h2,Wdj _ _ _ _ hn.1 h3,Wjp rs _ _ _ hn.2 h4⟩
 | .boxal _ _::_,_,_,_,_,h=>h.elim
theorem Wcp{G G':GH}{w:World}:∀(ps:List PTy) (o:ODen ps) (ks:List Nu) (kf:List CS) (ns:List Pc),ps.all PTy.fresh=true→Wei G w ps o ks kf ns→Wei G' w ps o ks kf ns
 | [],_,_,_,_,_,h=>h
 | .v _ _::ps,o,ks,kf,ns,hn,h=>by
  simp only[Xci,Xh]at hn
  exact Wcp ps o ks kf ns hn.2 h
 | .box t::ps,o,ks,kf,ns,hn,⟨b,off,ks',kf',n1,n2,h1,h2,h3,h4,h5⟩=>by
  simp only[Xci,Xh]at hn
  exact⟨b,off,ks',kf',n1,n2,h1,h2,h3,Wnv hn.1 h4,Wcp ps _ _ _ _ hn.2 h5⟩
 | .mut e::ps,o,ks,kf,ns,hn,⟨pc,ks',kf',h1,h2,h3,h4⟩=>by
  simp only[Xci,Xh]at hn
  exact⟨pc,ks',kf',h1,h2,OwnL_noRo hn.1 h3,Wcp ps _ _ _ _ hn.2 h4⟩
 | .clos _ _::ps,o,ks,kf,ns,hn,h=>by
  simp only[Xci,Xh]at hn
  exact Wcp ps o ks kf ns hn.2 h
 | .kv t _::ps,o,ks,kf,ns,hn,⟨n1,ks',kf',us,h1,h2,h3,h4⟩=>by
  simp only[Xci,Xh]at hn
  exact⟨n1,ks',kf',us,h1,h2,Wdj _ _ _ _ hn.1 h3,Wcp ps _ _ _ _ hn.2 h4⟩
 | .rp _::ps,o,ks,kf,ns,hn,h=>by
  simp only[Xci,Xh]at hn
  exact Wcp ps o ks kf ns hn.2 h
 | .vj _::_,_,_,_,_,_,h=>h.elim
 | .boxal t _::ps,o,ks,kf,ns,hn,⟨b,off,ks',kf',n1,n2,h1,h2,h3,h4,h5⟩=>by
  simp only[Xci,Xh]at hn
  exact⟨b,off,ks',kf',n1,n2,h1,h2,h3,Wnv hn.1 h4,Wcp ps _ _ _ _ hn.2 h5⟩
theorem Wll{objs:Objs}:∀(l:List Nat) (id:Nat),id∉l→look (kill objs l) id=look objs id
 | [],id,_=>rfl
 |i::l,id,h=>by
  simp only[kill]
  rw[Wt,if_neg (λe=>h (by rw[e];exact Xi ..))]
  exact Wll l id λhm=>h (Xe _ hm)
theorem Wzp:∀{l:List CS},Sep l→∀{i j:Nat} {A B:CS} {b o:Nat},l[i]?=some A→l[j]?=some B→A b o→B b o→i=j
 | [],_,i,j,A,B,b,o,hi,_,_,_=>by simp at hi
 |C::l,hs,i,j,A,B,b,o,hi,hj,ha,hb=>by
  obtain⟨h1,h2⟩:=Xab.1 hs
  cases i with
  |zero=>
   simp at hi;subst hi
   cases j with
   |zero=>rfl
   |succ j=>
    simp at hj
    exact(h1 B (Xav hj) b o ha hb).elim
  |succ i=>
   simp at hi
   cases j with
   |zero=>
    simp at hj;subst hj
    exact(h1 A (Xav hi) b o hb ha).elim
   |succ j=>
    simp at hj
    rw[Wzp h2 hi hj ha hb]
section
variable{w0:World}{F:CS}{nt:Slots}{G0 G G':GH}{ν:Nat→Nu}{φ:Nat→CS}{objs:Objs}{nx:Nat}{st st':St}{a:Act}{w w':World}{P:Program}{T:Tab}
theorem OwnIds_map{f g:Nat→Nu}:∀{l:List Nat},(∀i∈l,g i=f i)→l.map f=l.map g:=λ{l} h=>List.map_congr_left λi hi=>(h i hi).symm
theorem Wgb{ν':Nat→Nu}{bx:List (Nat×CS)}:∀(ps:List PTy) (ids:List Kp) (ks:List Nu),(∀i∈kids ids,ν' i=ν i)→KeptOk objs ν bx ps ids ks→KeptOk objs ν' bx ps ids ks
 | [],_,_,_,h=>h
 | .v _ _::ps,ids,ks,hn,h=>Wgb ps ids ks hn h
 | .box t::ps,ids,ks,hn,⟨k,ids',nu,ks',h1,h2,⟨cs,b,g1,g2,g3,g4,g5⟩,h4⟩=>by
  subst h1
  have e:=hn k.id (Xi ..)
  exact⟨k,ids',nu,ks',rfl,h2,⟨cs,b,g1,g2,by rw[e];exact g3,by rw[e];exact g4,by rw[e];exact g5⟩,Wgb ps ids' ks' (λi hi=>hn i (Xe _ hi)) h4⟩
 | .mut e::ps,ids,ks,hn,⟨id,ids',ks',ys,h1,h2,h3,h4⟩=>by
  subst h1
  exact⟨id,ids',ks',ys,rfl,by rw[hn id (Xi ..)];exact h2,h3,Wgb ps ids' ks' (λi hi=>hn i (Xe _ hi)) h4⟩
 | .clos _ _::ps,ids,ks,hn,h=>Wgb ps ids ks hn h
 | .kv t _::ps,ids,ks,hn,⟨i1,i2,ks',h1,h2,h3,h4⟩=>by
  subst h1
  have hkk:kids (kp0 i1++i2)=i1++kids i2:=by simp only[kids,Xp];congr 1;exact Wsh i1
  rw[hkk]at hn
  exact⟨i1,i2,ks',rfl,by rw[h2,OwnIds_map (λi hi=>hn i (Xk _ hi))],h3,Wgb ps i2 ks' (λi hi=>hn i (Xg _ hi)) h4⟩
 | .rp _::ps,ids,ks,hn,h=>Wgb ps ids ks hn h
 | .vj _::_,_,_,_,h=>h.elim
 | .boxal t _::ps,ids,ks,hn,⟨k,ids',nu,ks',h1,h2,⟨cs,b,g1,g2,g3,g4,g5⟩,h4⟩=>by
  subst h1
  have e:=hn k.id (Xi ..)
  exact⟨k,ids',nu,ks',rfl,h2,⟨cs,b,g1,g2,by rw[e];exact g3,by rw[e];exact g4,by rw[e];exact g5⟩,Wgb ps ids' ks' (λi hi=>hn i (Xe _ hi)) h4⟩
theorem evs_rel(hr:Rel w0 F nt G0 G ν st a w):∀(l:List Operand) (xs:List AVal),evs st l=some xs→xs.length=l.length∧
  ∀(j:Nat) (x:AVal) (v:Value),xs[j]?=some x→(l.map a.eval)[j]?=some v→AValRel G ν st.nx x v
 | [],xs,h=>by simp[evs]at h;subst h;exact⟨rfl,λj x v hj=>by simp at hj⟩
 |o::l,xs,h=>by
  simp only[evs]at h
  split at h
  ·rename_i y ys h1 h2
   injection h with h;subst h
   obtain⟨h3,h4⟩:=evs_rel hr l ys h2
   refine⟨by simp[h3],λj x v hj hv=>?_⟩
   cases j with
   |zero=>simp at hj hv;subst hj hv;exact Wab hr o _ h1
   |succ j=>exact h4 j x v (by simpa using hj) (by simpa using hv)
  ·simp at h
theorem call_run{o:Oper}{c:Call}{f:Operand}{g:FuncId}{caps:List Value}(ho:o.op= .call c)(hc:c.callee= .value f)(hf:a.eval f= .func (.func g) #[] caps.toArray)(hcall:Won P g):
  (execOp a.eval o).run P w= .ok (.enter g (c.args.toList.map a.eval++caps).toArray) w:=by
 obtain⟨fn,h1,h2,h3⟩:=hcall
 obtain⟨callee,args,argTypes⟩:=c
 simp only at hc
 subst hc
 have e:(#[]++args.map a.eval++caps.toArray)=(args.toList.map a.eval++caps).toArray:=by
  apply Array.ext'
  simp
 simp only[execOp,ho,resolve,Deferred.ofValue,hf,Sem.run_bind,Sem.run_pure,Result.andThen_ok,invoke,callFunc,run_program,h1,h2,h3,Xbm,if_false,e]
theorem Mem_back{b o k:Nat}{vs us:List Value}(hm:Mem w b o vs)(hu:Mem w' b (o+k) us)(hk:k+us.length≤vs.length)(hsame:∀j,j<vs.length→¬(k≤j∧j<k+us.length)→w'.cell? ⟨b,o+j,none⟩=w.cell? ⟨b,o+j,none⟩):
  Mem w' b o (vs.take k++us++vs.drop (k+us.length)):=λj v hj=>by
 have hold:∀v',vs[j]?=some v'→¬(k≤j∧j<k+us.length)→w'.cell? ⟨b,o+j,none⟩=some v':=λv' hv hn=>by
  rw[hsame j (Xq.1 hv).1 hn];exact hm j v' hv
 have hk':(vs.take k).length=k:=by simp;omega
 rw[Xbs,Xaz,hk']at hj
 split at hj
 ·rename_i hlt
  rw[Xbl,if_pos hlt]at hj
  exact hold v hj (by omega)
 ·rw[Xaz]at hj
  split at hj
  ·have:=hu (j-k) v hj
   rw[show o+j=o+k+(j-k) by omega];exact this
  ·rw[Xbk,show k+us.length+(j-k-us.length)=j by omega]at hj
   exact hold v hj (by omega)
theorem Wza{Γ:Ctx}(hΓ:Wmk P Γ)(hr:Rel w0 F nt G0 G ν st a w){o:Oper}(hd:∀d,o.dst=some d→nt.Ok d){c:Call}{f:Operand}{g:FuncId}{cvs:List Value}{xs:List AVal}{sg:Sig}{R:Type}{k:St→Option R}{r:R}
  (ho:o.op= .call c) (hc:c.callee= .value f) (hfv:a.eval f= .func (.func g) #[] cvs.toArray) (hsg:look Γ g=some sg) (hlen:xs.length=(c.args.toList.map a.eval++cvs).length)
  (hargs:∀(j:Nat) (x:AVal) (v:Value),xs[j]?=some x→(c.args.toList.map a.eval++cvs)[j]?=some v→AValRel G ν st.nx x v)
  (h:Wmr sg st xs (λx objs nx=>k (({env:=st.env,objs:=objs,nx:=nx}:St).put o.dst x))=some r) {K:Act→World→Prop} {Q:Exit→Act→World→Prop}
  (hK:∀st' a' w' G' ν',Rel w0 F nt G0 G' ν' st' a' w'→k st'=some r→K a' w'):o.wp P a w K Q:=by
 obtain⟨hgood,hcallable⟩:=hΓ g sg hsg
 unfold Wmr at h
 split at h
 ·rename_i A hA
  split at h
  ·rename_i hcond
   simp only[Xh]at hcond
   obtain⟨⟨hnd,hdj⟩,hfr⟩:=hcond
   have hnd:=(Wmh _).1 hnd
   have hdj:=disjN_iff hdj
   obtain⟨out,hrun,hk⟩:=sg.law' A.d _ r h
   dsimp only at hk
   obtain⟨φ,hφ⟩:=hr.h
   have hgle:=hφ.addG_le A.lent
   have hG1w:=hφ.addG_w A.lent
   obtain⟨ns,ks,bx,hO⟩:=Wca hφ hgle sg.ps _ (c.args.toList.map a.eval++cvs) A hlen.symm hargs (λid hid hl=>(Wud _).mono (FromL.one hid hl)) hnd hA
   have hTk:∀b o,Of ns b o→Tk φ st.objs bx A.all b o:=λb o ⟨q,hq,hh⟩=>hO.tk q hq b o hh
   have hfree:∀q∈ns,∀b off,q.fp b off→addG G w (FromL φ st.objs A.lent) b off=none∧b<w.heap.size:=λq hq b off hh=>by
    obtain⟨i,hi,h1,h2,_⟩:=hO.tk q hq b off hh
    refine⟨?_,hφ.bl i b off h1 h2⟩
    rw[Whw (λ⟨j,hj,h3,h4⟩=>by
     have:=hφ.inj i j b off h1 h3 h2 h4
     subst this
     exact hdj _ hj hi)]
    exact hφ.gf i b off h1 h2
   have hcalls:=hgood A.d out hrun _ w _ ns _ hO.args hO.sep hfree hG1w
   unfold Oper.wp
   rw[call_run ho hc hfv hcallable,Oper.upon_enter]
   refine hcalls.mono λe w' hpost=>?_
   obtain⟨rv,kf,ms,ns',G2,rfl,hA2⟩:=hpost
   simp only
   have hG3:∃G3:GH,GLe G G3∧(∀b off v,G3 b off=some v→w'.cell? ⟨b,off,none⟩=some v)∧Woa G3 w' sg.rs out.2 rv ns'∧Wei G3 w' sg.ps out.1 ks kf ms∧
     GExt w0.heap.size F G0 G3∧(∀S∈kf++fps (ms++ns'),∀b off,S b off→G3 b off=none)∧(∀id b off,Live st.objs id→φ id b off→¬Tk φ st.objs bx A.all b off→G3 b off=none):=by
    by_cases hle:A.lent= []
    ·have hGG:addG G w (FromL φ st.objs A.lent)=G:=by
      rw[hle];funext b off
      exact Whw (λ⟨i,hi,_⟩=>by simp at hi)
     rw[hGG]at hA2
     refine⟨G2,hA2.gx.le,hA2.g,hA2.res,hA2.outs,⟨λb o v hv=>hA2.gx.le b o v (hr.gx.le b o v hv),λb o v hv=>?_⟩,λS hS b off hh=>(hA2.own S hS b off hh).1,λid b off hl hp hn=>?_⟩
     ·rcases hA2.gx.new b o v hv with h1|h1|h1
      ·exact hr.gx.new b o v h1
      ·exact .inr (.inl (Xcn hφ.le.size h1))
      ·obtain⟨i,hi,h2,h3,_⟩:=hTk b o h1
       exact .inr (hφ.own i b o h2 h3)
     ·cases hv:G2 b off with
      |none=>rfl
      |some v=>
       rcases hA2.gx.new b off v hv with h1|h1|h1
       ·rw[hφ.gf id b off hl hp]at h1;cases h1
       ·have:=hφ.bl id b off hl hp;omega
       ·exact absurd (hTk b off h1) hn
    ·have hfresh:sg.fresh=true:=by
      rcases Bool.or_eq_true_iff.1 hfr with h1|h1
      ·exact h1
      ·exact absurd (by simpa using h1) hle
     unfold Sig.fresh at hfresh
     simp only[Xh]at hfresh
     refine⟨G,λ_ _ _ hh=>hh,λb o v hv=>hA2.g b o v (hA2.gx.le b o v (hgle b o v hv)),Wjp _ _ _ _ hfresh.1 hA2.res,Wcp _ _ _ _ _ hfresh.2 hA2.outs,hr.gx,λS hS b off hh=>?_,λid b off hl hp _=>hφ.gf id b off hl hp⟩
     cases hv:G b off with
     |none=>rfl
     |some v=>
      have:=hA2.gx.le b off v (hgle b off v hv)
      rw[(hA2.own S hS b off hh).1]at this
      cases this
   obtain⟨G3,hg3,hg3w,hres,houts,hgx3,hg3n,hg3o⟩:=hG3
   obtain⟨ν2,hν2⟩:∃ν2:Nat→Nu,ν2= λi=>if i<st.nx then ν i else((nus (ms++ns'))[i-st.nx]?).getD ⟨none,0,0,0,0⟩:=⟨_,rfl⟩
   obtain⟨φ2,hφ2⟩:∃φ2:Nat→CS,φ2= λi=>if i<st.nx then(λb o=>(∃(j:Nat) (S:CS),(kids A.kept)[j]?=some i∧kf[j]?=some S∧S b o)∨(φ i b o∧¬Tk φ st.objs bx A.all b o))else((fps (ms++ns'))[i-st.nx]?).getD (λ_ _=>False):=⟨_,rfl⟩
   have hνold:NuEq st.nx ν ν2:=λi hi=>by rw[hν2];simp[hi]
   have hAt:At ν2 φ2 st.nx (ms++ns'):=λj pc hj=>by
    have e1:(nus (ms++ns'))[j]?=some pc.nu:=by unfold nus;rw[Xam,hj];rfl
    have e2:(fps (ms++ns'))[j]?=some pc.fp:=by unfold fps;rw[Xam,hj];rfl
    rw[hν2,hφ2]
    simp only
    rw[if_neg (by omega),if_neg (by omega),Xbd,e1,e2]
    exact⟨rfl,rfl⟩
   have hkid:∀i∈kids A.kept,i<st.nx:=λi hi=>hφ.lt i (hO.live i (hO.sub.subset hi))
   have hkeptNd:(kids A.kept).Nodup:=hnd.sublist hO.sub
   obtain⟨hp1,hkfl,hp2⟩:=Wco (ν:=ν2) (φ:=φ2) (bx:=bx) st.objs sg.ps out.1 A.kept ks kf ms (kill st.objs A.moved) st.nx (st.nx+ms.length+ns'.length) houts (Wgb _ _ _ (λi hi=>hνold i (hkid i hi)) hO.kept) hAt.left hkeptNd (λq hq=>by
    have hq':q.id∈kids A.kept:=Xal hq
    exact⟨hkid _ hq',Wll _ _ (hO.dis _ hq')⟩) (by omega)
   generalize hp:Wbe sg.ps out.1 A.kept (kill st.objs A.moved) st.nx=p at*
   obtain⟨hq1,hq2,hq3⟩:=Wjj (ν:=ν2) (φ:=φ2) sg.rs out.2 rv ns' p.1 (st.nx+ms.length) (st.nx+ms.length+ns'.length) hres (hAt.right rfl) (by omega)
   rw[hp1]at hk
   generalize hq:Wdz sg.rs out.2 p.1 (st.nx+ms.length)=q at*
   have hobs:∀id ob,look q.2.1 id=some ob→ob≠ .dead→
     (st.nx≤id∧id<st.nx+ms.length+ns'.length∧NewOb G3 ν2 φ2 w' (st.nx+ms.length+ns'.length) id ob)∨
     (∃(j:Nat) (S:CS),(kids A.kept)[j]?=some id∧kf[j]?=some S∧KeptOb G3 ν2 w' st.objs bx (st.nx+ms.length+ns'.length) id S ob)∨(look st.objs id=some ob∧id∉A.all):=λid ob hl hdead=>by
    rcases hq2 id ob hl with⟨h1,h2,h3⟩|h1
    ·exact .inl ⟨by omega,h2,h3⟩
    ·rcases hp2 id ob h1 with⟨h2,h3,h4⟩|h2|⟨h2,h3⟩
     ·exact .inl ⟨h2,by omega,.inl h4⟩
     ·exact .inr (.inl h2)
     ·obtain⟨h4,h5⟩:=Wks A.moved id ob h2 hdead
      exact .inr (.inr ⟨h4,λhm=>by rcases hO.mvk id hm with h6|h6;exact h5 h6;exact h3 h6⟩)
   have hcell:∀id b off,Live q.2.1 id→φ2 id b off→
     (∃(pos:Nat) (S:CS),(kf++fps (ms++ns'))[pos]?=some S∧S b off∧id=(if pos<kf.length then((kids A.kept)[pos]?).getD 0 else st.nx+(pos-kf.length)))∨
     (Live st.objs id∧φ id b off∧¬Tk φ st.objs bx A.all b off∧id<st.nx):=λid b off ⟨ob,hl,hdead⟩ hp=>by
    have hlvold:id<st.nx→Live st.objs id:=λhlt=>by
     rcases hobs id ob hl hdead with⟨h1,_⟩|⟨j,S,h1,_⟩|⟨h1,_⟩
     ·omega
     ·exact hO.live id (hO.sub.subset (Xav h1))
     ·exact⟨ob,h1,hdead⟩
    rw[hφ2]at hp
    try simp only at hp
    by_cases hlt:id<st.nx
    ·rw[if_pos hlt]at hp
     rcases hp with⟨j,S,h1,h2,h3⟩|⟨h1,h2⟩
     ·left
      have hj:j<kf.length:=(Xq.1 h2).1
      refine⟨j,S,by rw[Xba hj];exact h2,h3,?_⟩
      rw[if_pos hj,h1];rfl
     ·exact .inr ⟨hlvold hlt,h1,h2,hlt⟩
    ·rw[if_neg hlt]at hp
     left
     cases hS:(fps (ms++ns'))[id-st.nx]? with
     |none=>rw[hS]at hp;exact hp.elim
     |some S=>
      rw[hS]at hp
      refine⟨kf.length+(id-st.nx),S,by rw[Xaw (by omega),Xbd];exact hS,hp,?_⟩
      rw[if_neg (by omega)];omega
   have hown:=hA2.own
   have hmemS:∀{pos:Nat} {S:CS},(kf++fps (ms++ns'))[pos]?=some S→S∈kf++fps (ms++ns'):=λh=>Xav h
   have hH:HR w0 F G3 ν2 φ2 q.2.1 (st.nx+ms.length+ns'.length) w':={
    g:=hg3w
    ob:=λid ob hl=>by
     by_cases hdead:ob= .dead
     ·subst hdead;trivial
     ·rcases hobs id ob hl hdead with⟨h1,h2,⟨e,xs,rfl,h3⟩|⟨cs,b,us,rfl,h3,h4,h5,h6,h7⟩⟩|⟨j,S,h1,h2,h3⟩|⟨h1,h2⟩
      ·exact h3
      ·exact⟨b,us,h3,h4,h5,h6,h7⟩
      ·have hid:id∈kids A.kept:=Xav h1
       have hlt:=hkid id hid
       have hlv:Live st.objs id:=hO.live id (hO.sub.subset hid)
       have hSφ:CS.le S (φ2 id):=λb o hh=>by
        rw[hφ2];(try simp only);rw[if_pos hlt]
        exact .inl ⟨j,S,h1,h2,hh⟩
       rcases h3 with⟨cs0,off,ds,b,us,g1,rfl,g2,g3,g4,g5,rfl,g6⟩|⟨e,ys,xs,g1,rfl,g2⟩
       ·rw[hνold id hlt]at g3 g4 g6 hSφ
        obtain⟨b',vs,e1,e2,e3,e4,e5⟩:Wgn G ν st.nx w id (φ id) (.box cs0):=hφ.ob _ _ g1
        rw[g3]at e1;injection e1 with e1;subst e1
        have hul:us.length=ds.length:=g5.1
        have hvl:vs.length=cs0.length:=e4.1
        have hrest:∀o,(ν id).off≤o→o<(ν id).off+cs0.length→¬((ν id).off+off≤o∧o<(ν id).off+off+ds.length)→φ id b o∧¬Tk φ st.objs bx A.all b o:=λo k1 k2 k3=>by
         have hφo:=e5 b o ⟨rfl,k1,k2⟩
         refine⟨hφo,λ⟨i,hi,k4,k5,k6⟩=>?_⟩
         have:=hφ.inj i id b o k4 hlv k5 hφo
         subst this
         obtain⟨_,k7,k8⟩:=k6 _ g6 rfl
         exact k3 ⟨k7,k8⟩
        refine⟨b,_,by rw[hνold id hlt];exact g3,by rw[hνold id hlt,Wmd g2];exact hA2.le.rows.row _ _ e2,?_,Wlq (e4.mono hg3 hνold (by omega)) g5,?_⟩
        ·rw[hνold id hlt]
         refine Mem_back e3 g4 (by omega) (λj hj hn=>?_)
         obtain⟨k1,k2⟩:=hrest ((ν id).off+j) (by omega) (by omega) (λ⟨k3,k4⟩=>hn ⟨by omega,by omega⟩)
         exact hA2.le.cell b _ (hφ.bl id b _ hlv k1) (λhof=>k2 (hTk b _ hof))
        ·rw[hνold id hlt,Wmd g2]
         intro b' o ⟨k0,k1,k2⟩
         subst k0
         by_cases hin:(ν id).off+off≤o∧o<(ν id).off+off+ds.length
         ·exact hSφ b' o ⟨rfl,hin.1,hin.2⟩
         ·rw[hφ2];(try simp only);rw[if_pos hlt]
          exact .inr (hrest o k1 k2 hin)
       ·exact Whi (λ_ _ _ hh=>hh) (Same.refl _ w') hSφ g2
      ·have hll:Live st.objs id:=⟨ob,h1,hdead⟩
       have hlt:=hφ.lt id hll
       have hnt:∀b o,φ id b o→¬Tk φ st.objs bx A.all b o:=λb o hp ⟨i,hi,k1,k2,_⟩=>by
        have:=hφ.inj i id b o k1 hll k2 hp
        subst this;exact h2 hi
       refine Wis hg3 (hA2.le.same (λb o hof hp=>hnt b o hp (hTk b o hof)) (λb o hp=>hφ.bl id b o hll hp)) (λb o hp=>?_) hνold (by omega) hlt ob (hφ.ob id ob h1)
       rw[hφ2];(try simp only);rw[if_pos hlt]
       exact .inr ⟨hp,hnt b o hp⟩
    gf:=λid b off hl hp=>by
     rcases hcell id b off hl hp with⟨pos,S,h1,h2,_⟩|⟨h1,h2,h3,_⟩
     ·exact hg3n S (hmemS h1) b off h2
     ·exact hg3o id b off h1 h2 h3
    inj:=λid id' b off hl hl' hp hp'=>by
     have key:∀id',Live st.objs id'→φ id' b off→¬Tk φ st.objs bx A.all b off→∀(pos:Nat) (S:CS),(kf++fps (ms++ns'))[pos]?=some S→S b off→False:=λid' g1 g2 g3 pos S g4 g5=>by
      rcases(hown S (hmemS g4) b off g5).2.1 with g6|g6
      ·exact g3 (hTk b off g6)
      ·have:=hφ.bl id' b off g1 g2;omega
     rcases hcell id b off hl hp with⟨pos,S,h1,h2,he⟩|⟨h1,h2,h3,h4⟩<;>rcases hcell id' b off hl' hp' with⟨pos',S',h1',h2',he'⟩|⟨h1',h2',h3',h4'⟩
     ·have:=Wzp hA2.sep h1 h1' h2 h2'
      subst this
      rw[he,he']
     ·exact(key id' h1' h2' h3' pos S h1 h2).elim
     ·exact(key id h1 h2 h3 pos' S' h1' h2').elim
     ·exact hφ.inj id id' b off h1 h1' h2 h2'
    own:=λid b off hl hp=>by
     rcases hcell id b off hl hp with⟨pos,S,h1,h2,_⟩|⟨h1,h2,h3,_⟩
     ·rcases(hown S (hmemS h1) b off h2).2.1 with h5|h5
      ·obtain⟨i,hi,h6,h7,_⟩:=hTk b off h5
       exact hφ.own i b off h6 h7
      ·exact .inl (Xcn hφ.le.size h5)
     ·exact hφ.own id b off h1 h2
    lt:=λid ⟨ob,hl,hdead⟩=>by
     rcases hobs id ob hl hdead with⟨_,h2,_⟩|⟨j,S,h1,_⟩|⟨h1,h2⟩
     ·exact h2
     ·have:=hkid id (Xav h1);omega
     ·have:=hφ.lt id ⟨ob,h1,hdead⟩;omega
    bl:=λid b off hl hp=>by
     rcases hcell id b off hl hp with⟨pos,S,h1,h2,_⟩|⟨h1,h2,h3,_⟩
     ·exact(hown S (hmemS h1) b off h2).2.2
     ·exact Nat.lt_of_lt_of_le (hφ.bl id b off h1 h2) hA2.le.size
    le:=hφ.le.trans hA2.le (λb off hof=>by
     obtain⟨i,hi,h6,h7,_⟩:=hTk b off hof
     exact hφ.own i b off h6 h7)}
   have hR:=hr.on hg3 hνold (by omega) ⟨φ2,hH⟩ hgx3
   have hR2:=hR.put (dst:=o.dst) hd (resAV_rel hq3)
   rw[hq1]at hk
   exact hK _ _ _ _ _ hR2 hk
  ·cases h
 ·cases h
theorem call_wp{Γ:Ctx}(hΓ:Wmk P Γ)(hr:Rel w0 F nt G0 G ν st a w){o:Oper}(hd:∀d,o.dst=some d→nt.Ok d){c:Call}{f:Operand}{g:FuncId}{caps:List Nat}{xs:List AVal}{sg:Sig}{R:Type}{k:St→Option R}{r:R}
  (ho:o.op= .call c) (hc:c.callee= .value f) (hf:ev st f=some (.s (.one (.clos g caps)))) (hxs:evs st c.args.toList=some xs) (hsg:look Γ g=some sg)
  (h:callF sg st (xs++ptrs caps) (λx objs nx=>k (({env:=st.env,objs:=objs,nx:=nx}:St).put o.dst x))=some r) {K:Act→World→Prop} {Q:Exit→Act→World→Prop}
  (hK:∀st' a' w' G' ν',Rel w0 F nt G0 G' ν' st' a' w'→k st'=some r→K a' w'):o.wp P a w K Q:=by
 obtain⟨⟨cvs,hfv,hcl,hcv⟩,_⟩:=Wab hr f _ hf
 obtain⟨hxl,hxr⟩:=evs_rel hr _ _ hxs
 have hlen:(xs++ptrs caps).length=(c.args.toList.map a.eval++cvs).length:=by simp[hxl,ptrs,hcl]
 have hargs:∀(j:Nat) (x:AVal) (v:Value),(xs++ptrs caps)[j]?=some x→(c.args.toList.map a.eval++cvs)[j]?=some v→AValRel G ν st.nx x v:=λj x v hj hv=>by
  rw[Xaz]at hj hv
  rw[Xaf,←hxl]at hv
  split at hj
  ·rename_i hlt;rw[if_pos hlt]at hv;exact hxr j x v hj hv
  ·rename_i hlt;rw[if_neg hlt]at hv
   simp only[ptrs,Xam]at hj
   cases hcj:caps[j-xs.length]? with
   |none=>simp[hcj]at hj
   |some id=>
    simp[hcj]at hj;subst hj
    obtain⟨h1,h3,h2⟩:=hcv _ id v hcj hv
    exact⟨⟨h1,h2⟩,h3⟩
 unfold callF at h
 cases hfr:sg.fresh with
 |true=>
  rw[hfr]at h
  exact Wza hΓ hr hd ho hc hfv hsg hlen hargs h hK
 |false=>
  rw[hfr]at h
  simp only[cond_false]at h
  split at h
  ·rename_i A hA
   split at h
   ·exact Wza hΓ hr hd ho hc hfv hsg hlen hargs h hK
   ·obtain⟨G1,hz⟩:=hr.frz A.lent
    refine Wza hΓ hz.rel hd ho hc hfv hsg (by simpa using hlen) (λj x v hj hv=>?_) h hK
    rw[Xam]at hj
    obtain⟨y,hy,rfl⟩:=Xx.1 hj
    exact hz.val y v (hargs j y v hy hv)
  ·cases h
end
end Go.Sx
namespace Go.Sx
set_option linter.unusedVariables false
set_option linter.unusedSimpArgs false
section
variable{w0:World}{F:CS}{nt:Slots}{G0 G G':GH}{ν:Nat→Nu}{objs:Objs}{nx:Nat}{st st':St}{a:Act}{w w':World}{P:Program}{T:Tab}{Γ:Ctx}
theorem Done.wp{o:Oper}{st':St}(h:Done P w0 F nt G0 o a w st'){K:Act→World→Prop}{Q:Exit→Act→World→Prop}
  (hK:∀a' w' G' ν',Rel w0 F nt G0 G' ν' st' a' w'→K a' w'):o.wp P a w K Q:=by
 obtain⟨n,v,w',G',ν',h1,h2,h3⟩:=h
 unfold Oper.wp
 rw[h1]
 rcases h2 with rfl|⟨rfl,rfl⟩
 ·exact hK _ _ _ _ h3
 ·exact hK _ _ _ _ h3
theorem storeOp_same{t:TypeId}{x v:AVal}{st':St}(h:Whk T st t x v=some st'):({env:=st.env,objs:=st'.objs,nx:=st'.nx}:St)=st':=by
 unfold Whk at h
 split at h
 ·split at h
  ·split at h
   ·injection h with h;subst h;rfl
   ·cases h
  ·cases h
 ·split at h
  ·split at h
   ·split at h
    ·injection h with h;subst h;rfl
    ·cases h
   ·split at h
    ·split at h
     ·split at h
      ·injection h with h;subst h;rfl
      ·cases h
     ·cases h
    ·cases h
  ·cases h
 ·cases h
theorem Wcj{R:Type}{c:Bool}{x:Option R}{r:R}(h:(bif c then x else none)=some r):c=true∧x=some r:=by
 cases c
 ·cases h
 ·exact⟨rfl,h⟩
theorem Wev{R:Type}{c:Prop}[Decidable c]{x:Option R}{r:R}(h:(if c then x else none)=some r):c∧x=some r:=by
 split at h
 ·exact⟨by assumption,h⟩
 ·cases h
theorem nestOne_some{e:Ty}{ps:List (Nat×AVal)}{R:Type}{k:KV R}{r:R}(h:Wic st e ps k=some r):
  ∃x ds d m,ps= [(0,x)]∧Wpy (Wrn st.objs (Wqx e x) x)=some ds∧Wbr e ds (Wji st.objs (Wqx e x))=some (d,m,[])∧Wdw m=true∧
   k (.s (.one (.own st.nx))) ((st.nx,.arr e [d])::kill (Wji st.objs (Wqx e x)) m) (st.nx+1)=some r:=by
 match ps with
 | [p]=>
  simp only[Wic]at h
  obtain⟨hp,h⟩:=Wev h
  split at h
  ·rename_i ds hds
   split at h
   ·rename_i d m hf
    obtain⟨hnd,h⟩:=Wev h
    exact⟨p.2,ds,d,m,by rw[←hp],hds,hf,hnd,h⟩
   ·cases h
  ·cases h
 | []=>cases h
 |_::_::_=>cases h
theorem pure_wp(hT:Wbj P T)(hr:Rel w0 F nt G0 G ν st a w){o:Oper}(hd:∀d,o.dst=some d→nt.Ok d){R:Type}{k:St→Option R}{r:R}
  (h:(match Wbd T st o.op with|some (c,v)=>bif c then k (({env:=st.env,objs:=st.objs,nx:=st.nx}:St).put o.dst v)else none|none=>none)=some r)
  {K:Act→World→Prop} {Q:Exit→Act→World→Prop} (hK:∀st' a' w' G' ν',Rel w0 F nt G0 G' ν' st' a' w'→k st'=some r→K a' w'):o.wp P a w K Q:=by
 split at h
 ·rename_i c v hp
  obtain⟨rfl,h⟩:=Wcj h
  exact(pure_done hT hr hd hp).wp λa' w' G' ν' hr'=>hK _ _ _ _ _ hr' h
 ·cases h
theorem rx1_wp(hT:Wbj P T)(hΓ:Wmk P Γ)(hr:Rel w0 F nt G0 G ν st a w){o:Oper}(hd:∀d,o.dst=some d→nt.Ok d){A:List (Nat×An)}{R:Type}{k:St→Option R}{r:R}(h:rx1 T Γ A o st k=some r)
  {K:Act→World→Prop} {Q:Exit→Act→World→Prop} (hK:∀st' a' w' G' ν',Rel w0 F nt G0 G' ν' st' a' w'→k st'=some r→K a' w'):o.wp P a w K Q:=by
 unfold rx1 rxe at h
 split at h
 ·rename_i t ho
  split at h
  ·rename_i e n et hl
   obtain⟨hc,h⟩:=Wev h
   simp only[Xh]at hc
   exact(Wym hT hr hd ho hl hc.1 hc.2).wp λa' w' G' ν' hr'=>hK _ _ _ _ _ hr' h
  ·rename_i te _ hl
   obtain⟨hc,h⟩:=Wev h
   exact(alloc_done hT hr hd ho hl hc).wp λa' w' G' ν' hr'=>hK _ _ _ _ _ hr' h
  ·cases h
 ·rename_i t x ho
  split at h
  ·rename_i te cs hl hb
   cases hv:ev st x with
   |none=>simp[hv]at hb
   |some v=>
    simp only[hv,Xc]at hb
    exact(box_done hr hd ho hv hb).wp λa' w' G' ν' hr'=>hK _ _ _ _ _ hr' h
  ·cases h
 ·rename_i t parts ho
  split at h
  ·rename_i ty fs ps hl hps
   obtain⟨hc,h⟩:=Wev h
   split at h
   ·rename_i cs hf
    refine(build_done hT hr hd ho hl hps hf ?_).wp λa' w' G' ν' hr'=>hK _ _ _ _ _ hr' h
    intro f hf
    have:=Xae.1 hc f hf
    split at this
    ·rename_i te hte;exact⟨te,hte,this⟩
    ·cases this
   ·cases h
  ·cases h
 ·rename_i t n parts ho
  split at h
  ·rename_i ty et ps hl hps
   split at h
   ·rename_i te hle
    split at h
    ·rename_i e _
     obtain⟨hc,h1⟩:=Wev h
     clear h
     simp only[Xh,decide_eq_true_eq]at hc
     obtain⟨⟨⟨hn,he⟩,hp⟩,hsz⟩:=hc
     obtain⟨x,ds,d,m,rfl,hds,hf,hnd,h⟩:=nestOne_some h1
     clear h1
     subst hn
     have hnd:=(Whb _).1 hnd
     obtain⟨G1,hz⟩:=hr.frz (Wqx e x)
     obtain⟨p1,p2⟩:=Wpo hr _ _ hps
     have hpl:∃y,parts.toList= [(0,y)]∧AValRel G ν st.nx x (a.eval y):=by
      match hpp:parts.toList,p1 with
      | [q],_=>
       rw[hpp]at p2
       obtain⟨q1,q2⟩:=p2 0 _ q rfl rfl
       refine⟨q.2,?_,q2⟩
       have:q=(0,q.2):=Prod.ext q1.symm rfl
       rw[←this]
     obtain⟨y,hy1,hy2⟩:=hpl
     exact(nestOne_done hT hz.rel hd ho hy1 hl hle (hz.val _ _ hy2) hds hf hnd he hp hsz).wp λa' w' G' ν' hr'=>hK _ _ _ _ _ hr' h
    split at h
    ·rename_i xs hf
     obtain⟨hc,h⟩:=Wev h
     simp only[Xh,decide_eq_true_eq]at hc
     obtain⟨G1,hz⟩:=hr.frz (Wze ps)
     obtain⟨p1,p2⟩:=Wpo hr _ _ hps
     exact(Wtp hT hz.rel hd ho hl hle (by simpa [frzParts]using p1) (λj p q hp hq=>by
      simp only[frzParts,Xam]at hp
      obtain⟨y,hy,rfl⟩:=Xx.1 hp
      exact⟨(p2 j y q hy hq).1,hz.val _ _ (p2 j y q hy hq).2⟩) hf hc.1.1 hc.1.2 hc.2).wp λa' w' G' ν' hr'=>hK _ _ _ _ _ hr' h
    ·cases h
   ·cases h
  ·cases h
 ·rename_i t n c ho
  split at h
  ·rename_i ty et n' c' hl hn hc
   split at h
   ·rename_i te hle
    obtain⟨k1,hk1⟩:∃k,a.eval n= .int k n':=by
     cases hv:ev st n with
     |none=>simp[hv]at hn
     |some v=>simp only[hv,Xc]at hn;exact Wmy _ _ _ (Wab hr n _ hv) hn
    obtain⟨k2,hk2⟩:∃k,a.eval c= .int k c':=by
     cases hv:ev st c with
     |none=>simp[hv]at hc
     |some v=>simp only[hv,Xc]at hc;exact Wmy _ _ _ (Wab hr c _ hv) hc
    split at h
    ·obtain⟨hd2,h⟩:=Wev h
     obtain⟨hb,h⟩:=Wcj h
     simp only[Xh,decide_eq_true_eq]at hb hd2
     exact(Wsp hT hr hd ho hl hle hk1 hk2 hb.1.1 hb.1.2 hb.2 hd2.1 hd2.2).wp λa' w' G' ν' hr'=>hK _ _ _ _ _ hr' h
    ·obtain⟨hd2,h⟩:=Wev h
     obtain⟨hb,h⟩:=Wcj h
     simp only[Xh,decide_eq_true_eq]at hb hd2
     exact(Wvk hT hr hd ho hl hle hk1 hk2 hb.1.1 hb.1.2 hb.2 hd2.1 hd2.2).wp λa' w' G' ν' hr'=>hK _ _ _ _ _ hr' h
   ·cases h
  ·cases h
 ·rename_i t x y ho
  split at h
  ·rename_i p v hp hv
   split at h
   ·rename_i st' hs
    split at h
    ·rename_i hdst
     have h:k (({env:=st.env,objs:=st'.objs,nx:=st'.nx}:St).put o.dst (.tup []))=some r:=h
     obtain⟨G1,hz⟩:=hr.frz (Wnh st.objs p v)
     have hsame:=storeOp_same hs
     simp only at hsame
     rw[hsame,hdst]at h
     exact(store_done hT hz.rel ho hdst (AValRel.mono hz.le (λ_ _=>rfl) (Xm _) _ _ (Wab hr x _ hp)) (hz.val _ _ (Wab hr y _ hv)) hs).wp λa' w' G' ν' hr'=>hK _ _ _ _ _ hr' h
    ·cases h
   ·cases h
  ·cases h
 ·rename_i t x lo hi ho
  split at h
  ·rename_i id hx
   split at h
   ·rename_i ty et l hh hl hlo hhi
    split at h
    ·rename_i te hle
     split at h
     ·obtain⟨hp,h⟩:=Wev h
      obtain⟨st',hk,hdone⟩:=view_done hT hr hd ho hx hl hle hp hlo hhi h
      exact hdone.wp λa' w' G' ν' hr'=>hK _ _ _ _ _ hr' hk
     ·split at h
      ·rename_i h' e xs _ hob
       obtain⟨⟨he,hp⟩,h⟩:=Wev h
       obtain⟨hb,h⟩:=Wcj h
       simp only[Xh,decide_eq_true_eq]at hb
       exact(trunc_done hT hr hd ho hx hl hle hp he hob hlo hhi hb.1 hb.2).wp λa' w' G' ν' hr'=>hK _ _ _ _ _ hr' h
      ·rename_i h' e xs i p _ hob
       obtain⟨⟨he,hp,hbx⟩,h⟩:=Wev h
       obtain⟨hb,h⟩:=Wcj h
       simp only[Xh,decide_eq_true_eq]at hb
       exact(Wux hT hr hd ho hx hl hle hp he hob hbx hlo hhi hb.1.1 hb.1.2 hb.2).wp λa' w' G' ν' hr'=>hK _ _ _ _ _ hr' h
      ·cases h
    ·cases h
   ·cases h
  ·rename_i hx
   exact pure_wp hT hr hd (by rw[ho];rw[ho]at h;exact h) hK
 ·rename_i c ho
  split at h
  ·rename_i s x t t2 hc ha hat
   split at h
   ·rename_i sv xv hs hx
    obtain⟨st',hk,hdone⟩:=append_done hT hr hd ho hc ha hat hs hx h
    exact hdone.wp λa' w' G' ν' hr'=>hK _ _ _ _ _ hr' hk
   ·cases h
  ·rename_i x t hc ha hat
   split at h
   ·rename_i id lo hi hx
    split at h
    ·rename_i ty et e xs hl hob
     split at h
     ·rename_i te hle
      obtain⟨⟨he,hp,hdata⟩,h⟩:=Wev h
      exact(clear_done hT hr hd ho hc ha hat hx hl hle hob he hp hdata).wp λa' w' G' ν' hr'=>hK _ _ _ _ _ hr' h
     ·cases h
    ·cases h
   ·cases h
  ·exact pure_wp hT hr hd h hK
  ·rename_i f args _ hc
   split at h
   ·rename_i g caps xs hf hxs
    split at h
    ·rename_i sg hsg
     exact call_wp hΓ hr hd ho hc hf hxs hsg h hK
    ·cases h
   ·cases h
  ·cases h
 ·exact pure_wp hT hr hd h hK
end
end Go.Sx
namespace Go.Sx
set_option linter.unusedVariables false
set_option linter.unusedSimpArgs false
section
variable{w0:World}{F:CS}{nt:Slots}{G0 G G':GH}{ν ν':Nat→Nu}{φ φ':Nat→CS}{objs objs':Objs}{nx nx':Nat}{st st':St}{a:Act}{w w':World}{P:Program}{T:Tab}{Γ:Ctx}
theorem Rel.rebind(h:Rel w0 F nt G0 G ν st a w){i:Nat}{x:AVal}{v:Value}(hv:a.tmps[i]?=some v)(hx:AValRel G ν st.nx x v):Rel w0 F nt G0 G ν (st.put (some i) x) a w:=
 ⟨h.defers,h.ntm,h.par,λj y hy=>by
  simp only[St.put]at hy
  rw[Wt]at hy
  split at hy
  ·rename_i e;subst e;injection hy with hy;subst hy;exact⟨v,hv,hx⟩
  ·exact h.env j y hy,h.h,h.gx⟩
theorem CellsRel.set{cs:List Cell}{vs:List Value}(h:CellsRel G ν nx cs vs){off:Nat}{c:Cell}(hc:∀v,vs[off]?=some v→CellRel G ν nx c v):CellsRel G ν nx (cs.set off c) vs:=by
 refine⟨by simp[h.1],λj d v hd hv=>?_⟩
 rw[List.getElem?_set]at hd
 split at hd
 ·rename_i e;subst e
  split at hd
  ·rename_i hlt
   injection hd with hd;subst hd
   exact⟨hc v hv,(h.2 off cs[off] v (Xs hlt) hv).2⟩
  ·cases hd
 ·exact h.2 j d v hd hv
theorem HRel.mk_box(h:HRel w0 F G ν objs nx w){id:Nat}{cs cs':List Cell}(ho:look objs id=some (.box cs))(hl:cs'.length=cs.length)
  (hc:∀vs,CellsRel G ν nx cs vs→CellsRel G ν nx cs' vs):HRel w0 F G ν ((id,.box cs')::objs) nx w:=by
 obtain⟨φ,h⟩:=h
 have hlv:Live objs id:=⟨_,ho,by simp⟩
 obtain⟨b,vs,h1,h2,h3,h4,h5⟩:Wgn G ν nx w id (φ id) (.box cs):=h.ob _ _ ho
 exact⟨_,h.put (ν':=ν) (m:=[]) (λ_ _=>rfl) (Xm _) (h.lt id hlv) (WLe.refl _ w) (λb o hh=>.inl ⟨id,.inl rfl,hlv,hh⟩) (λ_=>⟨b,vs,h1,by rw[hl];exact h2,h3,hc _ h4,by rw[hl];exact h5⟩)⟩
theorem HRel.empt(h:HRel w0 F G ν objs nx w){id:Nat}{e e':Ty}(ho:look objs id=some (.arr e' []))(hs:e.size=e'.size):HRel w0 F G ν ((id,.arr e [])::objs) nx w:=by
 obtain⟨φ,h⟩:=h
 have hlv:Live objs id:=⟨_,ho,by simp⟩
 have hob:Wgn G ν nx w id (φ id) (.arr e' []):=h.ob _ _ ho
 have hob:OwnL w (TyRel G w e') e'.size (ν id) [] (φ id):=hob
 refine⟨_,h.put (ν':=ν) (m:=[]) (λ_ _=>rfl) (Xm _) (h.lt id hlv) (WLe.refl _ w) (λb o hh=>.inl ⟨id,.inl rfl,hlv,hh⟩) (λ_=>?_)⟩
 show OwnL w (TyRel G w e) e.size (ν id) [] (φ id)
 rw[hs]
 unfold OwnL at*
 refine⟨hob.1,hob.2.1,?_⟩
 have h3:=hob.2.2
 cases hb:(ν id).blk with
 |none=>rfl
 |some b=>
  rw[hb]at h3
  obtain⟨a1,a2,a3,cs,ps,a4,a5,a6,a7⟩:=h3
  exact⟨a1,a2,a3,cs,ps,by simpa [EncP]using a4,a5,a6,a7⟩
theorem HRel.adopt(h:HRel w0 F G ν objs nx w)(e:Ty):HRel w0 F G (upd ν nx ⟨none,0,0,0,e.size⟩) ((nx,.arr e [])::objs) (nx+1) w:=by
 obtain⟨φ,h⟩:=h
 refine⟨_,h.put (m:=[]) (S:=λ_ _=>False) (Wmv ν nx _) (Xdh _) (Xbu _) (WLe.refl _ w) (λb o hh=>hh.elim) (λ_=>?_)⟩
 show OwnL _ _ _ (upd ν nx ⟨none,0,0,0,e.size⟩ nx) _ _
 rw[Wdt];exact⟨rfl,rfl,rfl⟩
theorem Wxf(e:Ty):CellRel G (upd ν nx ⟨none,0,0,0,e.size⟩) (nx+1) (.own nx) (.slice none 0 0):=
 ⟨Xbu _,by rw[Wdt];rfl⟩
theorem HRel.solo(h:HRel w0 F G ν objs nx w){id lo hi:Nat}{e:Ty}{xs:List e.den}(ho:look objs id=some (.arr e xs))(h1:lo≤hi)(h2:hi≤(ν id).len):
  HRel w0 F G (upd ν nx ((ν id).part lo hi)) ((nx,.arr e ((xs.take hi).drop lo))::(id,.dead)::objs) (nx+1) w:=by
 obtain⟨φ,h⟩:=h
 have hlv:Live objs id:=⟨_,ho,by simp⟩
 have hown:OwnL w (TyRel G w e) e.size (ν id) xs (φ id):=h.ob _ _ ho
 refine⟨_,h.put (m:=[id]) (S:=φ id) (Wmv ν nx _) (Xdh _) (Xbu _) (WLe.refl _ w) (λb o hh=>.inl ⟨id,.inr (by simp),hlv,hh⟩) (λ_=>?_)⟩
 show OwnL _ _ _ (upd ν nx ((ν id).part lo hi) nx) _ _
 rw[Wdt];exact part_own' hown h1 h2
theorem solo_cell{id lo hi:Nat}:CellRel G (upd ν nx ((ν id).part lo hi)) (nx+1) (.own nx) ((ν id).vhdr lo hi):=
 ⟨Xbu _,by rw[Wdt,Wyp]⟩
theorem closeAt_rel(h:Rel w0 F nt G0 G ν st a w){p:Nat}(hg:closeAt st p=some st'):Rel w0 F nt G0 G ν st' a w:=by
 unfold closeAt at hg
 split at hg
 ·rename_i r _
  split at hg
  ·rename_i e xs i p' cs hlo hlp
   split at hg
   ·rename_i d m hf
    split at hg
    ·rename_i hcond
     injection hg with hg;subst hg
     simp only[Xh]at hcond
     obtain⟨hp,hnd⟩:=hcond
     have hp:=Xcb hp
     subst hp
     have hnd:=(Whb _).1 hnd
     obtain⟨n1,n2⟩:=Xai.1 hnd
     obtain⟨n3,n4⟩:=Xai.1 n2
     obtain⟨φ,hφ⟩:=h.h
     have hlv:Live st.objs r:=⟨_,hlo,by simp⟩
     have hlvp:Live st.objs p:=⟨_,hlp,by simp⟩
     obtain⟨hpn,hole⟩:p<st.nx∧Wrx w (TyRel G w e) e.size (ν r) (ν p) xs i (φ r):=hφ.ob _ _ hlo
     obtain⟨b,us,hb,hrow,hmem,hcs,hrs⟩:Wgn G ν st.nx w p (φ p) (.box cs):=hφ.ob _ _ hlp
     obtain⟨ns,t1,t2,t3,t4,_⟩:=Wbg (G':=G) hφ (λ_ _ _ hh=>hh) e cs us d m [] hcs (λi hi=>by simp at hi) n4 hf
     have hul:=Wp _ _ _ _ t1
     rw[←hcs.1,hul]at hrs
     have hne:r≠p:=λe=>n1 (by rw[e];exact Xi ..)
     refine h.on (λ_ _ _ hh=>hh) (λ_ _=>rfl) (Xm _) ⟨_,hφ.put (ν':=ν) (S:=λb o=>φ r b o∨FromL φ st.objs (p::m) b o) (λ_ _=>rfl) (Xm _) (hφ.lt r hlv) (WLe.refl _ w) (λb o hh=>?_) (λ_=>?_)⟩ h.gx
     ·rcases hh with hh|⟨j,hj,h1,h2⟩
      ·exact .inl ⟨r,.inl rfl,hlv,hh⟩
      ·exact .inl ⟨j,.inr hj,h1,h2⟩
     ·refine hole_own hole t1 hb hmem hrs t2 t3 ?_ ?_ ?_ (λb o hh=>.inl hh) (λb o hh=>.inr ⟨p,Xi ..,hlvp,hh⟩) (λb o hh=>.inr (FromL.mono (λi hi=>Xe _ hi) b o hh))
      ·exactλb o h1 h2=>hne (hφ.inj r p b o hlv hlvp h1 h2)
      ·exactλb o h1 ⟨j,hj,h2,h3⟩=>by
        have:=hφ.inj r j b o hlv h2 h1 h3
        subst this;exact n1 (Xe _ hj)
      ·exactλb o h1 ⟨j,hj,h2,h3⟩=>by
        have:=hφ.inj p j b o hlvp h2 h1 h3
        subst this;exact n3 hj
    ·cases hg
   ·cases hg
  ·cases hg
 ·cases hg
theorem Wxc(h:Rel w0 F nt G0 G ν st a w){r i:Nat}{e:Ty}{xs:List e.den}(hlo:look st.objs r=some (.arr e xs))(hi:i<xs.length)(hg:openAt st r i=some st'):
  ∃ν' b,Rel w0 F nt G0 G ν' st' a w∧st.nx<st'.nx∧(ν r).blk=some b∧(ν' st.nx)=Wfr b ((ν r).off+i*(ν r).esz)∧st'.env=st.env:=by
 unfold openAt at hg
 rw[hlo]at hg
 simp only[Option.some.injEq]at hg
 subst hg
 obtain⟨φ,hφ⟩:=h.h
 have hlv:Live st.objs r:=⟨_,hlo,by simp⟩
 have hown:OwnL w (TyRel G w e) e.size (ν r) xs (φ r):=hφ.ob _ _ hlo
 obtain⟨g1,g2,g3⟩:=hown
 have hrlt:=hφ.lt r hlv
 cases hb:(ν r).blk with
 |none=>simp only[hb]at g3;rw[g3]at hi;simp at hi
 |some b=>
  simp only[hb]at g3
  obtain⟨g4,g5,g6,cs,ps,g7,g8,g9,g10⟩:=g3
  obtain⟨c1,c,c2,p1,pc,p2,k1,k2,k3,k4,k5⟩:=EncP_at g7 e.dflt hi
  have l1:=Wct (λx c q hx=>Wp e x c q hx) _ _ _ k3
  rw[Xan,Xce (by omega)]at l1
  have lc:=Wp _ _ _ _ k4
  have lo:=Wau _ _ _ _ k4
  have e1:(i+1)*e.size=i*e.size+e.size:=Xbx i e.size
  have e2:((ν r).cap-(i+1))*e.size+(i+1)*e.size=(ν r).cap*e.size:=by rw[←Xcv];congr 1;omega
  have hunx:=Wck e (xs.getD i e.dflt) (st.nx+1)
  have hul:=Wfm e (xs.getD i e.dflt) (st.nx+1)
  rw[k1]at g8
  have m1:Mem w b (ν r).off c1:=g8.left
  have m2:Mem w b ((ν r).off+i*e.size) c:=(g8.right l1).left
  have m3:Mem w b ((ν r).off+(i+1)*e.size) c2:=by
   have:=(g8.right l1).right lc
   rw[Xap,←e1]at this;exact this
  obtain⟨q1,q2⟩:=Xab.1 g9
  have hrφ:=g10 _ (Xi ..)
  have hpφ:∀p∈p1++(pc++p2),CS.le p.fp (φ r):=λp hp=>g10 _ (Xe _ (Xal (by rw[k2];exact hp)))
  have hpr:∀p∈p1++(pc++p2),CS.disj (rng b (ν r).off ((ν r).cap*e.size)) p.fp:=λp hp=>q1 _ (Xal (by rw[k2];exact hp))
  rw[k2,Xp,Xp]at q2
  obtain⟨s1,s2,s3⟩:=Xag.1 q2
  obtain⟨s4,s5,s6⟩:=Xag.1 s2
  have rA:CS.le (rng b (ν r).off (i*e.size)) (rng b (ν r).off ((ν r).cap*e.size)):=λb o ⟨x0,x1,x2⟩=>⟨x0,by omega,by omega⟩
  have rB:CS.le (rng b ((ν r).off+i*e.size) e.size) (rng b (ν r).off ((ν r).cap*e.size)):=λb o ⟨x0,x1,x2⟩=>⟨x0,by omega,by omega⟩
  have rC:CS.le (rng b ((ν r).off+(i+1)*e.size) (((ν r).cap-(i+1))*e.size)) (rng b (ν r).off ((ν r).cap*e.size)):=λb o ⟨x0,x1,x2⟩=>⟨x0,by omega,by omega⟩
  obtain⟨SR,hSR⟩:∃SR:CS,SR= λb' o=>rng b (ν r).off (i*e.size) b' o∨rng b ((ν r).off+(i+1)*e.size) (((ν r).cap-(i+1))*e.size) b' o∨∃p∈p1++p2,p.fp b' o:=⟨_,rfl⟩
  have hSRφ:CS.le SR (φ r):=λb o hh=>by
   rw[hSR]at hh
   rcases hh with hh|hh|⟨p,hp,hh⟩
   ·exact hrφ b o (rA b o hh)
   ·exact hrφ b o (rC b o hh)
   ·refine hpφ p ?_ b o hh
    rcases Xn.1 hp with hp|hp
    ·exact Xk _ hp
    ·exact Xg _ (Xg _ hp)
  obtain⟨ν',hν'⟩:∃ν':Nat→Nu,ν'= λj=>if j<st.nx then ν j else if j=st.nx then Wfr b ((ν r).off+i*e.size)else((nus pc)[j-(st.nx+1)]?).getD ⟨none,0,0,0,0⟩:=⟨_,rfl⟩
  obtain⟨φ',hφ'⟩:∃φ':Nat→CS,φ'= λj=>if j=r then SR else if j<st.nx then φ j else if j=st.nx then rng b ((ν r).off+i*e.size) e.size else((fps pc)[j-(st.nx+1)]?).getD (λ_ _=>False):=⟨_,rfl⟩
  have hνold:NuEq st.nx ν ν':=λj hj=>by rw[hν'];simp[hj]
  have hνp:ν' st.nx=Wfr b ((ν r).off+i*e.size):=by rw[hν'];simp
  have hφr:φ' r=SR:=by rw[hφ'];simp
  have hφp:φ' st.nx=rng b ((ν r).off+i*e.size) e.size:=by rw[hφ'];simp;omega
  have hφold:∀j,j<st.nx→j≠r→φ' j=φ j:=λj hj hn=>by rw[hφ'];simp[hj,hn]
  have hAt:At ν' φ' (st.nx+1) pc:=λj q hj=>by
   have x1:(nus pc)[j]?=some q.nu:=by unfold nus;rw[Xam,hj];rfl
   have x2:(fps pc)[j]?=some q.fp:=by unfold fps;rw[Xam,hj];rfl
   rw[hν',hφ']
   constructor
   ·show(if st.nx+1+j<st.nx then _ else if st.nx+1+j=st.nx then _ else _)=_
    rw[if_neg (by omega),if_neg (by omega),Xbd,x1];rfl
   ·show(if st.nx+1+j=r then _ else if st.nx+1+j<st.nx then _ else if st.nx+1+j=st.nx then _ else _)=_
    rw[if_neg (by omega),if_neg (by omega),if_neg (by omega),Xbd,x2];rfl
  obtain⟨uc,uo⟩:=Wbp (ν:=ν') (φ:=φ') e (xs.getD i e.dflt) (st.nx+1) c pc k4 hAt
  have hobs:∀id ob,look ((r,Ob.hole e xs i st.nx)::(st.nx,Ob.box (unfold e (xs.getD i e.dflt) (st.nx+1)).1)::((unfold e (xs.getD i e.dflt) (st.nx+1)).2.1++st.objs)) id=some ob→ob≠ .dead→
    (id=r∧ob= .hole e xs i st.nx)∨(id=st.nx∧ob= .box (unfold e (xs.getD i e.dflt) (st.nx+1)).1)∨(st.nx+1≤id∧id<st.nx+1+e.owns∧ArrOb G ν' φ' w id ob)∨(id≠r∧id<st.nx∧look st.objs id=some ob):=λid ob hl hd=>by
   rw[Wt]at hl
   split at hl
   ·rename_i x;injection hl with hl;exact .inl ⟨x.symm,hl.symm⟩
   ·rename_i hn1
    rw[Wt]at hl
    split at hl
    ·rename_i x;injection hl with hl;exact .inr (.inl ⟨x.symm,hl.symm⟩)
    ·rcases Wy hl with hl|hl
     ·obtain⟨x1,x2,x3⟩:=uo id ob hl
      exact .inr (.inr (.inl ⟨x1,x2,x3⟩))
     ·exact .inr (.inr (.inr ⟨λx=>hn1 x.symm,hφ.lt id ⟨ob,hl,hd⟩,hl⟩))
  have hfrom:∀id b' o,Live ((r,Ob.hole e xs i st.nx)::(st.nx,Ob.box (unfold e (xs.getD i e.dflt) (st.nx+1)).1)::((unfold e (xs.getD i e.dflt) (st.nx+1)).2.1++st.objs)) id→φ' id b' o→
    (id=r∧SR b' o)∨(id=st.nx∧rng b ((ν r).off+i*e.size) e.size b' o)∨(∃(j:Nat) (q:Pc),id=st.nx+1+j∧pc[j]?=some q∧q.fp b' o)∨(id≠r∧id<st.nx∧Live st.objs id∧φ id b' o):=λid b' o ⟨ob,hl,hd⟩ hp=>by
   rcases hobs id ob hl hd with⟨rfl,_⟩|⟨rfl,_⟩|⟨x1,x2,_⟩|⟨x1,x2,x3⟩
   ·rw[hφr]at hp;exact .inl ⟨rfl,hp⟩
   ·rw[hφp]at hp;exact .inr (.inl ⟨rfl,hp⟩)
   ·right;right;left
    have hlt:id-(st.nx+1)<pc.length:=by omega
    refine⟨id-(st.nx+1),pc[id-(st.nx+1)],by omega,Xs hlt,?_⟩
    have:=(hAt (id-(st.nx+1)) _ (Xs hlt)).2
    rw[show st.nx+1+(id-(st.nx+1))=id by omega]at this
    rw[this]at hp;exact hp
   ·rw[hφold id x2 x1]at hp
    exact .inr (.inr (.inr ⟨x1,x2,⟨ob,x3,hd⟩,hp⟩))
  have hq:∀(j:Nat) (q:Pc),pc[j]?=some q→q∈p1++(pc++p2):=λj q hj=>Xg _ (Xk _ (Xav hj))
  have hinr:∀id b' o,(id=r∧SR b' o)∨(id=st.nx∧rng b ((ν r).off+i*e.size) e.size b' o)∨(∃(j:Nat) (q:Pc),id=st.nx+1+j∧pc[j]?=some q∧q.fp b' o)→φ r b' o:=λid b' o hh=>by
   rcases hh with⟨_,hh⟩|⟨_,hh⟩|⟨j,q,_,hj,hh⟩
   ·exact hSRφ b' o hh
   ·exact hrφ b' o (rB b' o hh)
   ·exact hpφ q (hq j q hj) b' o hh
  have hH:HR w0 F G ν' φ' ((r,Ob.hole e xs i st.nx)::(st.nx,Ob.box (unfold e (xs.getD i e.dflt) (st.nx+1)).1)::((unfold e (xs.getD i e.dflt) (st.nx+1)).2.1++st.objs)) (st.nx+1+e.owns) w:=by
   refine hφ.step (WLe.refl _ w) (λid ob hl hd=>?_) (λid ⟨ob,hl,hd⟩=>?_) (λid b' o hlv' hp=>?_) (λid b' o hlv' hp=>?_) (λid id' b' o hl hl' hp hp'=>?_)
   ·rcases hobs id ob hl hd with⟨rfl,rfl⟩|⟨rfl,rfl⟩|⟨x1,x2,e',xs',rfl,x3⟩|⟨x1,x2,x3⟩
    ·refine⟨by omega,?_⟩
     rw[hφr,hνold id hrlt,hνp]
     refine⟨g1,g2,hi,b,hb,rfl,rfl,g4,g5,g6,c1,c2,p1,p2,k3,k5,m1,m3,?_,λs hs b' o hh=>?_⟩
     ·refine Xab.2 ⟨λs hs=>?_,Xab.2 ⟨λs hs=>?_,?_⟩⟩
      ·rcases Xo.1 hs with rfl|hs
       ·exact rng_disj (by omega)
       ·obtain⟨p,hp,rfl⟩:=Xu.1 hs
        refine(hpr p ?_).mono rA (λ_ _ hh=>hh)
        rcases Xn.1 hp with hp|hp
        ·exact Xk _ hp
        ·exact Xg _ (Xg _ hp)
      ·obtain⟨p,hp,rfl⟩:=Xu.1 hs
       refine(hpr p ?_).mono rC (λ_ _ hh=>hh)
       rcases Xn.1 hp with hp|hp
       ·exact Xk _ hp
       ·exact Xg _ (Xg _ hp)
      ·rw[Xp]
       exact Xag.2 ⟨s1,s5,λs hs t ht=>s3 s hs t (Xg _ ht)⟩
     ·rw[hSR]
      rcases Xo.1 hs with rfl|hs
      ·exact .inl hh
      ·rcases Xo.1 hs with rfl|hs
       ·exact .inr (.inl hh)
       ·obtain⟨p,hp,rfl⟩:=Xu.1 hs
        exact .inr (.inr ⟨p,hp,hh⟩)
    ·refine⟨b,c,by rw[hνp];rfl,?_,by rw[hνp];exact m2,uc _ (Xm _),?_⟩
     ·rw[hνp,hul]
      obtain⟨row,TT,y1,y2⟩:=g6
      exact⟨row,TT,y1,by show(ν r).off+i*e.size+e.size≤row.size;omega⟩
     ·rw[hνp,hul,hφp];exactλ_ _ hh=>hh
    ·exact x3
    ·rw[hφold id x2 x1]
     exact Wis (λ_ _ _ hh=>hh) (Same.refl _ w) (λ_ _ hh=>hh) hνold (by omega) x2 ob (hφ.ob id ob x3)
   ·rcases hobs id ob hl hd with⟨rfl,_⟩|⟨rfl,_⟩|⟨_,x2,_⟩|⟨_,x2,_⟩<;>omega
   ·rcases hfrom id b' o hlv' hp with hh|hh|hh|⟨_,_,x3,x4⟩
    ·exact .inl ⟨r,hlv,hinr id b' o (.inl hh)⟩
    ·exact .inl ⟨r,hlv,hinr id b' o (.inr (.inl hh))⟩
    ·exact .inl ⟨r,hlv,hinr id b' o (.inr (.inr hh))⟩
    ·exact .inl ⟨id,x3,x4⟩
   ·rcases hfrom id b' o hlv' hp with hh|hh|hh|⟨_,_,x3,x4⟩
    ·exact hφ.bl r b' o hlv (hinr id b' o (.inl hh))
    ·exact hφ.bl r b' o hlv (hinr id b' o (.inr (.inl hh)))
    ·exact hφ.bl r b' o hlv (hinr id b' o (.inr (.inr hh)))
    ·exact hφ.bl id b' o x3 x4
   ·have out:∀id',id'≠r→Live st.objs id'→φ id' b' o→φ r b' o→False:=λid' y1 y2 y3 y4=>y1 (hφ.inj id' r b' o y2 hlv y3 y4)
    have dSP:SR b' o→∀s,(s=rng b ((ν r).off+i*e.size) e.size∨∃q∈pc,s=q.fp)→s b' o→False:=λy1 s y2 y3=>by
     rw[hSR]at y1
     rcases y2 with rfl|⟨q,hqm,rfl⟩
     ·rcases y1 with y1|y1|⟨p,hp,y1⟩
      ·obtain⟨z0,z1,z2⟩:=y1;obtain⟨z3,z4,z5⟩:=y3;omega
      ·obtain⟨z0,z1,z2⟩:=y1;obtain⟨z3,z4,z5⟩:=y3;omega
      ·refine hpr p ?_ b' o (rB b' o y3) y1
       rcases Xn.1 hp with hp|hp
       ·exact Xk _ hp
       ·exact Xg _ (Xg _ hp)
     ·have hqm':q∈p1++(pc++p2):=Xg _ (Xk _ hqm)
      rcases y1 with y1|y1|⟨p,hp,y1⟩
      ·exact hpr q hqm' b' o (rA b' o y1) y3
      ·exact hpr q hqm' b' o (rC b' o y1) y3
      ·rcases Xn.1 hp with hp|hp
       ·exact s3 _ (Xal hp) _ (Xk _ (Xal hqm)) b' o y1 y3
       ·exact s6 _ (Xal hqm) _ (Xal hp) b' o y3 y1
    have dPQ:∀(j:Nat) (q:Pc),pc[j]?=some q→rng b ((ν r).off+i*e.size) e.size b' o→q.fp b' o→False:=λj q hj y1 y2=>hpr q (hq j q hj) b' o (rB b' o y1) y2
    rcases hfrom id b' o hl hp with hh|hh|hh|⟨x1,x2,x3,x4⟩<;>rcases hfrom id' b' o hl' hp' with hh'|hh'|hh'|⟨x1',x2',x3',x4'⟩
    ·rw[hh.1,hh'.1]
    ·exact(dSP hh.2 _ (.inl rfl) hh'.2).elim
    ·obtain⟨j,q,_,hj,y⟩:=hh'
     exact(dSP hh.2 _ (.inr ⟨q,Xav hj,rfl⟩) y).elim
    ·exact(out id' x1' x3' x4' (hinr id b' o (.inl hh))).elim
    ·exact(dSP hh'.2 _ (.inl rfl) hh.2).elim
    ·rw[hh.1,hh'.1]
    ·obtain⟨j,q,_,hj,y⟩:=hh'
     exact(dPQ j q hj hh.2 y).elim
    ·exact(out id' x1' x3' x4' (hinr id b' o (.inr (.inl hh)))).elim
    ·obtain⟨j,q,_,hj,y⟩:=hh
     exact(dSP hh'.2 _ (.inr ⟨q,Xav hj,rfl⟩) y).elim
    ·obtain⟨j,q,_,hj,y⟩:=hh
     exact(dPQ j q hj hh'.2 y).elim
    ·obtain⟨j,q,hid,hj,y⟩:=hh
     obtain⟨j',q',hid',hj',y'⟩:=hh'
     have x1:(fps pc)[j]?=some q.fp:=by unfold fps;rw[Xam,hj];rfl
     have x2:(fps pc)[j']?=some q'.fp:=by unfold fps;rw[Xam,hj'];rfl
     have:=Wzp (l:=fps pc) s4 x1 x2 y y'
     rw[hid,hid',this]
    ·exact(out id' x1' x3' x4' (hinr id b' o (.inr (.inr hh)))).elim
    ·exact(out id x1 x3 x4 (hinr id' b' o (.inl hh'))).elim
    ·exact(out id x1 x3 x4 (hinr id' b' o (.inr (.inl hh')))).elim
    ·exact(out id x1 x3 x4 (hinr id' b' o (.inr (.inr hh')))).elim
    ·exact hφ.inj id id' b' o x3 x3' x4 x4'
  refine⟨ν',b,?_,?_,rfl,by rw[hνp,g2],rfl⟩
  ·have:=h.on (λ_ _ _ hh=>hh) hνold (by omega) ⟨φ',hH⟩ h.gx
   rw[hunx];exact this
  ·show st.nx<(unfold e (xs.getD i e.dflt) (st.nx+1)).2.2;rw[hunx];omega
end
end Go.Sx
namespace Go.Sx
set_option linter.unusedVariables false
set_option linter.unusedSimpArgs false
theorem Whq:∀(l:List Nat) (i j:Nat),posN i l=some j→l[j]?=some i
 | [],i,j,h=>by cases h
 |k::l,i,j,h=>by
  simp only[posN]at h
  split at h
  ·rename_i hb
   injection h with h;subst h
   have:i=k:=by simpa using hb
   rw[this];rfl
  ·cases hp:posN i l with
   |none=>simp[hp]at h
   |some n=>
    simp[hp]at h;subst h
    exact Whq l i n hp
theorem Wwr{m:List Nat}:∀(l r:List Nat),posAll m l=some r→r.length=l.length∧∀(q j:Nat),r[q]?=some j→∃i,l[q]?=some i∧m[j]?=some i
 | [],r,h=>by simp[posAll]at h;subst h;exact⟨rfl,λq j hq=>by simp at hq⟩
 |i::l,r,h=>by
  simp only[posAll]at h
  split at h
  ·rename_i j r' h1 h2
   injection h with h;subst h
   obtain⟨h3,h4⟩:=Wwr l r' h2
   refine⟨by simp[h3],λq j' hq=>?_⟩
   cases q with
   |zero=>simp at hq;subst hq;exact⟨i,rfl,Whq m i j h1⟩
   |succ q=>exact h4 q j' (by simpa using hq)
  ·cases h
theorem Wfg:∀(n:Nat) (todo acc:List Nat) (objs:Objs),acc.Nodup→(reach n todo acc objs).Nodup
 |0,_,_,_,h=>h
 |n+1,[],acc,objs,h=>h
 |n+1,i::l,acc,objs,h=>by
  simp only[reach]
  split
  ·exact Wfg n l acc objs h
  ·rename_i hi
   have hni:i∉acc:=λhm=>hi ((Wcm i acc).2 hm)
   have h2:(acc++ [i]).Nodup:=by
    rw[Xak]
    refine⟨h,by simp,λx hx y hy=>?_⟩
    simp at hy;subst hy
    exactλe=>hni (e▸hx)
   split
   ·exact Wfg n _ _ objs h2
   ·exact Wfg n _ _ objs h2
   ·exact Wfg n _ _ objs h2
   ·exact Wfg n _ _ objs h
theorem Wri{m:List Nat}{objs:Objs}:∀(l:List Nat) (j0:Nat) (j:Nat) (ob:Ob),look (Wiu m objs j0 l) j=some ob→∃i ob',j0≤j∧l[j-j0]?=some i∧look objs i=some ob'∧ob=renOb m ob'
 | [],j0,j,ob,h=>by cases h
 |i::l,j0,j,ob,h=>by
  simp only[Wiu]at h
  have step:look (Wiu m objs (j0+1) l) j=some ob→∃i' ob',j0≤j∧(i::l)[j-j0]?=some i'∧look objs i'=some ob'∧ob=renOb m ob':=λh=>by
   obtain⟨i',ob',h1,h2,h3,h4⟩:=Wri l (j0+1) j ob h
   refine⟨i',ob',by omega,?_,h3,h4⟩
   rw[show j-j0=(j-(j0+1))+1 by omega]
   simpa using h2
  split at h
  ·rename_i ob' ho
   rw[Wt]at h
   split at h
   ·rename_i e;subst e
    injection h with h
    exact⟨i,ob',Xm _,by simp,ho,h.symm⟩
   ·exact step h
  ·exact step h
theorem Wuc{env:List (Nat×AVal)}{f:AVal→AVal}:∀(l:List Nat) (i:Nat) (x:AVal),look ((Wns env l).map λp=>(p.1,f p.2)) i=some x→∃y,look env i=some y∧x=f y
 | [],i,x,h=>by cases h
 |j::l,i,x,h=>by
  simp only[Wns]at h
  split at h
  ·rename_i y hy
   simp only[Xaj]at h
   rw[Wt]at h
   split at h
   ·rename_i e;subst e;injection h with h;exact⟨y,hy,h.symm⟩
   ·exact Wuc l i x h
  ·exact Wuc l i x h
section
variable{w0:World}{F:CS}{nt:Slots}{G0 G G':GH}{ν ν':Nat→Nu}{objs objs':Objs}{nx nx':Nat}{st st':St}{a:Act}{w w':World}{P:Program}{T:Tab}{Γ:Ctx}
structure Ren(m:List Nat)(ν ν':Nat→Nu)(nx':Nat):Prop where
 nx:∀(i j:Nat),m[j]?=some i→j<nx'
 nu:∀(i j:Nat),m[j]?=some i→ν' j=ν i
theorem CellRel.ren{m:List Nat}(hm:Ren m ν ν' nx'):∀(c:Cell) (v:Value),CellRel G ν nx c v→CellRel G ν' nx' (Whc m c) v
 | .val t d,v,h=>h
 | .nils,v,h=>h
 | .rptr t d off,v,h=>h
 | .junk,v,h=>h
 | .own id,v,h=>by
  simp only[Whc]
  split
  ·rename_i j hj
   have hj:=Whq _ _ _ hj
   exact⟨hm.nx _ _ hj,by rw[hm.nu _ _ hj];exact h.2⟩
  ·trivial
 | .vw id lo hi,v,h=>by
  simp only[Whc]
  split
  ·rename_i j hj
   have hj:=Whq _ _ _ hj
   exact⟨hm.nx _ _ hj,by rw[hm.nu _ _ hj];exact h.2⟩
  ·trivial
 | .aptr id,v,h=>by
  simp only[Whc]
  split
  ·rename_i j hj
   have hj:=Whq _ _ _ hj
   exact⟨hm.nx _ _ hj,by rw[hm.nu _ _ hj];exact h.2⟩
  ·trivial
 | .ptr id off,v,h=>by
  simp only[Whc]
  split
  ·rename_i j hj
   have hj:=Whq _ _ _ hj
   exact⟨hm.nx _ _ hj,by rw[hm.nu _ _ hj];exact h.2⟩
  ·trivial
 | .eptr id i off,v,h=>by
  simp only[Whc]
  split
  ·rename_i j hj
   have hj:=Whq _ _ _ hj
   exact⟨hm.nx _ _ hj,by rw[hm.nu _ _ hj];exact h.2⟩
  ·trivial
 | .clos f caps,v,h=>by
  simp only[Whc]
  split
  ·rename_i js hj
   obtain⟨h1,h2⟩:=Wwr _ _ hj
   obtain⟨vs,h3,h4,h5⟩:=h
   refine⟨vs,h3,h4.trans h1.symm,λq id u hq hu=>?_⟩
   obtain⟨i,h6,h7⟩:=h2 q id hq
   obtain⟨h8,h9,h10⟩:=h5 q i u h6 hu
   exact⟨hm.nx _ _ h7,h9,by rw[hm.nu _ _ h7];exact h10⟩
  ·trivial
theorem CellsRel.ren{m:List Nat}(hm:Ren m ν ν' nx'){cs:List Cell}{vs:List Value}(h:CellsRel G ν nx cs vs):CellsRel G ν' nx' (cs.map (Whc m)) vs:=by
 refine⟨by simp[h.1],λj c v hc hv=>?_⟩
 simp only[Xam]at hc
 cases hd:cs[j]? with
 |none=>simp[hd]at hc
 |some d=>
  simp[hd]at hc;subst hc
  obtain⟨h1,h2⟩:=h.2 j d v hd hv
  exact⟨h1.ren hm,h2⟩
theorem AvRel.ren{m:List Nat}(hm:Ren m ν ν' nx'):∀(x:AV) (v:Value),AvRel G ν nx x v→AvRel G ν' nx' (renAV m x) v
 | .one c,v,h=>⟨h.1.ren hm,h.2⟩
 | .agg cs,v,⟨vs,h1,h2⟩=>⟨vs,h1,h2.ren hm⟩
theorem AValRel.ren{m:List Nat}(hm:Ren m ν ν' nx'):∀(x:AVal) (v:Value),AValRel G ν nx x v→AValRel G ν' nx' (renAVal m x) v
 | .s x,v,h=>AvRel.ren hm x v h
 | .tup xs,v,⟨vs,h1,h2,h3⟩=>⟨vs,h1,by simp[h2],λj x u hx hu=>by
  simp only[Xam]at hx
  cases hd:xs[j]? with
  |none=>simp[hd]at hx
  |some d=>
   simp[hd]at hx;subst hx
   exact AvRel.ren hm d u (h3 j d u hd hu)⟩
theorem canon_rel(slots:List Nat)(h:Rel w0 F nt G0 G ν st a w):∃ν',Rel w0 F nt G0 G ν' (canon slots st) a w:=by
 obtain⟨m,hm⟩:∃m,m=reach 400 ((Wns st.env slots).flatMap λp=>Wda p.2) [] st.objs:=⟨_,rfl⟩
 have hnd:m.Nodup:=by rw[hm];exact Wfg _ _ _ _ (by simp)
 have hcanon:canon slots st={env:=(Wns st.env slots).map λp=>(p.1,renAVal m p.2),objs:=Wiu m st.objs 0 m,nx:=m.length}:=by rw[hm];rfl
 obtain⟨ν',hν'⟩:∃ν':Nat→Nu,ν'= λj=>ν ((m[j]?).getD 0):=⟨_,rfl⟩
 have hnu:∀(i j:Nat),m[j]?=some i→ν' j=ν i:=λi j hj=>by rw[hν'];simp[hj]
 have hobj:∀(j:Nat) (ob:Ob),look (Wiu m st.objs 0 m) j=some ob→∃i ob',m[j]?=some i∧look st.objs i=some ob'∧ob=renOb m ob':=λj ob ho=>by
  obtain⟨i,ob',_,h2,h3,h4⟩:=Wri _ _ _ _ ho
  exact⟨i,ob',by simpa using h2,h3,h4⟩
 have hren:Ren m ν ν' m.length:={
  nx:=λi j hj=>(Xq.1 hj).1
  nu:=hnu}
 have hlive:∀j,Live (Wiu m st.objs 0 m) j→∃i,m[j]?=some i∧Live st.objs i:=λj ⟨ob,ho,hd⟩=>by
  obtain⟨i,ob',h1,h2,h3⟩:=hobj j ob ho
  refine⟨i,h1,ob',h2,λhd'=>hd ?_⟩
  rw[h3,hd'];rfl
 rw[hcanon]
 refine⟨ν',h.defers,h.ntm,h.par,λi x hx=>?_,?_,h.gx⟩
 ·obtain⟨y,h1,rfl⟩:=Wuc _ _ _ hx
  obtain⟨v,h2,h3⟩:=h.env i y h1
  exact⟨v,h2,AValRel.ren hren y v h3⟩
 ·obtain⟨φ,hφ⟩:=h.h
  refine⟨λj=>φ ((m[j]?).getD 0),?_⟩
  have hfi:∀(i j:Nat),m[j]?=some i→φ ((m[j]?).getD 0)=φ i:=λi j hj=>by simp[hj]
  exact{
   g:=hφ.g
   ob:=λj ob ho=>by
    obtain⟨i,ob',h1,h2,rfl⟩:=hobj j ob ho
    have:=hφ.ob i ob' h2
    cases ob' with
    |dead=>trivial
    |arr e xs=>
     show OwnL w (TyRel G w e) e.size (ν' j) xs (φ ((m[j]?).getD 0))
     rw[hnu i j h1,hfi i j h1]
     exact this
    |hole e xs k p=>
     simp only[renOb]
     split
     ·rename_i q hq
      have hq:=Whq _ _ _ hq
      obtain⟨g1,g2⟩:=this
      show q<m.length∧Wrx w (TyRel G w e) e.size (ν' j) (ν' q) xs k (φ ((m[j]?).getD 0))
      rw[hnu i j h1,hfi i j h1,hnu p q hq]
      exact⟨(Xq.1 hq).1,g2⟩
     ·trivial
    |box cs=>
     obtain⟨b,vs,h4,h5,h6,h7,h8⟩:=this
     refine⟨b,vs,by rw[hnu i j h1];exact h4,?_,by rw[hnu i j h1];exact h6,h7.ren hren,?_⟩
     ·rw[hnu i j h1,Xaf];exact h5
     ·rw[hnu i j h1,hfi i j h1,Xaf];exact h8
   gf:=λj b o hj hp=>by
    obtain⟨i,h1,h2⟩:=hlive j hj
    rw[hfi i j h1]at hp
    exact hφ.gf i b o h2 hp
   inj:=λj j' b o hj hj' hp hp'=>by
    obtain⟨i,h1,h2⟩:=hlive j hj
    obtain⟨i',h1',h2'⟩:=hlive j' hj'
    rw[hfi i j h1]at hp
    rw[hfi i' j' h1']at hp'
    have:=hφ.inj i i' b o h2 h2' hp hp'
    subst this
    have hlt:=(Xq.1 h1).1
    exact(List.getElem?_inj hlt hnd).1 (h1.trans h1'.symm)
   own:=λj b o hj hp=>by
    obtain⟨i,h1,h2⟩:=hlive j hj
    rw[hfi i j h1]at hp
    exact hφ.own i b o h2 hp
   lt:=λj hj=>by
    obtain⟨i,h1,h2⟩:=hlive j hj
    exact(Xq.1 h1).1
   bl:=λj b o hj hp=>by
    obtain⟨i,h1,h2⟩:=hlive j hj
    rw[hfi i j h1]at hp
    exact hφ.bl i b o h2 hp
   le:=hφ.le}
theorem Wwj(h:Rel w0 F nt G0 G ν st a w){r:Nat}{ix:Option Nat}(hg:openIn st r ix=some (true,st')):∃ν',Rel w0 F nt G0 G ν' st' a w:=by
 unfold openIn at hg
 split at hg
 ·rename_i c i hix
  obtain⟨s,hs,hg⟩:=Xx.1 hg
  simp only[Prod.mk.injEq]at hg
  obtain⟨rfl,rfl⟩:=hg
  have hlt:∃(e:Ty) (xs:List e.den),look st.objs r=some (.arr e xs)∧i<xs.length:=by
   unfold openIx at hix
   split at hix
   ·split at hix
    ·rename_i e xs ho
     simp only[Option.some.injEq,Prod.mk.injEq]at hix
     obtain⟨h1,rfl⟩:=hix
     obtain⟨h2,h3⟩:=Wjs h1
     exact⟨e,xs,ho,by omega⟩
    ·cases hix
   ·split at hix
    ·rename_i e xs n ho hn
     simp only[Option.some.injEq,Prod.mk.injEq]at hix
     obtain⟨h1,rfl⟩:=hix
     obtain⟨h2,h3⟩:=Wjs h1
     exact⟨e,xs,ho,by omega⟩
    ·cases hix
  obtain⟨e,xs,ho,hlt⟩:=hlt
  obtain⟨ν',b,h1,_⟩:=Wxc h ho hlt hs
  exact⟨ν',h1⟩
 ·cases hg
theorem ghost_rel{g:Ghost}(h:Rel w0 F nt G0 G ν st a w)(hg:Wnx g st=some (true,st')):∃G' ν',Rel w0 F nt G0 G' ν' st' a w:=by
 cases g with
 |canon slots=>
  simp only[Wnx]at hg
  injection hg with hg;injection hg with _ hg;subst hg
  obtain⟨ν',h'⟩:=canon_rel slots h
  exact⟨G,ν',h'⟩
 |adopt slot e=>
  simp only[Wnx]at hg
  split at hg
  ·rename_i hs
   injection hg with hg;injection hg with _ hg;subst hg
   obtain⟨v,hv,hr⟩:=h.env _ _ hs
   have hv2:v= .slice none 0 0:=hr.1
   subst hv2
   have h2:=h.on (λ_ _ _ hh=>hh) (Wmv ν st.nx _) (Xdh _) (h.h.adopt e) h.gx
   exact⟨G,_,h2.rebind hv ⟨Wxf e,rfl⟩⟩
  ·injection hg with hg;injection hg with _ hg;subst hg;exact⟨G,ν,h⟩
  ·cases hg
 |freeze slot=>
  simp only[Wnx]at hg
  split at hg
  ·rename_i id hs
   split at hg
   ·rename_i e xs ho
    injection hg with hg;injection hg with _ hg;subst hg
    obtain⟨G1,h1,h2,h3,h4⟩:=h.h.freezeL h.gx [id]
    obtain⟨v,hv,hr⟩:=h.env _ _ hs
    have hv2:v=(ν id).hdr:=hr.1.2
    have h5:=h.on h1 (λ_ _=>rfl) (Xm _) h2 h3
    exact⟨G1,ν,h5.rebind hv ⟨⟨v,rfl,hv2▸h4 id (by simp) e xs ho⟩,hr.2⟩⟩
   ·cases hg
  ·cases hg
 |adoptC slot off e=>
  simp only[Wnx]at hg
  split at hg
  ·rename_i id hs
   split at hg
   ·rename_i cs ho
    split at hg
    ·rename_i hc
     injection hg with hg;injection hg with _ hg;subst hg
     have hne:st.nx≠id:=λe=>by
      obtain⟨φ,hφ⟩:=h.h
      have:=hφ.lt id ⟨_,ho,by simp⟩
      omega
     have h2:=h.h.adopt e
     have ho2:look ((st.nx,Ob.arr e [])::st.objs) id=some (.box cs):=by rw[Wt,if_neg hne];exact ho
     have h3:=h2.mk_box ho2 (cs':=cs.set off (.own st.nx)) (by simp) (λvs hvs=>hvs.set λv hv=>by
      have:v= .slice none 0 0:=(hvs.2 off _ v hc hv).1
      subst this
      exact Wxf e)
     exact⟨G,_,h.on (λ_ _ _ hh=>hh) (Wmv ν st.nx _) (Xdh _) h3 h.gx⟩
    ·injection hg with hg;injection hg with _ hg;subst hg;exact⟨G,ν,h⟩
    ·cases hg
   ·cases hg
  ·cases hg
 |freezeC slot off=>
  simp only[Wnx]at hg
  split at hg
  ·rename_i id hs
   split at hg
   ·rename_i cs ho
    split at hg
    ·rename_i j hc
     split at hg
     ·rename_i e xs hoj
      injection hg with hg;injection hg with _ hg;subst hg
      obtain⟨G1,h1,h2,h3,h4⟩:=h.h.freezeL h.gx [j]
      have hne:j≠id:=λe=>by subst e;rw[ho]at hoj;cases hoj
      have ho2:look ((j,Ob.dead)::st.objs) id=some (.box cs):=by rw[Wt,if_neg hne];exact ho
      have h5:HRel w0 F G1 ν ((id,.box (cs.set off (.val (.slice e.ro) (Wgm e xs))))::(j,.dead)::st.objs) st.nx w:=by
       refine HRel.mk_box h2 ho2 (by simp) (λvs hvs=>hvs.set λv hv=>?_)
       have hv2:v=(ν j).hdr:=(hvs.2 off _ v hc hv).1.2
       exact⟨v,rfl,hv2▸h4 j (by simp) e xs hoj⟩
      exact⟨G1,ν,h.on h1 (λ_ _=>rfl) (Xm _) h5 h3⟩
     ·cases hg
    ·injection hg with hg;injection hg with _ hg;subst hg;exact⟨G,ν,h⟩
    ·injection hg with hg;injection hg with _ hg;subst hg;exact⟨G,ν,h⟩
    ·cases hg
   ·cases hg
  ·cases hg
 |nest d e=>injection hg with hg;injection hg with _ hg;subst hg;exact⟨G,ν,h⟩
 |view d=>injection hg with hg;injection hg with _ hg;subst hg;exact⟨G,ν,h⟩
 |opn d=>injection hg with hg;injection hg with _ hg;subst hg;exact⟨G,ν,h⟩
 |empt slot e=>
  simp only[Wnx]at hg
  split at hg
  ·split at hg
   ·rename_i e' ho
    split at hg
    ·rename_i hc
     injection hg with hg;injection hg with _ hg;subst hg
     exact⟨G,ν,h.on (λ_ _ _ hh=>hh) (λ_ _=>rfl) (Xm _) (h.h.empt ho hc.1) h.gx⟩
    ·cases hg
   ·cases hg
  ·cases hg
 |unfE slot=>
  simp only[Wnx]at hg
  split at hg
  ·rename_i r i hs
   obtain⟨s,hs',hg⟩:=Xx.1 hg
   injection hg with _ hg;subst hg
   obtain⟨v,hv,hr⟩:=h.env _ _ hs
   have harr:∃(e:Ty) (xs:List e.den),look st.objs r=some (.arr e xs):=by
    unfold openAt at hs'
    split at hs'
    ·rename_i e xs ho;exact⟨e,xs,ho⟩
    ·cases hs'
   obtain⟨e,xs,ho⟩:=harr
   obtain⟨⟨_,hlt,b,hb,rfl⟩,_⟩:=hr
   obtain⟨S,hown⟩:=h.h.obj ho
   obtain⟨ν',b',h1,h2,h3,h4,h5⟩:=Wxc h ho (by rw[hown.1];exact hlt) hs'
   rw[hb]at h3;injection h3 with h3;subst h3
   refine⟨G,ν',h1.rebind hv ⟨⟨h2,b,by rw[h4];rfl,?_⟩,rfl⟩⟩
   rw[h4];rfl
  ·cases hg
 |unfS slot ix=>
  simp only[Wnx]at hg
  split at hg
  ·obtain⟨ν',h'⟩:=Wwj h hg
   exact⟨G,ν',h'⟩
  ·cases hg
 |unfC slot off ix=>
  simp only[Wnx]at hg
  split at hg
  ·split at hg
   ·split at hg
    ·obtain⟨ν',h'⟩:=Wwj h hg
     exact⟨G,ν',h'⟩
    ·cases hg
   ·cases hg
  ·cases hg
 |refold slot=>
  simp only[Wnx]at hg
  split at hg
  ·obtain⟨s,hs',hg⟩:=Xx.1 hg
   injection hg with _ hg;subst hg
   exact⟨G,ν,closeAt_rel h hs'⟩
  ·cases hg
 |solo slot=>
  simp only[Wnx]at hg
  split at hg
  ·rename_i id lo hi hs
   split at hg
   ·rename_i e xs ho
    injection hg with hg;injection hg with _ hg;subst hg
    obtain⟨v,hv,hr⟩:=h.env _ _ hs
    obtain⟨⟨_,g1,g2,g3,rfl⟩,_⟩:=hr
    have h2:=h.on (λ_ _ _ hh=>hh) (Wmv ν st.nx _) (Xdh _) (h.h.solo ho g1 g2) h.gx
    exact⟨G,_,h2.rebind hv ⟨solo_cell,vhdr_one _ _ _⟩⟩
   ·cases hg
  ·injection hg with hg;injection hg with _ hg;subst hg;exact⟨G,ν,h⟩
  ·cases hg
 |soloC slot off=>
  simp only[Wnx]at hg
  split at hg
  ·rename_i id o hs
   split at hg
   ·rename_i cs ho
    split at hg
    ·rename_i j lo hi hc
     split at hg
     ·rename_i e xs hoj
      injection hg with hg;injection hg with _ hg;subst hg
      have hne:j≠id:=λe=>by subst e;rw[ho]at hoj;cases hoj
      have hne2:st.nx≠id:=λe=>by
       obtain⟨φ,hφ⟩:=h.h
       have:=hφ.lt id ⟨_,ho,by simp⟩
       omega
      have hcell:lo≤hi∧hi≤(ν j).len:=by
       obtain⟨S,b,vs,k1,k2,k3,k4,k5⟩:=h.h.obj ho
       have hlt:o+off<vs.length:=by rw[k4.1];exact(Xq.1 hc).1
       obtain⟨⟨_,g1,g2,_⟩,_⟩:=k4.2 _ _ _ hc (Xs hlt)
       exact⟨g1,g2⟩
      have h2:=h.h.solo hoj hcell.1 hcell.2
      have ho2:look ((st.nx,Ob.arr e ((xs.take hi).drop lo))::(j,Ob.dead)::st.objs) id=some (.box cs):=by rw[Wt,if_neg hne2,Wt,if_neg hne];exact ho
      have hjn:j<st.nx:=by
       obtain⟨φ,hφ⟩:=h.h
       exact hφ.lt j ⟨_,hoj,by simp⟩
      have h3:=h2.mk_box ho2 (cs':=cs.set (o+off) (.own st.nx)) (by simp) (λvs hvs=>hvs.set λv hv=>by
       obtain⟨_,_,_,_,hvv⟩:=(hvs.2 _ _ v hc hv).1
       rw[Wmv ν st.nx _ j hjn]at hvv
       rw[hvv];exact solo_cell)
      exact⟨G,_,h.on (λ_ _ _ hh=>hh) (Wmv ν st.nx _) (Xdh _) h3 h.gx⟩
     ·cases hg
    ·injection hg with hg;injection hg with _ hg;subst hg;exact⟨G,ν,h⟩
    ·cases hg
   ·cases hg
  ·cases hg
theorem Wiq:∀(l:List Ghost) (st st':St) (G:GH) (ν:Nat→Nu),Rel w0 F nt G0 G ν st a w→Wkb l st=some (true,st')→∃G' ν',Rel w0 F nt G0 G' ν' st' a w
 | [],st,st',G,ν,h,hg=>by injection hg with hg;injection hg with _ hg;subst hg;exact⟨G,ν,h⟩
 |g::l,st,st',G,ν,h,hg=>by
  simp only[Wkb]at hg
  split at hg
  ·rename_i c s hgg
   split at hg
   ·rename_i c' s' hl
    simp only[Option.some.injEq,Prod.mk.injEq,Xh]at hg
    obtain⟨⟨rfl,rfl⟩,rfl⟩:=hg
    obtain⟨G1,ν1,h1⟩:=ghost_rel h hgg
    exact Wiq l s s' G1 ν1 h1 hl
   ·cases hg
  ·cases hg
end
end Go.Sx
namespace Go.Sx
set_option linter.unusedVariables false
set_option linter.unusedSimpArgs false
section
variable{T:Tab}{Γ:Ctx}{env env':List (Nat×AVal)}{objs objs':Objs}{nx nx':Nat}
theorem Wgt{st st2:St}:∀(l:List (Nat×Operand)),(∀p∈l,ev st2 p.2=ev st p.2)→Wgq st2 l=Wgq st l
 | [],_=>rfl
 |(i,x)::l,h=>by
  have h1:ev st2 x=ev st x:=h (i,x) (Xi ..)
  simp only[Wgq,h1,Wgt l λp hp=>h p (Xe _ hp)]
theorem evs_congr{st st2:St}:∀(l:List Operand),(∀x∈l,ev st2 x=ev st x)→evs st2 l=evs st l
 | [],_=>rfl
 |x::l,h=>by simp only[evs,h x (Xi ..),evs_congr l λp hp=>h p (Xe _ hp)]
theorem Wru{st st2:St}:∀(l:List Operand),(∀x∈l,ev st2 x=ev st x)→Wpe st2 l=Wpe st l
 | [],_=>rfl
 |x::l,h=>by simp only[Wpe,h x (Xi ..),Wru l λp hp=>h p (Xe _ hp)]
theorem Wwh{st st2:St}(x:Option Operand)(h:∀y∈x.toList,ev st2 y=ev st y):optI st2 x=optI st x:=by
 cases x with
 |none=>rfl
 |some y=>simp only[optI,h y (by simp)]
def Wkg(st st2:St)(v:AVal):Prop:=∀id∈Wda v,look st2.objs id=look st.objs id
theorem loadOp_look{st st2:St}{t:TypeId}{v:AVal}(h:Wkg st st2 v):Wrc T st2 t v=Wrc T st t v:=by
 unfold Wrc
 cases v with
 |tup xs=>rfl
 |s x=>
  cases x with
  |agg cs=>rfl
  |one c=>
   cases c with
   |ptr id off=>have:=h id (by simp[Wda,Wnm,Wdq]);simp only[this]
   |eptr id i off=>have:=h id (by simp[Wda,Wnm,Wdq]);simp only[this]
   |_=>rfl
theorem loadArr_look{st st2:St}{t:TypeId}{v:AVal}(h:Wkg st st2 v):Wnj T st2 t v=Wnj T st t v:=by
 unfold Wnj
 cases v with
 |tup xs=>rfl
 |s x=>
  cases x with
  |agg cs=>rfl
  |one c=>
   cases c with
   |aptr id=>have:=h id (by simp[Wda,Wnm,Wdq]);simp only[this]
   |_=>rfl
theorem lenOp_own{st:St}{t:TypeId}{id:Nat}:Wuz T st t (.s (.one (.own id)))=match look T t with
  |some ⟨_,false,.slice _⟩=>obL (look st.objs id)
  |_=>none:=by
 unfold Wuz
 generalize look T t=q
 rcases q with _|⟨ty,agg,shape⟩
 ·rfl
 ·cases ty<;>cases agg<;>cases shape<;>rfl
theorem lenOp_other{st st2:St}{t:TypeId}{v:AVal}(h:∀id,v≠ .s (.one (.own id))):Wuz T st2 t v=Wuz T st t v:=by
 unfold Wuz
 generalize look T t=q
 rcases q with _|⟨ty,agg,shape⟩
 ·cases v<;>rfl
 ·cases v with
  |tup xs=>cases ty<;>cases agg<;>cases shape<;>rfl
  |s x=>
   cases x with
   |agg cs=>cases ty<;>cases agg<;>cases shape<;>rfl
   |one c=>
    cases c with
    |own id=>exact absurd rfl (h id)
    |val t' d=>cases ty<;>cases agg<;>cases shape<;>cases t'<;>rfl
    |_=>cases ty<;>cases agg<;>cases shape<;>rfl
theorem own_or(v:AVal):(∃id,v= .s (.one (.own id)))∨∀id,v≠ .s (.one (.own id)):=by
 rcases v with x|xs
 ·rcases x with c|cs
  ·cases c with
   |own id=>exact .inl ⟨id,rfl⟩
   |_=>exact .inr λid h=>by injection h with h;injection h with h;cases h
  ·exact .inr λid h=>by injection h with h;cases h
 ·exact .inr λid h=>by cases h
theorem lenOp_look{st st2:St}{t:TypeId}{v:AVal}(h:Wkg st st2 v):Wuz T st2 t v=Wuz T st t v:=by
 rcases own_or v with⟨id,rfl⟩|hv
 ·rw[lenOp_own,lenOp_own,h id (by simp[Wda,Wnm,Wdq])]
 ·exact lenOp_other hv
theorem Wrv{st st2:St}{t:TypeId}{v:AVal}{f:Nat}(h:Wkg st st2 v):Wfs T st2 t v f=Wfs T st t v f:=by
 unfold Wfs
 generalize Woq T t f=q
 rcases q with _|⟨off,te⟩
 ·cases v<;>rfl
 ·cases v with
  |tup xs=>rfl
  |s x=>
   cases x with
   |agg cs=>rfl
   |one c=>
    cases c with
    |ptr id o=>
     have:=h id (by simp[Wda,Wnm,Wdq])
     show(λq:Option Ob=>match q with|some (.box _)=>some (true,AVal.s (.one (.ptr id (o+off))))|_=>none) (look st2.objs id)=(λq:Option Ob=>match q with|some (.box _)=>some (true,AVal.s (.one (.ptr id (o+off))))|_=>none) (look st.objs id)
     rw[this]
    |eptr id i o=>
     have:=h id (by simp[Wda,Wnm,Wdq])
     show(λq:Option Ob=>match q with|some (.arr _ _)=>some (true,AVal.s (.one (.eptr id i (o+off))))|_=>none) (look st2.objs id)=(λq:Option Ob=>match q with|some (.arr _ _)=>some (true,AVal.s (.one (.eptr id i (o+off))))|_=>none) (look st.objs id)
     rw[this]
    |_=>rfl
theorem Wrz{st st2:St}{t:TypeId}{v i:AVal}(h:Wkg st st2 v):Wft T st2 t v i=Wft T st t v i:=by
 unfold Wft
 generalize look T t=q
 generalize asI i=z
 rcases q with _|⟨ty,agg,shape⟩
 ·rfl
 rcases z with _|n
 ·cases shape<;>rfl
 cases shape with
 |slice et=>
  show(match look T et with|some te=>_|none=>_)=(match look T et with|some te=>_|none=>_)
  generalize look T et=q
  rcases q with _|te
  ·rfl
  ·show(if te.plain=true then _ else _)=(if te.plain=true then _ else _)
   by_cases hp:te.plain=true
   ·rw[if_pos hp,if_pos hp]
    cases v with
    |tup xs=>rfl
    |s x=>
     cases x with
     |agg cs=>rfl
     |one c=>
      cases c with
      |own id=>
       have:=h id (by simp[Wda,Wnm,Wdq])
       show obI te n id (look st2.objs id)=obI te n id (look st.objs id)
       rw[this]
      |vw id lo hi=>
       have:=h id (by simp[Wda,Wnm,Wdq])
       show obIv te n id lo hi (look st2.objs id)=obIv te n id lo hi (look st.objs id)
       rw[this]
      |val t' d=>cases t'<;>rfl
      |_=>rfl
   ·rw[if_neg hp,if_neg hp]
 |arr k et=>
  show(match look T et with|some te=>_|none=>_)=(match look T et with|some te=>_|none=>_)
  generalize look T et=q
  rcases q with _|te
  ·rfl
  ·show(if te.plain=true then _ else _)=(if te.plain=true then _ else _)
   by_cases hp:te.plain=true
   ·rw[if_pos hp,if_pos hp]
    cases v with
    |tup xs=>rfl
    |s x=>
     cases x with
     |agg cs=>rfl
     |one c=>
      cases c with
      |aptr id=>
       have:=h id (by simp[Wda,Wnm,Wdq])
       show obIa te n k id (look st2.objs id)=obIa te n k id (look st.objs id)
       rw[this]
      |_=>rfl
   ·rw[if_neg hp,if_neg hp]
 |_=>rfl
theorem ownOb_look{st st2:St}{v:AVal}(h:Wkg st st2 v):ownOb st2 v=ownOb st v:=by
 rcases own_or v with⟨id,rfl⟩|hv
 ·exact h id (by simp[Wda,Wnm,Wdq])
 ·unfold ownOb
  split
  ·rename_i id;exact absurd rfl (hv id)
  ·rfl
theorem convOp_look{st st2:St}{s d:TypeId}{v:AVal}(h:Wkg st st2 v):Wvx T st2 s d v=Wvx T st s d v:=by
 unfold Wvx
 rw[ownOb_look h]
theorem nilOp_look{st st2:St}{v:AVal}(h:Wkg st st2 v):nilOp st2 v=nilOp st v:=by
 unfold nilOp
 cases v with
 |tup xs=>rfl
 |s x=>
  cases x with
  |agg cs=>rfl
  |one c=>
   cases c with
   |ptr id off=>have:=h id (by simp[Wda,Wnm,Wdq]);simp only[this]
   |eptr id i off=>have:=h id (by simp[Wda,Wnm,Wdq]);simp only[this]
   |aptr id=>have:=h id (by simp[Wda,Wnm,Wdq]);simp only[this]
   |_=>rfl
theorem Wfl{α β:Type}{x:Option α}{f g:α→Option β}(h:∀v,x=some v→f v=g v):x.bind f=x.bind g:=by
 cases x with
 |none=>rfl
 |some v=>exact h v rfl
theorem Wrl{st st2:St}(op:Op)(hm:∀t x l h m,op≠ .slice t x l h m)(he:∀x∈Wbf op,ev st2 x=ev st x)(hl:memOp op=true→∀x∈Wbf op,∀v,ev st x=some v→Wkg st st2 v):Wbd T st2 op=Wbd T st op:=by
 cases op with
 |move x=>simp only[Wbd,he x (by simp[Wbf])]
 |assign x=>simp only[Wbd,he x (by simp[Wbf])]
 |pick c a b=>simp only[Wbd,he c (by simp[Wbf]),he a (by simp[Wbf]),he b (by simp[Wbf])]
 |load t a=>
  simp only[Wbd,he a (by simp[Wbf])]
  exact Wfl λv hv=>by rw[loadOp_look (hl rfl a (by simp[Wbf]) v hv),loadArr_look (hl rfl a (by simp[Wbf]) v hv)]
 |nilCheck x=>
  simp only[Wbd,he x (by simp[Wbf])]
  exact Wfl λv hv=>nilOp_look (hl rfl x (by simp[Wbf]) v hv)
 |binOp op t x y z=>simp only[Wbd,he x (by simp[Wbf]),he y (by simp[Wbf])]
 |unOp op t x=>simp only[Wbd,he x (by simp[Wbf])]
 |convert s d x=>
  simp only[Wbd,he x (by simp[Wbf])]
  exact Wfl λv hv=>convOp_look (hl rfl x (by simp[Wbf]) v hv)
 |slice t x l h m=>exact absurd rfl (hm t x l h m)
 |fieldAddr s x f=>
  simp only[Wbd,he x (by simp[Wbf])]
  exact Wfl λv hv=>Wrv (hl rfl x (by simp[Wbf]) v hv)
 |field t x f=>simp only[Wbd,he x (by simp[Wbf])]
 |indexAddr t x i=>
  simp only[Wbd,he x (by simp[Wbf]),he i (by simp[Wbf])]
  split
  ·rename_i a b h1 h2;exact Wrz (hl rfl x (by simp[Wbf]) _ h1)
  ·rfl
 |index t x i=>simp only[Wbd,he x (by simp[Wbf]),he i (by simp[Wbf])]
 |extract t ix=>simp only[Wbd,he t (by simp[Wbf])]
 |makeFunc f first captured=>
  cases f with
  |func f=>simp only[Wbd,Wru (st:=st) (st2:=st2) captured.toList λx hx=>he x (by simp[Wbf];right;simpa using hx)]
  |_=>rfl
 |call c=>
  have hargs:∀x∈c.args.toList,ev st2 x=ev st x:=λx hx=>he x (Xg _ hx)
  have hlargs:∀x∈c.args.toList,∀v,ev st x=some v→Wkg st st2 v:=λx hx=>hl rfl x (Xg _ hx)
  simp only[Wbd]
  split
  ·rename_i x t _ ha _
   rw[hargs x (by rw[ha];simp)]
   exact Wfl λv hv=>lenOp_look (hlargs x (by rw[ha];simp) v hv)
  ·rename_i x y _ _ _ ha _
   rw[hargs x (by rw[ha];simp),hargs y (by rw[ha];simp)]
  ·rename_i x y _ _ _ ha _
   rw[hargs x (by rw[ha];simp),hargs y (by rw[ha];simp)]
  ·rfl
 |_=>rfl
end
end Go.Sx
