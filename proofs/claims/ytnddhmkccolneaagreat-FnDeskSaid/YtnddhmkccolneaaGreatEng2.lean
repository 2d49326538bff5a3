/- The abstract machine, part 2: a reflective interpreter of the program's code over data, with its soundness over the model. -/
import Derived.Test.YtnddhmkccolneaaGreatEng1
open Bool renaming and_eq_true→Xh,not_eq_true'→c5,not_true→Xn,false_eq_true→dL
open List renaming nodup_cons→cx,getElem?_append_left→Ib,getD→Xc,getElem?_append_right→wE,ext_getElem?→OT,getElem?_eq_none→hQ,replicate→Xp,prefix_refl→Xgp,nil_prefix→Xib,prefix_append_right_inj→Xfn,length_replicate→A4,append_nil→iN,getElem?_toArray→O2,append_assoc→fX,getElem?_append→fh,getElem?_take→mc,getElem?_drop→ma,getElem?_eq_some_iff→dJ,drop_drop→A6,take_append_drop→Ew,length_take→ca,mem_cons_self→Xl,mem_cons_of_mem→Xg,mem_map_of_mem→eG,pairwise_cons→Xw,mem_append_left→Xm,mem_append_right→Xi,length_append→Xv,map_append→Xy,pairwise_append→ef,mem_append→Xo,mem_map→Xx,mem_cons→Xq,getElem?_of_mem→OX,getElem?_eq_getElem→Xr,eq_nil_of_length_eq_zero→ee,map_toArray→A8,map_cons→bn,map_nil→eL,append→Xe,take_length→kQ,mem_singleton→cq,length→Xa,append_inj→Xgr,length_map→Xu,mem_of_mem_take→od,mem_of_mem_drop→Xfi,nodup_append→dm,all_eq_true→bH,nodup_nil→qC,length_drop→kO,sublist_append_right→Xgh,getElem?_map→d5,all_cons→d6,mem_of_getElem?→gz
open Array renaming range→jV,foldl_toList→Xfv,length_toList→fW
open Nat renaming succ_mul→fC,mul_le_mul_right→gA,add_zero→c9,le_trans→eO,zero_mul→EW,le_refl→Xj,min_eq_left→mg,add_assoc→dN,lt_succ_self→nj,add_mul→kR,eq_of_beq_eq_true→wS,add_sub_cancel_left→sL,le_succ→A9
open Int renaming mul_le_mul_of_nonneg_right→Xfh
open Option renaming map_eq_some_iff→Xz,map_some→me,bind_eq_some_iff→jP,bind_some→Xd,map→EY
namespace Go.Sx
set_option linter.unusedVariables false
set_option linter.unusedSimpArgs false
theorem C3:∀l:List Nat,en l=true↔l.Nodup
 | []=>by simp[en]
 |i::l=>by
  have h:=Mo i l;simp only[en,Xh,c5,cx,C3 l]
  grind
theorem Yl{α}(l)(d:α):∀(n i),i<n*l.length->(rep l n)[i]?=some (l.getD (i%l.length) d)
 |0,i,h=>by simp at h
 |n+1,i,h=>by
  rw[rep];by_cases a:i<l.length
  .grind [Ib,Nat.mod_eq_of_lt,Xc]
  .have fv:l.length<=i:=by omega
   rw[wE fv,Yl l d n (i-l.length) (by grind)];rw[Nat.mod_eq_sub_mod fv]
theorem Dx(z:Array Value)(n):((jV (n*z.size)).map λi=>z[i%z.size]!).toList=rep z.toList n:=by
 apply OT;intro i;by_cases a:i<n*z.size
 .rw[Yl z.toList default n i (by omega)]
  grind
 grind [hQ,Hs]
section
variable{w0:World}{F:CS}{nt:Slots}{G0 G:GH}{ν:Nat->Nu}{objs:af}{nx:Nat}{st ai:St}{a:Act}{w w':World}{P:Program}{T:Tab}
theorem SU(n:HRel w0 F G ν objs nx w){e}(m:e.data=true):
  ∀(l) (ps) (xs b) (vs),bO (Enc G e) xs vs.toList->ps.length=l.length->
   (∀(j:Nat) (p) (q),l[j]?=some p->ps[j]?=some q->p.1=q.1/\AValRel G ν nx p.2 q.2)->AB e objs l xs=some b->
   ∃f,Instr.fill (λi=>some (i*e.size,e.size)) vs ps=some f/\bO (Enc G e) b f.toList/\b.length=xs.length
 | [],[],xs,b,vs,a,_,_,h=>by simp[AB]at h;subst h;exact⟨vs,rfl,a,rfl⟩
 |(i,x)::l,[],_,_,_,_,g,_,_=>by simp at g
 | [],_::_,_,_,_,_,g,_,_=>by simp at g
 |(i,x)::l,(i',v)::ps,xs,b,vs,a,g,r,h=>by
  obtain⟨o,s⟩:=r 0 _ _ rfl rfl;simp only at o s;subst o;simp only[AB]at h;split at h
  .rename_i ds kc;split at h
   .rename_i d hf;split at h
    .rename_i ab;obtain⟨y,_⟩:=zO s kc;have t:=Uy n y m hf;have u:v.cells.toList.length=e.size:=c3 _ _ _ t;have I:vs.toList.length=xs.length*e.size:=vr (λx c a=>c3 e x c a) _ _ a;have C:i*e.size+e.size<=xs.length*e.size:=by rw[←fC];exact gA _ ab
     have k:=My v.cells.toList (i*e.size) 0 vs (by simp_all);simp only[c9]at k;have B:=MV (λx c a=>c3 e x c a) xs vs.toList i d v.cells.toList a ab t;obtain⟨f,z,A,D⟩:=SU n m l ps (xs.set i d) b _ (by rw[k,u];exact B) (by simp_all) (λj p q E H=>r (j+1) p q (by simp_all) (by simp_all)) h;refine⟨f,?_,A,by grind⟩;simp only[Instr.fill];rw[We (by simp_all)];rw[←z];congr 1;rw[←Xfv];simp
    grind
   grind
  grind
theorem Wjc(g:au P T)(B:Rel w0 F nt G0 G ν st a w){o:Oper}(L:∀d,o.dst=some d->nt.Ok d){t}{n}{parts}(O:o.op= .buildSlice t n parts)
  {ty} {et} {te} {ps} {xs} (N:Wt T t=some ⟨ty,false,.slice et⟩) (r:Wt T et=some te)
  (J:ps.length=parts.toList.length) (W:∀(j:Nat) (p) (q),ps[j]?=some p->parts.toList[j]?=some q->p.1=q.1/\AValRel G ν st.nx p.2 (a.eval q.2))
  (M:AB te.ty st.objs ps (Xp n te.ty.dflt)=some xs) (D:n*te.ty.size<=16777216) (m:te.ty.data=true) (k:te.plain=true):
  Done P w0 F nt G0 o a w (st.new o.dst (.arr te.ty xs) (.s (.one (.own st.nx)))):=by
 have Q:=(g _ _ N).und.2.1;obtain⟨z,hz,f⟩:=zZ (w:=w) (g _ _ r);rw[vc k]at f;have U:z.cells.size=te.ty.size:=by rw[←fW,f,nJ]
 have I:=Dx z.cells n;rw[U,f]at I;obtain⟨b,v,y,X⟩:=SU B.h m ps (parts.toList.map λp=>(p.1,a.eval p.2)) _ xs ((jV (n*te.ty.size)).map λi=>z.cells[i%te.ty.size]!) (by grind [Ad]) (by simp[J]) (λj p q k Z=>by
   grind) M
 have C:xs.length=n:=by grind
 have R:=mE te.ty;have Y:n<=16777216:=eO (Nat.le_mul_of_pos_right n R) D;have V:b.size=n*te.ty.size:=by
  rw[←fW,vr (λx c K=>c3 te.ty x c K) _ _ y,C]
 obtain⟨⟨ν',A⟩,_⟩:=NC (t:=et) (vs:=b) B L (e:=te.ty) m (xs:=xs) (cap:=n) (cs:=b.toList) (by omega) (by unfold maxLen;omega) V y (Xgp _) w rfl rfl rfl rfl;rw[C]at A;refine⟨_,_,_,G,ν',?_,.inl rfl,A⟩;have S:(parts.map λx=>match x with|(i,x)=>(i,a.eval x)).toList=parts.toList.map λp=>(p.1,a.eval p.2):=by simp
 simp only[execOp,O,Instr.buildSlice,Sem.run_bind,Wm Q,Result.andThen_ok,(g _ _ r).sizeOf,W4 k,We (show¬n*te.ty.size>2^24 by omega),Sem.run_pure];by_cases u:n*te.ty.size=0
 .have wy:n=0:=by rcases Nat.mul_eq_zero.1 u with h|h<;>omega
  have E:((jV (n*te.ty.size)).map λi=>z.cells[i%te.ty.size]!)= #[]:=by grind
  rw[E]at v;have H:∀l:Array Value,((jV (n*te.ty.size)).map λi=>l[i%l.size]!)= #[]:=λl=>by grind
  simp only[Wf u,Sem.run_pure,Result.andThen_ok,H,S,v,zC];rfl
 simp_all [We,Sem.run_bind,Result.andThen_ok,Sem.run_pure,zC]
theorem WjV(j:au P T)(C:Rel w0 F nt G0 G ν st a w){o:Oper}(A:∀d,o.dst=some d->nt.Ok d){t}{n c}(O:o.op= .makeSlice t n c)
  {ty} {et} {te} {n' c'} {k k'} (B:Wt T t=some ⟨ty,false,.slice et⟩) (v:Wt T et=some te) (N:a.eval n= .int k n') (K:a.eval c= .int k' c')
  (E:0<=n') (H:n'<=c') (y:Wx c'.toNat=true) (f:te.ty.data=true) (m:te.plain=true):
  Done P w0 F nt G0 o a w (st.new o.dst (.arr te.ty (Xp n'.toNat te.ty.dflt)) (.s (.one (.own st.nx)))):=by
 have Q:=(j _ _ B).und.2.1;obtain⟨i,z,L,r,R,b,S⟩:=(j _ _ v).info;rw[vc m]at b;rw[W4 m]at r;have u:z.cells.size=te.ty.size:=by rw[←fW,b,nJ]
 have D:c'.toNat<=1073741824:=by simpa [Wx]using y
 have x:=Dx z.cells c'.toNat;rw[u,b]at x;have U:rep (cE te.ty) n'.toNat<+:rep (cE te.ty) c'.toNat:=by
  have:∀(l:List Value) (p q:Nat),rep l p<+:rep l (p+q):=λl p q=>by
   induction p with
   |zero=>exact Xib
   |succ p ih=>grind [Nat.succ_add,rep,Xfn]
  have h:=this (cE te.ty) n'.toNat (c'.toNat-n'.toNat)
  rwa [show n'.toNat+(c'.toNat-n'.toNat)=c'.toNat by omega]at h
 have J:(i.bytes:Int)*c'<=281474976710656:=by
  have I:(i.bytes:Int)*c'<=4096*c':=Xfh (by omega) (by omega);omega
 have M:madeCells z.cells (c'.toNat*i.size)=(jV (c'.toNat*te.ty.size)).map λi=>z.cells[i%te.ty.size]!:=by
  rw[r,←u];rfl
 obtain⟨⟨ν',g⟩,_⟩:=NC (t:=et) (vs:=(jV (c'.toNat*te.ty.size)).map λi=>z.cells[i%te.ty.size]!) C A (e:=te.ty) f (xs:=Xp n'.toNat te.ty.dflt) (cap:=c'.toNat) (cs:=rep (cE te.ty) n'.toNat) (by simp;omega) (by unfold maxLen;omega)
  (by simp) (Ad f _) (by simp_all) w rfl rfl rfl rfl
 rw[A4]at g;refine⟨_,_,_,G,ν',?_,.inl rfl,g⟩
 grind [execOp,Sem.run_bind,run_make,Result.andThen_ok,Sem.run_pure]
theorem Wjd(r:au P T)(I:Rel w0 F nt G0 G ν st a w){o:Oper}(E:∀d,o.dst=some d->nt.Ok d){t}{n c}(W:o.op= .makeSlice t n c)
  {ty} {et} {te} {e} {n' c'} {k k'} (H:Wt T t=some ⟨ty,false,.slice et⟩) (A:Wt T et=some te) (V:a.eval n= .int k n') (Q:a.eval c= .int k' c')
  (L:0<=n') (M:n'<=c') (D:Wx c'.toNat=true) (u:e.ro=te.ty) (g:te.plain=true):
  Done P w0 F nt G0 o a w (st.new o.dst (.arr e (Xp n'.toNat e.dflt)) (.s (.one (.own st.nx)))):=by
 have X:=(r _ _ H).und.2.1;obtain⟨i,z,S,v,Y,f,Z⟩:=(r _ _ A).info;rw[vc g]at f;rw[W4 g]at v;have J:te.ty.size=e.size:=by rw[←u,ik]
 have x:z.cells.size=te.ty.size:=by rw[←fW,f,nJ]
 have K:c'.toNat<=1073741824:=by simpa [Wx]using D
 have B:=Dx z.cells c'.toNat;rw[x,f]at B;have xl:rep (cE te.ty) n'.toNat<+:rep (cE te.ty) c'.toNat:=by
  have:∀(l:List Value) (p q:Nat),rep l p<+:rep l (p+q):=λl p q=>by
   induction p with
   |zero=>exact Xib
   |succ p ih=>grind [Nat.succ_add,rep,Xfn]
  have h:=this (cE te.ty) n'.toNat (c'.toNat-n'.toNat)
  rwa [show n'.toNat+(c'.toNat-n'.toNat)=c'.toNat by omega]at h
 have O:(i.bytes:Int)*c'<=281474976710656:=by
  have N:(i.bytes:Int)*c'<=4096*c':=Xfh (by omega) (by omega);omega
 have U:madeCells z.cells (c'.toNat*i.size)=(jV (c'.toNat*te.ty.size)).map λi=>z.cells[i%te.ty.size]!:=by
  rw[v,←x];rfl
 obtain⟨⟨ν',m⟩,_⟩:=G8 (t:=et) (vs:=(jV (c'.toNat*te.ty.size)).map λi=>z.cells[i%te.ty.size]!) I E [] (e:=e) (xs:=Xp n'.toNat e.dflt) (cap:=c'.toNat) (cs:=rep (cE te.ty) n'.toNat) (by simp;omega) (by unfold maxLen;omega)
  (by simp[J]) (λφ _=>by
   obtain⟨y,j,C⟩:=Yp (G:=G) (w:=w) e n'.toNat;rw[u]at j;exact⟨y,j,Uw y C,λp g b o R=>by simp_all⟩) (by simp_all) w rfl rfl rfl rfl
 rw[A4]at m;refine⟨_,_,_,G,ν',?_,.inl rfl,m⟩
 grind [execOp,Sem.run_bind,run_make,Result.andThen_ok,Sem.run_pure]
theorem WmR(k:au P T)(A:Rel w0 F nt G0 G ν st a w){o:Oper}(L:∀d,o.dst=some d->nt.Ok d){t}{parts}{x}(U:o.op= .buildSlice t 1 parts)(D:parts.toList= [(0,x)])
  {ty} {et} {te} {e} {xv} {ds} {d} {m} (R:Wt T t=some ⟨ty,false,.slice et⟩) (r:Wt T et=some te) (X:AValRel G ν st.nx xv (a.eval x)) (kc:kq xv=some ds)
  (N:aC e ds st.objs=some (d,m,[])) (S:m.Nodup) (M:e.ro=te.ty) (y:te.plain=true) (cS:te.ty.size<=16777216):
  Done P w0 F nt G0 o a w (({env:=st.env,objs:=(st.nx,.arr e [d])::kill st.objs m,nx:=st.nx+1}:St).put o.dst (.s (.one (.own st.nx)))):=by
 have W:=(k _ _ R).und.2.1;obtain⟨z,Y,f⟩:=zZ (w:=w) (k _ _ r);rw[vc y]at f;have tM:te.ty.size=e.size:=by rw[←M,ik]
 have B:z.cells.size=te.ty.size:=by rw[←fW,f,nJ]
 have v:=Dx z.cells 1;rw[B,f]at v;simp only[rep,iN,Nat.one_mul]at v;obtain⟨I,h2⟩:=zO X kc;have u:∀φ,HR w0 F G ν φ st.objs st.nx w->∃b,cz (WD G w e) [d] (a.eval x).cells.toList b/\Sep (b.map Pc.fp)/\∀p∈b,CS.le p.fp (FromL φ st.objs m):=λφ n=>by
  obtain⟨ns,g,E,H,_⟩:=ga (G':=G) n (λ_ _ _ O=>O) e ds _ d m [] I (λi Q=>by simp at Q) S N;exact⟨ns,Vu.2 g,E,H⟩
 have C:(a.eval x).cells.size=e.size:=by
  obtain⟨φ,n⟩:=A.h;obtain⟨b,g,_⟩:=u φ n;have:=WI _ _ _ _ (Vu.1 g);simpa using this
 have BL:((jV te.ty.size).map λi=>z.cells[i%te.ty.size]!).size=te.ty.size:=by simp
 have Z:=My (a.eval x).cells.toList 0 0 ((jV te.ty.size).map λi=>z.cells[i%te.ty.size]!) (by simp;omega);have tN:((jV te.ty.size).map λi=>z.cells[i%te.ty.size]!).toList.length=e.size:=by simp[tM]
 have q:((a.eval x).cells.toList.zipIdx.foldl (λcs (c,j)=>cs.setIfInBounds (0+j) c) ((jV te.ty.size).map λi=>z.cells[i%te.ty.size]!)).toList=(a.eval x).cells.toList:=by
  rw[Z];simp only[Nat.zero_add,List.take_zero,List.nil_append];rw[List.drop_eq_nil_of_le (by rw[tN];simp;omega),iN]
 generalize K:(a.eval x).cells.toList.zipIdx.foldl (λcs (c,j)=>cs.setIfInBounds (0+j) c) ((jV te.ty.size).map λi=>z.cells[i%te.ty.size]!)=V at q;have l:V.size=1*e.size:=by rw[←fW,q];simp[C]
 obtain⟨⟨ν',J⟩,_⟩:=G8 (t:=et) (vs:=V) A L m (e:=e) (xs:=[d]) (cap:=1) (cs:=(a.eval x).cells.toList) (by simp) (by unfold maxLen;omega) l u (by rw[q];exact Xgp _) w rfl rfl rfl rfl;refine⟨_,_,_,G,ν',?_,.inl rfl,J⟩;have tO:Instr.fill (λi=>some (i*te.ty.size,te.ty.size)) ((jV te.ty.size).map λi=>z.cells[i%te.ty.size]!) [(0,a.eval x)]=some V:=by
  simp only[Instr.fill,EW];rw[We (by simp;omega),←K];congr 1;rw[←Xfv];simp
 have kA:(parts.map λx=>match x with|(i,x)=>(i,a.eval x)).toList= [(0,a.eval x)]:=by simp[D]
 have iG:=mE te.ty;simp only[execOp,U,Instr.buildSlice,Sem.run_bind,Wm W,Result.andThen_ok,(k _ _ r).sizeOf,W4 y,Nat.one_mul,We (show¬te.ty.size>2^24 by omega),We (show¬te.ty.size=0 by omega),Sem.run_pure,Y,B,kA,tO,zC];rfl
theorem LX{t}{te}(c:TEok P T t te){b off}{v}{cur}{TT}(f:w.heap[b]?=some (.cells cur TT (0,0)))(a:te.size=v.cells.size)(d:off+v.cells.size<=cur.size)(e:∀u∈v.cells.toList,u.oneCell'=true):
  (storeVar t ⟨b,off,none⟩ v).run P w= .ok () (w.setRow b (cur.toList.take off++v.cells.toList++cur.toList.drop (off+v.cells.size)).toArray):=by
 have h:=run_storeCells_at P b off TT v.cells.toList 0 cur w f (by simpa using d) e;simp only[c9,fW]at h;simp[storeVar,c.sizeOf,a,h]
theorem C4{b k}{vs}{T}{news}(h:w.heap[b]?=some (Obj.cells vs T (0,0)))(g:k+news.length<=vs.size):
  WLe (rng b k news.length) w (w.setRow b (vs.toList.take k++news++vs.toList.drop (k+news.length)).toArray)/\Mem (w.setRow b (vs.toList.take k++news++vs.toList.drop (k+news.length)).toArray) b k news:=by
 have c:(vs.toList.take k).length=k:=by simp;omega
 constructor
 .refine WLe.setRow h (by simp;omega) (λo f=>?_);have i:¬(k<=o/\o<k+news.length):=λ⟨d,e⟩=>f ⟨rfl,d,e⟩;simp only[O2,fX];rw[fh,c];split
  .rename_i a;rw[mc,Wf a];simp
  .rw[fh];split
   .omega
   .rw[ma,show k+news.length+(o-k-news.length)=o by omega];simp
 .intro j v hj;rw[cell_of_row _ b _ _ T (0,0) (setRow_heap w b vs _ T (0,0) h)];have a:j<news.length:=(dJ.1 hj).1;simp only[O2,fX];rw[wE (by omega),c,Ib (by omega),show k+j-k=j by omega];exact hj
theorem Gx{b o k}{vs us}(e:Mem w b o vs)(i:WLe (rng b (o+k) us.length) w w')(g:Mem w' b (o+k) us)(m:k+us.length<=vs.length):Mem w' b o (vs.take k++us++vs.drop (k+us.length)):=λj v a=>by
 have d:∀v',vs[j]?=some v'->¬(k<=j/\j<k+us.length)->w'.cell? ⟨b,o+j,none⟩=some v':=λv' h f=>by
  have c:=e j v' h;rw[i.cell b (o+j) (block_lt_of_cell c) (λ⟨_,h2,h3⟩=>f ⟨by omega,by omega⟩)];exact c
 have l:(vs.take k).length=k:=by simp;omega
 rw[fX,fh,l]at a;split at a
 .rename_i ab;rw[mc,Wf ab]at a;exact d v a (by omega)
 .rw[fh]at a;split at a
  .have:=g (j-k) v a;rw[show o+j=o+k+(j-k) by omega];exact this
  .rw[ma,show k+us.length+(j-k-us.length)=j by omega]at a;exact d v a (by omega)
theorem HR.turn{φ}(h:HR w0 F G ν φ objs nx w){id}{d dR}{m}(l:Wt objs id=some d)(j:d≠ .dead){S}(p:WLe S w w')(n:CS.le S (φ id))
  (e:dQ G ν nx w' id (λb o=>φ id b o\/FromL φ objs m b o) dR):HRel w0 F G ν ((id,dR)::kill objs m) nx w':=by
 have c:Live objs id:=⟨d,l,j⟩;exact⟨_,h.put (ν':=ν) (λ_ _=>rfl) (Xj _) (h.lt id c) (p.mono λb o a=>⟨id,.inl rfl,c,n b o a⟩) (λb o a=>by
  rcases a with a|⟨i,k,f,g⟩
  .exact .inl ⟨id,.inl rfl,c,a⟩
  .exact .inl ⟨i,.inr k,f,g⟩) (λ_=>e)⟩
theorem Wr1(hT:au P T)(D:Rel w0 F nt G0 G ν st a w){o}{t}{x y}(ho:o.op= .store t x y)(lF:o.dst=none){p v}(E:AValRel G ν st.nx p (a.eval x))(hy:AValRel G ν st.nx v (a.eval y))
  (h:mR T st t p v=some ai):Done P w0 F nt G0 o a w ai:=by
 unfold mR at h;split at h
 .rename_i te id off ds hl kc;obtain⟨N,pH⟩:=zO hy kc;split at h
  .rename_i n H;split at h
   .rename_i bX;simp only[Xh,Wh]at bX;obtain⟨⟨g,X⟩,db⟩:=bX;injection h with h;subst h;obtain⟨⟨_,b,K,lG⟩,_⟩:=E;obtain⟨φ,A⟩:=D.h;obtain⟨I,vs,dg,⟨l,R,C,S⟩,aK,ck,ip⟩:=A.ob _ _ H;rw[K]at dg;injection dg with dg;subst dg;have O:(a.eval y).cells.size=ds.length:=by have:=N.1;simpa using this
    have J:=LX (w:=w) (hT _ _ hl) (b:=b) (off:=(ν id).off+off) (v:=a.eval y) C (by rw[W4 X,O];exact g) (by omega) pH;obtain⟨r,B⟩:=C4 (k:=(ν id).off+off) (news:=(a.eval y).cells.toList) C (by simp;omega);simp only[fW]at r B;generalize w.setRow b (l.toList.take ((ν id).off+off)++(a.eval y).cells.toList++l.toList.drop ((ν id).off+off+(a.eval y).cells.size)).toArray=W at J r B;have U:HRel w0 F G ν ((id,.box (lB n off ds))::st.objs) st.nx W:=by
     refine A.turn (m:=[]) H (by simp) r (λI o ⟨e,h1,h2⟩=>ip I o ⟨e,by omega,by omega⟩) ?_;refine⟨b,_,K,by rw[Gt db];exact r.rows.row _ _ ⟨l,R,C,S⟩,Gx aK (us:=(a.eval y).cells.toList) (by rw[fW];exact r) B (by rw[ck.1];simp;omega),Gs ck N,λb o f=>.inl (ip b o (by rw[Gt db]at f;exact f))⟩
    refine⟨.skip,undef,W,G,ν,?_,.inr ⟨rfl,rfl⟩,?_⟩
    .simp only[execOp,ho,lG,Instr.storeAt,Instr.sureAddr,Sem.run_bind,Sem.run_pure,Result.andThen_ok,J]
    .rw[lF];exact D.on (λ_ _ _ f=>f) (λ_ _=>rfl) (Xj _) U D.gx
   .simp at h
  .simp at h
 .rename_i te id i off ds hl kc;obtain⟨N,pH⟩:=zO hy kc;split at h
  .rename_i e xs H;split at h
   .rename_i bX;simp only[Xh,Wh]at bX;obtain⟨⟨⟨g,X⟩,db⟩,bE⟩:=bX;split at h
    .rename_i d hf;injection h with h;subst h;obtain⟨⟨_,xm,b,K,lG⟩,_⟩:=E;obtain⟨φ,A⟩:=D.h;have bi:aq w (WD G w e) e.size (ν id) xs (φ id):=A.ob _ _ H;obtain⟨ke,Y,h5,mO,n,Z,h8,h9⟩:=zL bE bi K;obtain⟨l,R,C,S⟩:=mO;have V:=bi.2.1;have L:i<xs.length:=by omega
     have O:(a.eval y).cells.toList.length=ds.length:=N.1;have fA:(a.eval y).cells.size=ds.length:=by simpa using O
     have dw:n.length=xs.length*e.size:=vr (λx c hc=>c3 e x c hc) _ _ Z;have BM:i*e.size+e.size<=xs.length*e.size:=by rw[←fC];exact gA _ L
     have BN:xs.length*e.size<=(ν id).cap*e.size:=gA _ Y;have tP:=UK (λx c hc=>c3 e x c hc) xs n i e.dflt Z L;have xn:=Gs (off:=off) (iZ (G:=G) (ν:=ν) (nx:=st.nx) e _ _ tP) N;have jj:=Uy D.h xn bE hf;have jk:=MV (λx c hc=>c3 e x c hc) xs n i d _ Z L jj;have J:=LX (w:=w) (hT _ _ hl) (b:=b) (off:=(ν id).off+(i*e.size+off)) (v:=a.eval y) C (by rw[W4 X];omega) (by omega) pH;obtain⟨r,B⟩:=C4 (k:=(ν id).off+(i*e.size+off)) (news:=(a.eval y).cells.toList) C (by omega);simp only[fW]at r B;generalize w.setRow b (l.toList.take ((ν id).off+(i*e.size+off))++(a.eval y).cells.toList++l.toList.drop ((ν id).off+(i*e.size+off)+(a.eval y).cells.size)).toArray=W at J r B;have qZ:n.take (i*e.size+off)++(a.eval y).cells.toList++n.drop (i*e.size+off+(a.eval y).cells.toList.length)=
       n.take (i*e.size)++(((n.drop (i*e.size)).take e.size).take off++(a.eval y).cells.toList++((n.drop (i*e.size)).take e.size).drop (off+(a.eval y).cells.toList.length))++n.drop (i*e.size+e.size):=by
      rw[O];have e1:n.take (i*e.size+off)=n.take (i*e.size)++((n.drop (i*e.size)).take e.size).take off:=by
       rw[List.take_take,mg (by omega),←List.take_add]
      have e2:n.drop (i*e.size+off+ds.length)=((n.drop (i*e.size)).take e.size).drop (off+ds.length)++n.drop (i*e.size+e.size):=by
       rw[List.drop_take,A6];have:n.drop (i*e.size+e.size)=(n.drop (i*e.size+(off+ds.length))).drop (e.size-(off+ds.length)):=by rw[A6];congr 1;omega
       rw[this,Ew];congr 1;omega
      rw[e1,e2];simp
     have U:HRel w0 F G ν ((id,.arr e (xs.set i d))::st.objs) st.nx W:=by
      refine A.turn (m:=[]) H (by simp) r (λI o ⟨e',h1,h2⟩=>h9 I o ⟨e',by omega,by omega⟩) ?_;refine Ub bE K (by simpa using ke) V (by simpa using Y) h5 (r.rows.row _ _ ⟨l,R,C,S⟩) jk ?_ (λb o f=>.inl (h9 b o f));rw[←qZ];exact Gx h8 (us:=(a.eval y).cells.toList) (by rw[fW];exact r) B (by omega)
     refine⟨.skip,undef,W,G,ν,?_,.inr ⟨rfl,rfl⟩,?_⟩
     .simp only[execOp,ho,lG,V,Instr.storeAt,Instr.sureAddr,Sem.run_bind,Sem.run_pure,Result.andThen_ok,J]
     .rw[lF];exact D.on (λ_ _ _ f=>f) (λ_ _=>rfl) (Xj _) U D.gx
    .simp at h
   .split at h
    .rename_i bX;simp only[Xh,Wh]at bX;obtain⟨⟨⟨g,X⟩,xo⟩,BO⟩:=bX;subst xo;split at h
     .rename_i d m hf;split at h
      .rename_i bt;injection h with h;subst h;have bt:(id::m).Nodup:=(C3 _).1 bt;obtain⟨wA,xp⟩:=cx.1 bt;obtain⟨⟨_,xm,b,K,lG⟩,_⟩:=E;obtain⟨φ,A⟩:=D.h;have bi:aq w (WD G w e) e.size (ν id) xs (φ id):=A.ob _ _ H;have bh:Live st.objs id:=⟨_,H,by simp⟩;obtain⟨ke,V,h3⟩:=bi;simp only[K]at h3;obtain⟨Y,h5,mO,n,ps,Z,h8,h9,c7⟩:=h3;obtain⟨l,R,C,S⟩:=mO;have L:i<xs.length:=by omega
       have O:(a.eval y).cells.toList.length=ds.length:=N.1;have fA:(a.eval y).cells.size=ds.length:=by simpa using O
       have BM:i*e.size+e.size<=xs.length*e.size:=by rw[←fC];exact gA _ L
       have BN:xs.length*e.size<=(ν id).cap*e.size:=gA _ Y;obtain⟨c1,c,c2,p1,pc,p2,g1,g2,g3,g4,g5⟩:=NW Z e.dflt L;have l1:=ia (λx c q E=>WI e x c q E) _ _ _ g3;rw[ca,mg (by omega)]at l1;have lc:=WI _ _ _ _ g4;obtain⟨ns,t1,t2,t3,t4,_⟩:=ga (G':=G) A (λ_ _ _ f=>f) e ds _ d m [] N (λi hi=>by simp at hi) xp hf;have J:=LX (w:=w) (hT _ _ hl) (b:=b) (off:=(ν id).off+(i*e.size+0)) (v:=a.eval y) C (by rw[W4 X];omega) (by omega) pH;obtain⟨r,B⟩:=C4 (k:=(ν id).off+(i*e.size+0)) (news:=(a.eval y).cells.toList) C (by omega);simp only[fW]at r B;generalize w.setRow b (l.toList.take ((ν id).off+(i*e.size+0))++(a.eval y).cells.toList++l.toList.drop ((ν id).off+(i*e.size+0)+(a.eval y).cells.size)).toArray=W at J r B;have kC:CS.le (rng b ((ν id).off+(i*e.size+0)) (a.eval y).cells.size) (rng b (ν id).off ((ν id).cap*e.size)):=λI o ⟨e',k1,k2⟩=>⟨e',by omega,by omega⟩;have jK:=c7 _ (Xl ..);have jH:∀p∈p1++(pc++p2),∀b o,p.fp b o->b<w.heap.size:=λp z b o f=>A.bl id b o bh (c7 p.fp (Xg _ (eG (by rw[g2];exact z))) b o f);obtain⟨q1,q2⟩:=Xw.1 h9;have kX:∀p∈p1++(pc++p2),Same p.fp w W:=λp z=>r.same ((q1 p.fp (eG (by rw[g2];exact z))).mono kC (λ_ _ f=>f)) (jH p z);have mP:∀p∈ns,Same p.fp w W:=λp z=>r.same (λb o k1 k2=>by
        obtain⟨j,hj,k3,k4⟩:=t3 p z b o k2;have:=A.inj id j b o bh k3 (jK b o (kC b o k1)) k4;subst this;exact wA hj) (λb o f=>by
        obtain⟨j,hj,k3,k4⟩:=t3 p z b o f;exact A.bl j b o k3 k4)
       have hEnc:cz (WD G W e) (xs.set i d) (c1++((a.eval y).cells.toList++c2)) (p1++(ns++p2)):=by
        refine VV L ?_ (ls (λ_ _ _ f=>f) e _ _ _ mP t1) ?_
        .exact pl (Q:=λq=>Same q.fp w W) (λx c q u E=>ls (λ_ _ _ f=>f) e x c q u E) _ _ _ (λq u=>kX q (Xm _ u)) g3
        .exact pl (Q:=λq=>Same q.fp w W) (λx c q u E=>ls (λ_ _ _ f=>f) e x c q u E) _ _ _ (λq u=>kX q (Xi _ (Xi _ u))) g5
       have hMem:Mem W b (ν id).off (c1++((a.eval y).cells.toList++c2)):=by
        have:=Gx h8 (k:=i*e.size+0) (us:=(a.eval y).cells.toList) (by rw[fW];exact r) B (by rw[g1];simp;omega);rw[g1,c9,List.take_append_of_le_length (by omega),List.take_of_length_le (by omega)]at this;have mQ:(c1++(c++c2)).drop (i*e.size+(a.eval y).cells.toList.length)=c2:=by
         rw[←fX,show i*e.size+(a.eval y).cells.toList.length=(c1++c).length by rw[Xv];omega,List.drop_left]
        rw[mQ,fX]at this;exact this
       have U:HRel w0 F G ν ((id,.arr e (xs.set i d))::kill st.objs m) st.nx W:=by
        refine A.turn H (by simp) r (λI o f=>jK I o (kC I o f)) ?_;refine⟨by simpa using ke,V,?_⟩;simp only[K];rw[g2,Xy,Xy]at q2 q1;have qA:=ef.1 q2;have qB:=ef.1 qA.2.1;have xq:∀p∈ns,∀s,CS.le s (φ id)->CS.disj p.fp s:=λp z s g b o k1 k2=>by
         obtain⟨j,hj,k3,k4⟩:=t3 p z b o k1;have:=A.inj id j b o bh k3 (g b o k2) k4;subst this;exact wA hj
        have cV:∀p∈p1++(pc++p2),CS.le p.fp (φ id):=λp z=>c7 p.fp (Xg _ (eG (by rw[g2];exact z)));refine⟨by simpa using Y,h5,r.rows.row _ _ ⟨l,R,C,S⟩,_,p1++(ns++p2),hEnc,hMem,Xw.2 ⟨λs g=>?_,?_⟩,λs g=>?_⟩
        .simp only[Xy,Xo]at g;rcases g with g|g|g
         .exact q1 s (Xm _ g)
         .obtain⟨p,z,rfl⟩:=Xx.1 g;exact(xq p z _ jK).symm
         .exact q1 s (Xi _ (Xi _ g))
        .rw[Xy,Xy];refine UM (ef.2 ⟨qA.1,qB.2.1,λs g t M=>qA.2.2 s g t (Xi _ M)⟩) t2 (λs g t M=>?_);obtain⟨p,z,rfl⟩:=Xx.1 g;rcases Xo.1 M with M|M
         .obtain⟨q,u,rfl⟩:=Xx.1 M;exact xq p z _ (cV q (Xm _ u))
         .obtain⟨q,u,rfl⟩:=Xx.1 M;exact xq p z _ (cV q (Xi _ (Xi _ u)))
        .intro b o f;rcases Xq.1 g with rfl|g
         .exact .inl (jK b o f)
         .simp only[Xy,Xo]at g;rcases g with g|g|g
          .obtain⟨q,u,rfl⟩:=Xx.1 g;exact .inl (cV q (Xm _ u) b o f)
          .obtain⟨q,u,rfl⟩:=Xx.1 g;exact .inr (t3 q u b o f)
          .obtain⟨q,u,rfl⟩:=Xx.1 g;exact .inl (cV q (Xi _ (Xi _ u)) b o f)
       refine⟨.skip,undef,W,G,ν,?_,.inr ⟨rfl,rfl⟩,?_⟩
       .simp only[execOp,ho,lG,V,Instr.storeAt,Instr.sureAddr,Sem.run_bind,Sem.run_pure,Result.andThen_ok,J]
       .rw[lF];exact D.on (λ_ _ _ f=>f) (λ_ _=>rfl) (Xj _) U D.gx
      .simp at h
     .simp at h
    .simp at h
  .simp at h
 .simp at h
end
theorem Wx2{G}(t)(d)(cs)(h:Enc G t d cs):∀u∈cs,u.oneCell'=true:=λu e=>by
 obtain⟨j,c⟩:=OX e;have a:=iZ (ν:=λ_=>⟨none,0,0,0,0⟩) (nx:=0) t d cs h;have b:j<(split t d).length:=by rw[←a.1];grind
 exact(a.2 j _ u (Xr b) c).2
theorem VG{G}{t}:∀(l) (cs),bO (Enc G t) l cs->∀u∈cs,u.oneCell'=true
 | [],cs,h,u,a=>by grind [bO]
 |x::l,cs,⟨e,b,d,f,c⟩,u,a=>by
  subst d;rcases Xo.1 a with a|a
  .grind [Wx2]
  .exact VG l b c u a
theorem Wti{G}{w}(t)(d)(cs)(ps)(h:WD G w t d cs ps):∀u∈cs,u.oneCell'=true:=λu e=>by
 obtain⟨j,c⟩:=OX e;have a:=G7 (ν:=λ_=>⟨none,0,0,0,0⟩) (nx:=0) t d cs ps h;have b:j<(split t d).length:=by rw[←a.1];grind
 exact(a.2 j _ u (Xr b) c).2
theorem UD{G}{w}{t}:∀(l) (cs) (b),cz (WD G w t) l cs b->∀u∈cs,u.oneCell'=true
 | [],cs,b,h,u,a=>by rw[h.1]at a;simp at a
 |x::l,cs,b,⟨g,c,k,f,e,j,i,d⟩,u,a=>by
  subst e;rcases Xo.1 a with a|a
  .grind [Wti]
  .exact UD l c f d u a
section
variable{w0:World}{F:CS}{nt:Slots}{G0 G:GH}{ν:Nat->Nu}{φ:Nat->CS}{objs:af}{nx:Nat}{st ai:St}{a:Act}{w w':World}{P:Program}{T:Tab}
structure Src(w0:World)(F:CS)(G:GH)(ν:Nat->Nu)(st:St)(w:World)(e:Ty)(l:List e.den)(m:List Nat)(v:Value)(news:List Value):Prop where
 enc:∀φ,HR w0 F G ν φ st.objs st.nx w->∃ps,cz (WD G w e) l news ps/\Sep (ps.map Pc.fp)/\∀p∈ps,CS.le p.fp (FromL φ st.objs m)
 rd:(v= .slice none 0 0/\l= [])\/∃(p:Addr) (c:Nat),v= .slice (some p) l.length c/\∀(j:Nat) (u:Value),news[j]?=some u->w.cell? (p.add j)=some u
theorem pr{e}(a:e.data=true){l}{m}{v}{news}(h:bO (Enc G e) l news)
  (rd:(v= .slice none 0 0/\l= [])\/∃(p:Addr) (c:Nat),v= .slice (some p) l.length c/\∀(j) (u),news[j]?=some u->w.cell? (p.add j)=some u):Src w0 F G ν st w e l m v news:=
 ⟨λφ _=>⟨[],(ri a l news []).2 ⟨h,rfl⟩,List.Pairwise.nil,by simp⟩,rd⟩
theorem MM(D:Rel w0 F nt G0 G ν st a w){e}(d:e.data=true){x}{u}{l}(m)(t:AValRel G ν st.nx x u)(h:OA st e x=some l):∃news,Src w0 F G ν st w e l m u news:=by
 unfold OA at h;split at h
 .rename_i e' d';obtain⟨r,k⟩:=j3 h;subst r;simp only at k;subst k;obtain⟨⟨v,i,M⟩,_⟩:=t;simp at i;subst i;rcases M with⟨rfl,s⟩|⟨b,E,o,p,rfl,y,H,z,A⟩|⟨J,o,rfl,s⟩
  rotate_left 2
  .exact⟨[],pr d (by rw[s];rfl) (.inr ⟨J,o,by grind,λj u f=>by simp at f⟩)⟩
  .exact⟨[],pr d (by rw[s];rfl) (.inl ⟨rfl,s⟩)⟩
  .exact⟨p,pr d z (.inr ⟨⟨b,E,none⟩,o,rfl,λj u f=>by rw[hZ];exact D.h.g (A j u f)⟩)⟩
 .injection h with h;subst h;obtain⟨i,_⟩:=t;simp only[CellRel]at i;subst i;exact⟨[],pr d rfl (.inl ⟨rfl,rfl⟩)⟩
 .rename_i id;split at h
  .rename_i e' xs ho;obtain⟨r,k⟩:=j3 h;subst r;simp only at k;subst k;obtain⟨⟨_,i⟩,_⟩:=t;subst i;obtain⟨S,n⟩:=D.h.obj ho;unfold Nu.hdr;cases hb:(ν id).blk with
   |none=>have:=rx n hb;exact⟨[],pr d (by rw[this];rfl) (.inl ⟨rfl,this⟩)⟩
   |some b=>
    obtain⟨y,H,z,A,p,B,C,L⟩:=zL d n hb;exact⟨p,pr d B (.inr ⟨⟨b,(ν id).off,none⟩,(ν id).cap,by rw[y],λj u f=>by rw[hZ];exact C j u f⟩)⟩
  grind
 .rename_i id lo hi;split at h
  .rename_i e' xs ho;obtain⟨T,q,h⟩:=Xz.1 h;subst h;obtain⟨r,k⟩:=j3 q;subst r;simp only at k;subst k;obtain⟨⟨_,P,Q,R,i⟩,_⟩:=t;subst i;obtain⟨S,n⟩:=D.h.obj ho;have K:=n.2.1;have O:=n.1;unfold Nu.vhdr;cases hb:(ν id).blk with
   |none=>
    have:=rx n hb;subst this;exact⟨[],pr d (by simp;rfl) (.inl ⟨rfl,by simp⟩)⟩
   |some b=>
    obtain⟨y,H,z,A,p,B,C,L⟩:=zL d n hb;have I:((xs.take hi).drop lo).length=hi-lo:=by simp;omega
    by_cases N:(ν id).cap=lo
    .have h0:(xs.take hi).drop lo= []:=ee (by omega);exact⟨[],pr d (by rw[h0];rfl) (.inr ⟨_,_,by rw[I],λj u f=>by simp at f⟩)⟩
    .refine⟨(p.take (hi*e'.size)).drop (lo*e'.size),pr d (Du (λx c q=>c3 e' x c q) _ _ lo (Dq (λx c q=>c3 e' x c q) _ _ hi B)) (.inr ⟨_,_,by rw[I,We N],λj u f=>?_⟩)⟩;rw[ma,mc]at f;rw[hZ,K,dN];split at f
     .exact C _ u f
     grind
  grind
 grind
theorem XQ(g:Rel w0 F nt G0 G ν st a w){dst:Option Tmp}(c:∀d,dst=some d->nt.Ok d)(e)(m):
  ∃ν',Rel w0 F nt G0 G ν' (({env:=st.env,objs:=(st.nx,.arr e [])::kill st.objs m,nx:=st.nx+1}:St).put dst (.s (.one (.own st.nx)))) (a.put dst (.slice none 0 0)) w:=by
 refine⟨upd ν st.nx ⟨none,0,0,0,e.size⟩,g.fresh c m (.arr e []) _ (λ_ _ _=>False) _ _ (λφ _=>WLe.refl _ w) (λφ _ b o f=>f.elim) (λφ _=>?_) ⟨⟨nj _,by rw[fb];rfl⟩,rfl⟩⟩;show aq _ _ _ (upd ν st.nx ⟨none,0,0,0,e.size⟩ st.nx) _ _;rw[fb];exact⟨rfl,rfl,rfl⟩
theorem Wjk(t ty e TT)(i)(l:P.underlying t=some (.slice e))(hi:P.info? e=some i)
  (g off sLen sCap) (cur) (h:w.heap[g]?=some (.cells cur TT (0,0)))
  (p) (m c) (news) (k:news.length=m*i.size) (n:∀j u,news[j]?=some u->w.cell? (p.add j)=some u) (d:∀u∈news,u.oneCell'=true)
  (b:sLen+m<=sCap) (o:off+sLen*i.size+news.length<=cur.size):
  (Builtin.append_ #[t,t] ty #[.slice (some ⟨g,off,none⟩) sLen sCap,.slice (some p) m c]).run P w=
   .ok (.slice (some ⟨g,off,none⟩) (sLen+m) sCap) (w.setRow g (cur.toList.take (off+sLen*i.size)++news++cur.toList.drop (off+sLen*i.size+news.length)).toArray):=by
 have f:=run_firstCells_some (P:=P) w i.size m p m c news k n;have a:=run_storeCells_at P g (off+sLen*i.size) TT news 0 cur w h (by omega) d;simp only[c9]at a;simp[Builtin.append_,Wm l,sizeOf,typeInfo,hi,Builtin.lenOf,b,f,hZ,a]
theorem RY(t ty e)(i)(a:P.underlying t=some (.slice e))(hi:P.info? e=some i)(base)(n cap)(h:n<=cap):
  (Builtin.append_ #[t,t] ty #[.slice base n cap,.slice none 0 0]).run P w= .ok (.slice base n cap) w:=by
 cases base<;>simp[Builtin.append_,Wm a,sizeOf,typeInfo,hi,Builtin.lenOf,h,Builtin.firstCells,storeCells]
theorem Wjx(t ty e)(i)(a:P.underlying t=some (.slice e))(hi:P.info? e=some i)(p)(c):
  (Builtin.append_ #[t,t] ty #[.slice none 0 0,.slice (some p) 0 c]).run P w= .ok (.slice none 0 0) w:=by
 simp[Builtin.append_,Wm a,sizeOf,typeInfo,hi,Builtin.lenOf,Builtin.firstCells,loadCells,loadCellsFrom]
theorem zH{o}{c}(j:o.op= .call c){s x}{t}(h:c.callee= .builtin .append)(g:c.args.toList= [s,x])(f:c.argTypes.toList= [t,t]){v}
  (i:(Builtin.append_ #[t,t] o.type #[a.eval s,a.eval x]).run P w= .ok v w'):(execOp a.eval o).run P w= .ok (.value v) w':=by
 obtain⟨e,d,b⟩:=c;obtain⟨d⟩:=d;obtain⟨b⟩:=b;simp only at h g f;subst h g f;simp only[execOp,j,resolve,invoke,builtin,Sem.run_bind,Sem.run_pure,Result.andThen_ok,A8,bn,eL,i]
theorem Yn(w)(need old)(e)(h:Wx need=true):need<=grownCap w need old e/\grownCap w need old e<=maxLen:=
 ⟨grownCap_ge w need old e,grownCap_le_maxLen w need old e (by grind [Wx,maxLen])⟩
theorem TR(h:Rel w0 F nt G0 G ν st a w){dst:Option Tmp}(f:∀d,dst=some d->nt.Ok d)(m){e}{xs}{cs}(g:cs.length=xs.length*e.size)
  (c:∀φ,HR w0 F G ν φ st.objs st.nx w->∃b,cz (WD G w e) xs cs b/\Sep (b.map Pc.fp)/\∀p∈b,CS.le p.fp (FromL φ st.objs m)) {cap} (j:xs.length<=cap) (k:cap<=maxLen) (z) (i:z.size=e.size) (t):
  ∃ν',Rel w0 F nt G0 G ν' (({env:=st.env,objs:=(st.nx,.arr e xs)::kill st.objs m,nx:=st.nx+1}:St).put dst (.s (.one (.own st.nx)))) (a.put dst (.slice (some ⟨w.heap.size,0,none⟩) xs.length cap)) (w.drew.alloc (.cells (cs.toArray++Builtin.zeroCells z (cap-xs.length)) t)):=by
 refine(G8 h f m (e:=e) (xs:=xs) (cap:=cap) (cs:=cs) (vs:=cs.toArray++Builtin.zeroCells z (cap-xs.length)) (t:=t) j k ?_ c ?_ w.drew rfl rfl rfl rfl).1
 .simp only[Array.size_append,List.size_toArray,size_zeroCells,i,g,←kR];simp_all
 .simp
structure ElT(P:Program)(t et:TypeId)(e:Ty):Prop where
 u:P.underlying t=some (.slice et)
 i:∃i z,P.info? et=some i/\i.size=e.size/\i.zero=some z/\z.cells.size=e.size/\i.bytes<=4096
theorem elT(d:au P T){t a:TypeId}{ty}{h}{te}{e}(l:Wt T t=some ⟨ty,h,.slice a⟩)(j:Wt T a=some te)(g:te.plain=true)(f:te.ty.size=e.size):ElT P t a e:=by
 obtain⟨i,z,k,b,m,c,n⟩:=(d _ _ j).info;rw[W4 g]at b;rw[vc g]at c;exact⟨(d _ _ l).und.2.1,i,z,k,by rw[b,f],m,by rw[←fW,c,nJ,f],n⟩
theorem C1(j:Rel w0 F nt G0 G ν st a w){o:Oper}(v:∀d,o.dst=some d->nt.Ok d){c}{s x}{t et}{e}(E:ElT P t et e)
  (y:o.op= .call c) (u:c.callee= .builtin .append) (r:c.args.toList= [s,x]) (n:c.argTypes.toList= [t,t]) (Z:a.eval s= .slice none 0 0)
  {l} {m m'} {news} (g:Src w0 F G ν st w e l m (a.eval x) news) (H:∀i∈m,i∈m') (C:Wx l.length=true):
  Done P w0 F nt G0 o a w (({env:=st.env,objs:=(st.nx,.arr e l)::kill st.objs m',nx:=st.nx+1}:St).put o.dst (.s (.one (.own st.nx)))):=by
 obtain⟨hu,i,z,hi,X,hz,N,R⟩:=E;have T:l.length<=1073741824:=by grind [Wx]
 have iG:=mE e;rcases g.rd with⟨B,k⟩|⟨pa,Y,B,W⟩
 .subst k;obtain⟨ν',f⟩:=XQ j v e m';exact⟨_,_,_,G,ν',zH y u r n (by simp_all [RY,Xj]),.inl rfl,f⟩
 .by_cases h0:l.length=0
  .have k:l= []:=ee h0;subst k;obtain⟨ν',f⟩:=XQ j v e m';exact⟨_,_,_,G,ν',zH y u r n (by grind [Wjx]),.inl rfl,f⟩
  .obtain⟨φ,A⟩:=j.h;obtain⟨V,D,_⟩:=g.enc φ A;have O:news.length=l.length*e.size:=ia (λx c q g=>WI e x c q g) _ _ _ D;obtain⟨S,M⟩:=Yn w l.length 0 et C;obtain⟨ν',f⟩:=TR j v m' O (λφ A=>by
    obtain⟨Q,J,K,L⟩:=g.enc φ A;exact⟨Q,J,K,λp I b o f=>FromL.mono H b o (L p I b o f)⟩) S M z.cells N et
   have U:l.length*i.bytes<=281474976710656:=by
    have:=Nat.mul_le_mul T R;omega
   refine⟨_,_,_,G,ν',zH y u r n ?_,.inl rfl,f⟩
   grind [run_append_nil]
theorem zS{e}{nu}{xs}{S}{b k}(h:aq w (WD G w e) e.size nu xs S)(y:nu.blk=some b)(z:k<=xs.length):
  ∃a d,cz (WD G w e) (xs.take k) a d/\a.length=k*e.size/\Mem w b nu.off a/\Sep (rng b nu.off (nu.cap*e.size)::d.map Pc.fp)/\(∀s∈rng b nu.off (nu.cap*e.size)::d.map Pc.fp,CS.le s S):=by
 obtain⟨E,F,g⟩:=h;simp only[y]at g;obtain⟨H,I,J,p,B,u,i,v,o⟩:=g;obtain⟨a,C,d,K,r,t,f,D⟩:=Ds xs p B k u;have j:=ia (λx c q A=>WI e x c q A) _ _ _ f;rw[ca,mg z]at j;obtain⟨m,n⟩:=Xw.1 v;rw[t,Xy]at m n o;refine⟨a,d,f,j,by rw[r]at i;exact i.left,Xw.2 ⟨λs l=>m s (Xm _ l),(ef.1 n).1⟩,λs l=>?_⟩
 grind
theorem LU(hr:Rel w0 F nt G0 G ν st a w){o:Oper}(hd:∀d,o.dst=some d->nt.Ok d){c}{s x}{t et}{e}(hE:ElT P t et e)
  (ho:o.op= .call c) (hc:c.callee= .builtin .append) (ha:c.args.toList= [s,x]) (fw:c.argTypes.toList= [t,t])
  {id g k} {xs} (O:Wt st.objs id=some (.arr e xs)) (R:(ν id).blk=some g) (hk:k<=xs.length) (fB:a.eval s= .slice (some ⟨g,(ν id).off,none⟩) k (ν id).cap)
  {l} {m} {news} (C:Src w0 F G ν st w e l m (a.eval x) news) (hm:id∉m) (ax:Wx (k+l.length)=true):
  Done P w0 F nt G0 o a w (({env:=st.env,objs:=(st.nx,.arr e (Xe (xs.take k) l))::kill st.objs (id::m),nx:=st.nx+1}:St).put o.dst (.s (.one (.own st.nx)))):=by
 obtain⟨hu,i,z,hi,K,hz,ky,qY⟩:=hE;have xt:k+l.length<=1073741824:=by grind [Wx]
 have iG:=mE e;have ad:(Xe (xs.take k) l).length=k+l.length:=by show(xs.take k++l).length=_;rw[Xv,ca,mg hk]
 obtain⟨φ0,hφ0⟩:=hr.h;have kY:aq w (WD G w e) e.size (ν id) xs (φ0 id):=hφ0.ob _ _ O;have qs:=kY.2.2;simp only[R]at qs;obtain⟨hxc,lH,⟨E,TT,jl,bv⟩,_⟩:=qs;obtain⟨c1,AH,_,tR,tS,_,_⟩:=zS kY R hk;obtain⟨BP,e0,_⟩:=C.enc φ0 hφ0;have M:news.length=l.length*e.size:=ia (λx c q C=>WI e x c q C) _ _ _ e0;have J:Live st.objs id:=⟨_,O,by simp⟩;have tT:∀{U:List Value},U.length=k*e.size->Mem w g (ν id).off U->U=c1:=λ{U} D H=>OT λj=>by
  by_cases u:j<k*e.size
  .have qu:j<U.length:=by omega
   have wC:j<c1.length:=by omega
   have a1:=H j _ (Xr qu);have a2:=tS j _ (Xr wC);simp_all
  simp_all
 have y:∀(W:World),WLe (rng g ((ν id).off+k*e.size) (l.length*e.size)) w W->Mem W g ((ν id).off+k*e.size) news->k+l.length<=(ν id).cap->
   ∃ν',Rel w0 F nt G0 G ν' (({env:=st.env,objs:=(st.nx,.arr e (Xe (xs.take k) l))::kill st.objs (id::m),nx:=st.nx+1}:St).put o.dst (.s (.one (.own st.nx)))) (a.put o.dst (.slice (some ⟨g,(ν id).off,none⟩) (k+l.length) (ν id).cap)) W:=by
  intro W Z hM V;have mL:(k+l.length)*e.size<=(ν id).cap*e.size:=gA _ V;rw[kR]at mL;have kC:CS.le (rng g ((ν id).off+k*e.size) (l.length*e.size)) (rng g (ν id).off ((ν id).cap*e.size)):=λb o ⟨k0,k1,k2⟩=>⟨k0,by omega,by omega⟩;refine⟨upd ν st.nx ⟨some g,(ν id).off,k+l.length,(ν id).cap,e.size⟩,hr.fresh hd (id::m) (.arr e (Xe (xs.take k) l)) _ (λφ b o=>φ id b o\/FromL φ st.objs m b o) _ _ (λφ B=>?_) (λφ B b o f=>?_) (λφ B=>?_) ⟨⟨nj _,by rw[fb];rfl⟩,rfl⟩⟩
  .have T:aq w (WD G w e) e.size (ν id) xs (φ id):=B.ob _ _ O;obtain⟨_,_,_,_,_,_,bk⟩:=zS T R hk;exact Z.mono λb o f=>⟨id,.inr (Xl ..),J,bk _ (Xl ..) b o (kC b o f)⟩
  .rcases f with f|⟨j,u,D,H⟩
   .exact .inl ⟨id,.inr (Xl ..),J,f⟩
   .exact .inl ⟨j,.inr (Xg _ u),D,H⟩
  .have T:aq w (WD G w e) e.size (ν id) xs (φ id):=B.ob _ _ O;obtain⟨sZ,N,g3,g4,g5,g6,g7⟩:=zS T R hk;obtain⟨ps,k1,k2,L⟩:=C.enc φ B;obtain⟨q1,q2⟩:=Xw.1 g6;have jK:=g7 _ (Xl ..);have qv:∀p∈N,CS.le p.fp (φ id):=λp r=>g7 _ (Xg _ (eG r));have tU:∀p∈ps,∀S,CS.le S (φ id)->CS.disj S p.fp:=λp r S hS b o D H=>by
    obtain⟨j,u,X,Y⟩:=L p r b o H;have:=B.inj id j b o J X (hS b o D) Y;simp_all
   have kX:∀p∈N,Same p.fp w W:=λp r=>Z.same ((q1 p.fp (eG r)).mono kC (λ_ _ f=>f)) (λb o f=>B.bl id b o J (qv p r b o f));have mP:∀p∈ps,Same p.fp w W:=λp r=>Z.same (tU p r _ (λb o f=>jK b o (kC b o f))) (λb o f=>by
    obtain⟨j,u,X,Y⟩:=L p r b o f;exact B.bl j b o X Y)
   show aq W (WD G W e) e.size (upd ν st.nx ⟨some g,(ν id).off,k+l.length,(ν id).cap,e.size⟩ st.nx) _ _;rw[fb];refine⟨ad,rfl,by simp_all,lH,Z.rows.row _ _ ⟨E,TT,jl,bv⟩,sZ++news,N++ps,Gj _ _ _ _ _ _ ?_ ?_,?_,Xw.2 ⟨λs A=>?_,?_⟩,λs A b o f=>?_⟩
   .exact pl (Q:=λq=>Same q.fp w W) (λx c q I C=>ls (λ_ _ _ f=>f) e x c q I C) _ _ _ kX g3
   .exact pl (Q:=λq=>Same q.fp w W) (λx c q I C=>ls (λ_ _ _ f=>f) e x c q I C) _ _ _ mP k1
   .refine Mem.app (n:=k*e.size) (λj v u=>?_) hM g4;have D:=g5 j v u;have gr:j<sZ.length:=(dJ.1 u).1;rw[Z.cell g ((ν id).off+j) (block_lt_of_cell D) (λ⟨_,H,_⟩=>by omega)];exact D
   .grind
   .rw[Xy];refine ef.2 ⟨q2,k2,λs A t ht=>?_⟩
    grind
   .rcases Xq.1 A with rfl|A
    .exact .inl (jK b o f)
    .rw[Xy]at A;rcases Xo.1 A with A|A
     .obtain⟨p,r,rfl⟩:=Xx.1 A;exact .inl (qv p r b o f)
     .obtain⟨q,I,rfl⟩:=Xx.1 A;exact .inr (L q I b o f)
 rcases C.rd with⟨aR,ce⟩|⟨pa,cc,aR,cF⟩
 .have sW:l.length=0:=by simp_all
  have wy:news= []:=ee (by simp_all);obtain⟨ν',f⟩:=y w (WLe.refl _ w) (by rw[wy];exactλj v u=>by simp at u) (by omega);refine⟨_,_,_,G,ν',zH ho hc ha fw ?_,.inl rfl,f⟩
  grind [RY]
 .by_cases V:k+l.length<=(ν id).cap
  .have xu:(k+l.length)*e.size<=(ν id).cap*e.size:=gA _ V;rw[kR]at xu;have bJ:=Wjk (P:=P) (w:=w) t o.type et TT i hu hi g (ν id).off k (ν id).cap E jl pa l.length cc news (by rw[K];exact M) (λj v u=>cF j v u) (UD _ _ _ e0) V (by rw[K,M];omega);obtain⟨hw,pJ⟩:=C4 (k:=(ν id).off+k*i.size) (news:=news) jl (by rw[K,M];omega);generalize w.setRow g (E.toList.take ((ν id).off+k*i.size)++news++E.toList.drop ((ν id).off+k*i.size+news.length)).toArray=W at bJ hw pJ;rw[K]at hw pJ;rw[M]at hw;obtain⟨ν',f⟩:=y W hw pJ V;exact⟨_,_,_,G,ν',zH ho hc ha fw (by rw[fB,aR,bJ]),.inl rfl,f⟩
  .obtain⟨sX,kw⟩:=Yn w (k+l.length) (ν id).cap et ax;have dw:(c1++news).length=(Xe (xs.take k) l).length*e.size:=by rw[Xv,tR,M,ad,kR]
   obtain⟨ν',f⟩:=TR hr hd (id::m) (xs:=Xe (xs.take k) l) dw (λφ B=>by
    have T:aq w (WD G w e) e.size (ν id) xs (φ id):=B.ob _ _ O;obtain⟨sZ,N,g3,g4,g5,g6,g7⟩:=zS T R hk;obtain⟨ps,k1,k2,L⟩:=C.enc φ B;have:=tT g4 g5;subst this;obtain⟨q1,q2⟩:=Xw.1 g6;have qv:∀p∈N,CS.le p.fp (φ id):=λp r=>g7 _ (Xg _ (eG r));refine⟨N++ps,Gj _ _ _ _ _ _ g3 k1,?_,λp r b o f=>?_⟩
    .rw[Xy];refine ef.2 ⟨q2,k2,λs A t ht=>?_⟩;obtain⟨p,r,rfl⟩:=Xx.1 A;obtain⟨q,I,rfl⟩:=Xx.1 ht;intro b o D H;obtain⟨j,u,X,Y⟩:=L q I b o H;have:=B.inj id j b o J X (qv p r b o D) Y;subst this;exact hm u
    .rcases Xo.1 r with r|r
     .exact⟨id,Xl ..,J,qv p r b o f⟩
     .exact FromL.mono (λi hi=>Xg _ hi) b o (L p r b o f)) (by rw[ad];exact sX) kw z.cells ky et
   have AG:(k+l.length)*i.bytes<=140737488355328:=by
    have:=Nat.mul_le_mul xt qY;omega
   have bJ:=run_append_grow (P:=P) w t o.type et i z hu hi hz ⟨g,(ν id).off,none⟩ k (ν id).cap c1 (by rw[K];exact tR) (λj v u=>by rw[hZ];exact tS j v u) pa l.length cc news (by rw[K];exact M) (λj v u=>cF j v u) (by omega) (by omega) (growslice_fits (by omega) AG);refine⟨_,_,_,G,ν',zH ho hc ha fw ?_,.inl rfl,f⟩;rw[fB,aR,bJ,ad];simp
theorem M4{id}{e}{xs}(c:HRel w0 F G ν objs nx w)(b:Wt objs id=some (.arr e xs)):
  ((ν id).blk=none/\xs= []/\(ν id).hdr= .slice none 0 0)\/∃g,(ν id).blk=some g/\(ν id).hdr= .slice (some ⟨g,(ν id).off,none⟩) xs.length (ν id).cap:=by
 obtain⟨S,a⟩:=c.obj b;unfold Nu.hdr;cases hb:(ν id).blk with
 |none=>exact .inl ⟨rfl,rx a hb,rfl⟩
 |some g=>exact .inr ⟨g,rfl,by rw[a.1]⟩
theorem WnZ(Y:au P T)(n:Rel w0 F nt G0 G ν st a w){o:Oper}(M:∀d,o.dst=some d->nt.Ok d){c}{s x}{t I:TypeId}{ty}{te}{sv xv}{R}{k:St->Option R}{r}
  (hl:Wt T t=some ⟨ty,false,.slice I⟩) (V:Wt T I=some te) (C:te.plain=true)
  (O:o.op= .call c) (L:c.callee= .builtin .append) (K:c.args.toList= [s,x]) (J:c.argTypes.toList= [t,t]) (hs:ev st s=some sv) (hx:ev st x=some xv)
  (h:rO st te.ty sv xv (λx objs nx=>k (({env:=st.env,objs:=objs,nx:=nx}:St).put o.dst x))=some r):∃ai,k ai=some r/\Done P w0 F nt G0 o a w ai:=by
 have v:∀(e:Ty) (l:List e.den) (m:List Nat),HZ st e xv=some (l,m)->∃news,Src w0 F G ν st w e l m (a.eval x) news:=λe l m f=>by
  unfold HZ at f;split at f
  .simp only[Option.some.injEq,Prod.mk.injEq]at f;obtain⟨rfl,rfl⟩:=f;obtain⟨D,_⟩:=WO n x _ hx;exact⟨[],λφ _=>⟨[],⟨rfl,rfl⟩,List.Pairwise.nil,by simp⟩,.inl ⟨D,rfl⟩⟩
  .rename_i id;split at f
   .rename_i e' xs y;obtain⟨ys,bZ,f⟩:=Xz.1 f;have h2:=Prod.mk.inj f;obtain⟨h3,h4⟩:=h2;subst h3 h4;obtain⟨pI,S⟩:=j3 bZ;subst pI;simp only at S;subst S;obtain⟨⟨_,D⟩,_⟩:=WO n x _ hx;have bh:Live st.objs id:=⟨_,y,by simp⟩;rcases M4 n.h y with⟨z,H,q⟩|⟨g,z,q⟩
    .subst H;exact⟨[],λφ _=>⟨[],⟨rfl,rfl⟩,List.Pairwise.nil,by simp⟩,.inl ⟨by rw[D,q],rfl⟩⟩
    .obtain⟨φ0,Q⟩:=n.h;have kY:aq w (WD G w e') e'.size (ν id) xs (φ0 id):=Q.ob _ _ y;obtain⟨c1,p1,g1,g2,W,g4,g5⟩:=zS kY z (Xj _);refine⟨c1,λφ hφ=>?_,.inr ⟨⟨g,(ν id).off,none⟩,(ν id).cap,by rw[D,q],λj u Z=>by rw[hZ];exact W j u Z⟩⟩;have bi:aq w (WD G w e') e'.size (ν id) xs (φ id):=hφ.ob _ _ y;obtain⟨sZ,BQ,k1,k2,k3,k4,k5⟩:=zS bi z (Xj _);have:sZ=c1:=OT λj=>by
      by_cases Z:j<xs.length*e'.size
      .have qu:j<sZ.length:=by omega
       have wC:j<c1.length:=by omega
       have a1:=k3 j _ (Xr qu);have U:=W j _ (Xr wC);rw[a1]at U;rw[Xr qu,Xr wC];exact U
      .rw[hQ (by omega),hQ (by omega)]
     subst this;rw[kQ]at k1;exact⟨BQ,k1,(Xw.1 k4).2,λp C b o q=>⟨id,cq.2 rfl,bh,k5 _ (Xg _ (eG C)) b o q⟩⟩
   .simp at f
  .simp at f
 unfold rO at h;split at h
 .split at h
  .rename_i e tV;split at h
   .rename_i he;split at h
    .rename_i l m f;obtain⟨news,B⟩:=v e l m f;cases ax:Wx l.length with
     |false=>simp[ax]at h
     |true=>
      simp[ax]at h;obtain⟨A,_⟩:=WO n s _ hs;exact⟨_,h,C1 n M (elT Y hl V C (by rw[←he,ik])) O L K J A B (λi N=>N) ax⟩
    .simp at h
   .simp at h
  .simp at h
 .rename_i id;split at h
  .rename_i e xs y;split at h
   .rename_i he;split at h
    .rename_i l m f;obtain⟨news,B⟩:=v e l m f;split at h
     .rename_i E;have E:=(cx.1 ((C3 _).1 E)).1;cases ax:Wx (xs.length+l.length)with
      |false=>simp[ax]at h
      |true=>
       simp[ax]at h;refine⟨_,h,?_⟩;have X:ElT P t I e:=elT Y hl V C (by rw[←he,ik]);obtain⟨⟨_,A⟩,_⟩:=WO n s _ hs;rcases M4 n.h y with⟨z,H,q⟩|⟨g,z,q⟩
       .subst H;exact C1 n M X O L K J (by rw[A,q]) B (λi N=>Xg _ N) (by simpa [Wx]using ax)
       .have:=LU n M X O L K J y z (Xj _) (by rw[A,q]) B E ax;rw[kQ]at this;exact this
     .simp at h
    .simp at h
   .simp at h
  .simp at h
 .simp at h
theorem WoY(K:au P T)(b:Rel w0 F nt G0 G ν st a w){o:Oper}(y:∀d,o.dst=some d->nt.Ok d){c}{s x}{t t2}{sv xv}{R}{k:St->Option R}{r}
  (z:o.op= .call c) (v:c.callee= .builtin .append) (u:c.args.toList= [s,x]) (q:c.argTypes.toList= [t,t2]) (C:ev st s=some sv) (D:ev st x=some xv)
  (h:vu T st t t2 sv xv (λx objs nx=>k (({env:=st.env,objs:=objs,nx:=nx}:St).put o.dst x))=some r):∃ai,k ai=some r/\Done P w0 F nt G0 o a w ai:=by
 unfold vu at h;split at h
 .rename_i ty et _ hl _;split at h
  .rename_i te bk;split at h
   .rename_i bX;obtain⟨rfl,L,E⟩:=bX;have A:ElT P t et te.ty:=elT K hl bk L rfl;cases jM:HQ st sv xv with
    |false=>
     simp only[jM,Bool.not_false,Wa]at h;exact WnZ K b y hl bk L z v u q C D h
    |true=>
    simp only[jM,Xn,Wb]at h;split at h
    .rename_i l fA;cases ax:Wx l.length with
     |false=>simp[ax]at h
     |true=>
      simp[ax]at h;obtain⟨e,_⟩:=WO b s _ C;obtain⟨j,m⟩:=MM b E [] (WO b x _ D) fA;exact⟨_,h,C1 (m':=[]) b y A z v u q e m (λi p=>p) ax⟩
    .rename_i id l fA;split at h
     .rename_i e0 xs aO;split at h
      .rename_i ys bZ;obtain⟨n,B⟩:=L5 bZ;injection n with n;subst n;simp only at B;subst B;cases ax:Wx (Xa xs+l.length)with
       |false=>simp[ax]at h
       |true=>
        simp[ax]at h;refine⟨_,h,?_⟩;obtain⟨⟨_,e⟩,_⟩:=WO b s _ C;obtain⟨j,m⟩:=MM b E [] (WO b x _ D) fA;rcases M4 b.h aO with⟨f,J,H⟩|⟨g,f,H⟩
        .subst J;exact C1 (m':=[id]) b y A z v u q (by rw[e,H]) m (λi p=>by simp at p) (by simpa [Wx]using ax)
        .have:=LU b y A z v u q aO f (Xj _) (by rw[e,H]) m (by simp) ax;rw[kQ]at this;exact this
      .simp at h
     .simp at h
    .rename_i id p l fA;split at h
     .rename_i e0 xs aO;split at h
      .rename_i ys bZ;obtain⟨n,B⟩:=L5 bZ;injection n with n;subst n;simp only at B;subst B;cases ax:Wx (p+l.length)with
       |false=>simp[ax]at h
       |true=>
        simp[ax]at h;refine⟨_,h,?_⟩;obtain⟨⟨_,Q,M,N,e⟩,_⟩:=WO b s _ C;obtain⟨j,m⟩:=MM b E [] (WO b x _ D) fA;obtain⟨S,I⟩:=b.h.obj aO;unfold Nu.vhdr at e;cases f:(ν id).blk with
        |none=>
         have J:=rx I f;simp only[f]at e;have O:=N f;subst O;show Done P w0 F nt G0 o a w (({env:=st.env,objs:=(st.nx,.arr te.ty l)::(id,.dead)::st.objs,nx:=st.nx+1}:St).put o.dst (.s (.one (.own st.nx))));exact C1 (m':=[id]) b y A z v u q e m (λi p=>by simp at p) (by simpa [Wx]using ax)
        |some g=>
         simp only[f,Nat.sub_zero,EW,c9,ite_self]at e;exact LU b y A z v u q aO f (by rw[I.1];exact M) e m (by simp) ax
      .simp at h
     .simp at h
    .simp at h
   .simp at h
  .simp at h
 .simp at h
end
section
variable{w0:World}{F:CS}{nt:Slots}{G0 G:GH}{ν:Nat->Nu}{φ:Nat->CS}{objs:af}{nx:Nat}{st ai:St}{a:Act}{w w':World}{P:Program}{T:Tab}
theorem MK{t et}{te}{nu:Nu}{n}{lo hi}{vl vh}(g:P.underlying t=some (.slice et))(c:TEok P T et te)(v:te.plain=true)(j:nu.esz=te.ty.size)
  (s:n<=nu.cap) (u:n=nu.len) (h:nu.blk=none->n=0) (f:BRel lo vl) (e:BRel hi vh) (d:(aD n lo hi).1=true):
  (Instr.sliceAt t nu.hdr vl vh none).run P w= .ok (nu.vhdr (aD n lo hi).2.1 (aD n lo hi).2.2) w/\(aD n lo hi).2.1<=(aD n lo hi).2.2/\(aD n lo hi).2.2<=n:=by
 unfold Nu.hdr Nu.vhdr;cases hk:nu.blk with
 |none=>
  have m:=h hk;subst m;obtain⟨a,x,y⟩:=zB (P:=P) (w:=w) (isSlice:=true) (cap:=0) f e (Xj _) d;have k:(aD 0 lo hi).2.2=0:=by omega
  have l:(aD 0 lo hi).2.1=0:=by omega
  rw[k,l]at a⊢;refine⟨?_,Xj _,Xj _⟩;simp[Instr.sliceAt,Instr.slice,Wm g,a,c.sizeOf]
 |some b=>
  obtain⟨a,o,r⟩:=zB (P:=P) (w:=w) (isSlice:=true) (cap:=nu.cap) f e s d;refine⟨?_,o,r⟩;rw[←u];generalize (aD n lo hi).2.1=p at*;generalize (aD n lo hi).2.2=q at*;have i:te.size=nu.esz:=by rw[W4 v,j]
  simp only[Instr.sliceAt,Instr.slice,Sem.run_bind,Wm g,Result.andThen_ok,a,c.sizeOf,Sem.run_pure,i,me,hZ];split<;>rfl
theorem X5{id}{e}{xs}{S}(h:dQ G ν nx w id S (.arr e xs)):((ν id).blk=none->xs.length=0)/\((ν id).blk≠none->xs.length<=(ν id).cap):=by
 refine⟨λa=>by rw[rx h a];rfl,λa=>?_⟩;obtain⟨_,_,b⟩:=h
 grind
theorem UJ{t et}{te}{id}{e}{xs}{S}(a:dQ G ν nx w id S (.arr e xs)){lo hi}{vl vh}(r:P.underlying t=some (.slice et))(f:TEok P T et te)(o:te.plain=true)(l:te.ty.size=e.size)
  (n:BRel lo vl) (m:BRel hi vh) (k:(aD xs.length lo hi).1=true):
  (Instr.sliceAt t (ν id).hdr vl vh none).run P w= .ok ((ν id).vhdr (aD xs.length lo hi).2.1 (aD xs.length lo hi).2.2) w/\(aD xs.length lo hi).2.1<=(aD xs.length lo hi).2.2/\(aD xs.length lo hi).2.2<=xs.length:=by
 obtain⟨j,u⟩:=X5 a;have d:=a.1;have g:=a.2.1;cases hk:(ν id).blk with
 |some b=>grind [MK]
 |none=>
  have c:=j hk;have s:xs= []:=ee c;have h:(ν id).hdr=(⟨none,(ν id).off,(ν id).len,0,(ν id).esz⟩:Nu).hdr:=by grind [Nu.hdr]
  have i:∀p q,(ν id).vhdr p q=(⟨none,(ν id).off,(ν id).len,0,(ν id).esz⟩:Nu).vhdr p q:=λp q=>by grind [Nu.vhdr]
  rw[h,i];exact MK r f o (by show(ν id).esz=_;rw[g,l]) (by omega) d (λ_=>c) n m k
theorem Me{o}{t}{x}{lo hi}{v}(b:o.op= .slice t x lo hi none)(h:(Instr.sliceAt t (a.eval x) (lo.map a.eval) (hi.map a.eval) none).run P w= .ok v w):(execOp a.eval o).run P w= .ok (.value v) w:=by
 grind [execOp,Sem.run_bind,Result.andThen_ok,Sem.run_pure]
theorem Wt7(g:au P T)(c:Rel w0 F nt G0 G ν st a w){o:Oper}(u:∀d,o.dst=some d->nt.Ok d){t et}{ty}{te}{x}{lo hi}(y:o.op= .slice t x lo hi none)
  {id} {l h} {R} {k:St->Option R} {r} (A:ev st x=some (.s (.one (.own id)))) (v:Wt T t=some ⟨ty,false,.slice et⟩) (i:Wt T et=some te) (z:te.plain=true) (p:fP st lo=some l) (q:fP st hi=some h)
  (b:nT st te.ty id l h (λx objs nx=>k (({env:=st.env,objs:=objs,nx:=nx}:St).put o.dst x))=some r):∃ai,k ai=some r/\Done P w0 F nt G0 o a w ai:=by
 unfold nT at b;split at b
 .rename_i e xs aO;split at b
  case isFalse=>simp at b
  rename_i C;cases hb:(aD (Xa xs) l h).1 with
  |false=>simp_all
  |true=>
   simp only[hb,Wa]at b;refine⟨_,b,?_⟩;obtain⟨⟨j,E⟩,_⟩:=WO c x _ A;obtain⟨S,f⟩:=c.h.obj aO;have B:=rK c lo _ p;have D:=rK c hi _ q;obtain⟨H,m,n⟩:=UJ (w:=w) f (g _ _ v).und.2.1 (g _ _ i) z (by rw[C,ik]) B D hb;refine⟨_,_,w,G,ν,Me y (by simp_all),.inl rfl,c.put u ⟨⟨j,m,by rw[←f.1];exact n,λI=>?_,rfl⟩,WvL _ _ _⟩⟩
   grind [X5]
 grind
theorem HM(n:Nu)(h):n.part 0 h=⟨n.blk,n.off,h,n.cap,n.esz⟩:=by
 unfold Nu.part;simp
theorem ZK(n:Nu)(h):n.vhdr 0 h=(⟨n.blk,n.off,h,n.cap,n.esz⟩:Nu).hdr:=by
 rw[←HM,VK]
theorem WrV(j:au P T)(c:Rel w0 F nt G0 G ν st a w){o:Oper}(A:∀d,o.dst=some d->nt.Ok d){t et}{ty}{x}{lo hi}(D:o.op= .slice t x lo hi none)
  {id} {e} {xs} {te} {h} (H:ev st x=some (.s (.one (.own id)))) (C:Wt T t=some ⟨ty,false,.slice et⟩) (p:Wt T et=some te) (E:te.plain=true) (B:te.ty=e.ro) (f:Wt st.objs id=some (.arr e xs)) (l:fP st lo=some none) (g:fP st hi=some (some h))
  (v:0<=h) (y:h<=(xs.length:Int)):Done P w0 F nt G0 o a w (({env:=st.env,objs:=(st.nx,.arr e (xs.take h.toNat))::kill st.objs [id],nx:=st.nx+1}:St).put o.dst (.s (.one (.own st.nx)))):=by
 obtain⟨⟨L,u⟩,_⟩:=WO c x _ H;obtain⟨S,n⟩:=c.h.obj f;have J:=rK c lo _ l;have K:=rK c hi _ g;have z:(aD xs.length none (some h)).1=true:=by simp[aD,v,y]
 obtain⟨i,M,N⟩:=UJ (w:=w) n (j _ _ C).und.2.1 (j _ _ p) E (by rw[B,ik]) J K z;have q:(aD xs.length none (some h)).2.1=0:=rfl;have r:(aD xs.length none (some h)).2.2=h.toNat:=rfl;rw[q,r,ZK]at i;refine⟨_,_,w,G,upd ν st.nx ((ν id).part 0 h.toNat),Me D (by rw[u];exact i),.inl rfl,?_⟩;have m:Live st.objs id:=⟨_,f,by simp⟩;refine c.fresh A [id] (.arr e (xs.take h.toNat)) _ (λφ=>φ id) _ _ (λφ _=>WLe.refl _ w) (λφ _ b o g=>.inl ⟨id,.inr (cq.2 rfl),m,g⟩) (λφ I=>?_) ⟨⟨nj _,by rw[fb,HM]⟩,DW _⟩;show aq w (WD G w e) e.size (upd ν st.nx ((ν id).part 0 h.toNat) st.nx) (xs.take h.toNat) (φ id);rw[fb];have k:aq w (WD G w e) e.size (ν id) xs (φ id):=I.ob _ _ f;have:=Vo (lo:=0) (hi:=h.toNat) k (Nat.zero_le _) (by rw[←k.1];omega);simp_all
theorem WjP(I:au P T)(k:Rel w0 F nt G0 G ν st a w){o:Oper}(hd:∀d,o.dst=some d->nt.Ok d){t et}{ty}{x}{lo hi}(ho:o.op= .slice t x lo hi none)
  {id i p} {e} {xs} {te} {h} (hx:ev st x=some (.s (.one (.own id)))) (hl:Wt T t=some ⟨ty,false,.slice et⟩) (O:Wt T et=some te) (hp:te.plain=true) (he:te.ty=e.ro) (q:Wt st.objs id=some (.hole e xs i p)) (xw:Oh (Wt st.objs p) e.size=true) (N:fP st lo=some none) (c:fP st hi=some (some h))
  (Z:0<=h) (h1:h<=(xs.length:Int)) (h2:h<=(i:Int)):Done P w0 F nt G0 o a w (({env:=st.env,objs:=(st.nx,.arr e (xs.take h.toNat))::kill st.objs [id,p],nx:=st.nx+1}:St).put o.dst (.s (.one (.own st.nx)))):=by
 obtain⟨⟨cj,V⟩,_⟩:=WO k x _ hx;obtain⟨S,pF,f⟩:=k.h.obj q;have l:∃C,Wt st.objs p=some (.box C)/\C.length=e.size:=by
  unfold Oh at xw
  grind [wS]
 obtain⟨pcs,l,W⟩:=l;have jH:=rK k lo _ N;have tW:=rK k hi _ c;have hb:(aD xs.length none (some h)).1=true:=by simp[aD,Z,h1]
 obtain⟨k1,K,k3,b,L,k5,k6,k7,k8,k9,_⟩:=f;obtain⟨D,g2,g3⟩:=MK (w:=w) (nu:=ν id) (I _ _ hl).und.2.1 (I _ _ O) hp (by rw[K,he,ik]) k7 k1 (λhn=>by simp_all) jH tW hb;have R:(aD xs.length none (some h)).2.1=0:=rfl;have U:(aD xs.length none (some h)).2.2=h.toNat:=rfl;rw[R,U,ZK]at D;refine⟨_,_,w,G,upd ν st.nx ((ν id).part 0 h.toNat),Me ho (by rw[V];exact D),.inl rfl,?_⟩;have B:Live st.objs id:=⟨_,q,by simp⟩;have E:Live st.objs p:=⟨_,l,by simp⟩;refine k.fresh hd [id,p] (.arr e (xs.take h.toNat)) _ (λφ b o=>φ id b o\/φ p b o) _ _ (λφ _=>WLe.refl _ w) (λφ _ b o c=>?_) (λφ u=>?_) ⟨⟨nj _,by rw[fb,HM]⟩,DW _⟩
 .rcases c with c|c
  .exact .inl ⟨id,.inr (by simp),B,c⟩
  .exact .inl ⟨p,.inr (by simp),E,c⟩
 .show aq w (WD G w e) e.size (upd ν st.nx ((ν id).part 0 h.toNat) st.nx) (xs.take h.toNat) _;rw[fb,HM];obtain⟨pF,f⟩:p<st.nx/\lR w (WD G w e) e.size (ν id) (ν p) xs i (φ id):=u.ob _ _ q;obtain⟨_,_,_,A,n,k5',_,_,_,_,c1,c2,p1,p2,j1,j2,J,j4,j5,v⟩:=f;rw[L]at n;injection n with n;subst n;obtain⟨b2,vs,m,q2,q3,q4,y⟩:dQ G ν st.nx w p (φ p) (.box pcs):=u.ob _ _ l;rw[k5]at m;injection m with m;subst m;rw[W,k6]at y;obtain⟨Q,d2,z,r2,t1,t2,M,t4⟩:=Ds _ _ _ h.toNat j1;rw[List.take_take,mg (by omega)]at M;have X:=v _ (Xl ..);have Y:=v _ (Xg _ (Xl ..));obtain⟨s1,s2⟩:=Xw.1 j5;obtain⟨s3,s4⟩:=Xw.1 s2;have r:∀s∈z.map Pc.fp,s∈(p1++p2).map Pc.fp:=λs g=>by simp_all
  have H:∀s∈z.map Pc.fp,CS.le s (φ id):=λs g=>v s (Xg _ (Xg _ (r s g)));have xx:∀b o,φ id b o->φ p b o->False:=λb o x1 x2=>by
   have:=u.inj id p b o B E x1 x2;simp_all
  refine⟨by simp;omega,K,?_⟩;simp only[L];refine⟨by simp;omega,k8,k9,Q,z,M,by rw[t1]at J;exact J.left,Xw.2 ⟨λs g=>?_,?_⟩,λs g=>?_⟩
  .exactλA o mo j=>(GT (show i<(ν id).cap by omega) (S:=λb o=>¬s b o) (λb o c j=>s1 s (Xg _ (r s g)) b o c j) (λb o c j=>xx b o (H s g b o j) (y b o c)) (λb o c j=>s3 s (r s g) b o c j) A o mo) j
  .grind
  .rcases Xq.1 g with rfl|g
   .exact GT (show i<(ν id).cap by omega) (λb o c=>.inl (X b o c)) (λb o c=>.inr (y b o c)) (λb o c=>.inl (Y b o c))
   .exactλb o c=>.inl (H s g b o c)
theorem WqT(X:au P T)(B:Rel w0 F nt G0 G ν st a w){o:Oper}(hd:∀d,o.dst=some d->nt.Ok d){c}{x}{t et}{ty}{te}{e}{xs}{id lo hi}
  (ho:o.op= .call c) (l:c.callee= .builtin .clear) (Y:c.args.toList= [x]) (S:c.argTypes.toList= [t]) (hx:ev st x=some (.s (.one (.vw id lo hi)))) (hl:Wt T t=some ⟨ty,false,.slice et⟩) (bk:Wt T et=some te)
  (E:Wt st.objs id=some (.arr e xs)) (he:te.ty=e) (hp:te.plain=true) (r:e.data=true):
  Done P w0 F nt G0 o a w (({env:=st.env,objs:=(id,.arr e (xs.take lo++Xp (hi-lo) e.dflt++xs.drop hi))::st.objs,nx:=st.nx}:St).put o.dst (.tup [])):=by
 have hu:=(X _ _ hl).und.2.1;obtain⟨⟨cj,g1,g2,g3,hv⟩,_⟩:=WO B x _ hx;obtain⟨φ,D⟩:=B.h;have I:aq w (WD G w e) e.size (ν id) xs (φ id):=D.ob _ _ E;have Q:Live st.objs id:=⟨_,E,by simp⟩;have tX:∀W,(Builtin.clear_ #[t] o.type #[a.eval x]).run P w= .ok (.tuple #[]) W->(execOp a.eval o).run P w= .ok (.value (.tuple #[])) W:=λW p=>by
  obtain⟨A,i,f⟩:=c;obtain⟨i⟩:=i;obtain⟨f⟩:=f;simp only at l Y S;subst l Y S;simp only[execOp,ho,resolve,invoke,builtin,Sem.run_bind,Sem.run_pure,Result.andThen_ok,A8,bn,eL,p]
 have iX:∀W,(Builtin.clear_ #[t] o.type #[a.eval x]).run P w= .ok (.tuple #[]) W->HRel w0 F G ν ((id,.arr e (xs.take lo++Xp (hi-lo) e.dflt++xs.drop hi))::st.objs) st.nx W->
   Done P w0 F nt G0 o a w (({env:=st.env,objs:=(id,.arr e (xs.take lo++Xp (hi-lo) e.dflt++xs.drop hi))::st.objs,nx:=st.nx}:St).put o.dst (.tup [])):=λW p hH=>
  ⟨_,_,W,G,ν,tX W p,.inl rfl,(B.on (λ_ _ _ q=>q) (λ_ _=>rfl) (Xj _) hH B.gx).put hd ⟨[],rfl,rfl,λj x v hj=>by simp at hj⟩⟩
 by_cases h0:hi-lo=0
 .have s0:hi=lo:=by omega
  have e1:xs.take lo++Xp (hi-lo) e.dflt++xs.drop hi=xs:=by
   simp_all
  refine iX w ?_ ?_
  .rw[hv];unfold Nu.vhdr;rw[h0];cases(ν id).blk<;>simp[Builtin.clear_,Wm hu]
  .rw[e1];exact⟨_,D.put (m:=[]) (ν':=ν) (λ_ _=>rfl) (Xj _) (D.lt id Q) (WLe.refl _ w) (λb o q=>.inl ⟨id,.inl rfl,Q,q⟩) (λ_=>I)⟩
 .cases bL:(ν id).blk with
  |none=>simp_all
  |some b=>
   obtain⟨ke,U,h5,⟨g,O,M,bv⟩,J,L,h8,V⟩:=zL r I bL;obtain⟨z,hz,K⟩:=zZ (w:=w) (X _ _ bk);rw[vc hp,he]at K;have ky:z.cells.size=e.size:=by rw[←fW,K,nJ]
   have R:=I.2.1;have dw:J.length=xs.length*e.size:=vr (λx c l=>c3 e x c l) _ _ L;have N:(Builtin.zeroCells z.cells (hi-lo)).toList=rep (cE e) (hi-lo):=by rw[←K];exact Dx z.cells (hi-lo)
   have y:(rep (cE e) (hi-lo)).length=(hi-lo)*e.size:=by rw[Hs,nJ]
   have xy:lo*e.size+(hi-lo)*e.size=hi*e.size:=by rw[←kR];congr 1;omega
   have wF:hi*e.size<=xs.length*e.size:=gA _ (by omega);have AK:xs.length*e.size<=(ν id).cap*e.size:=gA _ U;have gt:∀u∈rep (cE e) (hi-lo),u.oneCell'=true:=VG (G:=G) _ _ (Ad r (hi-lo));have H:=run_storeCells_at P b ((ν id).off+lo*e.size) O (rep (cE e) (hi-lo)) 0 g w M (by rw[y];omega) gt;simp only[c9]at H;obtain⟨C,Z⟩:=C4 (k:=(ν id).off+lo*e.size) (news:=rep (cE e) (hi-lo)) M (by rw[y];omega);have p:(Builtin.clear_ #[t] o.type #[a.eval x]).run P w= .ok (.tuple #[]) (w.setRow b (g.toList.take ((ν id).off+lo*e.size)++rep (cE e) (hi-lo)++g.toList.drop ((ν id).off+lo*e.size+(rep (cE e) (hi-lo)).length)).toArray):=by
    rw[hv];unfold Nu.vhdr;simp only[bL,R];rw[We (by omega)];obtain⟨n,hn⟩:∃n,hi-lo=n+1:=⟨hi-lo-1,by omega⟩;simp only[Builtin.clear_,Sem.run_bind,Wm hu,Result.andThen_ok,O2,List.getElem?_cons_zero];rw[hn]at H N⊢;simp only[Sem.run_bind,hz,Result.andThen_ok,N,H,Sem.run_pure]
   generalize w.setRow b (g.toList.take ((ν id).off+lo*e.size)++rep (cE e) (hi-lo)++g.toList.drop ((ν id).off+lo*e.size+(rep (cE e) (hi-lo)).length)).toArray=W at p C Z;refine iX W p (D.turn (m:=[]) E (by simp) C (λb' o ⟨k0,k1,k2⟩=>V b' o ⟨k0,by omega,by omega⟩) ?_);have qw:(xs.take lo++Xp (hi-lo) e.dflt++xs.drop hi).length=xs.length:=by simp;omega
   have jj:bO (Enc G e) (xs.take lo++Xp (hi-lo) e.dflt++xs.drop hi) (J.take (lo*e.size)++rep (cE e) (hi-lo)++J.drop (hi*e.size)):=
    F9 _ _ _ _ (F9 _ _ _ _ (Dq (λx c l=>c3 e x c l) _ _ lo L) (Ad r _)) (Du (λx c l=>c3 e x c l) _ _ hi L)
   refine Ub r bL (by rw[qw];exact ke) R (by rw[qw];exact U) h5 (C.rows.row _ _ ⟨g,O,M,bv⟩) jj ?_ (λb o q=>.inl (V b o q));have:=Gx h8 C Z (by rw[y];omega);rw[y,xy]at this;exact this
end
def ez(G:GH)(w:World)(t:Ty)(a:Bool)(d:t.den)(v:Value)(b:List Pc):Prop:=
 if a then∃c:List Value,v= .agg c.toArray/\WD G w t d c b else WD G w t d [v] b
def de(b o:Nat):Nu:=⟨some b,o,0,0,0⟩
def nS(G:GH)(w:World)(t:Ty)(d:t.den)(b o:Nat)(c:List Pc):Prop:=∃a,Row w b (o+t.size)/\Mem w b o a/\WD G w t d a c
def fps(a:List Pc):List CS:=a.map Pc.fp
def nus(a:List Pc):List Nu:=a.map Pc.nu
def gN(G:GH)(w:World):(f:List PTy)->dA f->List Value->List Pc->List Nu->Prop
 | [],_,h,c,ks=>h= []/\c= []/\ks= []
 | .v t agg::f,d,h,c,ks=>∃v a j i,h=v::a/\c=j++i/\ez G w t agg d.1 v j/\gN G w f d.2 a i ks
 | .box t::f,d,h,c,ks=>∃b o a j i k,h= .pointer (some ⟨b,o,none⟩)::a/\c=⟨de b o,rng b o t.size⟩::(j++i)/\ks=de b o::k/\nS G w t d.1 b o j/\gN G w f d.2 a i k
 | .mut e::f,d,h,c,ks=>∃l a i k,h=l.nu.hdr::a/\c=l::i/\ks=l.nu::k/\aq w (WD G w e) e.size l.nu d.1 l.fp/\gN G w f d.2 a i k
 | .clos g n::f,d,h,c,ks=>∃m a:List Value,h= .func (.func g) #[] m.toArray::a/\m.length=n/\(∀u∈m,u.oneCell'=true)/\gN G w f d (m++a) c ks
 | .kv t agg::f,d,h,c,ks=>∃v a j i k,h=v::a/\c=j++i/\ks=nus j++k/\ez G w t agg d.1 v j/\gN G w f d.2 a i k
 | .rp t::f,d,h,c,ks=>∃b o q a,h= .pointer (some ⟨b,o,none⟩)::a/\Enc G t d.1 q/\nW G b o q/\gN G w f d.2 a c ks
 | .vj _::_,_,_,_,_=>False
 | .boxal t lf::f,d,h,c,ks=>∃b o p l a j i k,h= .pointer (some ⟨b,o,none⟩):: .pointer (some ⟨p,l.nu.off+(d.2.1*l.nu.esz+0),none⟩)::a/\c=⟨de b o,rng b o t.size⟩::(j++i)/\ks=de b o::k/\
   nS G w t d.1 b o j/\j[lf]?=some l/\l.nu.blk=some p/\d.2.1<l.nu.len/\gN G w f d.2.2 a i k
def ig(G:GH)(w:World):(f:List PTy)->dI f->List Nu->List CS->List Pc->Prop
 | [],_,c,a,ns=>c= []/\a= []/\ns= []
 | .v _ _::f,o,c,a,ns=>ig G w f o c a ns
 | .box t::f,o,c,a,ns=>∃b d g h i j,c=de b d::g/\a=rng b d t.size::h/\ns=i++j/\nS G w t o.1 b d i/\ig G w f o.2 g h j
 | .mut e::f,o,c,a,ns=>∃k:Pc,∃g h,c=k.nu::g/\a=k.fp::h/\aq w (WD G w e) e.size k.nu o.1 k.fp/\ig G w f o.2 g h ns
 | .clos _ _::f,o,c,a,ns=>ig G w f o c a ns
 | .kv t _::f,o,c,a,ns=>∃i g h l,c=nus i++g/\a=fps i++h/\WD G w t o.1 l i/\ig G w f o.2 g h ns
 | .rp _::f,o,c,a,ns=>ig G w f o c a ns
 | .vj _::_,_,_,_,_=>False
 | .boxal t _::f,o,c,a,ns=>∃b d g h i j,c=de b d::g/\a=rng b d t.size::h/\ns=i++j/\nS G w t o.1 b d i/\ig G w f o.2 g h j
def pQ(G:GH)(w:World):(f:List PTy)->ec f->List Value->List Pc->Prop
 | [],_,g,ns=>g= []/\ns= []
 | .v t agg::f,d,g,ns=>∃v a c e,g=v::a/\ns=c++e/\ez G w t agg d.1 v c/\pQ G w f d.2 a e
 | .box t::f,d,g,ns=>∃b o a c e,g= .pointer (some ⟨b,o,none⟩)::a/\ns=⟨de b o,rng b o t.size⟩::(c++e)/\nS G w t d.1 b o c/\pQ G w f d.2 a e
 | .mut _::_,_,_,_=>False
 | .clos _ _::_,_,_,_=>False
 | .kv _ _::_,_,_,_=>False
 | .rp _::_,_,_,_=>False
 | .vj t::f,d,g,ns=>∃h u a c e,g= .agg (h++ [u]).toArray::a/\u.oneCell'=true/\ns=c++e/\WD G w t d.1 h c/\pQ G w f d.2 a e
 | .boxal _ _::_,_,_,_=>False
def vU:List Value->Value
 | [v]=>v
 |a=>.tuple a.toArray
def Of(a:List Pc):CS:=λb o=>∃q∈a,q.fp b o
structure After(sg:Sig)(o:dI sg.ps×ec sg.rs)(G:GH)(w:World)(ns:List Pc)(ks:List Nu)(rv:List Value)(kf:List CS)(ms dS:List Pc)(G':GH)(w':World):Prop where
 res:pQ G' w' sg.rs o.2 rv dS
 outs:ig G' w' sg.ps o.1 ks kf ms
 sep:Sep (kf++fps (ms++dS))
 own:∀S∈kf++fps (ms++dS),∀b off,S b off->G' b off=none/\(Of ns b off\/w.heap.size<=b)/\b<w'.heap.size
 gx:GExt w.heap.size (Of ns) G G'
 g:∀b o v,G' b o=some v->w'.cell? ⟨b,o,none⟩=some v
 le:WLe (Of ns) w w'
def AP(P:Program)(k:FuncId)(sg:Sig):Prop:=
 ∀(d:dA sg.ps) (o:dI sg.ps×ec sg.rs),sg.run d=some o->∀(G:GH) (w:World) (vs:List Value) (c:List Pc) (f:List Nu),gN G w sg.ps d vs c f->Sep (fps c)->
  (∀q∈c,∀b a,q.fp b a->G b a=none/\b<w.heap.size)->(∀b o v,G b o=some v->w.cell? ⟨b,o,none⟩=some v)->
  Calls P k vs.toArray w λe w'=>∃g i j h G',e= .returned (vU g)/\After sg o G w c f g i j h G' w'
def DG(P:Program)(k:FuncId):Prop:=∃a,P.funcs[k]?=some a∧a.body.isNone=false∧(a.name== "runtime.NumGoroutine")=false
def ZI(P:Program)(k:FuncId)(i:Inl):Prop:=
 ∀(st:St) (vs:List Value) (out:Out),i.fn Out st cM=some out->vs.length<=st.env.length->∀(w0:World) (F:CS) (G0 G:GH) (ν:Nat->Nu) (a:AVal->Value->Prop) (w:World),
  (∀j x,Wt st.env j=some x->∃v,vs[j]?=some v/\AValRel G ν st.nx x v)->HRel w0 F G ν st.objs st.nx w->GExt w0.heap.size F G0 G->(∀x v,a x v->AValRel G ν st.nx x v)->
  Calls P k vs.toArray w λe w'=>∃b G' ν',e= .returned b/\AValRel G' ν' out.2.2 out.1 b/\HRel w0 F G' ν' out.2.1 out.2.2 w'/\GExt w0.heap.size F G0 G'/\∀x v,a x v->AValRel G' ν' out.2.2 x v
def wg(P:Program)(k:FuncId)(sg:Sig):Prop:=match sg.inl with
 |none=>AP P k sg
 |some i=>ZI P k i
def eC(P:Program)(Γ:Ctx):Prop:=∀k sg,Wt Γ k=some sg->wg P k sg/\DG P k
section
variable{w0:World}{F:CS}{nt:Slots}{G0 G G':GH}{ν:Nat->Nu}{φ:Nat->CS}{objs:af}{nx:Nat}{st ai:St}{a:Act}{w w':World}{P:Program}{T:Tab}
theorem j6:∀(t) (d) (nx),(unfold t d nx).2.2=nx+t.owns
 | .prod a b,d,nx=>by simp only[unfold,j6 a,j6 b,Ty.owns,dN]
 | .own _,_,_=>rfl
 | .int _,_,_| .bool,_,_| .str,_,_| .slice _,_,_=>rfl
theorem WP{α:Type}{l m}{i}{x:α}(h:Wt (l++m) i=some x):Wt l i=some x\/Wt m i=some x:=by
 rw[vd]at h
 grind
def At(ν:Nat->Nu)(φ:Nat->CS)(nx:Nat)(b:List Pc):Prop:=∀(j:Nat) (a:Pc),b[j]?=some a->ν (nx+j)=a.nu/\φ (nx+j)=a.fp
theorem At.left{n1 n2}(h:At ν φ nx (n1++n2)):At ν φ nx n1:=λj a b=>h j a (by grind)
theorem At.right{n1 n2}{k}(h:At ν φ nx (n1++n2))(c:n1.length=k):At ν φ (nx+k) n2:=λj a b=>by
 have:=h (k+j) a (by grind)
 grind
def Ax(G:GH)(ν:Nat->Nu)(φ:Nat->CS)(w:World)(a:Nat)(b:Ob):Prop:=∃(e:Ty) (xs:List e.den),b= .arr e xs/\aq w (WD G w e) e.size (ν a) xs (φ a)
theorem j0:∀(t) (d) (nx) (vs) (c),WD G w t d vs c->At ν φ nx c->
  (∀(am),nx+t.owns<=am->CellsRel G ν am (unfold t d nx).1 vs)/\
  (∀b f,Wt (unfold t d nx).2.1 b=some f->nx<=b/\b<nx+t.owns/\Ax G ν φ w b f)
 | .own e,d,nx,vs,c,⟨j,l,g,i⟩,hν=>by
  obtain⟨u,y⟩:ν nx=j.nu/\φ nx=j.fp:=by have:=hν 0 j (by grind);omega
  refine⟨λam m=>?_,λb f a=>?_⟩
  .rw[g];refine CellsRel.one ⟨by grind [Ty.owns],by rw[u]⟩ (DW _)
  .simp only[unfold]at a;rw[WM]at a;split at a
   .rename_i e1;subst e1;injection a with a;subst a;exact⟨Xj _,by simp[Ty.owns],e,d,rfl,by simp_all⟩
   .simp[Wt]at a
 | .prod p q,d,nx,vs,c,⟨v1,v2,v,x,l,g,i,s⟩,hν=>by
  subst g;have r:=gG p _ _ _ i;obtain⟨n,z⟩:=j0 p d.1 nx v1 v i hν.left;obtain⟨o,A⟩:=j0 q d.2 (nx+p.owns) v2 x s (hν.right r);refine⟨λam m=>?_,λb f a=>?_⟩
  .simp only[Ty.owns]at m;simp only[unfold,j6];rw[l];exact(n am (by omega)).append (o am (by omega))
  .simp only[unfold,j6]at a
   grind [Ty.owns,WP]
 | .int k,d,nx,vs,c,h,_=>⟨λam _=>iZ (.int k) d vs h.2,λb f a=>by simp[unfold,Wt]at a⟩
 | .bool,d,nx,vs,c,h,_=>⟨λam _=>iZ .bool d vs h.2,λb f a=>by simp[unfold,Wt]at a⟩
 | .str,d,nx,vs,c,h,_=>⟨λam _=>iZ .str d vs h.2,λb f a=>by simp[unfold,Wt]at a⟩
 | .slice e,d,nx,vs,c,h,_=>⟨λam _=>iZ (.slice e) d vs h.2,λb f a=>by simp[unfold,Wt]at a⟩
theorem vi:∀(t) (d) (nx),(unfold t d nx).1.length=t.size
 | .prod a b,d,nx=>by simp only[unfold,Xv,vi a,vi b,Ty.size]
 | .own _,_,_| .int _,_,_| .bool,_,_| .str,_,_| .slice _,_,_=>rfl
theorem M2{t}{agg}{d}{v}{ns}{nx am}(h:ez G w t agg d v ns)(e:At ν φ nx ns)(b:nx+t.owns<=am):
  AvRel G ν am (Er agg (unfold t d nx).1) v:=by
 unfold ez at h;unfold Er;cases agg with
 |true=>
  simp only[W1]at h⊢;obtain⟨f,rfl,h⟩:=h;exact⟨f,rfl,(j0 t d nx f ns h e).1 am b⟩
 |false=>
  simp only[dL,dO]at h⊢;have a:=(j0 t d nx [v] ns h e).1 am b;have i:=a.1;generalize (unfold t d nx).1=g at*
  match g,i with
  | [c],_=>exact a.2 0 c v rfl rfl
theorem NL{t}{agg}{d}{v}{ns}(h:ez G w t agg d v ns):∃a,WD G w t d a ns:=by
 grind [ez]
def vQ(objs:af):Ty->List Nat->Prop
 | .own e,ids=>∃(f:Nat) (g:List e.den),ids= [f]/\Wt objs f=some (.arr e g)
 | .prod a b,ids=>∃c d,ids=c++d/\vQ objs a c/\vQ objs b d
 | .int _,ids=>ids= []
 | .bool,ids=>ids= []
 | .str,ids=>ids= []
 | .slice _,ids=>ids= []
theorem GG{objs}:∀(t) (c),vQ objs t c->c.length=t.owns
 | .own e,c,⟨id,j,h,_⟩=>by rw[h];rfl
 | .prod a b,c,⟨g,i,h,d,f⟩=>by rw[h,Xv,GG a _ d,GG b _ f];rfl
 | .int _,c,h=>by have:c= []:=h;rw[this];rfl
 | .bool,c,h=>by have:c= []:=h;rw[this];rfl
 | .str,c,h=>by have:c= []:=h;rw[this];rfl
 | .slice _,c,h=>by have:c= []:=h;rw[this];rfl
def KeptBox(objs:af)(ν:Nat->Nu)(bx:List (Nat×CS))(t:Ty)(k:Kp)(nu:Nu):Prop:=
 ∃a b,Wt objs k.id=some (.box a)/\k.off+t.size<=a.length/\(ν k.id).blk=some b/\nu=de b ((ν k.id).off+k.off)/\(k.id,rng b ((ν k.id).off+k.off) t.size)∈bx
def KeptOk(objs:af)(ν:Nat->Nu)(bx:List (Nat×CS)):List PTy->List Kp->List Nu->Prop
 | [],a,ks=>a= []/\ks= []
 | .v _ _::ps,a,ks=>KeptOk objs ν bx ps a ks
 | .box t::ps,a,ks=>∃k c d b,a=k::c/\ks=d::b/\KeptBox objs ν bx t k d/\KeptOk objs ν bx ps c b
 | .mut e::ps,a,ks=>∃(g:Nat) (c:List Kp) (b:List Nu) (i:List e.den),a=⟨g,0⟩::c/\ks=ν g::b/\Wt objs g=some (.arr e i)/\KeptOk objs ν bx ps c b
 | .clos _ _::ps,a,ks=>KeptOk objs ν bx ps a ks
 | .kv t _::ps,a,ks=>∃f h b,a=kp0 f++h/\ks=f.map ν++b/\vQ objs t f/\KeptOk objs ν bx ps h b
 | .rp _::ps,a,ks=>KeptOk objs ν bx ps a ks
 | .vj _::_,_,_=>False
 | .boxal t _::ps,a,ks=>∃k c d b,a=k::c/\ks=d::b/\KeptBox objs ν bx t k d/\KeptOk objs ν bx ps c b
theorem KeptBox.mono{bx bx'}{t}{k}{nu}(i:∀p∈bx,p∈bx')(h:KeptBox objs ν bx t k nu):KeptBox objs ν bx' t k nu:=by
 obtain⟨a,b,c,d,e,f,g⟩:=h;exact⟨a,b,c,d,e,f,i _ g⟩
theorem KeptOk.mono{bx bx'}(d:∀p∈bx,p∈bx'):∀(ps) (a) (b),KeptOk objs ν bx ps a b->KeptOk objs ν bx' ps a b
 | [],_,_,h=>h
 | .v _ _::ps,a,b,h=>KeptOk.mono d ps a b h
 | .box t::ps,a,b,⟨k,f,m,c,g,i,j,l⟩=>⟨k,f,m,c,g,i,j.mono d,KeptOk.mono d ps f c l⟩
 | .mut e::ps,a,b,⟨id,f,c,q,g,i,j,l⟩=>⟨id,f,c,q,g,i,j,KeptOk.mono d ps f c l⟩
 | .clos _ _::ps,a,b,h=>KeptOk.mono d ps a b h
 | .kv t _::ps,a,b,⟨o,n,c,g,i,j,l⟩=>⟨o,n,c,g,i,j,KeptOk.mono d ps n c l⟩
 | .rp _::ps,a,b,h=>KeptOk.mono d ps a b h
 | .vj _::_,_,_,h=>h.elim
 | .boxal t _::ps,a,b,⟨k,f,m,c,g,i,j,l⟩=>⟨k,f,m,c,g,i,j.mono d,KeptOk.mono d ps f c l⟩
def D3(G:GH)(ν:Nat->Nu)(w:World)(g:af)(bx:List (Nat×CS))(am c:Nat)(S:CS)(h:Ob):Prop:=
 (∃f a d b i,Wt g c=some (.box f)/\h= .box (lB f a d)/\a+d.length<=f.length/\(ν c).blk=some b/\Mem w b ((ν c).off+a) i/\CellsRel G ν am d i/\
  S=rng b ((ν c).off+a) d.length/\(c,rng b ((ν c).off+a) d.length)∈bx)\/
 (∃(e:Ty) (j xs:List e.den),Wt g c=some (.arr e j)/\h= .arr e xs/\aq w (WD G w e) e.size (ν c) xs S)
theorem Mc(be){bx}{am}:∀(t) (d) (us) (g) (c),WD G w t d us g->nus g=c.map ν->vQ be t c->
  (∀l k,Wt (dE t d c) l=some k->∃(j:Nat) (S:CS),c[j]?=some l/\(fps g)[j]?=some S/\D3 G ν w be bx am l S k)/\∀l∈c,∃k,Wt (dE t d c) l=some k
 | .own e,d,us,g,c,⟨F,q,r,o⟩,n,⟨l,J,h,v⟩=>by
  subst h q;simp only[nus,bn,eL,List.cons.injEq,and_true]at n;refine⟨λi k f=>?_,λi m=>?_⟩
  .simp only[dE,WM]at f;split at f
   .rename_i e3;subst e3;injection f with f;subst f;exact⟨0,F.fp,rfl,rfl,.inr ⟨e,J,d,v,rfl,by simp_all⟩⟩
   .simp[Wt]at f
  simp_all [cq,dE,Wt]
 | .prod a b,d,us,g,c,⟨u1,u2,C,D,q,r,o,A⟩,n,⟨i1,i2,h,s,E⟩=>by
  subst h r;have x:=gG a _ _ _ o;have B:=GG a _ s;simp only[nus,Xy]at n;obtain⟨y,z⟩:=Xgr n (by rw[Xu,Xu,x,B]);have H:(i1++i2).take a.owns=i1:=by simp_all
  have I:(i1++i2).drop a.owns=i2:=by simp_all
  obtain⟨K,L⟩:=Mc be (bx:=bx) (am:=am) a d.1 _ C i1 o y s;obtain⟨M,u⟩:=Mc be (bx:=bx) (am:=am) b d.2 _ D i2 A z E;simp only[dE,H,I];refine⟨λi k f=>?_,λi m=>?_⟩
  .rcases WP f with f|f
   .grind [fps,Ib,dJ]
   grind [fps,wE,sL,Xu]
  .rcases Xo.1 m with m|m
   .grind [vd]
   .obtain⟨k,N⟩:=u i m;rw[vd]
    grind
 | .int _,d,us,g,c,p,_,h=>by have:c= []:=h;grind [dE,Wt]
 | .bool,d,us,g,c,p,_,h=>by have:c= []:=h;grind [dE,Wt]
 | .str,d,us,g,c,p,_,h=>by have:c= []:=h;grind [dE,Wt]
 | .slice _,d,us,g,c,p,_,h=>by have:c= []:=h;grind [dE,Wt]
theorem MA:∀(t) (d) (c) (id) (f),Wt (dE t d c) id=some f->id∈c
 | .own e,d,c,id,f,h=>by
  cases c with
  |nil=>simp[dE,Wt]at h
  |cons i l=>
   grind [dE,WM,Xl,Wt]
 | .prod a b,d,c,id,f,h=>by
  simp only[dE]at h;rcases WP h with h|h
  .exact od (MA a d.1 _ id f h)
  .exact Xfi (MA b d.2 _ id f h)
 | .int _,_,_,_,_,h=>by simp[dE,Wt]at h
 | .bool,_,_,_,_,h=>by simp[dE,Wt]at h
 | .str,_,_,_,_,h=>by simp[dE,Wt]at h
 | .slice _,_,_,_,_,h=>by simp[dE,Wt]at h
def kids(l:List Kp):List Nat:=l.map Kp.id
theorem Hb(l):kids (kp0 l)=l:=by simp[kids,kp0,Function.comp_def]
theorem q7(be){bx}:∀(ps) (o) (a) (f) (d) (c) (objs:af) (nx am),ig G w ps o f d c->KeptOk be ν bx ps a f->At ν φ nx c->
  (kids a).Nodup->(∀k∈a,k.id<nx/\Wt objs k.id=Wt be k.id)->nx+c.length<=am->
  (dy ps o a objs nx).2=nx+c.length/\d.length=a.length/\
  ∀q r,Wt (dy ps o a objs nx).1 q=some r->(nx<=q/\q<nx+c.length/\Ax G ν φ w q r)\/(∃(j:Nat) (S:CS),(kids a)[j]?=some q/\d[j]?=some S/\D3 G ν w be bx am q S r)\/(Wt objs q=some r/\q∉kids a)
 | [],o,a,f,d,c,objs,nx,am,⟨_,s,u⟩,l,_,_,_,_=>by subst s u;obtain⟨l,_⟩:=l;subst l;exact⟨rfl,rfl,λq r F=>.inr (.inr ⟨F,by simp[kids]⟩)⟩
 | .v _ _::ps,o,a,f,d,c,objs,nx,am,h,l,p,m,n,hx=>q7 be ps o a f d c objs nx am h l p m n hx
 | .box t::ps,o,a,f,d,c,objs,nx,am,⟨b,A,x,y,D,Q,s,u,z,N,M⟩,l,p,m,n,hx=>putOuts_box be t ps o.1 o.2 a f d c objs nx am (λa f d c objs nx am=>q7 be ps o.2 a f d c objs nx am) ⟨b,A,x,y,D,Q,s,u,z,N,M⟩ l p m n hx
 | .vj _::_,_,_,_,_,_,_,_,_,h,_,_,_,_,_=>h.elim
 | .boxal t _::ps,o,a,f,d,c,objs,nx,am,⟨b,A,x,y,D,Q,s,u,z,N,M⟩,l,p,m,n,hx=>putOuts_box be t ps o.1 o.2 a f d c objs nx am (λa f d c objs nx am=>q7 be ps o.2 a f d c objs nx am) ⟨b,A,x,y,D,Q,s,u,z,N,M⟩ l p m n hx
 | .mut e::ps,o,a,f,d,c,objs,nx,am,⟨pc,x,y,s,u,z,L⟩,l,p,m,n,hx=>by
  obtain⟨q,bM,AL,ys,rfl,O,bK,mt⟩:=l;rw[s]at O;simp only[List.cons.injEq]at O;obtain⟨Y,rfl⟩:=O;subst u;have T:=cx.1 m;obtain⟨J,V,K⟩:=q7 be ps o.2 bM x y c ((q,.arr e o.1)::objs) nx am L mt p T.2 (λk I=>by
   obtain⟨B,C⟩:=n k (Xg _ I);have R:q≠k.id:=λe=>T.1 (by grind);simp_all [WM,We]) hx
  simp only[dy];refine⟨J,by simp[V],λi r F=>?_⟩;rcases K i r F with g|⟨j,S,B,C,E⟩|⟨g,W⟩
  .grind
  .exact .inr (.inl ⟨j+1,S,B,C,E⟩)
  .rw[WM]at g;split at g
   .rename_i e3;subst e3;injection g with g;subst g;exact .inr (.inl ⟨0,pc.fp,rfl,rfl,.inr ⟨e,ys,o.1,bK,rfl,by simp_all⟩⟩)
   .rename_i R;exact .inr (.inr ⟨g,λH=>by rcases Xq.1 H with H|H;exact R H.symm;exact W H⟩)
 | .clos _ _::ps,o,a,f,d,c,objs,nx,am,h,l,p,m,n,hx=>q7 be ps o a f d c objs nx am h l p m n hx
 | .rp _::ps,o,a,f,d,c,objs,nx,am,h,l,p,m,n,hx=>q7 be ps o a f d c objs nx am h l p m n hx
 | .kv t agg::ps,o,a,f,d,c,objs,nx,am,⟨D,x,y,us,s,u,z,L⟩,⟨i1,i2,AL,cj,tY,X,mt⟩,p,m,n,hx=>by
  subst cj u;have U:=gG t _ _ _ z;have P:=GG t _ X;rw[s]at tY;obtain⟨q1,q2⟩:=Xgr tY (by simp[nus,U,P]);subst q2;have s9:(kp0 i1).length=t.owns:=by simp[kp0,P]
  have t1:((kp0 i1++i2).take t.owns).map Kp.id=i1:=by rw[←s9];simp;exact Hb i1
  have t2:(kp0 i1++i2).drop t.owns=i2:=by simp_all
  obtain⟨r1,r2⟩:=Mc (bx:=bx) (am:=am) be t o.1 us D i1 z q1 X;have Z:kids (kp0 i1++i2)=i1++kids i2:=by grind [kids,Hb]
  rw[Z]at m;obtain⟨m1,m2,m3⟩:=dm.1 m;obtain⟨J,V,K⟩:=q7 be ps o.2 i2 x y c (dE t o.1 i1++objs) nx am L mt p m2 (λk I=>by
   obtain⟨B,C⟩:=n k (Xi _ I);refine⟨B,?_⟩;rw[vd];cases hq:Wt (dE t o.1 i1) k.id with
   |none=>exact C
   |some r=>exact Wy rfl (m3 _ (MA t o.1 i1 _ r hq) _ (eG I))) hx
  simp only[dy,t1,t2];have jM:(fps D).length=i1.length:=by simp[fps,U,P]
  refine⟨J,by simp_all,λi r F=>?_⟩;rw[Z];rcases K i r F with g|⟨j,S,B,C,E⟩|⟨g,W⟩
  .grind
  .refine .inr (.inl ⟨i1.length+j,S,?_,?_,E⟩)
   .grind
   grind
  .rw[vd]at g;cases hq:Wt (dE t o.1 i1) i with
   |some dR=>
    rw[hq]at g;injection g with g;subst g;obtain⟨j,S,B,C,E⟩:=r1 i _ hq;refine .inr (.inl ⟨j,S,?_,?_,E⟩)
    .grind
    grind
   |none=>
    grind
where
 putOuts_box (be:af) {bx:List (Nat×CS)} (t:Ty) (ps:List PTy) (o1:t.den) (o2:dI ps) (ids:List Kp) (ks:List Nu) (kf:List CS) (ms:List Pc) (objs:af) (nx am:Nat)
   (ih:∀(ids:List Kp) (ks:List Nu) (kf:List CS) (ms:List Pc) (objs:af) (nx am:Nat),ig G w ps o2 ks kf ms->KeptOk be ν bx ps ids ks->At ν φ nx ms->
    (kids ids).Nodup->(∀k∈ids,k.id<nx/\Wt objs k.id=Wt be k.id)->nx+ms.length<=am->
    (dy ps o2 ids objs nx).2=nx+ms.length/\kf.length=ids.length/\
    ∀id ob,Wt (dy ps o2 ids objs nx).1 id=some ob->(nx<=id/\id<nx+ms.length/\Ax G ν φ w id ob)\/(∃(j:Nat) (S:CS),(kids ids)[j]?=some id/\kf[j]?=some S/\D3 G ν w be bx am id S ob)\/(Wt objs id=some ob/\id∉kids ids))
   (h:∃b off aJ eT n1 n2,ks=de b off::aJ/\kf=rng b off t.size::eT/\ms=n1++n2/\nS G w t o1 b off n1/\ig G w ps o2 aJ eT n2)
   (hk:∃k bM nu aJ,ids=k::bM/\ks=nu::aJ/\KeptBox be ν bx t k nu/\KeptOk be ν bx ps bM aJ) (hν:At ν φ nx ms)
   (hn:(kids ids).Nodup) (hi:∀k∈ids,k.id<nx/\Wt objs k.id=Wt be k.id) (hx:nx+ms.length<=am):
   (dy (.box t::ps) (o1,o2) ids objs nx).2=nx+ms.length/\kf.length=ids.length/\
   ∀id ob,Wt (dy (.box t::ps) (o1,o2) ids objs nx).1 id=some ob->(nx<=id/\id<nx+ms.length/\Ax G ν φ w id ob)\/(∃(j:Nat) (S:CS),(kids ids)[j]?=some id/\kf[j]?=some S/\D3 G ν w be bx am id S ob)\/(Wt objs id=some ob/\id∉kids ids):=by
  obtain⟨b,off,aJ,eT,n1,n2,h1,h2,h3,⟨us,_,aK,kg⟩,h5⟩:=h;obtain⟨k,bM,nu,AL,rfl,lI,⟨oP,b0,bK,db,bL,oQ,xz⟩,mt⟩:=hk;rw[h1]at lI;simp only[List.cons.injEq]at lI;obtain⟨wD,rfl⟩:=lI;rw[oQ]at wD;unfold de at wD;injection wD with tZ BR;injection tZ with tZ;subst tZ BR h2 h3;have cg:=gG t _ _ _ kg;have ad:(n1++n2).length=t.owns+n2.length:=by rw[Xv,cg]
  obtain⟨c1,wH⟩:=j0 t o1 nx us n1 kg hν.left;have bt:=cx.1 hn;obtain⟨xA,pL⟩:=hi k (Xl ..);have eS:=vi t o1 nx;have ji:rY (Wt objs k.id) k.off (unfold t o1 nx).1= .box (lB oP k.off (unfold t o1 nx).1):=by rw[pL,bK];rfl
  obtain⟨e1,el,e2⟩:=ih bM aJ eT n2 ((k.id,rY (Wt objs k.id) k.off (unfold t o1 nx).1)::((unfold t o1 nx).2.1++objs)) (nx+t.owns) am h5 mt (hν.right cg) bt.2 (λk' ra=>by
   obtain⟨g1,g2⟩:=hi k' (Xg _ ra);refine⟨by omega,?_⟩;rw[WM,We (λe=>bt.1 (by rw[e];exact eG ra)),vd];cases hq:Wt (unfold t o1 nx).2.1 k'.id with
   |none=>exact g2
   |some ob=>have:=(wH _ ob hq).1;omega) (by omega)
  simp only[dy,j6];refine⟨by rw[e1,ad];omega,by simp[el],λi ob hl=>?_⟩;rcases e2 i ob hl with⟨g1,g2,g3⟩|⟨j,S,g1,g2,g3⟩|⟨g,gn⟩
  .exact .inl ⟨by omega,by omega,g3⟩
  .exact .inr (.inl ⟨j+1,S,g1,g2,g3⟩)
  .rw[WM]at g;split at g
   .rename_i e3;subst e3;injection g with g;rw[ji]at g;subst g;refine .inr (.inl ⟨0,_,rfl,rfl,.inl ⟨oP,k.off,_,_,us,bK,rfl,by rw[eS];exact db,bL,aK,c1 am (by omega),by rw[eS],by rw[eS];exact xz⟩⟩)
   .rename_i bP;rcases WP g with g|g
    .obtain⟨g1,g2,g3⟩:=wH i ob g;exact .inl ⟨g1,by omega,g3⟩
    .exact .inr (.inr ⟨g,λhm=>by rcases Xq.1 hm with hm|hm;exact bP hm.symm;exact gn hm⟩)
def ZE(G:GH)(ν:Nat->Nu)(φ:Nat->CS)(w:World)(am a:Nat)(d:Ob):Prop:=
 Ax G ν φ w a d\/∃c b e,d= .box c/\(ν a).blk=some b/\Row w b ((ν a).off+c.length)/\Mem w b (ν a).off e/\CellsRel G ν am c e/\CS.le (rng b (ν a).off c.length) (φ a)
theorem Gl:∀(rs) (d) (vs) (p) (objs) (nx am),pQ G w rs d vs p->At ν φ nx p->nx+p.length<=am->
  (ep rs d objs nx).2.2=nx+p.length/\
  (∀n f,Wt (ep rs d objs nx).2.1 n=some f->(nx<=n/\n<nx+p.length/\ZE G ν φ w am n f)\/Wt objs n=some f)/\
  N2 G ν am (ep rs d objs nx).1 vs
 | [],d,vs,p,objs,nx,am,⟨s,y⟩,_,_=>by subst s y;exact⟨rfl,λn f z=>.inr z,rfl,λj x v a=>by simp[ep]at a⟩
 | .v t agg::rs,d,vs,p,objs,nx,am,⟨v,D,n1,k,s,y,K,O⟩,m,hx=>by
  subst y;obtain⟨B,T⟩:=NL K;have q:=gG _ _ _ _ T;have C:(n1++k).length=t.owns+k.length:=by rw[Xv,q]
  obtain⟨_,M⟩:=j0 t d.1 nx B n1 T m.left;obtain⟨E,F,H,I⟩:=Gl rs d.2 D k ((unfold t d.1 nx).2.1++objs) (nx+t.owns) am O (m.right q) (by omega);simp only[ep,j6];refine⟨by rw[E,C];omega,λi f z=>?_,?_⟩
  .rcases F i f z with⟨r,J,l⟩|g
   .exact .inl ⟨by omega,by omega,l⟩
   .rcases WP g with g|g
    .obtain⟨r,J,l⟩:=M i f g;exact .inl ⟨r,by omega,.inl l⟩
    .exact .inr g
  .rw[s];refine⟨by simp[H],λj x u a A=>?_⟩;cases j with
   |zero=>simp at a A;subst a A;exact M2 K m.left (by omega)
   |succ j=>exact I j x u (by simpa using a) (by simpa using A)
 | .box t::rs,d,vs,p,objs,nx,am,⟨b,o,D,n1,k,s,y,⟨B,V,U,S⟩,X⟩,m,hx=>by
  subst y;have q:=gG _ _ _ _ S;have C:((⟨de b o,rng b o t.size⟩:Pc)::(n1++k)).length=1+t.owns+k.length:=by rw[List.length_cons,Xv,q];omega
  obtain⟨c,Q⟩:ν nx=de b o/\φ nx=rng b o t.size:=by have:=m 0 _ rfl;simpa using this
  have L:At ν φ (nx+1) (n1++k):=m.right (n1:=[⟨de b o,rng b o t.size⟩]) rfl;obtain⟨N,M⟩:=j0 t d.1 (nx+1) B n1 S L.left;obtain⟨E,F,H,I⟩:=Gl rs d.2 D k ((nx,.box (unfold t d.1 (nx+1)).1)::((unfold t d.1 (nx+1)).2.1++objs)) (nx+1+t.owns) am X (L.right q) (by omega);have R:=vi t d.1 (nx+1);simp only[ep,j6];refine⟨by rw[E,C];omega,λn f z=>?_,?_⟩
  .rcases F n f z with⟨r,J,l⟩|g
   .exact .inl ⟨by omega,by omega,l⟩
   .rw[WM]at g;split at g
    .rename_i e;subst e;injection g with g;subst g;refine .inl ⟨Xj _,by omega,.inr ⟨_,b,B,rfl,by rw[c];rfl,?_,?_,N am (by omega),?_⟩⟩
     .rw[c,R];exact V
     .rw[c];exact U
     .rw[c,R,Q];exactλ_ _ Y=>Y
    .rcases WP g with g|g
     .obtain⟨r,J,l⟩:=M n f g;exact .inl ⟨by omega,by omega,.inl l⟩
     .exact .inr g
  .rw[s];refine⟨by simp[H],λj x u a A=>?_⟩;cases j with
   |zero=>
    simp at a A;subst a A;exact⟨⟨by omega,b,by rw[c];rfl,by rw[c];rfl⟩,rfl⟩
   |succ j=>exact I j x u (by simpa using a) (by simpa using A)
 | .mut _::_,_,_,_,_,_,_,h,_,_=>h.elim
 | .clos _ _::_,_,_,_,_,_,_,h,_,_=>h.elim
 | .kv _ _::_,_,_,_,_,_,_,h,_,_=>h.elim
 | .rp _::_,_,_,_,_,_,_,h,_,_=>h.elim
 | .vj t::rs,d,vs,p,objs,nx,am,⟨B,u,D,n1,k,s,W,y,K,O⟩,m,hx=>by
  subst y;have q:=gG _ _ _ _ K;have C:(n1++k).length=t.owns+k.length:=by rw[Xv,q]
  obtain⟨N,M⟩:=j0 t d.1 nx B n1 K m.left;obtain⟨E,F,H,I⟩:=Gl rs d.2 D k ((unfold t d.1 nx).2.1++objs) (nx+t.owns) am O (m.right q) (by omega);simp only[ep,j6];refine⟨by rw[E,C];omega,λi f z=>?_,?_⟩
  .rcases F i f z with⟨r,J,l⟩|g
   .exact .inl ⟨by omega,by omega,l⟩
   .rcases WP g with g|g
    .obtain⟨r,J,l⟩:=M i f g;exact .inl ⟨r,by omega,.inl l⟩
    .exact .inr g
  .rw[s];refine⟨by simp[H],λj x v a P=>?_⟩;cases j with
   |zero=>simp at a P;subst a P;exact⟨B++ [u],rfl,(N am (by omega)).append (CellsRel.one trivial W)⟩
   |succ j=>exact I j x v (by simpa using a) (by simpa using P)
 | .boxal _ _::_,_,_,_,_,_,_,h,_,_=>h.elim
theorem Wug{xs}{vs}(h:N2 G ν nx xs vs):AValRel G ν nx (ZB xs) (vU vs):=by
 obtain⟨a,b⟩:=h
 match xs,vs,a with
 | [],[],_=>exact⟨[],rfl,rfl,λj x v c=>by simp at c⟩
 | [x],[v],_=>exact b 0 x v rfl rfl
 |x::y::xs,v::u::vs,a=>exact⟨v::u::vs,rfl,a,b⟩
end
theorem j7(i):∀l:List Nat,dz i l=true↔i∈l
 | []=>by simp[dz]
 |j::l=>by
  simp only[dz,Bool.or_eq_true,j7 i l,Xq];rw[show(Nat.beq i j=true)=(i=j)from by simp]
theorem Gv:∀l:List Nat,en l=true↔l.Nodup
 | []=>by simp[en]
 |i::l=>by
  have h:=j7 i l;simp only[en,Xh,c5,cx,Gv l]
  grind
theorem UY{l m}(h:iA l m=true):∀i∈l,i∉m:=λi a b=>by
 grind [iA,bH,j7]
section
variable{w0:World}{F:CS}{nt:Slots}{G0 G G':GH}{ν:Nat->Nu}{φ:Nat->CS}{objs:af}{nx:Nat}{st ai:St}{a:Act}{w w':World}{P:Program}{T:Tab}
theorem Ht(h:HR w0 F G ν φ objs nx w){t}{agg}{x}{v}{cs}{d}{m l}(o:GLe G G')(k:AValRel G ν nx x v)(q:Lent G' w φ objs l)(r:m.Nodup)
  (a:cellsOf agg x=some cs) (n:aC t cs objs=some (d,m,l)):∃b,ez G' w t agg d v b/\Sep (fps b)/\(∀p∈b,CS.le p.fp (FromL φ objs m))/\(∀i∈m,Live objs i)/\(∀i∈l,Live objs i):=by
 unfold cellsOf at a;split at a
 .split at a
  .cases a
  .rename_i c ha;injection a with a;subst a;obtain⟨b,u,e,f,g,j,_⟩:=ga h o t [c] [v] d m l (CellsRel.one k.1 k.2) q r n;refine⟨b,?_,e,f,g,j⟩;simp_all [ez,We]
 .split at a
  .rename_i ds ha;injection a with a;subst a;obtain⟨y,rfl,s⟩:=k;obtain⟨b,u,e,f,g,j,_⟩:=ga h o t ds y d m l s q r n;refine⟨b,?_,e,f,g,j⟩;unfold ez;simp_all
  .cases a
 .cases a
def El(objs:af)(m:List Nat):Prop:=∀i∈m,∃(e:Ty) (xs:List e.den),Wt objs i=some (.arr e xs)
theorem G3:∀(t) (cs) (d) (m l),El objs m->aC t cs objs=some (d,m,l)->m.length<=t.owns
 | .prod a b,cs,d,m,l,g,h=>by
  simp only[aC]at h;split at h
  .rename_i x m1 l1 y m2 l2 h1 f;simp only[Option.some.injEq,Prod.mk.injEq]at h;obtain⟨rfl,rfl,rfl⟩:=h;have:=G3 a _ _ _ _ (λi j=>g i (Xm _ j)) h1;have:=G3 b _ _ _ _ (λi j=>g i (Xi _ j)) f;rw[Xv];show _<=a.owns+b.owns;omega
  grind
 | .own e,cs,d,m,l,g,h=>by
  simp only[aC]at h;split at h
  .rename_i id;obtain⟨⟨z,w⟩,c,n⟩:=Xz.1 h;simp only[Prod.mk.injEq]at n;obtain⟨rfl,rfl,rfl⟩:=n;unfold H1 at c;split at c
   .obtain⟨r,_,c⟩:=Xz.1 c;obtain⟨_,rfl⟩:=Prod.mk.inj c;exact Xj 1
   .rename_i e' xs i p bK;split at c
    .split at c
     .simp only[Option.some.injEq,Prod.mk.injEq]at c;obtain⟨_,rfl⟩:=c;obtain⟨u,s,f⟩:=g id (Xl ..);simp_all
     grind
    grind
   grind
  .split at h
   .obtain⟨r,_,h⟩:=Xz.1 h;have f:=(Prod.mk.inj (Prod.mk.inj h).2).1;subst f;exact Xj 1
   grind
  .grind
  grind
 | .slice e,cs,d,m,l,_,h=>by
  have v:m= []:=by
   simp only[aC]at h
   grind [Xz,Prod.mk.inj]
  simp_all
 | .int k,cs,d,m,l,_,h=>by
  simp only[aC]at h;split at h
  .obtain⟨q,o,h⟩:=Xz.1 h;simp_all
  grind
 | .bool,cs,d,m,l,_,h=>by
  simp only[aC]at h;split at h
  .obtain⟨q,o,h⟩:=Xz.1 h;simp_all
  grind
 | .str,cs,d,m,l,_,h=>by
  simp only[aC]at h;split at h
  .obtain⟨q,o,h⟩:=Xz.1 h;simp_all
  grind
theorem GB(h:HR w0 F G ν φ objs nx w)(e:GLe G G'){t}(i:t.owns=0){cs}{vs}{d}{m l}(b:CellsRel G ν nx cs vs)(f:Lent G' w φ objs l)(c:aC t cs objs=some (d,m,l))(g:m= []):WD G' w t d vs []:=by
 subst g;obtain⟨j,a,_⟩:=ga h e t cs vs d [] l b f qC c;have:=gG _ _ _ _ a;simp_all
def pcs(ν:Nat->Nu)(φ:Nat->CS)(m:List Nat):List Pc:=m.map λi=>⟨ν i,φ i⟩
theorem WxB(m):nus (pcs ν φ m)=m.map ν:=by simp[nus,pcs,Function.comp_def]
theorem NF(m):fps (pcs ν φ m)=m.map φ:=by simp[fps,pcs,Function.comp_def]
theorem Gy(h:HR w0 F G ν φ objs nx w)(s:GLe G G'):∀(t) (cs) (vs) (d) (m l),CellsRel G ν nx cs vs->Lent G' w φ objs l->(∀c∈cs,Oe c=true)->El objs m->
  aC t cs objs=some (d,m,l)->m.length=t.owns->WD G' w t d vs (pcs ν φ m)/\vQ objs t m
 | .prod a b,cs,vs,d,m,l,g,j,r,q,f,hm=>by
  have O:=f;simp only[aC]at f;split at f
  .rename_i x m1 l1 y m2 l2 h1 z;simp only[Option.some.injEq,Prod.mk.injEq]at f;obtain⟨rfl,rfl,rfl⟩:=f;have C:El objs m1:=λi A=>q i (Xm _ A);have D:El objs m2:=λi A=>q i (Xi _ A);have V:=G3 a _ _ _ _ C h1;have W:=G3 b _ _ _ _ D z;rw[Xv]at hm;have T:m1.length+m2.length=a.owns+b.owns:=hm;obtain⟨J,K⟩:=Gy h s a _ (vs.take a.size) x m1 l1 (g.take _) (j.mono (by simp_all)) (λc g=>r c (od g)) C h1 (by omega);obtain⟨L,M⟩:=Gy h s b _ (vs.drop a.size) y m2 l2 (g.drop _) (j.mono (by simp_all)) (λc g=>r c (Xfi g)) D z (by omega);exact⟨⟨_,_,pcs ν φ m1,pcs ν φ m2,(Ew a.size vs).symm,by simp[pcs],J,L⟩,m1,m2,rfl,K,M⟩
  grind
 | .own e,cs,vs,d,m,l,g,j,r,q,f,hm=>by
  simp only[aC]at f;split at f
  .rename_i id;obtain⟨v,rfl,⟨_,Q⟩,_⟩:=g.single;subst Q;obtain⟨⟨X,U⟩,o,f⟩:=Xz.1 f;simp only[Prod.mk.injEq]at f;obtain⟨rfl,rfl,rfl⟩:=f;unfold H1 at o;split at o
   .rename_i e' B u;obtain⟨Y,I,o⟩:=Xz.1 o;obtain⟨rfl,rfl⟩:=Prod.mk.inj o;obtain⟨N,E⟩:=j3 I;subst N;simp only at E;subst E;have H:aq w (WD G w e') e'.size (ν id) B (φ id):=h.ob _ _ u;exact⟨⟨⟨ν id,φ id⟩,rfl,rfl,vq s (Same.refl _ w) (λ_ _ P=>P) H⟩,id,B,rfl,u⟩
   .rename_i e' B i p u;split at o
    .split at o
     .simp only[Option.some.injEq,Prod.mk.injEq]at o;obtain⟨_,rfl⟩:=o;obtain⟨S,R,z⟩:=q id (Xl ..);simp_all
     grind
    grind
   grind
  .have:=r _ (cq.2 rfl);cases this
  .simp only[Option.some.injEq,Prod.mk.injEq]at f;obtain⟨rfl,rfl,rfl⟩:=f;exact Wy hm (by show¬(0=1);omega)
  grind
 | .slice e,cs,vs,d,m,l,g,j,r,q,f,hm=>by
  have n:m= []:=ee hm;have:=GB h s (t:=.slice e) rfl g j f n;subst n;exact⟨this,rfl⟩
 | .int k,cs,vs,d,m,l,g,j,r,q,f,hm=>by
  have n:m= []:=ee hm;have:=GB h s (t:=.int k) rfl g j f n;subst n;exact⟨this,rfl⟩
 | .bool,cs,vs,d,m,l,g,j,r,q,f,hm=>by
  have n:m= []:=ee hm;have:=GB h s (t:=.bool) rfl g j f n;subst n;exact⟨this,rfl⟩
 | .str,cs,vs,d,m,l,g,j,r,q,f,hm=>by
  have n:m= []:=ee hm;have:=GB h s (t:=.str) rfl g j f n;subst n;exact⟨this,rfl⟩
theorem WrW{t}{m}{x}(h:DZ objs t m x=true):m.length=t.owns/\YD x=true/\El objs m:=by
 unfold DZ at h;simp only[Xh,Wh,bH]at h;obtain⟨⟨a,b⟩,c⟩:=h;refine⟨a,b,λi d=>?_⟩
 grind
theorem Uq(h:HR w0 F G ν φ objs nx w){t}{agg}{x}{v}{cs}{d}{m l}(j:GLe G G')(e:AValRel G ν nx x v)(k:Lent G' w φ objs l)
  (a:cellsOf agg x=some cs) (i:aC t cs objs=some (d,m,l)) (s:DZ objs t m x=true):ez G' w t agg d v (pcs ν φ m)/\vQ objs t m:=by
 obtain⟨n,o,p⟩:=WrW s;unfold cellsOf at a;split at a
 .split at a
  .cases a
  .rename_i c sT;injection a with a;subst a;obtain⟨r,g⟩:=Gy h j t [c] [v] d m l (CellsRel.one e.1 e.2) k (λf b=>by rw[cq.1 b];exact o) p i n;simp_all [ez,We]
 .split at a
  .rename_i ds sT;injection a with a;subst a;obtain⟨u,rfl,q⟩:=e;obtain⟨r,g⟩:=Gy h j t ds u d m l q k (λf b=>bH.1 o f b) p i n;refine⟨?_,g⟩;unfold ez;simp_all
  .cases a
 .cases a
def Tk(φ:Nat->CS)(objs:af)(bx:List (Nat×CS))(l:List Nat):CS:=λb o=>∃i∈l,Live objs i/\φ i b o/\∀p∈bx,p.1=i->p.2 b o
structure AOk(G':GH)(ν:Nat->Nu)(φ:Nat->CS)(objs:af)(w:World)(ps:List PTy)(A:Args ps)(vs:List Value)(ns:List Pc)(ks:List Nu)(bx:List (Nat×CS)):Prop where
 args:gN G' w ps A.d vs ns ks
 kept:KeptOk objs ν bx ps A.kept ks
 sep:Sep (fps ns)
 tk:∀q∈ns,CS.le q.fp (Tk φ objs bx A.all)
 bx:∀p∈bx,p.1∈A.all
 live:∀i∈A.all,Live objs i
 lent:∀i∈A.lent,Live objs i
 mv:∀i∈A.moved,i∈A.all
 mvk:∀i∈A.all,i∈A.moved\/i∈kids A.kept
 sub:(kids A.kept).Sublist A.all
 dis:∀i∈kids A.kept,i∉A.moved
theorem DT{bx}{l}:CS.le (Tk φ objs bx l) (FromL φ objs l):=λb o ⟨i,d,a,c,_⟩=>⟨i,d,a,c⟩
theorem Hu{bx bx'}{l l'}(f:∀i∈l,i∈l')(h:∀p∈bx',p∈bx\/p.1∉l):CS.le (Tk φ objs bx l) (Tk φ objs bx' l'):=λb o ⟨i,d,a,c,g⟩=>
 ⟨i,f i d,a,c,λp j e=>by
  grind⟩
theorem Np{bx}{m l}(g:∀i∈m,i∈l)(d:∀p∈bx,p.1∉m):CS.le (FromL φ objs m) (Tk φ objs bx l):=λb o ⟨i,f,a,c⟩=>
 ⟨i,g i f,a,c,λp h e=>Wy (by simp_all) (d p h)⟩
theorem nO(h:HR w0 F G ν φ objs nx w){n1 n2}{m l}(a:Sep (fps n1))(b:Sep (fps n2))(e:∀q∈n1,CS.le q.fp (FromL φ objs m))(f:∀q∈n2,CS.le q.fp (FromL φ objs l))(c:∀i∈m,i∉l):Sep (fps (n1++n2)):=by
 unfold fps;rw[Xy];refine NV a b (A:=FromL φ objs m) (B:=FromL φ objs l) (λs d=>?_) (λs d=>?_) (FromL.disj h c)
 .grind
 grind
theorem Vz(h:HR w0 F G ν φ objs nx w)(Q:GLe G G'){t}{ps}{id off}{cs}{d}{m}{A}{vs}{ns}{ks}{bx}{v}
  (S:CellRel G ν nx (.ptr id off) v) (x:Wt objs id=some (.box cs)) (P:aC t ((cs.drop off).take t.size) objs=some (d,m,[])) (M:(id::(m++A.all)).Nodup) (f:AOk G' ν φ objs w ps A vs ns ks bx):
  ∃b n,v= .pointer (some ⟨b,(ν id).off+off,none⟩)/\(ν id).blk=some b/\nS G' w t d b ((ν id).off+off) n/\Leaf ν t ((cs.drop off).take t.size) n/\
   KeptBox objs ν ((id,rng b ((ν id).off+off) t.size)::bx) t ⟨id,off⟩ (de b ((ν id).off+off))/\KeptOk objs ν ((id,rng b ((ν id).off+off) t.size)::bx) ps A.kept ks/\
   Sep (fps (⟨de b ((ν id).off+off),rng b ((ν id).off+off) t.size⟩::(n++ns)))/\
   (∀q∈(⟨de b ((ν id).off+off),rng b ((ν id).off+off) t.size⟩:Pc)::(n++ns),CS.le q.fp (Tk φ objs ((id,rng b ((ν id).off+off) t.size)::bx) (id::(m++A.all))))/\
   (∀p∈(id,rng b ((ν id).off+off) t.size)::bx,p.1∈id::(m++A.all))/\(∀i∈id::(m++A.all),Live objs i)/\
   (∀i∈m++A.moved,i∈id::(m++A.all))/\(∀i∈id::(m++A.all),i∈m++A.moved\/i∈id::kids A.kept)/\(id::kids A.kept).Sublist (id::(m++A.all))/\(∀i∈id::kids A.kept,i∉m++A.moved):=by
 obtain⟨cj,b,y,rfl⟩:=S;obtain⟨n,V⟩:=cx.1 M;obtain⟨W,n4,B⟩:=dm.1 V;have z:Live objs id:=⟨_,x,by simp⟩;obtain⟨E,us,u,N,L,H,T⟩:dQ G ν nx w id (φ id) (.box cs):=h.ob _ _ x;rw[y]at u;injection u with u;subst u;obtain⟨X,J,t2,D,t4,_,t5⟩:=ga h Q t _ ((us.drop off).take t.size) d m [] ((H.drop off).take _) (λi a=>by simp at a) W P;have ad:=WI _ _ _ _ J;have O:off+t.size<=cs.length:=by
  have:=H.1
  grind [ca,kO,mE]
 have I:CS.le (rng b ((ν id).off+off) t.size) (φ id):=λE o ⟨U,k1,k2⟩=>T E o ⟨U,by omega,by omega⟩;refine⟨b,X,rfl,y,⟨_,?_,?_,J⟩,t5,⟨cs,b,x,O,y,rfl,Xl ..⟩,KeptOk.mono (λp c=>Xg _ c) _ _ _ f.kept,?_,?_,?_,?_,?_,?_,?_,?_⟩
 .obtain⟨C,K,Y,r2⟩:=N;exact⟨C,K,Y,by omega⟩
 .intro j v r;rw[mc]at r;split at r
  .rw[ma]at r;rw[dN];exact L _ v r
  grind
 .have Z:=nO h t2 f.sep D (λq l b o g=>DT b o (f.tk q l b o g)) (λi a r=>B i a i r rfl);refine Xw.2 ⟨λs R=>?_,Z⟩;obtain⟨p,c,rfl⟩:=Xx.1 R;refine CS.disj.mono (FromL.disj h (m:=[id]) (m':=m++A.all) (λi a r=>n (by simp_all))) (λb o g=>⟨id,by simp,z,I b o g⟩) (λb o g=>?_);rcases Xo.1 c with c|c
  .exact FromL.mono (λi a=>Xm _ a) b o (D p c b o g)
  .exact FromL.mono (λi a=>Xi _ a) b o (DT b o (f.tk p c b o g))
 .intro q l;rcases Xq.1 l with rfl|l
  .exactλb o g=>⟨id,Xl ..,z,I b o g,λp c e=>by
    rcases Xq.1 c with rfl|c
    .exact g
    .exact Wy (Xi _ (by rw[←e];exact f.bx p c)) n⟩
  .rcases Xo.1 l with l|l
   .refineλb o g=>Np (m:=m) (λi a=>Xg _ (Xm _ a)) (λp c k=>?_) b o (D q l b o g)
    rcases Xq.1 c with rfl|c
    .simp_all
    .exact B _ k _ (f.bx p c) rfl
   .refineλb o g=>Hu (λi a=>Xg _ (Xi _ a)) (λp c=>?_) b o (f.tk q l b o g)
    grind
 .intro p c;rcases Xq.1 c with rfl|c
  .simp_all
  .exact Xg _ (Xi _ (f.bx p c))
 .intro i a;rcases Xq.1 a with rfl|a
  .exact z
  .rcases Xo.1 a with a|a
   .grind
   .exact f.live i a
 .intro i a;rcases Xo.1 a with a|a
  .exact Xg _ (Xm _ a)
  .exact Xg _ (Xi _ (f.mv i a))
 .intro i a;rcases Xq.1 a with rfl|a
  .exact .inr (Xl ..)
  .rcases Xo.1 a with a|a
   .exact .inl (Xm _ a)
   .rcases f.mvk i a with a|a
    .exact .inl (Xi _ a)
    .exact .inr (Xg _ a)
 .exact List.Sublist.cons_cons _ (List.Sublist.trans f.sub (Xgh _ _))
 .intro i a k;rcases Xq.1 a with rfl|a
  .rcases Xo.1 k with k|k
   .exact n (Xm _ k)
   .exact n (Xi _ (f.mv _ k))
  .rcases Xo.1 k with k|k
   .exact B _ k _ (f.sub.subset a) rfl
   .exact f.dis i a k
theorem Wr6(h:HR w0 F G ν φ objs nx w){c}{y}{i}{u}(g:AValRel G ν nx y u)(a:N6 objs c y=some i):
  ∃r b,c= .own r/\(ν r).blk=some b/\i<(ν r).len/\u= .pointer (some ⟨b,(ν r).off+(i*(ν r).esz+0),none⟩):=by
 unfold N6 at a;split at a
 .rename_i r p off;split at a
  .rename_i e xs j p' bK;split at a
   .rename_i d;injection a with a;subst a;have d:=wS d;subst d;obtain⟨x,t,m,v,b,n,o,q,_⟩:p<nx/\lR w (WD G w e) e.size (ν r) (ν p) xs j (φ r):=h.ob _ _ bK;obtain⟨⟨_,s,f,rfl⟩,_⟩:=g;rw[o]at f;injection f with f;subst f;exact⟨r,b,rfl,n,by omega,by rw[q,m,c9,c9]⟩
   .simp at a
  .simp at a
 .rename_i r r' j off;split at a
  .rename_i e xs bK;split at a
   .rename_i d;injection a with a;subst a;have d:=wS d;subst d;obtain⟨⟨_,k,b,l,rfl⟩,_⟩:=g;exact⟨r,b,rfl,l,k,rfl⟩
   .simp at a
  .simp at a
 .simp at a
theorem o5(h:HR w0 F G ν φ objs nx w)(P:GLe G G'):∀(ps) (xs) (vs) (A),vs.length=xs.length->
  (∀(j:Nat) (x) (v),xs[j]?=some x->vs[j]?=some v->AValRel G ν nx x v)->Lent G' w φ objs A.lent->A.all.Nodup->ei ps xs objs=some A->
  ∃K J Q,AOk G' ν φ objs w ps A vs K J Q
 | [],xs,vs,A,z,C,L,N,f=>by
  simp only[ei]at f;split at f
  .injection f with f;subst f;have jG:vs= []:=ee (by simpa using z);exact⟨[],[],[],⟨jG,rfl,rfl⟩,⟨rfl,rfl⟩,List.Pairwise.nil,by simp,by simp,by simp,by simp,by simp,by simp,List.Sublist.refl _,by simp[kids]⟩
  .cases f
 | .v t agg::ps,xs,vs,A,z,C,L,N,f=>by
  simp only[ei]at f;split at f
  .rename_i x xs;split at f
   .rename_i d m r A' H O;injection f with f;subst f
    match vs,z with
    |v::vs,z=>
     cases S:cellsOf agg x with
     |none=>simp[S]at H
     |some V=>
      simp[S]at H;obtain⟨n1,W,Z⟩:=dm.1 N;obtain⟨T,g1,g2,g3,g4,g5⟩:=Ht h P (C 0 x v rfl rfl) (L.mono (λi a=>Xm _ a)) n1 S H;obtain⟨K,J,Q,l⟩:=o5 h P ps xs vs A' (by simpa using z) (λj y u s I=>C (j+1) y u (by simpa using s) (by simpa using I)) (L.mono (λi a=>Xi _ a)) W O;refine⟨T++K,J,Q,⟨v,vs,T,K,rfl,rfl,g1,l.args⟩,l.kept,nO h g2 l.sep g3 (λq B b o E=>DT b o (l.tk q B b o E)) (λi a s=>Z i a i s rfl),λq B=>?_,λp M=>Xi _ (l.bx p M),λi a=>?_,λi a=>?_,λi a=>?_,λi a=>?_,List.Sublist.trans l.sub (Xgh _ _),λi a R=>?_⟩
      .rcases Xo.1 B with B|B
       .exactλb o E=>Np (λi a=>Xm _ a) (λp M R=>Z _ R _ (l.bx p M) rfl) b o (g3 q B b o E)
       .exactλb o E=>Hu (λi a=>Xi _ a) (λp M=>.inl M) b o (l.tk q B b o E)
      .rcases Xo.1 a with a|a
       .exact g4 i a
       .exact l.live i a
      .rcases Xo.1 a with a|a
       .exact g5 i a
       .exact l.lent i a
      .rcases Xo.1 a with a|a
       .exact Xm _ a
       .exact Xi _ (l.mv i a)
      .rcases Xo.1 a with a|a
       .exact .inl (Xm _ a)
       .rcases l.mvk i a with a|a
        .exact .inl (Xi _ a)
        .exact .inr a
      .rcases Xo.1 R with R|R
       .exact Z _ R _ (l.sub.subset a) rfl
       .exact l.dis i a R
   .cases f
  .cases f
 | .box t::ps,xs,vs,A,z,C,L,N,f=>by
  simp only[ei]at f;split at f
  .rename_i id off xs;split at f
   .rename_i V U;split at f
    .rename_i d m A' H O;injection f with f;subst f
     match vs,z with
     |v::vs,z=>
      obtain⟨n1,W⟩:=cx.1 N;obtain⟨K,J,Q,l⟩:=o5 h P ps xs vs A' (by simpa using z) (λj y u s I=>C (j+1) y u (by simpa using s) (by simpa using I)) L (dm.1 W).2.1 O;obtain⟨b,T,rfl,bL,k1,_,k2,k3,k4,k5,k6,k7,k8,k9,Y,kD⟩:=Vz h P (C 0 _ v rfl rfl).1 U H N l;exact⟨_,_,_,⟨b,_,vs,T,K,J,rfl,rfl,rfl,k1,l.args⟩,⟨_,_,_,_,rfl,rfl,k2,k3⟩,k4,k5,k6,k7,l.lent,k8,k9,Y,kD⟩
    .cases f
   .cases f
  .cases f
 | .vj _::_,_,_,_,_,_,_,_,f=>by simp only[ei]at f;cases f
 | .boxal t lf::ps,xs,vs,A,z,C,L,N,f=>by
  simp only[ei]at f;split at f
  .rename_i id off y xs;split at f
   .rename_i V U;split at f
    .rename_i d m A' i H O X;injection f with f;subst f
     match vs,z with
     |v::u::vs,z=>
      obtain⟨n1,W⟩:=cx.1 N;obtain⟨K,J,Q,l⟩:=o5 h P ps xs vs A' (by simpa using z) (λj y u s I=>C (j+2) y u (by simpa using s) (by simpa using I)) L (dm.1 W).2.1 O;obtain⟨b,T,rfl,bL,k1,kl,k2,k3,k4,k5,k6,k7,k8,k9,Y,kD⟩:=Vz h P (C 0 _ v rfl rfl).1 U H N l;obtain⟨c,S,X⟩:=jP.1 X;obtain⟨k,hk,S⟩:=jP.1 S;obtain⟨r,b',rfl,e1,e2,rfl⟩:=Wr6 h (C 1 y u rfl rfl) X;obtain⟨pc,e3,e4⟩:=kl lf k r hk S;exact⟨_,_,_,⟨b,_,b',pc,vs,T,K,J,by rw[e4],rfl,rfl,k1,e3,by rw[e4];exact e1,by rw[e4];exact e2,l.args⟩,⟨_,_,_,_,rfl,rfl,k2,k3⟩,k4,k5,k6,k7,l.lent,k8,k9,Y,kD⟩
    .cases f
   .cases f
  .cases f
 | .mut e::ps,xs,vs,A,z,C,L,N,f=>by
  simp only[ei]at f;split at f
  .rename_i id xs;split at f
   .rename_i e' ys U;split at f
    .rename_i d A' H O;injection f with f;subst f;obtain⟨he,hd⟩:=j3 H;subst he;simp only at hd;subst hd
     match vs,z with
     |v::vs,z=>
      obtain⟨⟨_,hv⟩,_⟩:=C 0 _ v rfl rfl;subst hv;obtain⟨n1,W⟩:=cx.1 N;have bh:Live objs id:=⟨_,U,by simp⟩;have bi:aq w (WD G w e') e'.size (ν id) ys (φ id):=h.ob _ _ U;obtain⟨K,J,Q,l⟩:=o5 h P ps xs vs A' (by simpa using z) (λj y u s I=>C (j+1) y u (by simpa using s) (by simpa using I)) L W O;refine⟨⟨ν id,φ id⟩::K,ν id::J,Q,⟨⟨ν id,φ id⟩,vs,K,J,rfl,rfl,rfl,vq P (Same.refl _ w) (λ_ _ E=>E) bi,l.args⟩,⟨id,_,J,ys,rfl,rfl,U,l.kept⟩,?_,λq B=>?_,λp M=>Xg _ (l.bx p M),λi a=>?_,l.lent,λi a=>Xg _ (l.mv i a),λi a=>?_,List.Sublist.cons_cons _ l.sub,λi a R=>?_⟩
      .refine nO h (n1:=[⟨ν id,φ id⟩]) (m:=[id]) (List.pairwise_singleton _ _) l.sep (λq B=>?_) (λq B b o E=>DT b o (l.tk q B b o E)) (λi a s=>n1 (by rw[←cq.1 a];exact s));rw[cq.1 B];exact FromL.one (by simp) bh
      .rcases Xq.1 B with rfl|B
       .exactλb o E=>⟨id,Xl ..,bh,E,λp M e=>Wy (by rw[←e];exact l.bx p M) n1⟩
       .exactλb o E=>Hu (λi a=>Xg _ a) (λp M=>.inl M) b o (l.tk q B b o E)
      .rcases Xq.1 a with rfl|a
       .exact bh
       .exact l.live i a
      .rcases Xq.1 a with rfl|a
       .exact .inr (Xl ..)
       .rcases l.mvk i a with a|a
        .exact .inl a
        .exact .inr (Xg _ a)
      .rcases Xq.1 a with rfl|a
       .exact n1 (l.mv _ R)
       .exact l.dis i a R
    .cases f
   .cases f
  .cases f
 | .clos g n::ps,xs,vs,A,z,C,L,N,f=>by
  simp only[ei]at f;split at f
  .rename_i g' caps xs;split at f
   .rename_i S;obtain⟨rfl,dw⟩:=S;cases l:ei ps (dl caps++xs) objs with
    |none=>simp[l]at f
    |some A'=>
     simp only[l,me,Option.some.injEq]at f;subst f
     match vs,z with
     |v::vs,z=>
      obtain⟨⟨cvs,hv,oR,ua⟩,_⟩:=C 0 _ v rfl rfl;subst hv;obtain⟨K,J,Q,D⟩:=o5 h P ps (dl caps++xs) (cvs++vs) A' (by simp[dl,oR];simpa using z) (λj y u s I=>by
       rw[fh]at s I;simp only[dl,Xu]at s;rw[oR]at I;split at s
       .rename_i ab;rw[Wf ab]at I;rw[d5]at s;obtain⟨id,cj,rfl⟩:=Xz.1 s;obtain⟨H,X,O⟩:=ua _ id u cj I;exact⟨⟨H,O⟩,X⟩
       .rename_i ab;rw[We ab]at I;exact C (j-caps.length+1) y u (by simpa using s) (by simpa using I)) L N l
      refine⟨K,J,Q,⟨cvs,vs,rfl,by rw[oR];exact dw,λu I=>?_,D.args⟩,D.kept,D.sep,D.tk,D.bx,D.live,D.lent,D.mv,D.mvk,D.sub,D.dis⟩;obtain⟨j,s⟩:=OX I;have ab:j<caps.length:=by rw[←oR];exact(dJ.1 s).1
      exact(ua j _ u (Xr ab) s).2.1
   .cases f
  .cases f
 | .kv t agg::ps,xs,vs,A,z,C,L,N,f=>by
  simp only[ei]at f;split at f
  .rename_i x xs;split at f
   .rename_i d m r A' H O;split at f
    .rename_i jN;injection f with f;subst f
     match vs,z with
     |v::vs,z=>
      cases S:cellsOf agg x with
      |none=>simp[S]at H
      |some V=>
       simp[S]at H;obtain⟨n1,W,Z⟩:=dm.1 N;have cg:Lent G' w φ objs r:=L.mono (λi a=>Xm _ a);obtain⟨_,_,_,_,g4,g5⟩:=Ht h P (C 0 x v rfl rfl) cg n1 S H;obtain⟨k1,k2⟩:=Uq h P (C 0 x v rfl rfl) cg S H jN;obtain⟨K,J,Q,l⟩:=o5 h P ps xs vs A' (by simpa using z) (λj y u s I=>C (j+1) y u (by simpa using s) (by simpa using I)) (L.mono (λi a=>Xi _ a)) W O;have kZ:kids (kp0 m++A'.kept)=m++kids A'.kept:=by simp only[kids,Xy];congr 1;exact Hb m
       have gp:∀q∈pcs ν φ m,CS.le q.fp (FromL φ objs m):=λq B=>by
        obtain⟨i,a,rfl⟩:=Xx.1 B;exact FromL.one a (g4 i a)
       have gs:Sep (fps (pcs ν φ m)):=by
        rw[NF];refine List.pairwise_map.2 (n1.imp_of_mem λ{i j} a s bP=>?_)
        exactλb o H O=>bP (h.inj i j b o (g4 i a) (g4 j s) H O)
       refine⟨pcs ν φ m++K,m.map ν++J,Q,⟨v,vs,pcs ν φ m,K,J,rfl,rfl,by rw[WxB],k1,l.args⟩,⟨m,A'.kept,J,rfl,rfl,k2,l.kept⟩,nO h gs l.sep gp (λq B b o E=>DT b o (l.tk q B b o E)) (λi a s=>Z i a i s rfl),λq B=>?_,λp M=>Xi _ (l.bx p M),λi a=>?_,λi a=>?_,λi a=>Xi _ (l.mv i a),λi a=>?_,by rw[kZ];exact List.Sublist.append (List.Sublist.refl _) l.sub,λi a R=>?_⟩
       .rcases Xo.1 B with B|B
        .exactλb o E=>Np (λi a=>Xm _ a) (λp M R=>Z _ R _ (l.bx p M) rfl) b o (gp q B b o E)
        .exactλb o E=>Hu (λi a=>Xi _ a) (λp M=>.inl M) b o (l.tk q B b o E)
       .rcases Xo.1 a with a|a
        .exact g4 i a
        .exact l.live i a
       .rcases Xo.1 a with a|a
        .exact g5 i a
        .exact l.lent i a
       .rw[kZ];rcases Xo.1 a with a|a
        .exact .inr (Xm _ a)
        .rcases l.mvk i a with a|a
         .exact .inl a
         .exact .inr (Xi _ a)
       .rw[kZ]at a;rcases Xo.1 a with a|a
        .exact Z _ a _ (l.mv i R) rfl
        .exact l.dis i a R
    .cases f
   .cases f
  .cases f
 | .rp t::ps,xs,vs,A,z,C,L,N,f=>by
  simp only[ei]at f;split at f
  .rename_i id off xs;split at f
   .rename_i V U;split at f
    .rename_i d r A' H O;split at f
     case isFalse=>cases f
     rename_i xB;injection f with f;subst f
     match vs,z with
     |v::vs,z=>
      obtain⟨K,J,Q,l⟩:=o5 h P ps xs vs A' (by simpa using z) (λj y u s I=>C (j+1) y u (by simpa using s) (by simpa using I)) (L.mono (λi a=>Xg _ (Xi _ a))) N O;obtain⟨⟨cj,b,bL,rfl⟩,_⟩:=C 0 _ v rfl rfl;have bh:Live objs id:=⟨_,U,by simp⟩;obtain⟨b',us,dg,bv,aK,ck,ip⟩:dQ G ν nx w id (φ id) (.box V):=h.ob _ _ U;rw[bL]at dg;injection dg with dg;subst dg;obtain⟨T,t1,t2,t3,t4,t5,_⟩:=ga h P t _ ((us.drop off).take t.size) d [] r ((ck.drop off).take _) (L.mono (λi a=>Xg _ (Xm _ a))) qC H;have xC:∀p∈T,Froz G' w p.fp:=λp M b o v E=>by
       obtain⟨i,a,_⟩:=t3 p M b o E;simp at a
      have jj:Enc G' t.ro (sE t d) ((us.drop off).take t.size):=vt (λ_ _ _ E=>E) t d _ T xC t1;have mS:=WI _ _ _ _ t1;have db:off+t.size<=V.length:=by
       have:=ck.1;rw[ca,kO]at mS;have:=mE t;omega
      have bI:nW G' b ((ν id).off+off) ((us.drop off).take t.size):=λj v s=>by
       have xD:j<t.size:=by have:=(dJ.1 s).1;omega
       rw[mc,Wf xD,ma]at s;have X:=aK _ v s;rw[←dN]at X;exact L id (Xl ..) bh b _ v (ip b _ ⟨rfl,by omega,by omega⟩) X
      exact⟨K,J,Q,⟨b,(ν id).off+off,(us.drop off).take t.size,vs,rfl,((nI t d _ T xB).1 t1).1,bI,l.args⟩,l.kept,l.sep,l.tk,l.bx,l.live,λi a=>by
       rcases Xq.1 a with rfl|a
       .exact bh
       .rcases Xo.1 a with a|a
        .exact t5 i a
        .exact l.lent i a,l.mv,l.mvk,l.sub,l.dis⟩
    .cases f
   .cases f
  .rename_i t' d' off xs;split at f
   .rename_i d A' H O;split at f
    case isFalse=>cases f
    rename_i xB;injection f with f;subst f
    match vs,z with
    |v::vs,z=>
     obtain⟨K,J,Q,l⟩:=o5 h P ps xs vs A' (by simpa using z) (λj y u s I=>C (j+1) y u (by simpa using s) (by simpa using I)) L N O;obtain⟨⟨b,o,V,rfl,e1,e2⟩,_⟩:=C 0 _ v rfl rfl;have ck:=iZ (ν:=ν) (nx:=nx) t' d' V e1;obtain⟨T,t1,t2,t3,t4,t5,_⟩:=ga h P t _ ((V.drop off).take t.size) d [] [] ((ck.drop off).take _) (λi a=>by simp at a) qC H;exact⟨K,J,Q,⟨b,o+off,(V.drop off).take t.size,vs,rfl,((nI t d _ T xB).1 t1).1,λj v s=>by
      rw[mc]at s;split at s
      .rw[ma]at s;rw[dN];exact P _ _ _ (e2 _ v s)
      .simp at s,l.args⟩,l.kept,l.sep,l.tk,l.bx,l.live,l.lent,l.mv,l.mvk,l.sub,l.dis⟩
   .cases f
  .cases f
end
theorem pn{G G'}{w}:∀(t) (d) (vs) (ns),t.noRo=true->WD G w t d vs ns->WD G' w t d vs ns
 | .own e,_,_,_,f,⟨p,g,i,j⟩=>⟨p,g,i,Hc (λx c q k=>WI e x c q k) (Same.refl _ w) (λ_ _ m=>m) (λx c q _ k=>pn e x c q f k) j⟩
 | .prod a b,_,_,_,f,⟨v1,v2,n,o,g,i,j,l⟩=>by
  simp only[Ty.noRo,Xh]at f;exact⟨v1,v2,n,o,g,i,pn a _ _ _ f.1 j,pn b _ _ _ f.2 l⟩
 | .int _,_,_,_,_,h=>h
 | .bool,_,_,_,_,h=>h
 | .str,_,_,_,_,h=>h
 | .slice _,_,_,_,f,_=>by simp[Ty.noRo]at f
theorem Wt4{G G'}{w}{e}{nu}{xs}{S}(d:e.noRo=true)(h:aq w (WD G w e) e.size nu xs S):aq w (WD G' w e) e.size nu xs S:=
 Hc (λx c q a=>WI e x c q a) (Same.refl _ w) (λ_ _ b=>b) (λx c q _ a=>pn e x c q d a) h
theorem L3{G G'}{w}{t}{d}{b o}{ns}(f:t.noRo=true)(h:nS G w t d b o ns):nS G' w t d b o ns:=by
 obtain⟨g,a,c,e⟩:=h;exact⟨g,a,c,pn _ _ _ _ f e⟩
theorem WtS{G G'}{w}{t}{agg}{d}{v}{ns}(a:t.noRo=true)(h:ez G w t agg d v ns):ez G' w t agg d v ns:=by
 unfold ez at h⊢;split
 .rename_i ha;rw[Wf ha]at h;obtain⟨e,b,c⟩:=h;exact⟨e,b,pn _ _ _ _ a c⟩
 .rename_i ha;rw[We ha]at h;exact pn _ _ _ _ a h
theorem Gm{G G'}{w}:∀(rs) (d) (vs) (k),rs.all PTy.freshR=true->pQ G w rs d vs k->pQ G' w rs d vs k
 | [],_,_,_,_,h=>h
 | .v t agg::rs,d,vs,k,a,⟨v,c,i,j,e,f,g,l⟩=>by
  simp only[d6,Xh]at a;exact⟨v,c,i,j,e,f,WtS a.1 g,Gm rs _ _ _ a.2 l⟩
 | .box t::rs,d,vs,k,a,⟨b,o,c,i,j,e,f,g,n⟩=>by
  simp only[d6,Xh]at a;exact⟨b,o,c,i,j,e,f,L3 a.1 g,Gm rs _ _ _ a.2 n⟩
 | .mut _::_,_,_,_,_,h=>h.elim
 | .clos _ _::_,_,_,_,_,h=>h.elim
 | .kv _ _::_,_,_,_,_,h=>h.elim
 | .rp _::_,_,_,_,_,h=>h.elim
 | .vj t::rs,d,vs,k,a,⟨p,u,c,i,j,e,m,f,g,l⟩=>by
  simp only[d6,Xh]at a;exact⟨p,u,c,i,j,e,m,f,pn _ _ _ _ a.1 g,Gm rs _ _ _ a.2 l⟩
 | .boxal _ _::_,_,_,_,_,h=>h.elim
theorem q8{G G'}{w}:∀(ps) (o) (d) (c) (f),ps.all PTy.fresh=true->ig G w ps o d c f->ig G' w ps o d c f
 | [],_,_,_,_,_,h=>h
 | .v _ _::ps,o,d,c,f,a,h=>by
  simp only[d6,Xh]at a;exact q8 ps o d c f a.2 h
 | .box t::ps,o,d,c,f,a,⟨b,n,g,i,p,r,j,k,l,m,q⟩=>by
  simp only[d6,Xh]at a;exact⟨b,n,g,i,p,r,j,k,l,L3 a.1 m,q8 ps _ _ _ _ a.2 q⟩
 | .mut e::ps,o,d,c,f,a,⟨s,g,i,j,k,l,m⟩=>by
  simp only[d6,Xh]at a;exact⟨s,g,i,j,k,Wt4 a.1 l,q8 ps _ _ _ _ a.2 m⟩
 | .clos _ _::ps,o,d,c,f,a,h=>by
  simp only[d6,Xh]at a;exact q8 ps o d c f a.2 h
 | .kv t _::ps,o,d,c,f,a,⟨p,g,i,u,j,k,l,m⟩=>by
  simp only[d6,Xh]at a;exact⟨p,g,i,u,j,k,pn _ _ _ _ a.1 l,q8 ps _ _ _ _ a.2 m⟩
 | .rp _::ps,o,d,c,f,a,h=>by
  simp only[d6,Xh]at a;exact q8 ps o d c f a.2 h
 | .vj _::_,_,_,_,_,_,h=>h.elim
 | .boxal t _::ps,o,d,c,f,a,⟨b,n,g,i,p,r,j,k,l,m,q⟩=>by
  simp only[d6,Xh]at a;exact⟨b,n,g,i,p,r,j,k,l,L3 a.1 m,q8 ps _ _ _ _ a.2 q⟩
theorem RS{objs}:∀(l) (id),id∉l->Wt (kill objs l) id=Wt objs id
 | [],id,_=>rfl
 |i::l,id,h=>by
  simp only[kill];rw[WM,We (λe=>h (by rw[e];exact Xl ..))];exact RS l id λa=>h (Xg _ a)
theorem Hy:∀{l},Sep l->∀{i j:Nat} {A B} {b o},l[i]?=some A->l[j]?=some B->A b o->B b o->i=j
 | [],_,i,j,A,B,b,o,a,_,_,_=>by simp at a
 |C::l,g,i,j,A,B,b,o,a,c,d,hb=>by
  obtain⟨e,f⟩:=Xw.1 g;cases i with
  |zero=>
   simp at a;subst a;cases j with
   |zero=>rfl
   |succ j=>
    simp at c;exact(e B (gz c) b o d hb).elim
  |succ i=>
   simp at a;cases j with
   |zero=>
    simp at c;subst c;exact(e A (gz a) b o hb d).elim
   |succ j=>
    simp at c;rw[Hy f a c d hb]
section
variable{w0:World}{F:CS}{nt:Slots}{G0 G G':GH}{ν:Nat->Nu}{φ:Nat->CS}{objs:af}{nx:Nat}{st ai:St}{a:Act}{w w':World}{P:Program}{T:Tab}
theorem Wrp{f g:Nat->Nu}:∀{l:List Nat},(∀i∈l,g i=f i)->l.map f=l.map g:=λ{l} h=>List.map_congr_left λi a=>(h i a).symm
theorem rm{ν'}{bx}:∀(ps) (a) (d),(∀i∈kids a,ν' i=ν i)->KeptOk objs ν bx ps a d->KeptOk objs ν' bx ps a d
 | [],_,_,_,h=>h
 | .v _ _::ps,a,d,c,h=>rm ps a d c h
 | .box t::ps,a,d,c,⟨k,j,y,f,l,m,⟨p,b,q,r,s,u,w⟩,n⟩=>by
  subst l;have e:=c k.id (Xl ..);exact⟨k,j,y,f,rfl,m,⟨p,b,q,r,by rw[e];exact s,by rw[e];exact u,by rw[e];exact w⟩,rm ps j f (λi g=>c i (Xg _ g)) n⟩
 | .mut e::ps,a,d,c,⟨id,j,f,A,l,m,x,n⟩=>by
  subst l;exact⟨id,j,f,A,rfl,by rw[c id (Xl ..)];exact m,x,rm ps j f (λi g=>c i (Xg _ g)) n⟩
 | .clos _ _::ps,a,d,c,h=>rm ps a d c h
 | .kv t _::ps,a,d,c,⟨o,i2,f,l,m,x,n⟩=>by
  subst l;have z:kids (kp0 o++i2)=o++kids i2:=by simp only[kids,Xy];congr 1;exact Hb o
  rw[z]at c;exact⟨o,i2,f,rfl,by rw[m,Wrp (λi g=>c i (Xm _ g))],x,rm ps i2 f (λi g=>c i (Xi _ g)) n⟩
 | .rp _::ps,a,d,c,h=>rm ps a d c h
 | .vj _::_,_,_,_,h=>h.elim
 | .boxal t _::ps,a,d,c,⟨k,j,y,f,l,m,⟨p,b,q,r,s,u,w⟩,n⟩=>by
  subst l;have e:=c k.id (Xl ..);exact⟨k,j,y,f,rfl,m,⟨p,b,q,r,by rw[e];exact s,by rw[e];exact u,by rw[e];exact w⟩,rm ps j f (λi g=>c i (Xg _ g)) n⟩
theorem NK(d:Rel w0 F nt G0 G ν st a w):∀(l) (xs),evs st l=some xs->xs.length=l.length/\
  ∀(j:Nat) (x) (v),xs[j]?=some x->(l.map a.eval)[j]?=some v->AValRel G ν st.nx x v
 | [],xs,h=>by simp[evs]at h;subst h;exact⟨rfl,λj x v b=>by simp at b⟩
 |o::l,xs,h=>by
  simp only[evs]at h;split at h
  .rename_i y ys h1 h2;injection h with h;subst h;obtain⟨e,f⟩:=NK d l ys h2;refine⟨by simp[e],λj x v b c=>?_⟩;cases j with
   |zero=>simp at b c;subst b c;exact WO d o _ h1
   |succ j=>exact f j x v (by simpa using b) (by simpa using c)
  .simp at h
theorem Vs{o}{c}{f}{g}{caps}(n:o.op= .call c)(i:c.callee= .value f)(m:a.eval f= .func (.func g) #[] caps.toArray)(p:DG P g):
  (execOp a.eval o).run P w= .ok (.enter g (c.args.toList.map a.eval++caps).toArray) w:=by
 obtain⟨q,j,k,l⟩:=p;obtain⟨h,b,d⟩:=c;simp only at i;subst i;have e:(#[]++b.map a.eval++caps.toArray)=(b.toList.map a.eval++caps).toArray:=by
  apply Array.ext';simp
 simp only[execOp,n,resolve,Deferred.ofValue,m,Sem.run_bind,Sem.run_pure,Result.andThen_ok,invoke,callFunc,run_program,j,k,l,dL,dO,e]
theorem Wu4{b o k}{vs us}(f:Mem w b o vs)(h:Mem w' b (o+k) us)(l:k+us.length<=vs.length)(e:∀j,j<vs.length->¬(k<=j/\j<k+us.length)->w'.cell? ⟨b,o+j,none⟩=w.cell? ⟨b,o+j,none⟩):
  Mem w' b o (vs.take k++us++vs.drop (k+us.length)):=λj v a=>by
 have d:∀v',vs[j]?=some v'->¬(k<=j/\j<k+us.length)->w'.cell? ⟨b,o+j,none⟩=some v':=λv' c g=>by
  rw[e j (dJ.1 c).1 g];exact f j v' c
 have i:(vs.take k).length=k:=by simp;omega
 rw[fX,fh,i]at a;split at a
 .rename_i ab;rw[mc,Wf ab]at a;exact d v a (by omega)
 .rw[fh]at a;split at a
  .have:=h (j-k) v a;rw[show o+j=o+k+(j-k) by omega];exact this
  .rw[ma,show k+us.length+(j-k-us.length)=j by omega]at a;exact d v a (by omega)
theorem MP{Γ}(hΓ:eC P Γ){sg}(dT:sg.inl=none)(hr:Rel w0 F nt G0 G ν st a w){o:Oper}(hd:∀d,o.dst=some d->nt.Ok d){c}{f}{g}{cvs}{xs}{R}{k:St->Option R}{r}
  (ho:o.op= .call c) (hc:c.callee= .value f) (rb:a.eval f= .func (.func g) #[] cvs.toArray) (oS:Wt Γ g=some sg) (ad:xs.length=(c.args.toList.map a.eval++cvs).length)
  (aX:∀(j:Nat) (x) (v),xs[j]?=some x->(c.args.toList.map a.eval++cvs)[j]?=some v->AValRel G ν st.nx x v)
  (h:nV sg st xs (λx objs nx=>k (({env:=st.env,objs:=objs,nx:=nx}:St).put o.dst x))=some r) {K} {Q}
  (hK:∀ai a' w' G' ν',Rel w0 F nt G0 G' ν' ai a' w'->k ai=some r->K a' w'):o.wp P a w K Q:=by
 obtain⟨dZ,fU⟩:=hΓ g sg oS;unfold wg at dZ;rw[dT]at dZ;dsimp only at dZ;unfold nV at h;split at h
 .rename_i A hA;split at h
  .rename_i bX;simp only[Xh]at bX;obtain⟨⟨bt,pM⟩,wI⟩:=bX;have bt:=(Gv _).1 bt;have pM:=UY pM;obtain⟨L,bJ,hk⟩:=sg.law' A.d _ r h;dsimp only at hk;obtain⟨φ,z⟩:=hr.h;have jI:=z.addG_le A.lent;have hG1w:=z.addG_w A.lent;obtain⟨ns,ks,bx,M⟩:=o5 z jI sg.ps _ (c.args.toList.map a.eval++cvs) A ad.symm aX (λid cj C=>(ML _).mono (FromL.one cj C)) bt hA;have I:∀b o,Of ns b o->Tk φ st.objs bx A.all b o:=λb o ⟨q,hq,N⟩=>M.tk q hq b o N;have dF:∀q∈ns,∀b l,q.fp b l->lS G w (FromL φ st.objs A.lent) b l=none/\b<w.heap.size:=λq hq b l N=>by
    obtain⟨i,J,m,s,_⟩:=M.tk q hq b l N;refine⟨?_,z.bl i b l m s⟩;rw[rG (λ⟨j,hj,B,h4⟩=>by
     have:=z.inj i j b l m B s h4;subst this;exact pM _ hj J)]
    exact z.gf i b l m s
   have kE:=dZ A.d L bJ _ w _ ns _ M.args M.sep dF hG1w;unfold Oper.wp;rw[Vs ho hc rb fU,Oper.upon_enter];refine kE.mono λe w' mT=>?_;obtain⟨rv,O,D,E,G2,rfl,n⟩:=mT;simp only;have hG3:∃T:GH,GLe G T/\(∀b l v,T b l=some v->w'.cell? ⟨b,l,none⟩=some v)/\pQ T w' sg.rs L.2 rv E/\ig T w' sg.ps L.1 ks O D/\
     GExt w0.heap.size F G0 T/\(∀S∈O++fps (D++E),∀b l,S b l->T b l=none)/\(∀id b l,Live st.objs id->φ id b l->¬Tk φ st.objs bx A.all b l->T b l=none):=by
    by_cases bk:A.lent= []
    .have hGG:lS G w (FromL φ st.objs A.lent)=G:=by
      rw[bk];funext b l;exact rG (λ⟨i,J,_⟩=>by simp at J)
     rw[hGG]at n;refine⟨G2,n.gx.le,n.g,n.res,n.outs,⟨λb o v Y=>n.gx.le b o v (hr.gx.le b o v Y),λb o v Y=>?_⟩,λS hS b l N=>(n.own S hS b l N).1,λid b l C u hn=>?_⟩
     .rcases n.gx.new b o v Y with m|m|m
      .exact hr.gx.new b o v m
      .exact .inr (.inl (eO z.le.size m))
      .obtain⟨i,J,s,B,_⟩:=I b o m;exact .inr (z.own i b o s B)
     .cases Y:G2 b l with
      |none=>rfl
      |some v=>
       rcases n.gx.new b l v Y with m|m|m
       .rw[z.gf id b l C u]at m;cases m
       .have:=z.bl id b l C u;omega
       .exact Wy (I b l m) hn
    .have jm:sg.fresh=true:=by
      rcases Bool.or_eq_true_iff.1 wI with m|m
      .exact m
      .exact Wy (by simpa using m) bk
     unfold Sig.fresh at jm;simp only[Xh]at jm;refine⟨G,λ_ _ _ N=>N,λb o v Y=>n.g b o v (n.gx.le b o v (jI b o v Y)),Gm _ _ _ _ jm.1 n.res,q8 _ _ _ _ _ jm.2 n.outs,hr.gx,λS hS b l N=>?_,λid b l C u _=>z.gf id b l C u⟩;cases Y:G b l with
     |none=>rfl
     |some v=>
      have:=n.gx.le b l v (jI b l v Y);rw[(n.own S hS b l N).1]at this;cases this
   obtain⟨T,xE,xF,kF,ud,xG,xH,xI⟩:=hG3;obtain⟨ν2,hν2⟩:∃ν2:Nat->Nu,ν2= λi=>if i<st.nx then ν i else((nus (D++E))[i-st.nx]?).getD ⟨none,0,0,0,0⟩:=⟨_,rfl⟩;obtain⟨W,V⟩:∃W:Nat->CS,W= λi=>if i<st.nx then(λb o=>(∃(j:Nat) (S:CS),(kids A.kept)[j]?=some i/\O[j]?=some S/\S b o)\/(φ i b o/\¬Tk φ st.objs bx A.all b o))else((fps (D++E))[i-st.nx]?).getD (λ_ _=>False):=⟨_,rfl⟩;have t:ni st.nx ν ν2:=λi J=>by rw[hν2];simp[J]
   have hAt:At ν2 W st.nx (D++E):=λj pc hj=>by
    have e1:(nus (D++E))[j]?=some pc.nu:=by unfold nus;rw[d5,hj];rfl
    have e2:(fps (D++E))[j]?=some pc.fp:=by unfold fps;rw[d5,hj];rfl
    rw[hν2,V];simp only;rw[We (by omega),We (by omega),sL,e1,e2];exact⟨rfl,rfl⟩
   have pN:∀i∈kids A.kept,i<st.nx:=λi J=>z.lt i (M.live i (M.sub.subset J));have pO:(kids A.kept).Nodup:=bt.sublist M.sub;obtain⟨BT,BU,pP⟩:=q7 (ν:=ν2) (φ:=W) (bx:=bx) st.objs sg.ps L.1 A.kept ks O D (kill st.objs A.moved) st.nx (st.nx+D.length+E.length) ud (rm _ _ _ (λi J=>t i (pN i J)) M.kept) hAt.left pO (λq hq=>by
    have oO:q.id∈kids A.kept:=eG hq;exact⟨pN _ oO,RS _ _ (M.dis _ oO)⟩) (by omega)
   generalize u:dy sg.ps L.1 A.kept (kill st.objs A.moved) st.nx=p at*;obtain⟨xC,BV,BW⟩:=Gl (ν:=ν2) (φ:=W) sg.rs L.2 rv E p.1 (st.nx+D.length) (st.nx+D.length+E.length) kF (hAt.right rfl) (by omega);rw[BT]at hk;generalize hq:ep sg.rs L.2 p.1 (st.nx+D.length)=q at*;have kG:∀id ob,Wt q.2.1 id=some ob->ob≠ .dead->
     (st.nx<=id/\id<st.nx+D.length+E.length/\ZE T ν2 W w' (st.nx+D.length+E.length) id ob)\/
     (∃(j:Nat) (S:CS),(kids A.kept)[j]?=some id/\O[j]?=some S/\D3 T ν2 w' st.objs bx (st.nx+D.length+E.length) id S ob)\/(Wt st.objs id=some ob/\id∉A.all):=λid ob C U=>by
    rcases BV id ob C with⟨m,s,B⟩|m
    .exact .inl ⟨by omega,s,B⟩
    .rcases pP id ob m with⟨s,B,h4⟩|s|⟨s,B⟩
     .exact .inl ⟨s,by omega,.inl h4⟩
     .exact .inr (.inl s)
     .obtain⟨h4,h5⟩:=Dv A.moved id ob s U;exact .inr (.inr ⟨h4,λhm=>by rcases M.mvk id hm with X|X;exact h5 X;exact B X⟩)
   have cF:∀id b l,Live q.2.1 id->W id b l->
     (∃(y:Nat) (S:CS),(O++fps (D++E))[y]?=some S/\S b l/\id=(if y<O.length then((kids A.kept)[y]?).getD 0 else st.nx+(y-O.length)))\/
     (Live st.objs id/\φ id b l/\¬Tk φ st.objs bx A.all b l/\id<st.nx):=λid b l ⟨ob,C,U⟩ u=>by
    have rc:id<st.nx->Live st.objs id:=λH=>by
     rcases kG id ob C U with⟨m,_⟩|⟨j,S,m,_⟩|⟨m,_⟩
     .omega
     .exact M.live id (M.sub.subset (gz m))
     .exact⟨ob,m,U⟩
    rw[V]at u
    try simp only at u
    by_cases H:id<st.nx
    .rw[Wf H]at u;rcases u with⟨j,S,m,s,B⟩|⟨m,s⟩
     .left;have hj:j<O.length:=(dJ.1 s).1;refine⟨j,S,by rw[Ib hj];exact s,B,?_⟩;rw[Wf hj,m];rfl
     .exact .inr ⟨rc H,m,s,H⟩
    .rw[We H]at u;left;cases hS:(fps (D++E))[id-st.nx]? with
     |none=>rw[hS]at u;exact u.elim
     |some S=>
      rw[hS]at u;refine⟨O.length+(id-st.nx),S,by rw[wE (by omega),sL];exact hS,u,?_⟩;rw[We (by omega)];omega
   have bi:=n.own;have ld:∀{y:Nat} {S:CS},(O++fps (D++E))[y]?=some S->S∈O++fps (D++E):=λh=>gz h;have hH:HR w0 F T ν2 W q.2.1 (st.nx+D.length+E.length) w':={
    g:=xF
    ob:=λid ob C=>by
     by_cases U:ob= .dead
     .subst U;trivial
     .rcases kG id ob C U with⟨m,s,⟨e,xs,rfl,B⟩|⟨cs,b,us,rfl,B,h4,h5,X,h7⟩⟩|⟨j,S,m,s,B⟩|⟨m,s⟩
      .exact B
      .exact⟨b,us,B,h4,h5,X,h7⟩
      .have cj:id∈kids A.kept:=gz m;have H:=pN id cj;have bh:Live st.objs id:=M.live id (M.sub.subset cj);have hSφ:CS.le S (W id):=λb o N=>by
        rw[V];(try simp only);rw[Wf H];exact .inl ⟨j,S,m,s,N⟩
       rcases B with⟨oP,l,ds,b,us,g1,rfl,g2,g3,g4,g5,rfl,g6⟩|⟨e,ys,xs,g1,rfl,g2⟩
       .rw[t id H]at g3 g4 g6 hSφ;obtain⟨b',vs,e1,e2,e3,e4,e5⟩:dQ G ν st.nx w id (φ id) (.box oP):=z.ob _ _ g1;rw[g3]at e1;injection e1 with e1;subst e1;have eS:us.length=ds.length:=g5.1;have sY:vs.length=oP.length:=e4.1;have jO:∀o,(ν id).off<=o->o<(ν id).off+oP.length->¬((ν id).off+l<=o/\o<(ν id).off+l+ds.length)->φ id b o/\¬Tk φ st.objs bx A.all b o:=λo k1 k2 k3=>by
         have hφo:=e5 b o ⟨rfl,k1,k2⟩;refine⟨hφo,λ⟨i,J,k4,k5,k6⟩=>?_⟩;have:=z.inj i id b o k4 bh k5 hφo;subst this;obtain⟨_,k7,k8⟩:=k6 _ g6 rfl;exact k3 ⟨k7,k8⟩
        refine⟨b,_,by rw[t id H];exact g3,by rw[t id H,Gt g2];exact n.le.rows.row _ _ e2,?_,Gs (e4.mono xE t (by omega)) g5,?_⟩
        .rw[t id H];refine Wu4 e3 g4 (by omega) (λj hj hn=>?_);obtain⟨k1,k2⟩:=jO ((ν id).off+j) (by omega) (by omega) (λ⟨k3,k4⟩=>hn ⟨by omega,by omega⟩);exact n.le.cell b _ (z.bl id b _ bh k1) (λre=>k2 (I b _ re))
        .rw[t id H,Gt g2];intro b' o ⟨k0,k1,k2⟩;subst k0;by_cases dT:(ν id).off+l<=o/\o<(ν id).off+l+ds.length
         .exact hSφ b' o ⟨rfl,dT.1,dT.2⟩
         .rw[V];(try simp only);rw[Wf H];exact .inr (jO o k1 k2 dT)
       .exact vq (λ_ _ _ N=>N) (Same.refl _ w') hSφ g2
      .have pG:Live st.objs id:=⟨ob,m,U⟩;have H:=z.lt id pG;have AO:∀b o,φ id b o->¬Tk φ st.objs bx A.all b o:=λb o u ⟨i,J,k1,k2,_⟩=>by
        have:=z.inj i id b o k1 pG k2 u;subst this;exact s J
       refine C9 xE (n.le.same (λb o re u=>AO b o u (I b o re)) (λb o u=>z.bl id b o pG u)) (λb o u=>?_) t (by omega) H ob (z.ob id ob m);rw[V];(try simp only);rw[Wf H];exact .inr ⟨u,AO b o u⟩
    gf:=λid b l C u=>by
     rcases cF id b l C u with⟨y,S,m,s,_⟩|⟨m,s,B,_⟩
     .exact xH S (ld m) b l s
     .exact xI id b l m s B
    inj:=λid Z b l C fA u fK=>by
     have key:∀Z,Live st.objs Z->φ Z b l->¬Tk φ st.objs bx A.all b l->∀(y:Nat) (S:CS),(O++fps (D++E))[y]?=some S->S b l->False:=λZ g1 g2 g3 y S g4 g5=>by
      rcases(bi S (ld g4) b l g5).2.1 with g6|g6
      .exact g3 (I b l g6)
      .have:=z.bl Z b l g1 g2;omega
     rcases cF id b l C u with⟨y,S,m,s,he⟩|⟨m,s,B,h4⟩<;>rcases cF Z b l fA fK with⟨xJ,S',mm,mn,pI⟩|⟨mm,mn,xk,h4'⟩
     .have:=Hy n.sep m mm s mn;subst this;rw[he,pI]
     .exact(key Z mm mn xk y S m s).elim
     .exact(key id m s B xJ S' mm mn).elim
     .exact z.inj id Z b l m mm s mn
    own:=λid b l C u=>by
     rcases cF id b l C u with⟨y,S,m,s,_⟩|⟨m,s,B,_⟩
     .rcases(bi S (ld m) b l s).2.1 with h5|h5
      .obtain⟨i,J,X,h7,_⟩:=I b l h5;exact z.own i b l X h7
      .exact .inl (eO z.le.size h5)
     .exact z.own id b l m s
    lt:=λid ⟨ob,C,U⟩=>by
     rcases kG id ob C U with⟨_,s,_⟩|⟨j,S,m,_⟩|⟨m,s⟩
     .exact s
     .have:=pN id (gz m);omega
     .have:=z.lt id ⟨ob,m,U⟩;omega
    bl:=λid b l C u=>by
     rcases cF id b l C u with⟨y,S,m,s,_⟩|⟨m,s,B,_⟩
     .exact(bi S (ld m) b l s).2.2
     .exact Nat.lt_of_lt_of_le (z.bl id b l m s) n.le.size
    le:=z.le.trans n.le (λb l re=>by
     obtain⟨i,J,X,h7,_⟩:=I b l re;exact z.own i b l X h7)}
   have hR:=hr.on xE t (by omega) ⟨W,hH⟩ xG;have hR2:=hR.put (dst:=o.dst) hd (Wug BW);rw[xC]at hk;exact hK _ _ _ _ _ hR2 hk
  .cases h
 .cases h
theorem WxZ{Γ}(B:eC P Γ){sg}(p:sg.inl=none)(l:Rel w0 F nt G0 G ν st a w){o:Oper}(u:∀d,o.dst=some d->nt.Ok d){c}{f}{g}{caps}{xs}{R}{k:St->Option R}{r}
  (z:o.op= .call c) (t:c.callee= .value f) (O:ev st f=some (.s (.one (.clos g caps)))) (U:evs st c.args.toList=some xs) (C:Wt Γ g=some sg)
  (h:si sg st (xs++dl caps) (λx objs nx=>k (({env:=st.env,objs:=objs,nx:=nx}:St).put o.dst x))=some r) {K} {Q}
  (q:∀ai E w' G' ν',Rel w0 F nt G0 G' ν' ai E w'->k ai=some r->K E w'):o.wp P a w K Q:=by
 obtain⟨⟨i,D,J,T⟩,_⟩:=WO l f _ O;obtain⟨I,V⟩:=NK l _ _ U;have n:(xs++dl caps).length=(c.args.toList.map a.eval++i).length:=by simp[I,dl,J]
 have m:∀(j:Nat) (x:AVal) (v:Value),(xs++dl caps)[j]?=some x->(c.args.toList.map a.eval++i)[j]?=some v->AValRel G ν st.nx x v:=λj x v b e=>by
  rw[fh]at b e;rw[Xu,←I]at e;split at b
  .rename_i ab;rw[Wf ab]at e;exact V j x v b e
  .rename_i ab;rw[We ab]at e;simp only[dl,d5]at b;cases hcj:caps[j-xs.length]? with
   |none=>simp[hcj]at b
   |some id=>
    simp[hcj]at b;subst b;obtain⟨L,N,M⟩:=T _ id v hcj e;exact⟨⟨L,M⟩,N⟩
 unfold si at h;cases wI:sg.fresh with
 |true=>
  rw[wI]at h;exact MP B p l u z t D C n m h q
 |false=>
  rw[wI]at h;simp only[Wb]at h;split at h
  .rename_i A hA;split at h
   .exact MP B p l u z t D C n m h q
   .obtain⟨W,H⟩:=l.frz A.lent;refine MP B p H.rel u z t D C (by simpa using n) (λj x v b e=>?_) h q;rw[d5]at b;obtain⟨y,S,rfl⟩:=Xz.1 b;exact H.val y v (m j y v S e)
  .cases h
theorem TL:∀(xs) (k i) (x),Wt (ki k xs) i=some x->k<=i/\xs[i-k]?=some x
 | [],k,i,x,h=>by simp[ki,Wt]at h
 |y::xs,k,i,x,h=>by
  simp only[ki]at h;rw[WM]at h;split at h
  .rename_i e;subst e;injection h with h;subst h;simp
  .obtain⟨b,a⟩:=TL xs (k+1) i x h;refine⟨by omega,?_⟩;rw[show i-k=(i-(k+1))+1 by omega];simpa using a
theorem Te:∀(xs) (k),(ki k xs).length=xs.length
 | [],_=>rfl
 |_::xs,k=>by simp[ki,Te xs]
theorem WvS{Γ}(W:eC P Γ){sg}{i}(J:sg.inl=some i)(n:Rel w0 F nt G0 G ν st a w){o:Oper}(T:∀d,o.dst=some d->nt.Ok d){c}{f}{g}{caps}{xs}{R}{k:St->Option R}{r}
  (V:o.op= .call c) (S:c.callee= .value f) (U:ev st f=some (.s (.one (.clos g caps)))) (oT:evs st c.args.toList=some xs) (oS:Wt Γ g=some sg)
  (h:i.fn R {env:=ki 0 (xs++dl caps),objs:=st.objs,nx:=st.nx} (λx objs nx=>k (({env:=st.env,objs:=objs,nx:=nx}:St).put o.dst x))=some r) {K} {Q}
  (N:∀ai C w' G' ν',Rel w0 F nt G0 G' ν' ai C w'->k ai=some r->K C w'):o.wp P a w K Q:=by
 obtain⟨⟨p,rb,L,Z⟩,_⟩:=WO n f _ U;obtain⟨E,xK⟩:=NK n _ _ oT;have I:(xs++dl caps).length=(c.args.toList.map a.eval++p).length:=by simp[E,dl,L]
 have H:∀(j:Nat) (x:AVal) (v:Value),(xs++dl caps)[j]?=some x->(c.args.toList.map a.eval++p)[j]?=some v->AValRel G ν st.nx x v:=λj x v b l=>by
  rw[fh]at b l;rw[Xu,←E]at l;split at b
  .rename_i y;rw[Wf y]at l;exact xK j x v b l
  .rename_i y;rw[We y]at l;simp only[dl,d5]at b;cases hcj:caps[j-xs.length]? with
   |none=>simp[hcj]at b
   |some id=>
    simp[hcj]at b;subst b;obtain⟨z,q,m⟩:=Z _ id v hcj l;exact⟨⟨z,m⟩,q⟩
 obtain⟨A,M⟩:=W g sg oS;unfold wg at A;rw[J]at A;dsimp only at A;rw[i.law]at h;obtain⟨t,wG,pK⟩:=jP.1 h;have X:=A _ (c.args.toList.map a.eval++p) t wG (by simp only[Te];omega) w0 F G0 G ν (λx v=>nt.ex x v\/∃j,Wt st.env j=some x/\a.tmps[j]?=some v) w (λj x b=>by
   obtain⟨_,m⟩:=TL _ _ _ _ b;have m:(xs++dl caps)[j]?=some x:=by simpa using m
   have y:j<(c.args.toList.map a.eval++p).length:=by rw[←I];exact(dJ.1 m).1
   exact⟨_,Xr y,H j x _ m (Xr y)⟩) n.h n.gx (λx v l=>by
   rcases l with l|⟨j,z,m⟩
   .exact n.ex x v l
   .obtain⟨u,q,B⟩:=n.env j x z;rw[m]at q;injection q with q;subst q;exact B)
 unfold Oper.wp;rw[Vs V S rb M,Oper.upon_enter];refine X.mono λe w' Y=>?_;obtain⟨rv,G',ν',rfl,z,m,q,B⟩:=Y;simp only;have O:Rel w0 F nt G0 G' ν' {env:=st.env,objs:=t.2.1,nx:=t.2.2} a w':=⟨n.defers,n.ntm,n.par,λj x b=>by
  obtain⟨u,D,_⟩:=n.env j x b;exact⟨u,D,B x u (.inr ⟨j,b,D⟩)⟩,m,q,λx v l=>B x v (.inl l)⟩
 exact N _ _ _ _ _ (O.put (dst:=o.dst) T z) pK
end
section
variable{w0:World}{F:CS}{nt:Slots}{G0 G G':GH}{ν:Nat->Nu}{objs:af}{nx:Nat}{st ai:St}{a:Act}{w w':World}{P:Program}{T:Tab}{Γ:Ctx}
theorem Done.wp{o}{ai}(h:Done P w0 F nt G0 o a w ai){K}{Q}
  (d:∀b w' G' ν',Rel w0 F nt G0 G' ν' ai b w'->K b w'):o.wp P a w K Q:=by
 obtain⟨n,v,w',G',ν',e,f,c⟩:=h;unfold Oper.wp;rw[e];rcases f with rfl|⟨rfl,rfl⟩
 .exact d _ _ _ _ c
 .exact d _ _ _ _ c
theorem WnN{t}{x v}{ai}(h:mR T st t x v=some ai):({env:=st.env,objs:=ai.objs,nx:=ai.nx}:St)=ai:=by
 unfold mR at h;split at h
 .split at h
  .split at h
   .injection h with h;subst h;rfl
   .cases h
  .cases h
 .split at h
  .split at h
   .split at h
    .injection h with h;subst h;rfl
    .cases h
   .split at h
    .split at h
     .split at h
      .injection h with h;subst h;rfl
      .cases h
     .cases h
    .cases h
  .cases h
 .cases h
theorem W9{R:Type}{c}{x}{r:R}(h:(bif c then x else none)=some r):c=true/\x=some r:=by
 cases c
 .cases h
 .exact⟨rfl,h⟩
theorem i9{R:Type}{c}[Decidable c]{x}{r:R}(h:(if c then x else none)=some r):c/\x=some r:=by
 split at h
 .exact⟨by assumption,h⟩
 .cases h
theorem Wnd{e}{ps}{R}{k}{r:R}(h:nR st e ps k=some r):
  ∃x a d m,ps= [(0,x)]/\kq (se st.objs (r9 e x) x)=some a/\aC e a (pw st.objs (r9 e x))=some (d,m,[])/\en m=true/\
   k (.s (.one (.own st.nx))) ((st.nx,.arr e [d])::kill (pw st.objs (r9 e x)) m) (st.nx+1)=some r:=by
 match ps with
 | [p]=>
  simp only[nR]at h;obtain⟨f,h⟩:=i9 h;split at h
  .rename_i a g;split at h
   .rename_i d m c;obtain⟨b,h⟩:=i9 h;exact⟨p.2,a,d,m,by rw[←f],g,c,b,h⟩
   .cases h
  .cases h
 | []=>cases h
 |_::_::_=>cases h
theorem No(g:au P T)(j:Rel w0 F nt G0 G ν st a w){o:Oper}(i:∀d,o.dst=some d->nt.Ok d){R:Type}{k:St->Option R}{r}
  (h:(match b5 T st o.op with|some (c,v)=>bif c then k (({env:=st.env,objs:=st.objs,nx:=st.nx}:St).put o.dst v)else none|none=>none)=some r)
  {K} {Q} (f:∀ai b w' G' ν',Rel w0 F nt G0 G' ν' ai b w'->k ai=some r->K b w'):o.wp P a w K Q:=by
 split at h
 .rename_i c v hp;obtain⟨rfl,h⟩:=W9 h;exact(Wsu g j i hp).wp λb w' G' ν' e=>f _ _ _ _ _ e h
 .cases h
theorem On(H:au P T)(hΓ:eC P Γ)(z:Rel w0 F nt G0 G ν st a w){o:Oper}(D:∀d,o.dst=some d->nt.Ok d){A:List (Nat×An)}{R:Type}{k:St->Option R}{r:R}(h:rx1 T Γ A o st k=some r)
  {K:Act->World->Prop} {Q:Exit->Act->World->Prop} (C:∀ai E w' G' ν',Rel w0 F nt G0 G' ν' ai E w'->k ai=some r->K E w'):o.wp P a w K Q:=by
 unfold rx1 rxe at h;split at h
 .rename_i t ho;split at h
  .rename_i e n et hl;obtain⟨u,h⟩:=i9 h;simp only[Xh]at u;exact(Wly H z D ho hl u.1 u.2).wp λE w' G' ν' b=>C _ _ _ _ _ b h
  .rename_i O _ hl;obtain⟨u,h⟩:=i9 h;exact(Wrk H z D ho hl u).wp λE w' G' ν' b=>C _ _ _ _ _ b h
  .cases h
 .rename_i t x ho;split at h
  .rename_i O cs hl B;cases hv:ev st x with
   |none=>simp[hv]at B
   |some v=>
    simp only[hv,Xd]at B;exact(WvB z D ho hv B).wp λE w' G' ν' b=>C _ _ _ _ _ b h
  .cases h
 .rename_i t parts ho;split at h
  .rename_i ty fs ps hl cV;obtain⟨u,h⟩:=i9 h;split at h
   .rename_i cs J;refine(Wra H z D ho hl cV J ?_).wp λE w' G' ν' b=>C _ _ _ _ _ b h;intro f J;have:=bH.1 u f J;split at this
    .rename_i O cu;exact⟨O,cu,this⟩
    .cases this
   .cases h
  .cases h
 .rename_i t n parts ho;split at h
  .rename_i ty et ps hl cV;split at h
   .rename_i O bk;split at h
    .rename_i e _;obtain⟨u,h1⟩:=i9 h;clear h;simp only[Xh,Wh]at u;obtain⟨⟨⟨S,M⟩,I⟩,cS⟩:=u;obtain⟨x,ds,d,m,rfl,kc,J,V,h⟩:=Wnd h1;clear h1;subst S;have V:=(C3 _).1 V;obtain⟨Z,L⟩:=z.frz (r9 e x);obtain⟨Y,U⟩:=GO z _ _ cV;have fR:∃y,parts.toList= [(0,y)]/\AValRel G ν st.nx x (a.eval y):=by
      match eR:parts.toList,Y with
      | [q],_=>
       rw[eR]at U;obtain⟨q1,q2⟩:=U 0 _ q rfl rfl;refine⟨q.2,?_,q2⟩;have:q=(0,q.2):=Prod.ext q1.symm rfl;rw[←this]
     obtain⟨y,BX,BY⟩:=fR;exact(WmR H L.rel D ho BX hl bk (L.val _ _ BY) kc J V M I cS).wp λE w' G' ν' b=>C _ _ _ _ _ b h
    split at h
    .rename_i xs J;obtain⟨u,h⟩:=i9 h;simp only[Xh,Wh]at u;obtain⟨Z,L⟩:=z.frz (Hl ps);obtain⟨Y,U⟩:=GO z _ _ cV;exact(Wjc H L.rel D ho hl bk (by simpa [Nm]using Y) (λj p q I hq=>by
      simp only[Nm,d5]at I;obtain⟨y,hy,rfl⟩:=Xz.1 I;exact⟨(U j y q hy hq).1,L.val _ _ (U j y q hy hq).2⟩) J u.1.1 u.1.2 u.2).wp λE w' G' ν' b=>C _ _ _ _ _ b h
    .cases h
   .cases h
  .cases h
 .rename_i t n c ho;split at h
  .rename_i ty et n' c' hl S u;split at h
   .rename_i O bk;obtain⟨k1,xA⟩:∃k,a.eval n= .int k n':=by
     cases hv:ev st n with
     |none=>simp[hv]at S
     |some v=>simp only[hv,Xd]at S;exact vx _ _ _ (WO z n _ hv) S
    obtain⟨k2,pL⟩:∃k,a.eval c= .int k c':=by
     cases hv:ev st c with
     |none=>simp[hv]at u
     |some v=>simp only[hv,Xd]at u;exact vx _ _ _ (WO z c _ hv) u
    split at h
    .obtain⟨N,h⟩:=i9 h;obtain⟨B,h⟩:=W9 h;simp only[Xh,Wh]at B N;exact(Wjd H z D ho hl bk xA pL B.1.1 B.1.2 B.2 N.1 N.2).wp λE w' G' ν' b=>C _ _ _ _ _ b h
    .obtain⟨N,h⟩:=i9 h;obtain⟨B,h⟩:=W9 h;simp only[Xh,Wh]at B N;exact(WjV H z D ho hl bk xA pL B.1.1 B.1.2 B.2 N.1 N.2).wp λE w' G' ν' b=>C _ _ _ _ _ b h
   .cases h
  .cases h
 .rename_i t x y ho;split at h
  .rename_i p v I hv;split at h
   .rename_i ai hs;split at h
    .rename_i lF;have h:k (({env:=st.env,objs:=ai.objs,nx:=ai.nx}:St).put o.dst (.tup []))=some r:=h;obtain⟨Z,L⟩:=z.frz (vH st.objs p v);have cN:=WnN hs;simp only at cN;rw[cN,lF]at h;exact(Wr1 H L.rel ho lF (AValRel.mono L.le (λ_ _=>rfl) (Xj _) _ _ (WO z x _ I)) (L.val _ _ (WO z y _ hv)) hs).wp λE w' G' ν' b=>C _ _ _ _ _ b h
    .cases h
   .cases h
  .cases h
 .rename_i t x lo hi ho;split at h
  .rename_i id hx;split at h
   .rename_i ty et l hh hl bK ta;split at h
    .rename_i O bk;split at h
     .obtain⟨I,h⟩:=i9 h;obtain⟨ai,W,X⟩:=Wt7 H z D ho hx hl bk I bK ta h;exact X.wp λE w' G' ν' b=>C _ _ _ _ _ b W
     .split at h
      .rename_i h' e xs _ aO;obtain⟨⟨M,I⟩,h⟩:=i9 h;obtain⟨B,h⟩:=W9 h;simp only[Xh,Wh]at B;exact(WrV H z D ho hx hl bk I M aO bK ta B.1 B.2).wp λE w' G' ν' b=>C _ _ _ _ _ b h
      .rename_i h' e xs i p _ aO;obtain⟨⟨M,I,xz⟩,h⟩:=i9 h;obtain⟨B,h⟩:=W9 h;simp only[Xh,Wh]at B;exact(WjP H z D ho hx hl bk I M aO xz bK ta B.1.1 B.1.2 B.2).wp λE w' G' ν' b=>C _ _ _ _ _ b h
      .cases h
    .cases h
   .cases h
  .rename_i hx;exact No H z D (by rw[ho];rw[ho]at h;exact h) C
 .rename_i c ho;split at h
  .rename_i s x t t2 u ha fw;split at h
   .rename_i sv xv hs hx;obtain⟨ai,W,X⟩:=WoY H z D ho u ha fw hs hx h;exact X.wp λE w' G' ν' b=>C _ _ _ _ _ b W
   .cases h
  .rename_i x t u ha fw;split at h
   .rename_i id lo hi hx;split at h
    .rename_i ty et e xs hl aO;split at h
     .rename_i O bk;obtain⟨⟨M,I,bE⟩,h⟩:=i9 h;exact(WqT H z D ho u ha fw hx hl bk aO M I bE).wp λE w' G' ν' b=>C _ _ _ _ _ b h
     .cases h
    .cases h
   .cases h
  .exact No H z D h C
  .rename_i f args _ u;split at h
   .rename_i g caps xs J oT;split at h
    .rename_i sg oS;split at h
     .rename_i dT;exact WxZ hΓ dT z D ho u J oT oS h C
     .rename_i i dT;exact WvS hΓ dT z D ho u J oT oS h C
    .cases h
   .cases h
  .cases h
 .exact No H z D h C
end
section
variable{w0:World}{F:CS}{nt:Slots}{G0 G G':GH}{ν ν':Nat->Nu}{φ φ':Nat->CS}{objs objs':af}{nx am:Nat}{st ai:St}{a:Act}{w w':World}{P:Program}{T:Tab}{Γ:Ctx}
theorem Rel.rebind(h:Rel w0 F nt G0 G ν st a w){i:Nat}{x:AVal}{v:Value}(c:a.tmps[i]?=some v)(d:AValRel G ν st.nx x v):Rel w0 F nt G0 G ν (st.put (some i) x) a w:=
 ⟨h.defers,h.ntm,h.par,λj y b=>by
  simp only[St.put]at b;rw[WM]at b;split at b
  .rename_i e;subst e;injection b with b;subst b;exact⟨v,c,d⟩
  .exact h.env j y b,h.h,h.gx,h.ex⟩
theorem CellsRel.set{cs}{vs}(h:CellsRel G ν nx cs vs){off}{c}(f:∀v,vs[off]?=some v->CellRel G ν nx c v):CellsRel G ν nx (cs.set off c) vs:=by
 refine⟨by simp[h.1],λj d v a b=>?_⟩;rw[List.getElem?_set]at a;split at a
 .rename_i e;subst e;split at a
  .rename_i ab;injection a with a;subst a;exact⟨f v b,(h.2 off cs[off] v (Xr ab) b).2⟩
  .cases a
 .exact h.2 j d v a b
theorem HRel.mk_box(h:HRel w0 F G ν objs nx w){id}{cs dv}(e:Wt objs id=some (.box cs))(d:dv.length=cs.length)
  (l:∀a,CellsRel G ν nx cs a->CellsRel G ν nx dv a):HRel w0 F G ν ((id,.box dv)::objs) nx w:=by
 obtain⟨φ,h⟩:=h;have c:Live objs id:=⟨_,e,by simp⟩;obtain⟨b,a,f,g,i,j,k⟩:dQ G ν nx w id (φ id) (.box cs):=h.ob _ _ e;exact⟨_,h.put (ν':=ν) (m:=[]) (λ_ _=>rfl) (Xj _) (h.lt id c) (WLe.refl _ w) (λb o n=>.inl ⟨id,.inl rfl,c,n⟩) (λ_=>⟨b,a,f,by rw[d];exact g,i,l _ j,by rw[d];exact k⟩)⟩
theorem HRel.adopt(h:HRel w0 F G ν objs nx w)(e):HRel w0 F G (upd ν nx ⟨none,0,0,0,e.size⟩) ((nx,.arr e [])::objs) (nx+1) w:=by
 obtain⟨φ,h⟩:=h;refine⟨_,h.put (m:=[]) (S:=λ_ _=>False) (D0 ν nx _) (A9 _) (nj _) (WLe.refl _ w) (λb o a=>a.elim) (λ_=>?_)⟩;show aq _ _ _ (upd ν nx ⟨none,0,0,0,e.size⟩ nx) _ _;rw[fb];exact⟨rfl,rfl,rfl⟩
theorem Wq3(e:Ty):CellRel G (upd ν nx ⟨none,0,0,0,e.size⟩) (nx+1) (.own nx) (.slice none 0 0):=
 ⟨nj _,by rw[fb];rfl⟩
theorem Wo3(h:Rel w0 F nt G0 G ν st a w){p}(f:Nv st p=some ai):Rel w0 F nt G0 G ν ai a w:=by
 unfold Nv at f;split at f
 .rename_i r _;split at f
  .rename_i e xs i p' cs z B;split at f
   .rename_i d m hf;split at f
    .rename_i bX;injection f with f;subst f;simp only[Xh]at bX;obtain⟨y,t⟩:=bX;have y:=wS y;subst y;have t:=(C3 _).1 t;obtain⟨D,L⟩:=cx.1 t;obtain⟨M,N⟩:=cx.1 L;obtain⟨φ,g⟩:=h.h;have s:Live st.objs r:=⟨_,z,by simp⟩;have u:Live st.objs p:=⟨_,B,by simp⟩;obtain⟨U,q⟩:p<st.nx/\lR w (WD G w e) e.size (ν r) (ν p) xs i (φ r):=g.ob _ _ z;obtain⟨b,Q,K,R,H,A,C⟩:dQ G ν st.nx w p (φ p) (.box cs):=g.ob _ _ B;obtain⟨T,E,O,P,V,_⟩:=ga (G':=G) g (λ_ _ _ c=>c) e cs Q d m [] A (λi x=>by simp at x) N hf;have J:=WI _ _ _ _ E;rw[←A.1,J]at C;have I:r≠p:=λe=>D (by rw[e];exact Xl ..);refine h.on (λ_ _ _ c=>c) (λ_ _=>rfl) (Xj _) ⟨_,g.put (ν':=ν) (S:=λb o=>φ r b o\/FromL φ st.objs (p::m) b o) (λ_ _=>rfl) (Xj _) (g.lt r s) (WLe.refl _ w) (λb o c=>?_) (λ_=>?_)⟩ h.gx
     .rcases c with c|⟨j,n,k,l⟩
      .exact .inl ⟨r,.inl rfl,s,c⟩
      .exact .inl ⟨j,.inr n,k,l⟩
     .refine V4 q E K H C O P ?_ ?_ ?_ (λb o c=>.inl c) (λb o c=>.inr ⟨p,Xl ..,u,c⟩) (λb o c=>.inr (FromL.mono (λi x=>Xg _ x) b o c))
      .exactλb o k l=>I (g.inj r p b o s u k l)
      .exactλb o k ⟨j,n,l,v⟩=>by
        have:=g.inj r j b o s l k v;subst this;exact D (Xg _ n)
      .exactλb o k ⟨j,n,l,v⟩=>by
        have:=g.inj p j b o u l k v;subst this;exact M n
    .cases f
   .cases f
  .cases f
 .cases f
theorem Tz(h:Rel w0 F nt G0 G ν st a w){r i}{e}{xs}(bK:Wt st.objs r=some (.arr e xs))(hi:i<xs.length)(hg:Ai st r i=some ai):
  ∃ν' b,Rel w0 F nt G0 G ν' ai a w/\st.nx<ai.nx/\(ν r).blk=some b/\(ν' st.nx)=de b ((ν r).off+i*(ν r).esz)/\ai.env=st.env:=by
 unfold Ai at hg;rw[bK]at hg;simp only[Option.some.injEq]at hg;subst hg;obtain⟨φ,K⟩:=h.h;have P:Live st.objs r:=⟨_,bK,by simp⟩;have bi:aq w (WD G w e) e.size (ν r) xs (φ r):=K.ob _ _ bK;obtain⟨g1,g2,g3⟩:=bi;have xL:=K.lt r P;cases hb:(ν r).blk with
 |none=>simp only[hb]at g3;rw[g3]at hi;simp at hi
 |some b=>
  simp only[hb]at g3;obtain⟨g4,g5,g6,cs,ps,g7,g8,g9,ww⟩:=g3;obtain⟨c1,c,c2,U,pc,V,k1,k2,k3,k4,k5⟩:=NW g7 e.dflt hi;have l1:=ia (λx c q hx=>WI e x c q hx) _ _ _ k3;rw[ca,mg (by omega)]at l1;have lc:=WI _ _ _ _ k4;have lo:=gG _ _ _ _ k4;have e1:(i+1)*e.size=i*e.size+e.size:=fC i e.size;have e2:((ν r).cap-(i+1))*e.size+(i+1)*e.size=(ν r).cap*e.size:=by rw[←kR];congr 1;omega
  have ue:=j6 e (xs.getD i e.dflt) (st.nx+1);have eS:=vi e (xs.getD i e.dflt) (st.nx+1);rw[k1]at g8;have m1:Mem w b (ν r).off c1:=g8.left;have m2:Mem w b ((ν r).off+i*e.size) c:=(g8.right l1).left;have m3:Mem w b ((ν r).off+(i+1)*e.size) c2:=by
   have:=(g8.right l1).right lc;rw[dN,←e1]at this;exact this
  obtain⟨q1,q2⟩:=Xw.1 g9;have jK:=ww _ (Xl ..);have qv:∀p∈U++(pc++V),CS.le p.fp (φ r):=λp k=>ww _ (Xg _ (eG (by rw[k2];exact k)));have W:∀p∈U++(pc++V),CS.disj (rng b (ν r).off ((ν r).cap*e.size)) p.fp:=λp k=>q1 _ (eG (by rw[k2];exact k));rw[k2,Xy,Xy]at q2;obtain⟨s1,s2,s3⟩:=ef.1 q2;obtain⟨s4,s5,s6⟩:=ef.1 s2;have rA:CS.le (rng b (ν r).off (i*e.size)) (rng b (ν r).off ((ν r).cap*e.size)):=λb o ⟨x0,v,z⟩=>⟨x0,by omega,by omega⟩;have rB:CS.le (rng b ((ν r).off+i*e.size) e.size) (rng b (ν r).off ((ν r).cap*e.size)):=λb o ⟨x0,v,z⟩=>⟨x0,by omega,by omega⟩;have rC:CS.le (rng b ((ν r).off+(i+1)*e.size) (((ν r).cap-(i+1))*e.size)) (rng b (ν r).off ((ν r).cap*e.size)):=λb o ⟨x0,v,z⟩=>⟨x0,by omega,by omega⟩;obtain⟨SR,S⟩:∃SR:CS,SR= λf o=>rng b (ν r).off (i*e.size) f o\/rng b ((ν r).off+(i+1)*e.size) (((ν r).cap-(i+1))*e.size) f o\/∃p∈U++V,p.fp f o:=⟨_,rfl⟩;have hSRφ:CS.le SR (φ r):=λb o g=>by
   rw[S]at g;rcases g with g|g|⟨p,k,g⟩
   .exact jK b o (rA b o g)
   .exact jK b o (rC b o g)
   .refine qv p ?_ b o g;rcases Xo.1 k with k|k
    .exact Xm _ k
    .exact Xi _ (Xi _ k)
  obtain⟨ν',T⟩:∃ν':Nat->Nu,ν'= λj=>if j<st.nx then ν j else if j=st.nx then de b ((ν r).off+i*e.size)else((nus pc)[j-(st.nx+1)]?).getD ⟨none,0,0,0,0⟩:=⟨_,rfl⟩;obtain⟨φ',N⟩:∃φ':Nat->CS,φ'= λj=>if j=r then SR else if j<st.nx then φ j else if j=st.nx then rng b ((ν r).off+i*e.size) e.size else((fps pc)[j-(st.nx+1)]?).getD (λ_ _=>False):=⟨_,rfl⟩;have C:ni st.nx ν ν':=λj n=>by rw[T];simp[n]
  have I:ν' st.nx=de b ((ν r).off+i*e.size):=by rw[T];simp
  have hφr:φ' r=SR:=by rw[N];simp
  have hφp:φ' st.nx=rng b ((ν r).off+i*e.size) e.size:=by rw[N];simp;omega
  have L:∀j,j<st.nx->j≠r->φ' j=φ j:=λj n hn=>by rw[N];simp[n,hn]
  have Z:At ν' φ' (st.nx+1) pc:=λj q n=>by
   have v:(nus pc)[j]?=some q.nu:=by unfold nus;rw[d5,n];rfl
   have z:(fps pc)[j]?=some q.fp:=by unfold fps;rw[d5,n];rfl
   rw[T,N];constructor
   .show(if st.nx+1+j<st.nx then _ else if st.nx+1+j=st.nx then _ else _)=_;rw[We (by omega),We (by omega),sL,v];rfl
   .show(if st.nx+1+j=r then _ else if st.nx+1+j<st.nx then _ else if st.nx+1+j=st.nx then _ else _)=_;rw[We (by omega),We (by omega),We (by omega),sL,z];rfl
  obtain⟨uc,uo⟩:=j0 (ν:=ν') (φ:=φ') e (xs.getD i e.dflt) (st.nx+1) c pc k4 Z;have kG:∀d A,Wt ((r,Ob.hole e xs i st.nx)::(st.nx,Ob.box (unfold e (xs.getD i e.dflt) (st.nx+1)).1)::((unfold e (xs.getD i e.dflt) (st.nx+1)).2.1++st.objs)) d=some A->A≠ .dead->
    (d=r/\A= .hole e xs i st.nx)\/(d=st.nx/\A= .box (unfold e (xs.getD i e.dflt) (st.nx+1)).1)\/(st.nx+1<=d/\d<st.nx+1+e.owns/\Ax G ν' φ' w d A)\/(d≠r/\d<st.nx/\Wt st.objs d=some A):=λd A m Q=>by
   rw[WM]at m;split at m
   .rename_i x;injection m with m;exact .inl ⟨x.symm,m.symm⟩
   .rename_i wA;rw[WM]at m;split at m
    .rename_i x;injection m with m;exact .inr (.inl ⟨x.symm,m.symm⟩)
    .rcases WP m with m|m
     .obtain⟨v,z,B⟩:=uo d A m;exact .inr (.inr (.inl ⟨v,z,B⟩))
     .exact .inr (.inr (.inr ⟨λx=>wA x.symm,K.lt d ⟨A,m,Q⟩,m⟩))
  have iY:∀d f o,Live ((r,Ob.hole e xs i st.nx)::(st.nx,Ob.box (unfold e (xs.getD i e.dflt) (st.nx+1)).1)::((unfold e (xs.getD i e.dflt) (st.nx+1)).2.1++st.objs)) d->φ' d f o->
    (d=r/\SR f o)\/(d=st.nx/\rng b ((ν r).off+i*e.size) e.size f o)\/(∃(j:Nat) (q:Pc),d=st.nx+1+j/\pc[j]?=some q/\q.fp f o)\/(d≠r/\d<st.nx/\Live st.objs d/\φ d f o):=λd f o ⟨A,m,Q⟩ k=>by
   rcases kG d A m Q with⟨rfl,_⟩|⟨rfl,_⟩|⟨v,z,_⟩|⟨v,z,B⟩
   .rw[hφr]at k;exact .inl ⟨rfl,k⟩
   .rw[hφp]at k;exact .inr (.inl ⟨rfl,k⟩)
   .right;right;left;have ab:d-(st.nx+1)<pc.length:=by omega
    refine⟨d-(st.nx+1),pc[d-(st.nx+1)],by omega,Xr ab,?_⟩;have:=(Z (d-(st.nx+1)) _ (Xr ab)).2;rw[show st.nx+1+(d-(st.nx+1))=d by omega]at this;rw[this]at k;exact k
   .rw[L d z v]at k;exact .inr (.inr (.inr ⟨v,z,⟨A,B,Q⟩,k⟩))
  have hq:∀(j:Nat) (q:Pc),pc[j]?=some q->q∈U++(pc++V):=λj q n=>Xi _ (Xm _ (gz n));have J:∀d f o,(d=r/\SR f o)\/(d=st.nx/\rng b ((ν r).off+i*e.size) e.size f o)\/(∃(j:Nat) (q:Pc),d=st.nx+1+j/\pc[j]?=some q/\q.fp f o)->φ r f o:=λd f o g=>by
   rcases g with⟨_,g⟩|⟨_,g⟩|⟨j,q,_,n,g⟩
   .exact hSRφ f o g
   .exact jK f o (rB f o g)
   .exact qv q (hq j q n) f o g
  have hH:HR w0 F G ν' φ' ((r,Ob.hole e xs i st.nx)::(st.nx,Ob.box (unfold e (xs.getD i e.dflt) (st.nx+1)).1)::((unfold e (xs.getD i e.dflt) (st.nx+1)).2.1++st.objs)) (st.nx+1+e.owns) w:=by
   refine K.step (WLe.refl _ w) (λd A m Q=>?_) (λd ⟨A,m,Q⟩=>?_) (λd f o mN k=>?_) (λd f o mN k=>?_) (λd D f o m fA k fK=>?_)
   .rcases kG d A m Q with⟨rfl,rfl⟩|⟨rfl,rfl⟩|⟨v,z,e',wJ,rfl,B⟩|⟨v,z,B⟩
    .refine⟨by omega,?_⟩;rw[hφr,C d xL,I];refine⟨g1,g2,hi,b,hb,rfl,rfl,g4,g5,g6,c1,c2,U,V,k3,k5,m1,m3,?_,λs H f o g=>?_⟩
     .refine Xw.2 ⟨λs H=>?_,Xw.2 ⟨λs H=>?_,?_⟩⟩
      .rcases Xq.1 H with rfl|H
       .exact WuM (by omega)
       .obtain⟨p,k,rfl⟩:=Xx.1 H;refine(W p ?_).mono rA (λ_ _ g=>g);rcases Xo.1 k with k|k
        .exact Xm _ k
        .exact Xi _ (Xi _ k)
      .obtain⟨p,k,rfl⟩:=Xx.1 H;refine(W p ?_).mono rC (λ_ _ g=>g);rcases Xo.1 k with k|k
       .exact Xm _ k
       .exact Xi _ (Xi _ k)
      .rw[Xy];exact ef.2 ⟨s1,s5,λs H t ht=>s3 s H t (Xi _ ht)⟩
     .rw[S];rcases Xq.1 H with rfl|H
      .exact .inl g
      .rcases Xq.1 H with rfl|H
       .exact .inr (.inl g)
       .obtain⟨p,k,rfl⟩:=Xx.1 H;exact .inr (.inr ⟨p,k,g⟩)
    .refine⟨b,c,by rw[I];rfl,?_,by rw[I];exact m2,uc _ (Xj _),?_⟩
     .rw[I,eS];obtain⟨row,TT,u,X⟩:=g6;exact⟨row,TT,u,by show(ν r).off+i*e.size+e.size<=row.size;omega⟩
     .rw[I,eS,hφp];exactλ_ _ g=>g
    .exact B
    .rw[L d z v];exact C9 (λ_ _ _ g=>g) (Same.refl _ w) (λ_ _ g=>g) C (by omega) z A (K.ob d A B)
   .rcases kG d A m Q with⟨rfl,_⟩|⟨rfl,_⟩|⟨_,z,_⟩|⟨_,z,_⟩<;>omega
   .rcases iY d f o mN k with g|g|g|⟨_,_,B,R⟩
    .exact .inl ⟨r,P,J d f o (.inl g)⟩
    .exact .inl ⟨r,P,J d f o (.inr (.inl g))⟩
    .exact .inl ⟨r,P,J d f o (.inr (.inr g))⟩
    .exact .inl ⟨d,B,R⟩
   .rcases iY d f o mN k with g|g|g|⟨_,_,B,R⟩
    .exact K.bl r f o P (J d f o (.inl g))
    .exact K.bl r f o P (J d f o (.inr (.inl g)))
    .exact K.bl r f o P (J d f o (.inr (.inr g)))
    .exact K.bl d f o B R
   .have out:∀D,D≠r->Live st.objs D->φ D f o->φ r f o->False:=λD u X O y4=>u (K.inj D r f o X P O y4);have M:SR f o->∀s,(s=rng b ((ν r).off+i*e.size) e.size\/∃q∈pc,s=q.fp)->s f o->False:=λu s X O=>by
     rw[S]at u;rcases X with rfl|⟨q,xM,rfl⟩
     .rcases u with u|u|⟨p,k,u⟩
      .obtain⟨z0,z1,z2⟩:=u;obtain⟨z3,z4,z5⟩:=O;omega
      .obtain⟨z0,z1,z2⟩:=u;obtain⟨z3,z4,z5⟩:=O;omega
      .refine W p ?_ f o (rB f o O) u;rcases Xo.1 k with k|k
       .exact Xm _ k
       .exact Xi _ (Xi _ k)
     .have uf:q∈U++(pc++V):=Xi _ (Xm _ xM);rcases u with u|u|⟨p,k,u⟩
      .exact W q uf f o (rA f o u) O
      .exact W q uf f o (rC f o u) O
      .rcases Xo.1 k with k|k
       .exact s3 _ (eG k) _ (Xm _ (eG xM)) f o u O
       .exact s6 _ (eG xM) _ (eG k) f o O u
    have Y:∀(j:Nat) (q:Pc),pc[j]?=some q->rng b ((ν r).off+i*e.size) e.size f o->q.fp f o->False:=λj q n u X=>W q (hq j q n) f o (rB f o u) X;rcases iY d f o m k with g|g|g|⟨v,z,B,R⟩<;>rcases iY D f o fA fK with E|E|E|⟨xN,x2',wK,wL⟩
    .rw[g.1,E.1]
    .exact(M g.2 _ (.inl rfl) E.2).elim
    .obtain⟨j,q,_,n,y⟩:=E;exact(M g.2 _ (.inr ⟨q,gz n,rfl⟩) y).elim
    .exact(out D xN wK wL (J d f o (.inl g))).elim
    .exact(M E.2 _ (.inl rfl) g.2).elim
    .rw[g.1,E.1]
    .obtain⟨j,q,_,n,y⟩:=E;exact(Y j q n g.2 y).elim
    .exact(out D xN wK wL (J d f o (.inr (.inl g)))).elim
    .obtain⟨j,q,_,n,y⟩:=g;exact(M E.2 _ (.inr ⟨q,gz n,rfl⟩) y).elim
    .obtain⟨j,q,_,n,y⟩:=g;exact(Y j q n E.2 y).elim
    .obtain⟨j,q,cj,n,y⟩:=g;obtain⟨j',q',xO,gr,y'⟩:=E;have v:(fps pc)[j]?=some q.fp:=by unfold fps;rw[d5,n];rfl
     have z:(fps pc)[j']?=some q'.fp:=by unfold fps;rw[d5,gr];rfl
     have:=Hy (l:=fps pc) s4 v z y y';rw[cj,xO,this]
    .exact(out D xN wK wL (J d f o (.inr (.inr g)))).elim
    .exact(out d v B R (J D f o (.inl E))).elim
    .exact(out d v B R (J D f o (.inr (.inl E)))).elim
    .exact(out d v B R (J D f o (.inr (.inr E)))).elim
    .exact K.inj d D f o B wK R wL
  refine⟨ν',b,?_,?_,rfl,by rw[I,g2],rfl⟩
  .have:=h.on (λ_ _ _ g=>g) C (by omega) ⟨φ',hH⟩ h.gx;rw[ue];exact this
  .show st.nx<(unfold e (xs.getD i e.dflt) (st.nx+1)).2.2;rw[ue];omega
end
theorem rJ:∀(l) (i j),nc i l=some j->l[j]?=some i
 | [],i,j,h=>by cases h
 |k::l,i,j,h=>by
  simp only[nc]at h;split at h
  .rename_i hb;injection h with h;subst h;have:i=k:=by simpa using hb
   rw[this];rfl
  .cases hp:nc i l with
   |none=>simp[hp]at h
   |some n=>
    simp[hp]at h;subst h;exact rJ l i n hp
theorem TA{m}:∀(l r),D2 m l=some r->r.length=l.length/\∀(q j:Nat),r[q]?=some j->∃i,l[q]?=some i/\m[j]?=some i
 | [],r,h=>by simp[D2]at h;subst h;exact⟨rfl,λq j a=>by simp at a⟩
 |i::l,r,h=>by
  simp only[D2]at h;split at h
  .rename_i j r' h1 h2;injection h with h;subst h;obtain⟨b,c⟩:=TA l r' h2;refine⟨by simp[b],λq d a=>?_⟩;cases q with
   |zero=>simp at a;subst a;exact⟨i,rfl,rJ m i j h1⟩
   |succ q=>exact c q d (by simpa using a)
  .cases h
theorem zI:∀(n) (todo acc) (objs),acc.Nodup->(qb n todo acc objs).Nodup
 |0,_,_,_,h=>h
 |n+1,[],acc,objs,h=>h
 |n+1,i::l,acc,objs,h=>by
  simp only[qb];split
  .exact zI n l acc objs h
  .rename_i hi;have c:i∉acc:=λd=>hi ((j7 i acc).2 d);have a:(acc++ [i]).Nodup:=by
    rw[dm];refine⟨h,by simp,λx f y b=>?_⟩;simp at b;subst b
    exactλe=>c (e▸f)
   split
   .exact zI n _ _ objs a
   .exact zI n _ _ objs a
   .exact zI n _ _ objs a
   .exact zI n _ _ objs h
theorem Su{m}{objs}:∀(l) (a) (j) (c),Wt (py m objs a l) j=some c->∃i dR,a<=j/\l[j-a]?=some i/\Wt objs i=some dR/\c=Ec m dR
 | [],a,j,c,h=>by cases h
 |i::l,a,j,c,h=>by
  simp only[py]at h;have b:Wt (py m objs (a+1) l) j=some c->∃d dR,a<=j/\(i::l)[j-a]?=some d/\Wt objs d=some dR/\c=Ec m dR:=λh=>by
   obtain⟨d,dR,o,f,g,k⟩:=Su l (a+1) j c h;refine⟨d,dR,by omega,?_,g,k⟩;rw[show j-a=(j-(a+1))+1 by omega];simpa using f
  split at h
  .rename_i dR n;rw[WM]at h;split at h
   .rename_i e;subst e;injection h with h;exact⟨i,dR,Xj _,by simp,n,h.symm⟩
   .exact b h
  .exact b h
theorem Mr{env}{f:AVal->AVal}:∀(l) (i) (x),Wt ((vy env l).map λp=>(p.1,f p.2)) i=some x->∃y,Wt env i=some y/\x=f y
 | [],i,x,h=>by cases h
 |j::l,i,x,h=>by
  simp only[vy]at h;split at h
  .rename_i y a;simp only[bn]at h;rw[WM]at h;split at h
   .rename_i e;subst e;injection h with h;exact⟨y,a,h.symm⟩
   .exact Mr l i x h
  .exact Mr l i x h
section
variable{w0:World}{F:CS}{nt:Slots}{G0 G G':GH}{ν ν':Nat->Nu}{objs objs':af}{nx am:Nat}{st ai:St}{a:Act}{w w':World}{P:Program}{T:Tab}{Γ:Ctx}
structure Ren(m:List Nat)(ν ν':Nat->Nu)(am:Nat):Prop where
 nx:∀(i j:Nat),m[j]?=some i->j<am
 nu:∀(i j:Nat),m[j]?=some i->ν' j=ν i
theorem CellRel.ren{m}(b:Ren m ν ν' am):∀(c) (v),CellRel G ν nx c v->CellRel G ν' am (mU m c) v
 | .val t d,v,h=>h
 | .nils,v,h=>h
 | .rptr t d off,v,h=>h
 | .junk,v,h=>h
 | .own e,v,h=>by
  simp only[mU];split
  .rename_i j a;have a:=rJ _ _ _ a;exact⟨b.nx _ _ a,by rw[b.nu _ _ a];exact h.2⟩
  .trivial
 | .vw e lo hi,v,h=>by
  simp only[mU];split
  .rename_i j a;have a:=rJ _ _ _ a;exact⟨b.nx _ _ a,by rw[b.nu _ _ a];exact h.2⟩
  .trivial
 | .aptr e,v,h=>by
  simp only[mU];split
  .rename_i j a;have a:=rJ _ _ _ a;exact⟨b.nx _ _ a,by rw[b.nu _ _ a];exact h.2⟩
  .trivial
 | .ptr e off,v,h=>by
  simp only[mU];split
  .rename_i j a;have a:=rJ _ _ _ a;exact⟨b.nx _ _ a,by rw[b.nu _ _ a];exact h.2⟩
  .trivial
 | .eptr e i off,v,h=>by
  simp only[mU];split
  .rename_i j a;have a:=rJ _ _ _ a;exact⟨b.nx _ _ a,by rw[b.nu _ _ a];exact h.2⟩
  .trivial
 | .clos f caps,v,h=>by
  simp only[mU];split
  .rename_i js a;obtain⟨l,n⟩:=TA _ _ a;obtain⟨z,o,p,r⟩:=h;refine⟨z,o,p.trans l.symm,λq e u x y=>?_⟩;obtain⟨i,s,g⟩:=n q e x;obtain⟨A,w,k⟩:=r q i u s y;exact⟨b.nx _ _ g,w,by rw[b.nu _ _ g];exact k⟩
  .trivial
theorem CellsRel.ren{m}(f:Ren m ν ν' am){cs}{vs}(h:CellsRel G ν nx cs vs):CellsRel G ν' am (cs.map (mU m)) vs:=by
 refine⟨by simp[h.1],λj c v a g=>?_⟩;simp only[d5]at a;cases hd:cs[j]? with
 |none=>simp[hd]at a
 |some d=>
  simp[hd]at a;subst a;obtain⟨b,e⟩:=h.2 j d v hd g;exact⟨b.ren f,e⟩
theorem AvRel.ren{m}(a:Ren m ν ν' am):∀(x) (v),AvRel G ν nx x v->AvRel G ν' am (Oq m x) v
 | .one c,v,h=>⟨h.1.ren a,h.2⟩
 | .agg cs,v,⟨e,b,d⟩=>⟨e,b,d.ren a⟩
theorem AValRel.ren{m}(b:Ren m ν ν' am):∀(x) (v),AValRel G ν nx x v->AValRel G ν' am (Nx m x) v
 | .s x,v,h=>AvRel.ren b x v h
 | .tup xs,v,⟨i,c,e,f⟩=>⟨i,c,by simp[e],λj x u a g=>by
  simp only[d5]at a;cases hd:xs[j]? with
  |none=>simp[hd]at a
  |some d=>
   simp[hd]at a;subst a;exact AvRel.ren b d u (f j d u hd g)⟩
theorem Wui(slots)(Y:∀x v,¬nt.ex x v)(h:Rel w0 F nt G0 G ν st a w):∃ν',Rel w0 F nt G0 G ν' (canon slots st) a w:=by
 obtain⟨m,E⟩:∃m,m=qb 400 ((vy st.env slots).flatMap λp=>eU p.2) [] st.objs:=⟨_,rfl⟩;have O:m.Nodup:=by rw[E];exact zI _ _ _ _ (by simp)
 have rf:canon slots st={env:=(vy st.env slots).map λp=>(p.1,Nx m p.2),objs:=py m st.objs 0 m,nx:=m.length}:=by rw[E];rfl
 obtain⟨ν',C⟩:∃ν':Nat->Nu,ν'= λj=>ν ((m[j]?).getD 0):=⟨_,rfl⟩;have n:∀(i j:Nat),m[j]?=some i->ν' j=ν i:=λi j f=>by rw[C];simp[f]
 have K:∀(j:Nat) (ob:Ob),Wt (py m st.objs 0 m) j=some ob->∃i dR,m[j]?=some i/\Wt st.objs i=some dR/\ob=Ec m dR:=λj ob z=>by
  obtain⟨i,dR,_,d,u,B⟩:=Su _ _ _ _ z;exact⟨i,dR,by simpa using d,u,B⟩
 have L:Ren m ν ν' m.length:={
  nx:=λi j f=>(dJ.1 f).1
  nu:=n}
 have t:∀j,Live (py m st.objs 0 m) j->∃i,m[j]?=some i/\Live st.objs i:=λj ⟨ob,z,V⟩=>by
  obtain⟨i,dR,c,d,u⟩:=K j ob z;refine⟨i,c,dR,d,λM=>V ?_⟩;rw[u,M];rfl
 rw[rf];refine⟨ν',h.defers,h.ntm,h.par,λi x X=>?_,?_,h.gx,λx v W=>Wy W (Y x v)⟩
 .obtain⟨y,c,rfl⟩:=Mr _ _ _ X;obtain⟨v,d,u⟩:=h.env i y c;exact⟨v,d,AValRel.ren L y v u⟩
 .obtain⟨φ,s⟩:=h.h;refine⟨λj=>φ ((m[j]?).getD 0),?_⟩;have r:∀(i j:Nat),m[j]?=some i->φ ((m[j]?).getD 0)=φ i:=λi j f=>by simp[f]
  exact{
   g:=s.g
   ob:=λj ob z=>by
    obtain⟨i,dR,c,d,rfl⟩:=K j ob z;have:=s.ob i dR d;cases dR with
    |dead=>trivial
    |arr e xs=>
     show aq w (WD G w e) e.size (ν' j) xs (φ ((m[j]?).getD 0));rw[n i j c,r i j c];exact this
    |hole e xs k p=>
     simp only[Ec];split
     .rename_i q A;have A:=rJ _ _ _ A;obtain⟨g1,P⟩:=this;show q<m.length/\lR w (WD G w e) e.size (ν' j) (ν' q) xs k (φ ((m[j]?).getD 0));rw[n i j c,r i j c,n p q A];exact⟨(dJ.1 A).1,P⟩
     .trivial
    |box cs=>
     obtain⟨b,vs,B,R,S,T,U⟩:=this;refine⟨b,vs,by rw[n i j c];exact B,?_,by rw[n i j c];exact S,T.ren L,?_⟩
     .rw[n i j c,Xu];exact R
     .rw[n i j c,r i j c,Xu];exact U
   gf:=λj b o f l=>by
    obtain⟨i,c,d⟩:=t j f;rw[r i j c]at l;exact s.gf i b o d l
   inj:=λj I b o f Q l D=>by
    obtain⟨i,c,d⟩:=t j f;obtain⟨H,J,Z⟩:=t I Q;rw[r i j c]at l;rw[r H I J]at D;have:=s.inj i H b o d Z l D;subst this;have N:=(dJ.1 c).1;exact(List.getElem?_inj N O).1 (c.trans J.symm)
   own:=λj b o f l=>by
    obtain⟨i,c,d⟩:=t j f;rw[r i j c]at l;exact s.own i b o d l
   lt:=λj f=>by
    obtain⟨i,c,d⟩:=t j f;exact(dJ.1 c).1
   bl:=λj b o f l=>by
    obtain⟨i,c,d⟩:=t j f;rw[r i j c]at l;exact s.bl i b o d l
   le:=s.le}
theorem Wrd(h:Rel w0 F nt G0 G ν st a w){r}{ix}(d:D7 st r ix=some (true,ai)):∃ν',Rel w0 F nt G0 G ν' ai a w:=by
 unfold D7 at d;split at d
 .rename_i c i oV;obtain⟨s,m,d⟩:=Xz.1 d;simp only[Prod.mk.injEq]at d;obtain⟨rfl,rfl⟩:=d;have j:∃(e:Ty) (xs:List e.den),Wt st.objs r=some (.arr e xs)/\i<xs.length:=by
   unfold Yq at oV;split at oV
   .split at oV
    .rename_i e xs g;simp only[Option.some.injEq,Prod.mk.injEq]at oV;obtain⟨f,rfl⟩:=oV;obtain⟨k,l⟩:=pz f;exact⟨e,xs,g,by omega⟩
    .cases oV
   .split at oV
    .rename_i e xs n g hn;simp only[Option.some.injEq,Prod.mk.injEq]at oV;obtain⟨f,rfl⟩:=oV;obtain⟨k,l⟩:=pz f;exact⟨e,xs,g,by omega⟩
    .cases oV
  obtain⟨e,xs,g,j⟩:=j;obtain⟨ν',b,f,_⟩:=Tz h g j m;exact⟨ν',f⟩
 .cases d
theorem MO{g}(J:(∀x v,¬nt.ex x v)\/g.quiet=true)(h:Rel w0 F nt G0 G ν st a w)(c:lQ g st=some (true,ai)):∃G' ν',Rel w0 F nt G0 G' ν' ai a w:=by
 cases g with
 |canon slots=>
  simp only[lQ]at c;injection c with c;injection c with _ c;subst c;obtain⟨ν',t⟩:=Wui slots (J.resolve_right (by simp[Ghost.quiet])) h;exact⟨G,ν',t⟩
 |adoptC slot off e=>
  simp only[lQ]at c;split at c
  .rename_i id hs;split at c
   .rename_i cs f;split at c
    .rename_i hc;injection c with c;injection c with _ c;subst c;have q:st.nx≠id:=λe=>by
      obtain⟨φ,I⟩:=h.h;have:=I.lt id ⟨_,f,by simp⟩;omega
     have m:=h.h.adopt e;have y:Wt ((st.nx,Ob.arr e [])::st.objs) id=some (.box cs):=by rw[WM,We q];exact f
     have k:=m.mk_box y (dv:=cs.set off (.own st.nx)) (by simp) (λM o=>o.set λv n=>by
      have:v= .slice none 0 0:=(o.2 off _ v hc n).1;subst this;exact Wq3 e)
     exact⟨G,_,h.on (λ_ _ _ E=>E) (D0 ν st.nx _) (A9 _) k h.gx⟩
    .injection c with c;injection c with _ c;subst c;exact⟨G,ν,h⟩
    .cases c
   .cases c
  .cases c
 |freezeC slot off=>
  simp only[lQ]at c;split at c
  .rename_i id hs;split at c
   .rename_i cs f;split at c
    .rename_i j hc;split at c
     .rename_i e xs xP;injection c with c;injection c with _ c;subst c;obtain⟨z,u,m,k,p⟩:=h.h.freezeL h.gx [j];have q:j≠id:=λe=>by subst e;rw[f]at xP;cases xP
      have y:Wt ((j,Ob.dead)::st.objs) id=some (.box cs):=by rw[WM,We q];exact f
      have A:HRel w0 F z ν ((id,.box (cs.set off (.val (.slice e.ro) (dX e xs))))::(j,.dead)::st.objs) st.nx w:=by
       refine HRel.mk_box m y (by simp) (λM o=>o.set λv n=>?_);have L:v=(ν j).hdr:=(o.2 off _ v hc n).1.2;exact⟨v,rfl,L▸p j (by simp) e xs xP⟩
      exact⟨z,ν,h.on u (λ_ _=>rfl) (Xj _) A k⟩
     .cases c
    .injection c with c;injection c with _ c;subst c;exact⟨G,ν,h⟩
    .injection c with c;injection c with _ c;subst c;exact⟨G,ν,h⟩
    .cases c
   .cases c
  .cases c
 |nest d e=>injection c with c;injection c with _ c;subst c;exact⟨G,ν,h⟩
 |view d=>injection c with c;injection c with _ c;subst c;exact⟨G,ν,h⟩
 |opn d=>injection c with c;injection c with _ c;subst c;exact⟨G,ν,h⟩
 |shutD d off=>injection c with c;injection c with _ c;subst c;exact⟨G,ν,h⟩
 |unfE slot=>
  simp only[lQ]at c;split at c
  .rename_i r i hs;obtain⟨s,l,c⟩:=Xz.1 c;injection c with _ c;subst c;obtain⟨v,n,H⟩:=h.env _ _ hs;have K:∃(e:Ty) (xs:List e.den),Wt st.objs r=some (.arr e xs):=by
    unfold Ai at l;split at l
    .rename_i e xs f;exact⟨e,xs,f⟩
    .cases l
   obtain⟨e,xs,f⟩:=K;obtain⟨⟨_,B,b,D,rfl⟩,_⟩:=H;obtain⟨S,C⟩:=h.h.obj f;obtain⟨ν',N,u,m,k,p,A⟩:=Tz h f (by rw[C.1];exact B) l;rw[D]at k;injection k with k;subst k;refine⟨G,ν',u.rebind n ⟨⟨m,b,by rw[p];rfl,?_⟩,rfl⟩⟩;rw[p];rfl
  .cases c
 |unfC slot off ix=>
  simp only[lQ]at c;split at c
  .split at c
   .split at c
    .obtain⟨ν',t⟩:=Wrd h c;exact⟨G,ν',t⟩
    .cases c
   .cases c
  .cases c
 |shut slot off=>
  simp only[lQ]at c;split at c
  .split at c
   .split at c
    .split at c
     .obtain⟨s,l,c⟩:=Xz.1 c;injection c with _ c;subst c;exact⟨G,ν,Wo3 h l⟩
     .injection c with c;injection c with _ c;subst c;exact⟨G,ν,h⟩
     .cases c
    .cases c
   .cases c
  .cases c
theorem Db:∀(l) (st ai) (G) (ν),((∀x v,¬nt.ex x v)\/l.all Ghost.quiet=true)->Rel w0 F nt G0 G ν st a w->fH l st=some (true,ai)->∃G' ν',Rel w0 F nt G0 G' ν' ai a w
 | [],st,ai,G,ν,d,h,b=>by injection b with b;injection b with _ b;subst b;exact⟨G,ν,h⟩
 |g::l,st,ai,G,ν,d,h,b=>by
  simp only[d6,Xh]at d;simp only[fH]at b;split at b
  .rename_i c s B1;split at b
   .rename_i c' s' hl;simp only[Option.some.injEq,Prod.mk.injEq,Xh]at b;obtain⟨⟨rfl,rfl⟩,rfl⟩:=b;obtain⟨e,i,f⟩:=MO (d.imp_right (·.1)) h B1;exact Db l s s' e i (d.imp_right (·.2)) f hl
   .cases b
  .cases b
end
section
variable{T:Tab}{Γ:Ctx}{env B2:List (Nat×AVal)}{objs objs':af}{nx am:Nat}
theorem F7{st ao:St}:∀(l:List (Nat×Operand)),(∀p∈l,ev ao p.2=ev st p.2)->ly ao l=ly st l
 | [],_=>rfl
 |(i,x)::l,h=>by
  have a:ev ao x=ev st x:=h (i,x) (Xl ..);simp only[ly,a,F7 l λp b=>h p (Xg _ b)]
theorem Uz{st ao:St}:∀(l:List Operand),(∀x∈l,ev ao x=ev st x)->evs ao l=evs st l
 | [],_=>rfl
 |x::l,h=>by simp only[evs,h x (Xl ..),Uz l λp a=>h p (Xg _ a)]
theorem SE{st ao:St}:∀(l:List Operand),(∀x∈l,ev ao x=ev st x)->pV ao l=pV st l
 | [],_=>rfl
 |x::l,h=>by simp only[pV,h x (Xl ..),SE l λp a=>h p (Xg _ a)]
theorem Tx{st ao:St}(x:Option Operand)(h:∀y∈x.toList,ev ao y=ev st y):fP ao x=fP st x:=by
 cases x with
 |none=>rfl
 |some y=>simp only[fP,h y (by simp)]
def lP(st ao:St)(v:AVal):Prop:=∀a∈eU v,Wt ao.objs a=Wt st.objs a
theorem WpN{st ao:St}{t:TypeId}{v:AVal}(h:lP st ao v):rW T ao t v=rW T st t v:=by
 unfold rW;cases v with
 |tup xs=>rfl
 |s x=>
  cases x with
  |agg cs=>rfl
  |one c=>
   cases c with
   |ptr id off=>have:=h id (by simp[eU,g0,gb]);simp only[this]
   |eptr id i off=>have:=h id (by simp[eU,g0,gb]);simp only[this]
   |_=>rfl
theorem Won{st ao:St}{t:TypeId}{v:AVal}(h:lP st ao v):vz T ao t v=vz T st t v:=by
 unfold vz;cases v with
 |tup xs=>rfl
 |s x=>
  cases x with
  |agg cs=>rfl
  |one c=>
   cases c with
   |aptr id=>have:=h id (by simp[eU,g0,gb]);simp only[this]
   |_=>rfl
theorem Uc{st:St}{t:TypeId}{b:Nat}:n7 T st t (.s (.one (.own b)))=match Wt T t with
  |some ⟨_,false,.slice _⟩=>obL (Wt st.objs b)
  |_=>none:=by
 unfold n7;generalize Wt T t=q;rcases q with _|⟨c,a,shape⟩
 .rfl
 .cases c<;>cases a<;>cases shape<;>rfl
theorem Woy{st ao:St}{t:TypeId}{v:AVal}(h:∀b,v≠ .s (.one (.own b))):n7 T ao t v=n7 T st t v:=by
 unfold n7;generalize Wt T t=q;rcases q with _|⟨a,agg,shape⟩
 .cases v<;>rfl
 .cases v with
  |tup xs=>cases a<;>cases agg<;>cases shape<;>rfl
  |s x=>
   cases x with
   |agg cs=>cases a<;>cases agg<;>cases shape<;>rfl
   |one c=>
    cases c with
    |own b=>exact Wy rfl (h b)
    |val t' d=>cases a<;>cases agg<;>cases shape<;>cases t'<;>rfl
    |_=>cases a<;>cases agg<;>cases shape<;>rfl
theorem YS(v:AVal):(∃a,v= .s (.one (.own a)))\/∀a,v≠ .s (.one (.own a)):=by
 rcases v with x|xs
 .rcases x with c|cs
  .cases c with
   |own a=>exact .inl ⟨a,rfl⟩
   |_=>exact .inr λa h=>by injection h with h;injection h with h;cases h
  .exact .inr λa h=>by injection h with h;cases h
 .exact .inr λa h=>by cases h
theorem Wrh{st ao:St}{t:TypeId}{v:AVal}(h:lP st ao v):n7 T ao t v=n7 T st t v:=by
 rcases YS v with⟨id,rfl⟩|hv
 .rw[Uc,Uc,h id (by simp[eU,g0,gb])]
 .exact Woy hv
theorem Wh4{st ao:St}{t:TypeId}{v:AVal}{f:Nat}(h:lP st ao v):zD T ao t v f=zD T st t v f:=by
 unfold zD;generalize DJ T t f=q;rcases q with _|⟨a,b⟩
 .cases v<;>rfl
 .cases v with
  |tup xs=>rfl
  |s x=>
   cases x with
   |agg cs=>rfl
   |one c=>
    cases c with
    |ptr id o=>
     have:=h id (by simp[eU,g0,gb]);show(λq:Option Ob=>match q with|some (.box _)=>some (true,AVal.s (.one (.ptr id (o+a))))|_=>none) (Wt ao.objs id)=(λq:Option Ob=>match q with|some (.box _)=>some (true,AVal.s (.one (.ptr id (o+a))))|_=>none) (Wt st.objs id);rw[this]
    |eptr id i o=>
     have:=h id (by simp[eU,g0,gb]);show(λq:Option Ob=>match q with|some (.arr _ _)=>some (true,AVal.s (.one (.eptr id i (o+a))))|_=>none) (Wt ao.objs id)=(λq:Option Ob=>match q with|some (.arr _ _)=>some (true,AVal.s (.one (.eptr id i (o+a))))|_=>none) (Wt st.objs id);rw[this]
    |_=>rfl
theorem Wh3{st ao:St}{t:TypeId}{v i:AVal}(h:lP st ao v):zJ T ao t v i=zJ T st t v i:=by
 unfold zJ;generalize Wt T t=q;generalize asI i=z;rcases q with _|⟨b,agg,shape⟩
 .rfl
 rcases z with _|n
 .cases shape<;>rfl
 cases shape with
 |slice et=>
  show(match Wt T et with|some te=>_|none=>_)=(match Wt T et with|some te=>_|none=>_);generalize Wt T et=q;rcases q with _|te
  .rfl
  .show(if te.plain=true then _ else _)=(if te.plain=true then _ else _);by_cases a:te.plain=true
   .rw[Wf a,Wf a];cases v with
    |tup xs=>rfl
    |s x=>
     cases x with
     |agg cs=>rfl
     |one c=>
      cases c with
      |own id=>
       have:=h id (by simp[eU,g0,gb]);show obI te n id (Wt ao.objs id)=obI te n id (Wt st.objs id);rw[this]
      |vw id lo hi=>
       have:=h id (by simp[eU,g0,gb]);show Em te n id lo hi (Wt ao.objs id)=Em te n id lo hi (Wt st.objs id);rw[this]
      |val t' d=>cases t'<;>rfl
      |_=>rfl
   .rw[We a,We a]
 |arr k et=>
  show(match Wt T et with|some te=>_|none=>_)=(match Wt T et with|some te=>_|none=>_);generalize Wt T et=q;rcases q with _|te
  .rfl
  .show(if te.plain=true then _ else _)=(if te.plain=true then _ else _);by_cases a:te.plain=true
   .rw[Wf a,Wf a];cases v with
    |tup xs=>rfl
    |s x=>
     cases x with
     |agg cs=>rfl
     |one c=>
      cases c with
      |aptr id=>
       have:=h id (by simp[eU,g0,gb]);show Ej te n k id (Wt ao.objs id)=Ej te n k id (Wt st.objs id);rw[this]
      |_=>rfl
   .rw[We a,We a]
 |_=>rfl
theorem Wq1{st ao:St}{v:AVal}(h:lP st ao v):HS ao v=HS st v:=by
 rcases YS v with⟨id,rfl⟩|hv
 .exact h id (by simp[eU,g0,gb])
 .unfold HS;split
  .rename_i id;exact Wy rfl (hv id)
  .rfl
theorem WoD{st ao:St}{s d:TypeId}{v:AVal}(h:lP st ao v):Ao T ao s d v=Ao T st s d v:=by
 unfold Ao;rw[Wq1 h]
theorem WrY{st ao:St}{v:AVal}(h:lP st ao v):AF ao v=AF st v:=by
 unfold AF;cases v with
 |tup xs=>rfl
 |s x=>
  cases x with
  |agg cs=>rfl
  |one c=>
   cases c with
   |ptr id off=>have:=h id (by simp[eU,g0,gb]);simp only[this]
   |eptr id i off=>have:=h id (by simp[eU,g0,gb]);simp only[this]
   |aptr id=>have:=h id (by simp[eU,g0,gb]);simp only[this]
   |_=>rfl
theorem WrI{st ao:St}{a:BinOp}{t:TypeId}{v z:AVal}(h:lP st ao v):AA T ao a t v z=AA T st a t v z:=by
 unfold AA;split
 .rename_i id;rw[h id (by simp[eU,g0,gb])]
 .rfl
theorem zG{α β:Type}{x:Option α}{f g:α->Option β}(h:∀v,x=some v->f v=g v):x.bind f=x.bind g:=by
 cases x with
 |none=>rfl
 |some v=>exact h v rfl
theorem SL{st ao:St}(op:Op)(o:∀t x l h m,op≠ .slice t x l h m)(e:∀x∈ar op,ev ao x=ev st x)(j:OE op=true->∀x∈ar op,∀v,ev st x=some v->lP st ao v):b5 T ao op=b5 T st op:=by
 cases op with
 |move x=>simp only[b5,e x (by simp[ar])]
 |assign x=>simp only[b5,e x (by simp[ar])]
 |pick c a b=>simp only[b5,e c (by simp[ar]),e a (by simp[ar]),e b (by simp[ar])]
 |load t a=>
  simp only[b5,e a (by simp[ar])];exact zG λv g=>by rw[WpN (j rfl a (by simp[ar]) v g),Won (j rfl a (by simp[ar]) v g)]
 |nilCheck x=>
  simp only[b5,e x (by simp[ar])];exact zG λv g=>WrY (j rfl x (by simp[ar]) v g)
 |binOp op t x y z=>
  simp only[b5,e x (by simp[ar]),e y (by simp[ar])];split
  .rename_i a b h1 h2;rw[WrI (j rfl x (by simp[ar]) _ h1)]
  .rfl
 |unOp op t x=>simp only[b5,e x (by simp[ar])]
 |convert s d x=>
  simp only[b5,e x (by simp[ar])];exact zG λv g=>WoD (j rfl x (by simp[ar]) v g)
 |slice t x l h m=>exact Wy rfl (o t x l h m)
 |fieldAddr s x f=>
  simp only[b5,e x (by simp[ar])];exact zG λv g=>Wh4 (j rfl x (by simp[ar]) v g)
 |field t x f=>simp only[b5,e x (by simp[ar])]
 |indexAddr t x i=>
  simp only[b5,e x (by simp[ar]),e i (by simp[ar])];split
  .rename_i a b h1 h2;exact Wh3 (j rfl x (by simp[ar]) _ h1)
  .rfl
 |index t x i=>simp only[b5,e x (by simp[ar]),e i (by simp[ar])]
 |extract t q=>simp only[b5,e t (by simp[ar])]
 |makeFunc f first captured=>
  cases f with
  |func f=>simp only[b5,SE (st:=st) (ao:=ao) captured.toList λx n=>e x (by simp[ar];right;simpa using n)]
  |_=>rfl
 |call c=>
  have k:∀x∈c.args.toList,ev ao x=ev st x:=λx n=>e x (Xi _ n);have p:∀x∈c.args.toList,∀v,ev st x=some v->lP st ao v:=λx n=>j rfl x (Xi _ n);simp only[b5];split
  .rename_i x t _ ha _;rw[k x (by rw[ha];simp)];exact zG λv g=>Wrh (p x (by rw[ha];simp) v g)
  .rename_i x y _ _ _ ha _;rw[k x (by rw[ha];simp),k y (by rw[ha];simp)]
  .rename_i x y _ _ _ ha _;rw[k x (by rw[ha];simp),k y (by rw[ha];simp)]
  .rfl
 |_=>rfl
end
section
variable{T:Tab}{Γ:Ctx}{A:List (Nat×An)}
theorem ib{α β:Type}{c:Prop}[Decidable c]{x:Option α}{f:α->Option β}:(if c then x else none).bind f=if c then x.bind f else none:=by split<;>rfl
theorem nN{α β:Type}{c:Bool}{x:Option α}{f:α->Option β}:(bif c then x else none).bind f=bif c then x.bind f else none:=by cases c<;>rfl
theorem L4{R:Type}(sg:Sig)(st:St)(xs:List AVal)(k:KV R):nV sg st xs k=(nV sg st xs cM).bind λp=>k p.1 p.2.1 p.2.2:=by
 unfold nV;split
 .split
  .rw[sg.law,sg.law,Option.bind_assoc];rfl
  .rfl
 .rfl
theorem WrE{R:Type}(sg:Sig)(st:St)(xs:List AVal)(k:KV R):si sg st xs k=(si sg st xs cM).bind λp=>k p.1 p.2.1 p.2.2:=by
 unfold si;cases sg.fresh with
 |true=>exact L4 _ _ _ _
 |false=>
  simp only[Wb];split
  .split
   .exact L4 _ _ _ _
   .exact L4 _ _ _ _
  .rfl
theorem Wnq{R:Type}(st:St)(a:Ty)(s x:AVal)(k:KV R):rO st a s x k=(rO st a s x cM).bind λp=>k p.1 p.2.1 p.2.2:=by
 unfold rO;split
 .split
  .split
   .split
    .rw[nN];rfl
    .rfl
   .rfl
  .rfl
 .split
  .split
   .split
    .rw[ib,nN];rfl
    .rfl
   .rfl
  .rfl
 .rfl
theorem WnK{R:Type}(st:St)(e:Ty)(a:List (Nat×AVal))(k:KV R):nR st e a k=(nR st e a cM).bind λp=>k p.1 p.2.1 p.2.2:=by
 unfold nR;split
 .rw[ib];split
  .split
   .split
    .rw[ib];rfl
    .rfl
   .rfl
  .rfl
 .rfl
theorem Wo1{R:Type}(st:St)(b:Ty)(a:Nat)(l h:Option Int)(k:KV R):nT st b a l h k=(nT st b a l h cM).bind λp=>k p.1 p.2.1 p.2.2:=by
 unfold nT;split
 .rw[ib,nN];rfl
 .rfl
theorem WlK{R:Type}(st:St)(t a:TypeId)(s x:AVal)(k:KV R):vu T st t a s x k=(vu T st t a s x cM).bind λp=>k p.1 p.2.1 p.2.2:=by
 unfold vu;split
 .split
  .split
   .cases HQ st s x with
    |false=>exact Wnq _ _ _ _ _
    |true=>
    simp only[Xn,Wb];split
    .rw[nN];rfl
    .split
     .split
      .rw[nN];rfl
      .rfl
     .rfl
    .split
     .split
      .rw[nN];rfl
      .rfl
     .rfl
    .rfl
   .rfl
  .rfl
 .rfl
theorem Ox{R:Type}(p:Option (Bool×AVal))(objs:af)(nx:Nat)(k:KV R):(match p with|some (c,v)=>bif c then k v objs nx else none|none=>none)=(match p with|some (c,v)=>bif c then cM v objs nx else none|none=>none).bind λp=>k p.1 p.2.1 p.2.2:=by
 rcases p with _|⟨c,v⟩
 .rfl
 .cases c<;>rfl
theorem zY{R:Type}(o:Oper)(st:St)(k:KV R):rxe T Γ A o st k=(rxe T Γ A o st cM).bind λp=>k p.1 p.2.1 p.2.2:=by
 unfold rxe;split
 .split
  .rw[ib];rfl
  .rw[ib];rfl
  .rfl
 .split<;>rfl
 .split
  .split
   .split<;>rfl
   .rfl
  .rfl
 .split
  .split
   .split
    .rw[ib];split
     .exact WnK _ _ _ _
     .rfl
    .split
     .rw[ib];rfl
     .rfl
   .rfl
  .rfl
 .split
  .split
   .split
    .rw[ib,nN];rfl
    .rw[ib,nN];rfl
   .rfl
  .rfl
 .split
  .split
   .split<;>rfl
   .rfl
  .rfl
 .split
  .split
   .split
    .split
     .rw[ib];split
      .exact Wo1 _ _ _ _ _ _
      .rfl
     .split
      .rw[ib,nN];rfl
      .rw[ib,nN];rfl
      .rfl
    .rfl
   .rfl
  .exact Ox _ _ _ _
 .split
  .split
   .exact WlK _ _ _ _ _ _
   .rfl
  .split
   .split
    .split
     .rw[ib];rfl
     .rfl
    .rfl
   .rfl
  .exact Ox _ _ _ _
  .split
   .split
    .split
     .exact WrE _ _ _ _
     .exact‹Inl›.law _ _ _
    .rfl
   .rfl
  .rfl
 .exact Ox _ _ _ _
end
section
variable{T:Tab}{Γ:Ctx}{A:List (Nat×An)}
theorem Wpw{st:St}{env:List (Nat×AVal)}{t:TypeId}{x v:AVal}:mR T {env:=env,objs:=st.objs,nx:=st.nx} t x v=(mR T st t x v).map λs=>{env:=env,objs:=s.objs,nx:=s.nx}:=by
 unfold mR;generalize Wt T t=q;generalize kq v=z;rcases q with _|te
 .rfl
 rcases z with _|ds
 .rcases x with(c|cs)|xs
  .cases c<;>rfl
  .rfl
  .rfl
 rcases x with(c|cs)|xs
 .cases c with
  |ptr id off=>
   show(match Wt st.objs id with|some (.box cs)=>_|_=>_)=EY _ (match Wt st.objs id with|some (.box cs)=>_|_=>_);generalize Wt st.objs id=a;rcases a with _|a
   .rfl
   cases a with
   |box cs=>
    show(if _ then _ else _)=EY _ (if _ then _ else _);split<;>rfl
   |arr e xs=>rfl
   |hole e xs i p=>rfl
   |dead=>rfl
  |eptr id i off=>
   show(match Wt st.objs id with|some (.arr e xs)=>_|_=>_)=EY _ (match Wt st.objs id with|some (.arr e xs)=>_|_=>_);generalize Wt st.objs id=a;rcases a with _|a
   .rfl
   cases a with
   |box cs=>rfl
   |hole e xs i p=>rfl
   |dead=>rfl
   |arr e xs=>
    show(if _ then _ else _)=EY _ (if _ then _ else _);by_cases b:(decide (te.ty.size=ds.length)&&te.plain&&decide (off+ds.length<=e.size)&&e.data)=true
    .rw[Wf b,Wf b];generalize aC e (lB (split e (Xc xs i e.dflt)) off ds) st.objs=r;rcases r with _|⟨d,m,l⟩
     .rfl
     .cases m<;>cases l<;>rfl
    .rw[We b,We b];by_cases f:(decide (te.ty.size=ds.length)&&te.plain&&decide (off=0)&&decide (ds.length=e.size))=true
     .rw[Wf f,Wf f];generalize aC e ds st.objs=r;rcases r with _|⟨d,m,l⟩
      .rfl
      .cases l with
       |nil=>
        show(if _ then _ else _)=EY _ (if _ then _ else _);split<;>rfl
       |cons _ _=>rfl
     .rw[We f,We f];rfl
  |_=>rfl
 .rfl
 .rfl
theorem WtZ{R:Type}(o:Oper){st:St}{env:List (Nat×AVal)}(k:KV R)(g:∀x∈ar o.op,ev {env:=env,objs:=st.objs,nx:=st.nx} x=ev st x):
  rxe T Γ A o {env:=env,objs:=st.objs,nx:=st.nx} k=rxe T Γ A o st k:=by
 have j:(∀t x l h m,o.op≠ .slice t x l h m)->b5 T {env:=env,objs:=st.objs,nx:=st.nx} o.op=b5 T st o.op:=λN=>SL o.op N g (λ_ _ _ _ _ _ _=>rfl);obtain⟨L,D,J,O,w,guard⟩:=o;simp only at g j;cases D with
 |alloc t=>rfl
 |box t x=>simp only[rxe,g x (by simp[ar])]
 |build t parts=>simp only[rxe,F7 (st:=st) parts.toList λp q=>g p.2 (by simp only[ar];exact Xx.2 ⟨p,q,rfl⟩)]
 |buildSlice t n parts=>
  have B:∀e G,nR {env:=env,objs:=st.objs,nx:=st.nx} e G k=nR st e G k:=λ_ _=>rfl;simp only[rxe,B,F7 (st:=st) parts.toList λp q=>g p.2 (by simp only[ar];exact Xx.2 ⟨p,q,rfl⟩)]
 |makeSlice t n c=>simp only[rxe,g n (by simp[ar]),g c (by simp[ar])]
 |store t a x=>
  simp only[rxe,g a (by simp[ar]),g x (by simp[ar])];split
  .rename_i p v _ _;have e:=Wpw (T:=T) (st:={env:=st.env,objs:=pw st.objs (vH st.objs p v),nx:=st.nx}) (env:=env) (t:=t) (x:=p) (v:=se st.objs (vH st.objs p v) v);simp only at e;rw[e];cases mR T {env:=st.env,objs:=pw st.objs (vH st.objs p v),nx:=st.nx} t p (se st.objs (vH st.objs p v) v)<;>rfl
  .rfl
 |slice t x lo hi m=>
  have u:=g x (by simp[ar]);have E:=Tx (st:=st) (ao:={env:=env,objs:=st.objs,nx:=st.nx}) lo λy C=>g y (by simp only[ar];exact Xg _ (Xm _ C));have H:=Tx (st:=st) (ao:={env:=env,objs:=st.objs,nx:=st.nx}) hi λy C=>g y (by simp only[ar];exact Xg _ (Xi _ (Xm _ C)));cases m with
  |none=>
   have q:b5 T {env:=env,objs:=st.objs,nx:=st.nx} (.slice t x lo hi none)=b5 T st (.slice t x lo hi none):=by
    simp only[b5,u];refine zG λv _=>?_;simp only[Hi,E,H]
   have B:∀I F l h,nT {env:=env,objs:=st.objs,nx:=st.nx} I F l h k=nT st I F l h k:=λ_ _ _ _=>rfl;simp only[rxe,u,E,H,q,B]
  |some y=>rfl
 |call c=>
  have K:=Uz (st:=st) (ao:={env:=env,objs:=st.objs,nx:=st.nx}) c.args.toList λx u=>g x (by simp only[ar];exact Xi _ u);have q:=j (λ_ _ _ _ _ h=>by cases h);simp only[rxe];split
  .rename_i s x t t2 hc ha fw;have r:ev {env:=env,objs:=st.objs,nx:=st.nx} s=ev st s:=g s (by simp only[ar];rw[ha];exact Xi _ (by simp));have M:ev {env:=env,objs:=st.objs,nx:=st.nx} x=ev st x:=g x (by simp only[ar];rw[ha];exact Xi _ (by simp));rw[r,M];rfl
  .rename_i x t hc ha fw;have r:ev {env:=env,objs:=st.objs,nx:=st.nx} x=ev st x:=g x (by simp only[ar];rw[ha];exact Xi _ (by simp));rw[r]
  .rw[q]
  .rename_i f hc;have r:ev {env:=env,objs:=st.objs,nx:=st.nx} f=ev st f:=g f (by simp only[ar];rw[hc];exact Xm _ (by simp));rw[r,K];rfl
  .rfl
 |move x=>simp only[rxe,j (λ_ _ _ _ _ h=>by cases h)]
 |assign x=>simp only[rxe,j (λ_ _ _ _ _ h=>by cases h)]
 |pick c a b=>simp only[rxe,j (λ_ _ _ _ _ h=>by cases h)]
 |load t a=>simp only[rxe,j (λ_ _ _ _ _ h=>by cases h)]
 |nilCheck x=>simp only[rxe,j (λ_ _ _ _ _ h=>by cases h)]
 |binOp D t x y z=>simp only[rxe,j (λ_ _ _ _ _ h=>by cases h)]
 |unOp D t x=>simp only[rxe,j (λ_ _ _ _ _ h=>by cases h)]
 |convert s d x=>simp only[rxe,j (λ_ _ _ _ _ h=>by cases h)]
 |fieldAddr s x f=>simp only[rxe,j (λ_ _ _ _ _ h=>by cases h)]
 |field t x f=>simp only[rxe,j (λ_ _ _ _ _ h=>by cases h)]
 |indexAddr t x i=>simp only[rxe,j (λ_ _ _ _ _ h=>by cases h)]
 |index t x i=>simp only[rxe,j (λ_ _ _ _ _ h=>by cases h)]
 |extract t P=>simp only[rxe,j (λ_ _ _ _ _ h=>by cases h)]
 |makeFunc f first captured=>simp only[rxe,j (λ_ _ _ _ _ h=>by cases h)]
 |_=>rfl
def sy(T:Tab)(o:Oper)(st:St):Option AVal:=match o.op with
 | .build t parts=>match Wt T t,ly st parts.toList with
  |some ⟨a,true,.struct fs⟩,some ps=>
   if fs.all (λf=>match Wt T f.2 with|some te=>te.plain|none=>false)then
    match sq T fs ps (m5 a)with
    |some cs=>some (.s (.agg cs))
    |none=>none
   else none
  |_,_=>none
 |op=>match b5 T st op with
  |some (c,v)=>bif c then some v else none
  |none=>none
theorem ZC(p:Option (Bool×AVal))(objs:af)(nx:Nat):(match p with|some (c,v)=>bif c then cM v objs nx else none|none=>none)=(match p with|some (c,v)=>bif c then some v else none|none=>none).bind λv=>cM v objs nx:=by
 rcases p with _|⟨c,v⟩
 .rfl
 .cases c<;>rfl
theorem UG{o:Oper}(b:bs o=false)(st:St):rxe T Γ A o st cM=(sy T o st).bind λv=>cM v st.objs st.nx:=by
 obtain⟨g,h,f,i,e,guard⟩:=o;cases h with
 |alloc t=>cases b
 |box t x=>cases b
 |buildSlice t n parts=>cases b
 |makeSlice t n c=>cases b
 |store t a x=>cases b
 |slice t x lo hi m=>cases b
 |build t parts=>
  simp only[rxe,sy];generalize Wt T t=q;generalize ly st parts.toList=z;rcases q with _|⟨j,d,shape⟩
  .rfl
  rcases z with _|ps
  .cases d<;>cases shape<;>rfl
  cases d with
  |false=>rfl
  |true=>
   cases shape with
   |struct fs=>
    show(if _ then _ else _)=Option.bind (if _ then _ else _) _;rw[ib];cases sq T fs ps (m5 j)<;>rfl
   |_=>rfl
 |call c=>
  simp only[rxe,sy];split
  .rename_i hc _ _;simp only[bs,hc]at b;cases b
  .rename_i hc _ _;simp only[bs,hc]at b;cases b
  .exact ZC _ _ _
  .rename_i hc;simp only[bs,hc]at b;cases b
  .rename_i h0 h1 h2 h3;have:b5 T st (.call c)=none:=by
    simp only[b5];split
    .rename_i hc _ _;first|exact Wy hc (h0 _)|exact Wy hc (h1 _)|exact Wy hc (h2 _)|exact Wy hc (h3 _)
    .rename_i hc _ _;first|exact Wy hc (h0 _)|exact Wy hc (h1 _)|exact Wy hc (h2 _)|exact Wy hc (h3 _)
    .rename_i hc _ _;first|exact Wy hc (h0 _)|exact Wy hc (h1 _)|exact Wy hc (h2 _)|exact Wy hc (h3 _)
    .rfl
   rw[this];rfl
 |_=>first|rfl|exact ZC (b5 T st _) st.objs st.nx
theorem WrR{o:Oper}(c:bs o=false){st ao:St}(b:∀x∈ar o.op,ev ao x=ev st x)(g:OE o.op=true->∀x∈ar o.op,∀v,ev st x=some v->lP st ao v):sy T o ao=sy T o st:=by
 have d:(∀t x l h m,o.op≠ .slice t x l h m)->b5 T ao o.op=b5 T st o.op:=λc=>SL o.op c b g;obtain⟨f,j,e,k,a,guard⟩:=o;simp only at b d;cases j with
 |slice t x lo hi m=>cases c
 |build t parts=>simp only[sy,F7 (st:=st) parts.toList λp i=>b p.2 (by simp only[ar];exact Xx.2 ⟨p,i,rfl⟩)]
 |_=>simp only[sy,d (λ_ _ _ _ _ h=>by cases h)]
theorem C2(objs:af):∀l,∃a,kill objs l=a++objs
 | []=>⟨[],rfl⟩
 |i::l=>by
  obtain⟨a,h⟩:=C2 objs l;exact⟨(i,.dead)::a,by simp only[kill,h];rfl⟩
theorem o7:∀(c:List PTy) (o:dI c) (a:List Kp) (objs:af) (nx:Nat),∃b,(dy c o a objs nx).1=b++objs
 | [],_,_,objs,_=>⟨[],rfl⟩
 | .v _ _::c,o,a,objs,nx=>o7 c o a objs nx
 | .rp _::c,o,a,objs,nx=>o7 c o a objs nx
 | .box t::c,o,a,objs,nx=>by
  cases a with
  |nil=>exact⟨[],rfl⟩
  |cons k a=>
   obtain⟨b,h⟩:=o7 c o.2 a ((k.id,rY (Wt objs k.id) k.off (unfold t o.1 nx).1)::((unfold t o.1 nx).2.1++objs)) (unfold t o.1 nx).2.2;exact⟨b++(k.id,rY (Wt objs k.id) k.off (unfold t o.1 nx).1)::(unfold t o.1 nx).2.1,by simp only[dy,h];simp⟩
 | .vj _::c,o,a,objs,nx=>o7 c o a objs nx
 | .boxal t _::c,o,a,objs,nx=>by
  cases a with
  |nil=>exact⟨[],rfl⟩
  |cons k a=>
   obtain⟨b,h⟩:=o7 c o.2 a ((k.id,rY (Wt objs k.id) k.off (unfold t o.1 nx).1)::((unfold t o.1 nx).2.1++objs)) (unfold t o.1 nx).2.2;exact⟨b++(k.id,rY (Wt objs k.id) k.off (unfold t o.1 nx).1)::(unfold t o.1 nx).2.1,by simp only[dy,h];simp⟩
 | .mut e::c,o,a,objs,nx=>by
  cases a with
  |nil=>exact⟨[],rfl⟩
  |cons k a=>
   obtain⟨b,h⟩:=o7 c o.2 a ((k.id,.arr e o.1)::objs) nx;exact⟨b++ [(k.id,.arr e o.1)],by simp only[dy,h];simp⟩
 | .clos _ _::c,o,a,objs,nx=>o7 c o a objs nx
 | .kv t _::c,o,a,objs,nx=>by
  obtain⟨b,h⟩:=o7 c o.2 (a.drop t.owns) (dE t o.1 ((a.take t.owns).map Kp.id)++objs) nx;exact⟨b++dE t o.1 ((a.take t.owns).map Kp.id),by simp only[dy,h];simp⟩
theorem o8:∀(a:List PTy) (d:ec a) (objs:af) (nx:Nat),∃b,(ep a d objs nx).2.1=b++objs
 | [],_,objs,_=>⟨[],rfl⟩
 | .v t agg::a,d,objs,nx=>by
  obtain⟨b,h⟩:=o8 a d.2 ((unfold t d.1 nx).2.1++objs) (unfold t d.1 nx).2.2;exact⟨b++(unfold t d.1 nx).2.1,by simp only[ep,h];simp⟩
 | .box t::a,d,objs,nx=>by
  obtain⟨b,h⟩:=o8 a d.2 ((nx,.box (unfold t d.1 (nx+1)).1)::((unfold t d.1 (nx+1)).2.1++objs)) (unfold t d.1 (nx+1)).2.2;exact⟨b++(nx,.box (unfold t d.1 (nx+1)).1)::(unfold t d.1 (nx+1)).2.1,by simp only[ep,h];simp⟩
 | .mut _::a,d,objs,nx=>o8 a d objs nx
 | .clos _ _::a,d,objs,nx=>o8 a d objs nx
 | .kv _ _::a,d,objs,nx=>o8 a d objs nx
 | .rp _::a,d,objs,nx=>o8 a d objs nx
 | .vj t::a,d,objs,nx=>by
  obtain⟨b,h⟩:=o8 a d.2 ((unfold t d.1 nx).2.1++objs) (unfold t d.1 nx).2.2;exact⟨b++(unfold t d.1 nx).2.1,by simp only[ep,h];simp⟩
 | .boxal _ _::a,d,objs,nx=>o8 a d objs nx
def Suf(objs:af)(r:Option Out):Prop:=∀x objs' nx,r=some (x,objs',nx)->∃a,objs'=a++objs
theorem Suf.none{objs:af}:Suf objs none:=λ_ _ _ h=>by cases h
theorem Suf.out{objs pre:af}{x:AVal}{nx:Nat}:Suf objs (cM x (pre++objs) nx):=λ_ _ _ h=>by
 injection h with h;have:=Ws (λp:Out=>p.2.1) h;exact⟨pre,this.symm⟩
theorem Suf.ite{objs:af}{c:Prop}[Decidable c]{r:Option Out}(h:Suf objs r):Suf objs (if c then r else Option.none):=by split;exact h;exact .none
theorem Suf.bif{objs:af}{c:Bool}{r:Option Out}(h:Suf objs r):Suf objs (bif c then r else Option.none):=by cases c;exact .none;exact h
theorem Wkb{st ai:St}{t:TypeId}{x v:AVal}(h:mR T st t x v=some ai):∃a,ai.objs=a++st.objs:=by
 unfold mR at h;split at h
 .split at h
  .split at h
   .injection h with h;subst h;exact⟨[_],rfl⟩
   .cases h
  .cases h
 .split at h
  .split at h
   .split at h
    .injection h with h;subst h;exact⟨[_],rfl⟩
    .cases h
   .split at h
    .split at h
     .rename_i m _;split at h
      .injection h with h;subst h;obtain⟨a,b⟩:=C2 st.objs m;exact⟨_::a,by simp only[b];rfl⟩
      .cases h
     .cases h
    .cases h
  .cases h
 .cases h
theorem NT(p:Option (Bool×AVal))(objs:af)(nx:Nat):Suf objs (match p with|some (c,v)=>bif c then cM v objs nx else none|none=>none):=by
 rcases p with _|⟨c,v⟩
 .exact .none
 .exact Suf.bif (Suf.out (pre:=[]))
theorem LS(sg:Sig)(st:St)(xs:List AVal):Suf st.objs (nV sg st xs cM):=by
 unfold nV;split
 .rename_i A _;split
  .intro x objs' nx h;rw[sg.law]at h;cases hr:sg.run A.d with
   |none=>rw[hr]at h;cases h
   |some out=>
    rw[hr]at h;simp only[Xd]at h;injection h with h;have a:=Ws (λp:Out=>p.2.1) h;simp only at a;obtain⟨f,b⟩:=C2 st.objs A.moved;obtain⟨g,c⟩:=o7 sg.ps out.1 A.kept (kill st.objs A.moved) st.nx;obtain⟨i,e⟩:=o8 sg.rs out.2 (dy sg.ps out.1 A.kept (kill st.objs A.moved) st.nx).1 (dy sg.ps out.1 A.kept (kill st.objs A.moved) st.nx).2;refine⟨i++(g++f),?_⟩;rw[←a,e,c,b];simp
  .exact .none
 .exact .none
theorem Suf.over{objs:af}{l:List Nat}{r:Option Out}(h:Suf (kill objs l) r):Suf objs r:=λx objs' nx c=>by
 obtain⟨d,a⟩:=h x objs' nx c;obtain⟨e,b⟩:=C2 objs l;exact⟨d++e,by rw[a,b];simp⟩
theorem Wn4(sg:Sig)(st:St)(xs:List AVal):Suf st.objs (si sg st xs cM):=by
 unfold si;cases sg.fresh with
 |true=>exact LS _ _ _
 |false=>
  simp only[Wb];split
  .split
   .exact LS _ _ _
   .exact Suf.over (LS sg {env:=st.env,objs:=kill st.objs _,nx:=st.nx} _)
  .exact .none
theorem Nt{objs:af}{x:AVal}{p:Nat×Ob}{l:List Nat}{nx:Nat}:Suf objs (cM x (p::kill objs l) nx):=by
 obtain⟨pre,h⟩:=C2 objs l;rw[h];exact Suf.out (pre:=p::pre)
theorem Wj6(st:St)(a:Ty)(s x:AVal):Suf st.objs (rO st a s x cM):=by
 unfold rO;split
 .split
  .split
   .split
    .exact Suf.bif Nt
    .exact .none
   .exact .none
  .exact .none
 .split
  .split
   .split
    .exact Suf.ite (Suf.bif Nt)
    .exact .none
   .exact .none
  .exact .none
 .exact .none
theorem WjW(st:St)(e:Ty)(a:List (Nat×AVal)):Suf st.objs (nR st e a cM):=by
 unfold nR;split
 .refine Suf.ite ?_;split
  .split
   .exact Suf.ite (Suf.over Nt)
   .exact .none
  .exact .none
 .exact .none
theorem Wmr(st:St)(b:Ty)(a:Nat)(l h:Option Int):Suf st.objs (nT st b a l h cM):=by
 unfold nT;split
 .exact Suf.ite (Suf.bif (Suf.out (pre:=[])))
 .exact .none
theorem TJ(o:Oper)(st:St):Suf st.objs (rxe T Γ A o st cM):=by
 unfold rxe;split
 .split
  .exact Suf.ite (Suf.out (pre:=[_]))
  .exact Suf.ite (Suf.out (pre:=[_]))
  .exact .none
 .split
  .exact Suf.out (pre:=[_])
  .exact .none
 .split
  .split
   .split
    .exact Suf.out (pre:=[])
    .exact .none
   .exact .none
  .exact .none
 .split
  .split
   .split
    .exact Suf.ite (WjW _ _ _)
    .split
     .exact Suf.ite (Suf.over (Suf.out (pre:=[_])))
     .exact .none
   .exact .none
  .exact .none
 .split
  .split
   .split
    .exact Suf.ite (Suf.bif (Suf.out (pre:=[_])))
    .exact Suf.ite (Suf.bif (Suf.out (pre:=[_])))
   .exact .none
  .exact .none
 .split
  .split
   .rename_i ai hs;split
    .obtain⟨pre,h⟩:=Wkb hs;rw[h];exact Suf.over Suf.out
    .exact .none
   .exact .none
  .exact .none
 .split
  .split
   .split
    .split
     .exact Suf.ite (Wmr _ _ _ _ _)
     .split
      .exact Suf.ite (Suf.bif (Suf.out (pre:=[_,_])))
      .exact Suf.ite (Suf.bif (Suf.out (pre:=[_,_,_])))
      .exact .none
    .exact .none
   .exact .none
  .exact NT _ _ _
 .split
  .split
   .unfold vu;split
    .split
     .split
      .cases HQ st _ _ with
       |false=>exact Wj6 _ _ _ _
       |true=>
       simp only[Xn,Wb];split
       .exact Suf.bif (Suf.out (pre:=[_]))
       .split
        .split
         .exact Suf.bif (Suf.out (pre:=[_,_]))
         .exact .none
        .exact .none
       .split
        .split
         .exact Suf.bif (Suf.out (pre:=[_,_]))
         .exact .none
        .exact .none
       .exact .none
      .exact .none
     .exact .none
    .exact .none
   .exact .none
  .split
   .split
    .split
     .exact Suf.ite (Suf.out (pre:=[_]))
     .exact .none
    .exact .none
   .exact .none
  .exact NT _ _ _
  .split
   .split
    .split
     .exact Wn4 _ _ _
     .exactλx objs' nx h=>by have q:=(‹Inl›).suf _ x objs' nx h;exact q
    .exact .none
   .exact .none
  .exact .none
 .exact NT _ _ _
end
end Go.Sx
