/- The abstract machine, part 2: a reflective interpreter of the program's code over data, with its soundness over the model. -/
import Derived.Test.YtokgfiajefpfoaaGreatEng1
open Bool renaming and_eq_true→Xj,not_eq_true'→fg,not_true→Xr,false_eq_true→jP
open List renaming nodup_cons→cC,getElem?_append_left→Ii,getD→Xc,getElem?_append_right→xQ,ext_getElem?→Oa,getElem?_eq_none→ju,replicate→Xt,prefix_refl→XH,nil_prefix→X1,prefix_append_right_inj→V8,length_replicate→BX,append_nil→xV,getElem?_toArray→Oc,append_assoc→lB,getElem?_append→hG,getElem?_take→mu,getElem?_drop→mn,getElem?_eq_some_iff→fe,take_take→o5,drop_drop→B5,take_append_drop→E3,length_take→di,mem_cons_self→Xg,mem_cons_of_mem→Xf,mem_map_of_mem→fU,pairwise_cons→bq,mem_append_left→Xm,mem_append_right→Xh,length_append→Xx,map_append→Xw,pairwise_append→dx,mem_append→Xn,mem_map→Xz,mem_cons→Xs,getElem?_of_mem→N7,getElem?_eq_getElem→Xp,eq_nil_of_length_eq_zero→Xv,map_toArray→B6,map_cons→bK,map_nil→cV,append→Xe,take_length→gt,mem_singleton→bH,length→Xb,append_inj→XJ,length_map→Xy,mem_of_mem_take→jO,mem_of_mem_drop→E9,nodup_append→d9,all_eq_true→cq,nodup_nil→qE,length_drop→Fa,sublist_append_right→XF,getElem?_map→ff,all_cons→o4,mem_of_getElem?→kC
open Array renaming range→kE,foldl_toList→XC,length_toList→gX
open Nat renaming succ_mul→gz,mul_le_mul_right→iv,add_zero→eL,le_trans→jR,zero_mul→Fh,le_refl→Xl,min_eq_left→fV,add_assoc→eK,lt_succ_self→nn,add_mul→lC,eq_of_beq_eq_true→B2,add_sub_cancel_left→tO,le_succ→B7
open Int renaming mul_le_mul_of_nonneg_right→V5
open Option renaming map_eq_some_iff→dw,map_some→mz,bind_eq_some_iff→t8,bind_some→Xd,map→Fj
namespace Go.Sx
set_option linter.unusedVariables false
set_option linter.unusedSimpArgs false
theorem Gc:∀l:List Nat,fL l=true↔l.Nodup
 | []=>by simp[fL]
 |i::l=>by
  have h:=LA i l;simp only[fL,Xj,fg,cC,Gc l]
  grind
theorem Uu{α:Type}(l:List α)(d:α):∀(n i:Nat),i<n*l.length->(rep l n)[i]?=some (l.getD (i%l.length) d)
 |0,i,h=>by simp at h
 |n+1,i,h=>by
  rw[rep];by_cases a:i<l.length
  .grind [Ii,Nat.mod_eq_of_lt,Xc]
  .have fK:l.length<=i:=by omega
   rw[xQ fK,Uu l d n (i-l.length) (by grind)];rw[Nat.mod_eq_sub_mod fK]
theorem Ed(z:Array Value)(n:Nat):((kE (n*z.size)).map λi=>z[i%z.size]!).toList=rep z.toList n:=by
 apply Oa;intro i;by_cases a:i<n*z.size
 .rw[Uu z.toList default n i (by omega)]
  grind
 grind [ju,Hj]
section
variable{w0:World}{F:CS}{nt:Slots}{G0 G:GH}{ν:Nat->Nu}{objs:ad}{nx:Nat}{st ai:St}{a:Act}{w w':World}{P:Program}{T:Tab}
theorem PR(r:HRel w0 F G ν objs nx w){e:Ty}(o:e.data=true):
  ∀(l:List (Nat×AVal)) (f:List (Nat×Value)) (xs b:List e.den) (vs:Array Value),b4 (Enc G e) xs vs.toList->f.length=l.length->
   (∀(j:Nat) (p:Nat×AVal) (q:Nat×Value),l[j]?=some p->f[j]?=some q->p.1=q.1/\AValRel G ν nx p.2 q.2)->BP e objs l xs=some b->
   ∃g,Instr.fill (λi=>some (i*e.size,e.size)) vs f=some g/\b4 (Enc G e) b g.toList/\b.length=xs.length
 | [],[],xs,b,vs,a,_,_,h=>by simp[BP]at h;subst h;exact⟨vs,rfl,a,rfl⟩
 |(i,x)::l,[],_,_,_,_,k,_,_=>by simp at k
 | [],_::_,_,_,_,_,k,_,_=>by simp at k
 |(i,x)::l,(i',v)::f,xs,b,vs,a,k,t,h=>by
  obtain⟨s,u⟩:=t 0 _ _ rfl rfl;simp only at s u;subst s;simp only[BP]at h;split at h
  .rename_i ds iY;split at h
   .rename_i d hf;split at h
    .rename_i ab;obtain⟨z,_⟩:=AI u iY;have n:=Ra r z o hf;have y:v.cells.toList.length=e.size:=dF _ _ _ n;have J:vs.toList.length=xs.length*e.size:=v8 (λx c a=>dF e x c a) _ _ a;have D:i*e.size+e.size<=xs.length*e.size:=by rw[←gz];exact iv _ ab
     have m:=Mg v.cells.toList (i*e.size) 0 vs (by simp_all);simp only[eL]at m;have C:=Ml (λx c a=>dF e x c a) xs vs.toList i d v.cells.toList a ab n;obtain⟨g,A,B,E⟩:=PR r o l f (xs.set i d) b _ (by rw[m,y];exact C) (by simp_all) (λj p q H I=>t (j+1) p q (by simp_all) (by simp_all)) h;refine⟨g,?_,B,by grind⟩;simp only[Instr.fill];rw[Wa (by simp_all)];rw[←A];congr 1;rw[←XC];simp
    grind
   grind
  grind
theorem ZY(r:aO P T)(H:Rel w0 F nt G0 G ν st a w){o:Oper}(R:∀d,o.dst=some d->nt.Ok d){t:TypeId}{n:Nat}{b:Array (Nat×Operand)}(V:o.op= .buildSlice t n b)
  {ty:Ty} {m:TypeId} {f:TE} {g:List (Nat×AVal)} {xs:List f.ty.den} (U:Wt T t=some ⟨ty,false,.slice m⟩) (y:Wt T m=some f)
  (O:g.length=b.toList.length) (h2:∀(j:Nat) (p:Nat×AVal) (q:Nat×Operand),g[j]?=some p->b.toList[j]?=some q->p.1=q.1/\AValRel G ν st.nx p.2 (a.eval q.2))
  (S:BP f.ty st.objs g (Xt n f.ty.dflt)=some xs) (J:n*f.ty.size<=16777216) (A:f.ty.data=true) (u:f.plain=true):
  Done P w0 F nt G0 o a w (st.new o.dst (.arr f.ty xs) (.s (.one (.own st.nx)))):=by
 have W:=(r _ _ U).und.2.1;obtain⟨z,hz,l⟩:=Bh (w:=w) (r _ _ y);rw[vJ u]at l;have X:z.cells.size=f.ty.size:=by rw[←gX,l,nW]
 have N:=Ed z.cells n;rw[X,l]at N;obtain⟨k,C,D,h5⟩:=PR H.h A g (b.toList.map λp=>(p.1,a.eval p.2)) _ xs ((kE (n*f.ty.size)).map λi=>z.cells[i%f.ty.size]!) (by grind [Bm]) (by simp[O]) (λj p q u hq=>by
   grind) S
 have I:xs.length=n:=by grind
 have K:=mH f.ty;have hn:n<=16777216:=jR (Nat.le_mul_of_pos_right n K) J;have Z:k.size=n*f.ty.size:=by
  rw[←gX,v8 (λx c Q=>dF f.ty x c Q) _ _ D,I]
 obtain⟨⟨ν',E⟩,_⟩:=M5 (t:=m) (vs:=k) H R (e:=f.ty) A (xs:=xs) (cap:=n) (cs:=k.toList) (by omega) (by unfold maxLen;omega) Z D (XH _) w rfl rfl rfl rfl;rw[I]at E;refine⟨_,_,_,G,ν',?_,.inl rfl,E⟩;have Y:(b.map λx=>match x with|(i,x)=>(i,a.eval x)).toList=b.toList.map λp=>(p.1,a.eval p.2):=by simp
 simp only[execOp,V,Instr.buildSlice,Sem.run_bind,Wj W,Result.andThen_ok,(r _ _ y).sizeOf,W9 u,Wa (show¬n*f.ty.size>2^24 by omega),Sem.run_pure];by_cases B:n*f.ty.size=0
 .have pK:n=0:=by rcases Nat.mul_eq_zero.1 B with h|h<;>omega
  have L:((kE (n*f.ty.size)).map λi=>z.cells[i%f.ty.size]!)= #[]:=by grind
  rw[L]at C;have M:∀v:Array Value,((kE (n*f.ty.size)).map λi=>v[i%v.size]!)= #[]:=λv=>by grind
  simp only[Wb B,Sem.run_pure,Result.andThen_ok,M,Y,C,Am];rfl
 simp_all [Wa,Sem.run_bind,Result.andThen_ok,Sem.run_pure,Am]
theorem Wkl(u:aO P T)(H:Rel w0 F nt G0 G ν st a w){o:Oper}(D:∀d,o.dst=some d->nt.Ok d){t:TypeId}{n c:Operand}(U:o.op= .makeSlice t n c)
  {ty:Ty} {j:TypeId} {b:TE} {f c':Int} {k I:IntKind} (E:Wt T t=some ⟨ty,false,.slice j⟩) (A:Wt T j=some b) (S:a.eval n= .int k f) (O:a.eval c= .int I c')
  (K:0<=f) (L:f<=c') (C:WC c'.toNat=true) (m:b.ty.data=true) (v:b.plain=true):
  Done P w0 F nt G0 o a w (st.new o.dst (.arr b.ty (Xt f.toNat b.ty.dflt)) (.s (.one (.own st.nx)))):=by
 have V:=(u _ _ E).und.2.1;obtain⟨i,z,Q,x,W,g,X⟩:=(u _ _ A).info;rw[vJ v]at g;rw[W9 v]at x;have y:z.cells.size=b.ty.size:=by rw[←gX,g,nW]
 have J:c'.toNat<=1073741824:=by simpa [WC]using C
 have B:=Ed z.cells c'.toNat;rw[y,g]at B;have Y:rep (df b.ty) f.toNat<+:rep (df b.ty) c'.toNat:=by
  have:∀(l:List Value) (p q:Nat),rep l p<+:rep l (p+q):=λl p q=>by
   induction p with
   |zero=>exact X1
   |succ p ih=>grind [Nat.succ_add,rep,V8]
  have h:=this (df b.ty) f.toNat (c'.toNat-f.toNat)
  rwa [show f.toNat+(c'.toNat-f.toNat)=c'.toNat by omega]at h
 have N:(i.bytes:Int)*c'<=281474976710656:=by
  have M:(i.bytes:Int)*c'<=4096*c':=V5 (by omega) (by omega);omega
 have R:madeCells z.cells (c'.toNat*i.size)=(kE (c'.toNat*b.ty.size)).map λi=>z.cells[i%b.ty.size]!:=by
  rw[x,←y];rfl
 obtain⟨⟨ν',r⟩,_⟩:=M5 (t:=j) (vs:=(kE (c'.toNat*b.ty.size)).map λi=>z.cells[i%b.ty.size]!) H D (e:=b.ty) m (xs:=Xt f.toNat b.ty.dflt) (cap:=c'.toNat) (cs:=rep (df b.ty) f.toNat) (by simp;omega) (by unfold maxLen;omega)
  (by simp) (Bm m _) (by simp_all) w rfl rfl rfl rfl
 rw[BX]at r;refine⟨_,_,_,G,ν',?_,.inl rfl,r⟩
 grind [execOp,Sem.run_bind,run_make,Result.andThen_ok,Sem.run_pure]
theorem ZZ(x:aO P T)(L:Rel w0 F nt G0 G ν st a w){o:Oper}(J:∀d,o.dst=some d->nt.Ok d){t:TypeId}{n c:Operand}(ho:o.op= .makeSlice t n c)
  {ty:Ty} {m:TypeId} {f:TE} {e:Ty} {g c':Int} {k M:IntKind} (K:Wt T t=some ⟨ty,false,.slice m⟩) (D:Wt T m=some f) (Z:a.eval n= .int k g) (V:a.eval c= .int M c')
  (Q:0<=g) (R:g<=c') (I:WC c'.toNat=true) (y:e.ro=f.ty) (r:f.plain=true):
  Done P w0 F nt G0 o a w (st.new o.dst (.arr e (Xt g.toNat e.dflt)) (.s (.one (.own st.nx)))):=by
 have hu:=(x _ _ K).und.2.1;obtain⟨i,z,X,A,hz,j,pL⟩:=(x _ _ D).info;rw[vJ r]at j;rw[W9 r]at A;have N:f.ty.size=e.size:=by rw[←y,jE]
 have B:z.cells.size=f.ty.size:=by rw[←gX,j,nW]
 have O:c'.toNat<=1073741824:=by simpa [WC]using I
 have E:=Ed z.cells c'.toNat;rw[B,j]at E;have we:rep (df f.ty) g.toNat<+:rep (df f.ty) c'.toNat:=by
  have:∀(l:List Value) (p q:Nat),rep l p<+:rep l (p+q):=λl p q=>by
   induction p with
   |zero=>exact X1
   |succ p ih=>grind [Nat.succ_add,rep,V8]
  have h:=this (df f.ty) g.toNat (c'.toNat-g.toNat)
  rwa [show g.toNat+(c'.toNat-g.toNat)=c'.toNat by omega]at h
 have U:(i.bytes:Int)*c'<=281474976710656:=by
  have S:(i.bytes:Int)*c'<=4096*c':=V5 (by omega) (by omega);omega
 have Y:madeCells z.cells (c'.toNat*i.size)=(kE (c'.toNat*f.ty.size)).map λi=>z.cells[i%f.ty.size]!:=by
  rw[A,←B];rfl
 obtain⟨⟨ν',v⟩,_⟩:=GT (t:=m) (vs:=(kE (c'.toNat*f.ty.size)).map λi=>z.cells[i%f.ty.size]!) L J [] (e:=e) (xs:=Xt g.toNat e.dflt) (cap:=c'.toNat) (cs:=rep (df f.ty) g.toNat) (by simp;omega) (by unfold maxLen;omega)
  (by simp[N]) (λφ _=>by
   obtain⟨C,u,H⟩:=Vj (G:=G) (w:=w) e g.toNat;rw[y]at u;exact⟨C,u,QZ C H,λp r b o W=>by simp_all⟩) (by simp_all) w rfl rfl rfl rfl
 rw[BX]at v;refine⟨_,_,_,G,ν',?_,.inl rfl,v⟩
 grind [execOp,Sem.run_bind,run_make,Result.andThen_ok,Sem.run_pure]
theorem Wm5(r:aO P T)(E:Rel w0 F nt G0 G ν st a w){o:Oper}(S:∀d,o.dst=some d->nt.Ok d){t:TypeId}{f:Array (Nat×Operand)}{x:Operand}(ho:o.op= .buildSlice t 1 f)(K:f.toList= [(0,x)])
  {ty:Ty} {n:TypeId} {b:TE} {e:Ty} {I:AVal} {k:List Cell} {d:e.den} {m:List Nat} (Z:Wt T t=some ⟨ty,false,.slice n⟩) (A:Wt T n=some b) (hx:AValRel G ν st.nx I (a.eval x)) (iY:lv I=some k)
  (W:aY e k st.objs=some (d,m,[])) (hm:m.Nodup) (U:e.ro=b.ty) (D:b.plain=true) (cK:b.ty.size<=16777216):
  Done P w0 F nt G0 o a w (({env:=st.env,objs:=(st.nx,.arr e [d])::kill st.objs m,nx:=st.nx+1}:St).put o.dst (.s (.one (.own st.nx)))):=by
 have hu:=(r _ _ Z).und.2.1;obtain⟨z,hz,l⟩:=Bh (w:=w) (r _ _ A);rw[vJ D]at l;have kb:b.ty.size=e.size:=by rw[←U,jE]
 have H:z.cells.size=b.ty.size:=by rw[←gX,l,nW]
 have C:=Ed z.cells 1;rw[H,l]at C;simp only[rep,xV,Nat.one_mul]at C;obtain⟨N,h2⟩:=AI hx iY;have B:∀φ,HR w0 F G ν φ st.objs st.nx w->∃g,cJ (WF G w e) [d] (a.eval x).cells.toList g/\Sep (g.map Pc.fp)/\∀p∈g,CS.le p.fp (FromL φ st.objs m):=λφ v=>by
  obtain⟨ns,q,L,M,_⟩:=iz (G':=G) v (λ_ _ _ X=>X) e k _ d m [] N (λi Y=>by simp at Y) hm W;exact⟨ns,Sk.2 q,L,M⟩
 have J:(a.eval x).cells.size=e.size:=by
  obtain⟨φ,v⟩:=E.h;obtain⟨g,q,_⟩:=B φ v;have:=WN _ _ _ _ (Sk.1 q);simpa using this
 have AQ:((kE b.ty.size).map λi=>z.cells[i%b.ty.size]!).size=b.ty.size:=by simp
 have Q:=Mg (a.eval x).cells.toList 0 0 ((kE b.ty.size).map λi=>z.cells[i%b.ty.size]!) (by simp;omega);have iF:((kE b.ty.size).map λi=>z.cells[i%b.ty.size]!).toList.length=e.size:=by simp[kb]
 have y:((a.eval x).cells.toList.zipIdx.foldl (λcs (c,j)=>cs.setIfInBounds (0+j) c) ((kE b.ty.size).map λi=>z.cells[i%b.ty.size]!)).toList=(a.eval x).cells.toList:=by
  rw[Q];simp only[Nat.zero_add,List.take_zero,List.nil_append];rw[List.drop_eq_nil_of_le (by rw[iF];simp;omega),xV]
 generalize R:(a.eval x).cells.toList.zipIdx.foldl (λcs (c,j)=>cs.setIfInBounds (0+j) c) ((kE b.ty.size).map λi=>z.cells[i%b.ty.size]!)=V at y;have u:V.size=1*e.size:=by rw[←gX,y];simp[J]
 obtain⟨⟨ν',O⟩,_⟩:=GT (t:=n) (vs:=V) E S m (e:=e) (xs:=[d]) (cap:=1) (cs:=(a.eval x).cells.toList) (by simp) (by unfold maxLen;omega) u B (by rw[y];exact XH _) w rfl rfl rfl rfl;refine⟨_,_,_,G,ν',?_,.inl rfl,O⟩;have sT:Instr.fill (λi=>some (i*b.ty.size,b.ty.size)) ((kE b.ty.size).map λi=>z.cells[i%b.ty.size]!) [(0,a.eval x)]=some V:=by
  simp only[Instr.fill,Fh];rw[Wa (by simp;omega),←R];congr 1;rw[←XC];simp
 have jt:(f.map λx=>match x with|(i,x)=>(i,a.eval x)).toList= [(0,a.eval x)]:=by simp[K]
 have dC:=mH b.ty;simp only[execOp,ho,Instr.buildSlice,Sem.run_bind,Wj hu,Result.andThen_ok,(r _ _ A).sizeOf,W9 D,Nat.one_mul,Wa (show¬b.ty.size>2^24 by omega),Wa (show¬b.ty.size=0 by omega),Sem.run_pure,hz,H,jt,sT,Am];rfl
theorem Lh{t:TypeId}{c:TE}(f:TEok P T t c){b off:Nat}{v:Value}{a:Array Value}{TT:TypeId}(i:w.heap[b]?=some (.cells a TT (0,0)))(d:c.size=v.cells.size)(e:off+v.cells.size<=a.size)(g:∀u∈v.cells.toList,u.oneCell'=true):
  (storeVar t ⟨b,off,none⟩ v).run P w= .ok () (w.setRow b (a.toList.take off++v.cells.toList++a.toList.drop (off+v.cells.size)).toArray):=by
 have h:=run_storeCells_at P b off TT v.cells.toList 0 a w i (by simpa using e) g;simp only[eL,gX]at h;simp[storeVar,f.sizeOf,d,h]
theorem DQ{b k:Nat}{vs:Array Value}{T:TypeId}{news:List Value}(h:w.heap[b]?=some (Obj.cells vs T (0,0)))(g:k+news.length<=vs.size):
  WLe (rng b k news.length) w (w.setRow b (vs.toList.take k++news++vs.toList.drop (k+news.length)).toArray)/\Mem (w.setRow b (vs.toList.take k++news++vs.toList.drop (k+news.length)).toArray) b k news:=by
 have c:(vs.toList.take k).length=k:=by simp;omega
 constructor
 .refine WLe.setRow h (by simp;omega) (λo f=>?_);have i:¬(k<=o/\o<k+news.length):=λ⟨d,e⟩=>f ⟨rfl,d,e⟩;simp only[Oc,lB];rw[hG,c];split
  .rename_i a;rw[mu,Wb a];simp
  .rw[hG];split
   .omega
   .rw[mn,show k+news.length+(o-k-news.length)=o by omega];simp
 .intro j v hj;rw[cell_of_row _ b _ _ T (0,0) (setRow_heap w b vs _ T (0,0) h)];have a:j<news.length:=(fe.1 hj).1;simp only[Oc,lB];rw[xQ (by omega),c,Ii (by omega),show k+j-k=j by omega];exact hj
theorem Gk{b o k:Nat}{vs us:List Value}(f:Mem w b o vs)(l:WLe (rng b (o+k) us.length) w w')(h:Mem w' b (o+k) us)(m:k+us.length<=vs.length):Mem w' b o (vs.take k++us++vs.drop (k+us.length)):=λj v a=>by
 have d:∀v',vs[j]?=some v'->¬(k<=j/\j<k+us.length)->w'.cell? ⟨b,o+j,none⟩=some v':=λv' i g=>by
  have c:=f j v' i;rw[l.cell b (o+j) (block_lt_of_cell c) (λ⟨_,h2,h3⟩=>g ⟨by omega,by omega⟩)];exact c
 have e:(vs.take k).length=k:=by simp;omega
 rw[lB,hG,e]at a;split at a
 .rename_i ab;rw[mu,Wb ab]at a;exact d v a (by omega)
 .rw[hG]at a;split at a
  .have:=h (j-k) v a;rw[show o+j=o+k+(j-k) by omega];exact this
  .rw[mn,show k+us.length+(j-k-us.length)=j by omega]at a;exact d v a (by omega)
theorem HR.turn{φ:Nat->CS}(h:HR w0 F G ν φ objs nx w){id:Nat}{d e:Ob}{m:List Nat}(n:Wt objs id=some d)(k:d≠ .dead){S:CS}(q:WLe S w w')(p:CS.le S (φ id))
  (f:fc G ν nx w' id (λb o=>φ id b o\/FromL φ objs m b o) e):HRel w0 F G ν ((id,e)::kill objs m) nx w':=by
 have c:Live objs id:=⟨d,n,k⟩;exact⟨_,h.put (ν':=ν) (λ_ _=>rfl) (Xl _) (h.lt id c) (q.mono λb o a=>⟨id,.inl rfl,c,p b o a⟩) (λb o a=>by
  rcases a with a|⟨i,l,g,j⟩
  .exact .inl ⟨id,.inl rfl,c,a⟩
  .exact .inl ⟨i,.inr l,g,j⟩) (λ_=>f)⟩
theorem Wr8(hT:aO P T)(D:Rel w0 F nt G0 G ν st a w){o:Oper}{t:TypeId}{x y:Operand}(ho:o.op= .store t x y)(kH:o.dst=none){p v:AVal}(E:AValRel G ν st.nx p (a.eval x))(hy:AValRel G ν st.nx v (a.eval y))
  (h:mM T st t p v=some ai):Done P w0 F nt G0 o a w ai:=by
 unfold mM at h;split at h
 .rename_i te id off ds hl iY;obtain⟨N,nK⟩:=AI hy iY;split at h
  .rename_i n H;split at h
   .rename_i cF;simp only[Xj,Wg]at cF;obtain⟨⟨g,U⟩,cQ⟩:=cF;injection h with h;subst h;obtain⟨⟨_,b,K,nd⟩,_⟩:=E;obtain⟨φ,A⟩:=D.h;obtain⟨I,vs,cS,⟨l,TT,B,af⟩,aG,cu,ge⟩:=A.ob _ _ H;rw[K]at cS;injection cS with cS;subst cS;have O:(a.eval y).cells.size=ds.length:=by have:=N.1;simpa using this
    have J:=Lh (w:=w) (hT _ _ hl) (b:=b) (off:=(ν id).off+off) (v:=a.eval y) B (by rw[W9 U,O];exact g) (by omega) nK;obtain⟨r,C⟩:=DQ (k:=(ν id).off+off) (news:=(a.eval y).cells.toList) B (by simp;omega);simp only[gX]at r C;generalize w.setRow b (l.toList.take ((ν id).off+off)++(a.eval y).cells.toList++l.toList.drop ((ν id).off+off+(a.eval y).cells.size)).toArray=W at J r C;have S:HRel w0 F G ν ((id,.box (lO n off ds))::st.objs) st.nx W:=by
     refine A.turn (m:=[]) H (by simp) r (λI o ⟨e,h1,h2⟩=>ge I o ⟨e,by omega,by omega⟩) ?_;refine⟨b,_,K,by rw[Gu cQ];exact r.rows.row _ _ ⟨l,TT,B,af⟩,Gk aG (us:=(a.eval y).cells.toList) (by rw[gX];exact r) C (by rw[cu.1];simp;omega),Gt cu N,λb o f=>.inl (ge b o (by rw[Gu cQ]at f;exact f))⟩
    refine⟨.skip,undef,W,G,ν,?_,.inr ⟨rfl,rfl⟩,?_⟩
    .simp only[execOp,ho,nd,Instr.storeAt,Instr.sureAddr,Sem.run_bind,Sem.run_pure,Result.andThen_ok,J]
    .rw[kH];exact D.on (λ_ _ _ f=>f) (λ_ _=>rfl) (Xl _) S D.gx
   .simp at h
  .simp at h
 .rename_i te id i off ds hl iY;obtain⟨N,nK⟩:=AI hy iY;split at h
  .rename_i e xs H;split at h
   .rename_i cF;simp only[Xj,Wg]at cF;obtain⟨⟨⟨g,U⟩,cQ⟩,bC⟩:=cF;split at h
    .rename_i d hf;injection h with h;subst h;obtain⟨⟨_,wh,b,K,nd⟩,_⟩:=E;obtain⟨φ,A⟩:=D.h;have aM:aF w (WF G w e) e.size (ν id) xs (φ id):=A.ob _ _ H;obtain⟨kG,V,h5,mg,n,X,h8,h9⟩:=AF bC aM K;obtain⟨l,TT,B,af⟩:=mg;have R:=aM.2.1;have L:i<xs.length:=by omega
     have O:(a.eval y).cells.toList.length=ds.length:=N.1;have bI:(a.eval y).cells.size=ds.length:=by simpa using O
     have bN:n.length=xs.length*e.size:=v8 (λx c hc=>dF e x c hc) _ _ X;have AR:i*e.size+e.size<=xs.length*e.size:=by rw[←gz];exact iv _ L
     have AS:xs.length*e.size<=(ν id).cap*e.size:=iv _ V;have pM:=Rn (λx c hc=>dF e x c hc) xs n i e.dflt X L;have wi:=Gt (off:=off) (jU (G:=G) (ν:=ν) (nx:=st.nx) e _ _ pM) N;have gZ:=Ra D.h wi bC hf;have hD:=Ml (λx c hc=>dF e x c hc) xs n i d _ X L gZ;have J:=Lh (w:=w) (hT _ _ hl) (b:=b) (off:=(ν id).off+(i*e.size+off)) (v:=a.eval y) B (by rw[W9 U];omega) (by omega) nK;obtain⟨r,C⟩:=DQ (k:=(ν id).off+(i*e.size+off)) (news:=(a.eval y).cells.toList) B (by omega);simp only[gX]at r C;generalize w.setRow b (l.toList.take ((ν id).off+(i*e.size+off))++(a.eval y).cells.toList++l.toList.drop ((ν id).off+(i*e.size+off)+(a.eval y).cells.size)).toArray=W at J r C;have pN:n.take (i*e.size+off)++(a.eval y).cells.toList++n.drop (i*e.size+off+(a.eval y).cells.toList.length)=
       n.take (i*e.size)++(((n.drop (i*e.size)).take e.size).take off++(a.eval y).cells.toList++((n.drop (i*e.size)).take e.size).drop (off+(a.eval y).cells.toList.length))++n.drop (i*e.size+e.size):=by
      rw[O];have e1:n.take (i*e.size+off)=n.take (i*e.size)++((n.drop (i*e.size)).take e.size).take off:=by
       rw[o5,fV (by omega),←List.take_add]
      have e2:n.drop (i*e.size+off+ds.length)=((n.drop (i*e.size)).take e.size).drop (off+ds.length)++n.drop (i*e.size+e.size):=by
       rw[List.drop_take,B5];have:n.drop (i*e.size+e.size)=(n.drop (i*e.size+(off+ds.length))).drop (e.size-(off+ds.length)):=by rw[B5];congr 1;omega
       rw[this,E3];congr 1;omega
      rw[e1,e2];simp
     have S:HRel w0 F G ν ((id,.arr e (xs.set i d))::st.objs) st.nx W:=by
      refine A.turn (m:=[]) H (by simp) r (λI o ⟨e',h1,h2⟩=>h9 I o ⟨e',by omega,by omega⟩) ?_;refine Rh bC K (by simpa using kG) R (by simpa using V) h5 (r.rows.row _ _ ⟨l,TT,B,af⟩) hD ?_ (λb o f=>.inl (h9 b o f));rw[←pN];exact Gk h8 (us:=(a.eval y).cells.toList) (by rw[gX];exact r) C (by omega)
     refine⟨.skip,undef,W,G,ν,?_,.inr ⟨rfl,rfl⟩,?_⟩
     .simp only[execOp,ho,nd,R,Instr.storeAt,Instr.sureAddr,Sem.run_bind,Sem.run_pure,Result.andThen_ok,J]
     .rw[kH];exact D.on (λ_ _ _ f=>f) (λ_ _=>rfl) (Xl _) S D.gx
    .simp at h
   .split at h
    .rename_i cF;simp only[Xj,Wg]at cF;obtain⟨⟨⟨g,U⟩,wj⟩,AT⟩:=cF;subst wj;split at h
     .rename_i d m hf;split at h
      .rename_i bv;injection h with h;subst h;have bv:(id::m).Nodup:=(Gc _).1 bv;obtain⟨vn,AU⟩:=cC.1 bv;obtain⟨⟨_,wh,b,K,nd⟩,_⟩:=E;obtain⟨φ,A⟩:=D.h;have aM:aF w (WF G w e) e.size (ν id) xs (φ id):=A.ob _ _ H;have bc:Live st.objs id:=⟨_,H,by simp⟩;obtain⟨kG,R,h3⟩:=aM;simp only[K]at h3;obtain⟨V,h5,mg,n,ps,X,h8,h9,ca⟩:=h3;obtain⟨l,TT,B,af⟩:=mg;have L:i<xs.length:=by omega
       have O:(a.eval y).cells.toList.length=ds.length:=N.1;have bI:(a.eval y).cells.size=ds.length:=by simpa using O
       have AR:i*e.size+e.size<=xs.length*e.size:=by rw[←gz];exact iv _ L
       have AS:xs.length*e.size<=(ν id).cap*e.size:=iv _ V;obtain⟨c1,c,c2,p1,pc,p2,g1,g2,g3,g4,g5⟩:=M8 X e.dflt L;have l1:=jJ (λx c q E=>WN e x c q E) _ _ _ g3;rw[di,fV (by omega)]at l1;have lc:=WN _ _ _ _ g4;obtain⟨ns,t1,t2,t3,t4,_⟩:=iz (G':=G) A (λ_ _ _ f=>f) e ds _ d m [] N (λi hi=>by simp at hi) AU hf;have J:=Lh (w:=w) (hT _ _ hl) (b:=b) (off:=(ν id).off+(i*e.size+0)) (v:=a.eval y) B (by rw[W9 U];omega) (by omega) nK;obtain⟨r,C⟩:=DQ (k:=(ν id).off+(i*e.size+0)) (news:=(a.eval y).cells.toList) B (by omega);simp only[gX]at r C;generalize w.setRow b (l.toList.take ((ν id).off+(i*e.size+0))++(a.eval y).cells.toList++l.toList.drop ((ν id).off+(i*e.size+0)+(a.eval y).cells.size)).toArray=W at J r C;have jv:CS.le (rng b ((ν id).off+(i*e.size+0)) (a.eval y).cells.size) (rng b (ν id).off ((ν id).cap*e.size)):=λI o ⟨e',k1,k2⟩=>⟨e',by omega,by omega⟩;have iH:=ca _ (Xg ..);have iA:∀p∈p1++(pc++p2),∀b o,p.fp b o->b<w.heap.size:=λp z b o f=>A.bl id b o bc (ca p.fp (Xf _ (fU (by rw[g2];exact z))) b o f);obtain⟨q1,q2⟩:=bq.1 h9;have kd:∀p∈p1++(pc++p2),Same p.fp w W:=λp z=>r.same ((q1 p.fp (fU (by rw[g2];exact z))).mono jv (λ_ _ f=>f)) (iA p z);have mh:∀p∈ns,Same p.fp w W:=λp z=>r.same (λb o k1 k2=>by
        obtain⟨j,hj,k3,k4⟩:=t3 p z b o k2;have:=A.inj id j b o bc k3 (iH b o (jv b o k1)) k4;subst this;exact vn hj) (λb o f=>by
        obtain⟨j,hj,k3,k4⟩:=t3 p z b o f;exact A.bl j b o k3 k4)
       have Y:cJ (WF G W e) (xs.set i d) (c1++((a.eval y).cells.toList++c2)) (p1++(ns++p2)):=by
        refine Tf L ?_ (lG (λ_ _ _ f=>f) e _ _ _ mh t1) ?_
        .exact pG (Q:=λq=>Same q.fp w W) (λx c q u E=>lG (λ_ _ _ f=>f) e x c q u E) _ _ _ (λq u=>kd q (Xm _ u)) g3
        .exact pG (Q:=λq=>Same q.fp w W) (λx c q u E=>lG (λ_ _ _ f=>f) e x c q u E) _ _ _ (λq u=>kd q (Xh _ (Xh _ u))) g5
       have Z:Mem W b (ν id).off (c1++((a.eval y).cells.toList++c2)):=by
        have:=Gk h8 (k:=i*e.size+0) (us:=(a.eval y).cells.toList) (by rw[gX];exact r) C (by rw[g1];simp;omega);rw[g1,eL,List.take_append_of_le_length (by omega),List.take_of_length_le (by omega)]at this;have sU:(c1++(c++c2)).drop (i*e.size+(a.eval y).cells.toList.length)=c2:=by
         rw[←lB,show i*e.size+(a.eval y).cells.toList.length=(c1++c).length by rw[Xx];omega,List.drop_left]
        rw[sU,lB]at this;exact this
       have S:HRel w0 F G ν ((id,.arr e (xs.set i d))::kill st.objs m) st.nx W:=by
        refine A.turn H (by simp) r (λI o f=>iH I o (jv I o f)) ?_;refine⟨by simpa using kG,R,?_⟩;simp only[K];rw[g2,Xw,Xw]at q2 q1;have qA:=dx.1 q2;have qB:=dx.1 qA.2.1;have pO:∀p∈ns,∀s,CS.le s (φ id)->CS.disj p.fp s:=λp z s g b o k1 k2=>by
         obtain⟨j,hj,k3,k4⟩:=t3 p z b o k1;have:=A.inj id j b o bc k3 (g b o k2) k4;subst this;exact vn hj
        have dp:∀p∈p1++(pc++p2),CS.le p.fp (φ id):=λp z=>ca p.fp (Xf _ (fU (by rw[g2];exact z)));refine⟨by simpa using V,h5,r.rows.row _ _ ⟨l,TT,B,af⟩,_,p1++(ns++p2),Y,Z,bq.2 ⟨λs g=>?_,?_⟩,λs g=>?_⟩
        .simp only[Xw,Xn]at g;rcases g with g|g|g
         .exact q1 s (Xm _ g)
         .obtain⟨p,z,rfl⟩:=Xz.1 g;exact(pO p z _ iH).symm
         .exact q1 s (Xh _ (Xh _ g))
        .rw[Xw,Xw];refine Rr (dx.2 ⟨qA.1,qB.2.1,λs g t M=>qA.2.2 s g t (Xh _ M)⟩) t2 (λs g t M=>?_);obtain⟨p,z,rfl⟩:=Xz.1 g;rcases Xn.1 M with M|M
         .obtain⟨q,u,rfl⟩:=Xz.1 M;exact pO p z _ (dp q (Xm _ u))
         .obtain⟨q,u,rfl⟩:=Xz.1 M;exact pO p z _ (dp q (Xh _ (Xh _ u)))
        .intro b o f;rcases Xs.1 g with rfl|g
         .exact .inl (iH b o f)
         .simp only[Xw,Xn]at g;rcases g with g|g|g
          .obtain⟨q,u,rfl⟩:=Xz.1 g;exact .inl (dp q (Xm _ u) b o f)
          .obtain⟨q,u,rfl⟩:=Xz.1 g;exact .inr (t3 q u b o f)
          .obtain⟨q,u,rfl⟩:=Xz.1 g;exact .inl (dp q (Xh _ (Xh _ u)) b o f)
       refine⟨.skip,undef,W,G,ν,?_,.inr ⟨rfl,rfl⟩,?_⟩
       .simp only[execOp,ho,nd,R,Instr.storeAt,Instr.sureAddr,Sem.run_bind,Sem.run_pure,Result.andThen_ok,J]
       .rw[kH];exact D.on (λ_ _ _ f=>f) (λ_ _=>rfl) (Xl _) S D.gx
      .simp at h
     .simp at h
    .simp at h
  .simp at h
 .simp at h
end
theorem Wy1{G:GH}(t:Ty)(d:t.den)(cs:List Value)(h:Enc G t d cs):∀u∈cs,u.oneCell'=true:=λu e=>by
 obtain⟨j,c⟩:=N7 e;have a:=jU (ν:=λ_=>⟨none,0,0,0,0⟩) (nx:=0) t d cs h;have b:j<(split t d).length:=by rw[←a.1];grind
 exact(a.2 j _ u (Xp b) c).2
theorem Se{G:GH}{t:Ty}:∀(l:List t.den) (cs:List Value),b4 (Enc G t) l cs->∀u∈cs,u.oneCell'=true
 | [],cs,h,u,a=>by grind [b4]
 |x::l,cs,⟨e,b,d,f,c⟩,u,a=>by
  subst d;rcases Xn.1 a with a|a
  .grind [Wy1]
  .exact Se l b c u a
theorem Wtu{G:GH}{w:World}(t:Ty)(d:t.den)(cs:List Value)(b:List Pc)(h:WF G w t d cs b):∀u∈cs,u.oneCell'=true:=λu f=>by
 obtain⟨j,e⟩:=N7 f;have a:=GP (ν:=λ_=>⟨none,0,0,0,0⟩) (nx:=0) t d cs b h;have c:j<(split t d).length:=by rw[←a.1];grind
 exact(a.2 j _ u (Xp c) e).2
theorem QP{G:GH}{w:World}{t:Ty}:∀(l:List t.den) (cs:List Value) (b:List Pc),cJ (WF G w t) l cs b->∀u∈cs,u.oneCell'=true
 | [],cs,b,h,u,a=>by rw[h.1]at a;simp at a
 |x::l,cs,b,⟨g,c,k,f,e,j,i,d⟩,u,a=>by
  subst e;rcases Xn.1 a with a|a
  .grind [Wtu]
  .exact QP l c f d u a
section
variable{w0:World}{F:CS}{nt:Slots}{G0 G:GH}{ν:Nat->Nu}{φ:Nat->CS}{objs:ad}{nx:Nat}{st ai:St}{a:Act}{w w':World}{P:Program}{T:Tab}
structure Src(w0:World)(F:CS)(G:GH)(ν:Nat->Nu)(st:St)(w:World)(e:Ty)(l:List e.den)(m:List Nat)(v:Value)(news:List Value):Prop where
 enc:∀φ,HR w0 F G ν φ st.objs st.nx w->∃ps,cJ (WF G w e) l news ps/\Sep (ps.map Pc.fp)/\∀p∈ps,CS.le p.fp (FromL φ st.objs m)
 rd:(v= .slice none 0 0/\l= [])\/∃(p:Addr) (c:Nat),v= .slice (some p) l.length c/\∀(j:Nat) (u:Value),news[j]?=some u->w.cell? (p.add j)=some u
theorem pU{e:Ty}(a:e.data=true){l:List e.den}{m:List Nat}{v:Value}{news:List Value}(h:b4 (Enc G e) l news)
  (b:(v= .slice none 0 0/\l= [])\/∃(p:Addr) (c:Nat),v= .slice (some p) l.length c/\∀(j:Nat) (u:Value),news[j]?=some u->w.cell? (p.add j)=some u):Src w0 F G ν st w e l m v news:=
 ⟨λφ _=>⟨[],(q9 a l news []).2 ⟨h,rfl⟩,List.Pairwise.nil,by simp⟩,b⟩
theorem L4(D:Rel w0 F nt G0 G ν st a w){e:Ty}(d:e.data=true){x:AVal}{u:Value}{l:List e.den}(m:List Nat)(t:AValRel G ν st.nx x u)(h:NW st e x=some l):∃news,Src w0 F G ν st w e l m u news:=by
 unfold NW at h;split at h
 .rename_i e' d';obtain⟨q,k⟩:=kQ h;subst q;simp only at k;subst k;obtain⟨⟨v,i,M⟩,_⟩:=t;simp at i;subst i;rcases M with⟨rfl,s⟩|⟨b,E,o,p,rfl,y,H,z,A⟩|⟨J,o,rfl,s⟩
  rotate_left 2
  .exact⟨[],pU d (by rw[s];rfl) (.inr ⟨J,o,by grind,λj u f=>by simp at f⟩)⟩
  .exact⟨[],pU d (by rw[s];rfl) (.inl ⟨rfl,s⟩)⟩
  .exact⟨p,pU d z (.inr ⟨⟨b,E,none⟩,o,rfl,λj u f=>by rw[jI];exact D.h.g (A j u f)⟩)⟩
 .injection h with h;subst h;obtain⟨i,_⟩:=t;simp only[CellRel]at i;subst i;exact⟨[],pU d rfl (.inl ⟨rfl,rfl⟩)⟩
 .rename_i id;split at h
  .rename_i e' xs ho;obtain⟨q,k⟩:=kQ h;subst q;simp only at k;subst k;obtain⟨⟨_,i⟩,_⟩:=t;subst i;obtain⟨S,n⟩:=D.h.obj ho;unfold Nu.hdr;cases hb:(ν id).blk with
   |none=>have:=q7 n hb;exact⟨[],pU d (by rw[this];rfl) (.inl ⟨rfl,this⟩)⟩
   |some b=>
    obtain⟨y,H,z,A,p,B,C,L⟩:=AF d n hb;exact⟨p,pU d B (.inr ⟨⟨b,(ν id).off,none⟩,(ν id).cap,by rw[y],λj u f=>by rw[jI];exact C j u f⟩)⟩
  grind
 .rename_i id lo hi;split at h
  .rename_i e' xs ho;obtain⟨T,r,h⟩:=dw.1 h;subst h;obtain⟨q,k⟩:=kQ r;subst q;simp only at k;subst k;obtain⟨⟨_,O,P,Q,i⟩,_⟩:=t;subst i;obtain⟨S,n⟩:=D.h.obj ho;have K:=n.2.1;have R:=n.1;unfold Nu.vhdr;cases hb:(ν id).blk with
   |none=>
    have:=q7 n hb;subst this;exact⟨[],pU d (by simp;rfl) (.inl ⟨rfl,by simp⟩)⟩
   |some b=>
    obtain⟨y,H,z,A,p,B,C,L⟩:=AF d n hb;have I:((xs.take hi).drop lo).length=hi-lo:=by simp;omega
    by_cases N:(ν id).cap=lo
    .have h0:(xs.take hi).drop lo= []:=Xv (by omega);exact⟨[],pU d (by rw[h0];rfl) (.inr ⟨_,_,by rw[I],λj u f=>by simp at f⟩)⟩
    .refine⟨(p.take (hi*e'.size)).drop (lo*e'.size),pU d (DZ (λx c r=>dF e' x c r) _ _ lo (D1 (λx c r=>dF e' x c r) _ _ hi B)) (.inr ⟨_,_,by rw[I,Wa N],λj u f=>?_⟩)⟩;rw[mn,mu]at f;rw[jI,K,eK];split at f
     .exact C _ u f
     grind
  grind
 grind
theorem UA(g:Rel w0 F nt G0 G ν st a w){dst:Option Tmp}(c:∀d,dst=some d->nt.Ok d)(e:Ty)(m:List Nat):
  ∃ν',Rel w0 F nt G0 G ν' (({env:=st.env,objs:=(st.nx,.arr e [])::kill st.objs m,nx:=st.nx+1}:St).put dst (.s (.one (.own st.nx)))) (a.put dst (.slice none 0 0)) w:=by
 refine⟨upd ν st.nx ⟨none,0,0,0,e.size⟩,g.fresh c m (.arr e []) _ (λ_ _ _=>False) _ _ (λφ _=>WLe.refl _ w) (λφ _ b o f=>f.elim) (λφ _=>?_) ⟨⟨nn _,by rw[fZ];rfl⟩,rfl⟩⟩;show aF _ _ _ (upd ν st.nx ⟨none,0,0,0,e.size⟩ st.nx) _ _;rw[fZ];exact⟨rfl,rfl,rfl⟩
theorem WjM(t ty e TT:TypeId)(i:TypeInfo)(q:P.underlying t=some (.slice e))(hi:P.info? e=some i)
  (g off a d:Nat) (b:Array Value) (n:w.heap[g]?=some (.cells b TT (0,0)))
  (p:Addr) (m c:Nat) (news:List Value) (o:news.length=m*i.size) (r:∀j u,news[j]?=some u->w.cell? (p.add j)=some u) (k:∀u∈news,u.oneCell'=true)
  (h:a+m<=d) (s:off+a*i.size+news.length<=b.size):
  (Builtin.append_ #[t,t] ty #[.slice (some ⟨g,off,none⟩) a d,.slice (some p) m c]).run P w=
   .ok (.slice (some ⟨g,off,none⟩) (a+m) d) (w.setRow g (b.toList.take (off+a*i.size)++news++b.toList.drop (off+a*i.size+news.length)).toArray):=by
 have l:=run_firstCells_some (P:=P) w i.size m p m c news o r;have f:=run_storeCells_at P g (off+a*i.size) TT news 0 b w n (by omega) k;simp only[eL]at f;simp[Builtin.append_,Wj q,sizeOf,typeInfo,hi,Builtin.lenOf,h,l,jI,f]
theorem O3(t ty e:TypeId)(i:TypeInfo)(a:P.underlying t=some (.slice e))(hi:P.info? e=some i)(base:Option Addr)(n cap:Nat)(h:n<=cap):
  (Builtin.append_ #[t,t] ty #[.slice base n cap,.slice none 0 0]).run P w= .ok (.slice base n cap) w:=by
 cases base<;>simp[Builtin.append_,Wj a,sizeOf,typeInfo,hi,Builtin.lenOf,h,Builtin.firstCells,storeCells]
theorem WjU(t ty e:TypeId)(i:TypeInfo)(a:P.underlying t=some (.slice e))(hi:P.info? e=some i)(p:Addr)(c:Nat):
  (Builtin.append_ #[t,t] ty #[.slice none 0 0,.slice (some p) 0 c]).run P w= .ok (.slice none 0 0) w:=by
 simp[Builtin.append_,Wj a,sizeOf,typeInfo,hi,Builtin.lenOf,Builtin.firstCells,loadCells,loadCellsFrom]
theorem Au{o:Oper}{c:Call}(j:o.op= .call c){s x:Operand}{t:TypeId}(h:c.callee= .builtin .append)(g:c.args.toList= [s,x])(f:c.argTypes.toList= [t,t]){v:Value}
  (i:(Builtin.append_ #[t,t] o.type #[a.eval s,a.eval x]).run P w= .ok v w'):(execOp a.eval o).run P w= .ok (.value v) w':=by
 obtain⟨e,d,b⟩:=c;obtain⟨d⟩:=d;obtain⟨b⟩:=b;simp only at h g f;subst h g f;simp only[execOp,j,resolve,invoke,builtin,Sem.run_bind,Sem.run_pure,Result.andThen_ok,B6,bK,cV,i]
theorem Vi(w:World)(a b:Nat)(e:TypeId)(h:WC a=true):a<=grownCap w a b e/\grownCap w a b e<=maxLen:=
 ⟨grownCap_ge w a b e,grownCap_le_maxLen w a b e (by grind [WC,maxLen])⟩
theorem Qf(h:Rel w0 F nt G0 G ν st a w){dst:Option Tmp}(f:∀d,dst=some d->nt.Ok d)(m:List Nat){e:Ty}{xs:List e.den}{cs:List Value}(g:cs.length=xs.length*e.size)
  (c:∀φ,HR w0 F G ν φ st.objs st.nx w->∃b,cJ (WF G w e) xs cs b/\Sep (b.map Pc.fp)/\∀p∈b,CS.le p.fp (FromL φ st.objs m)) {cap:Nat} (j:xs.length<=cap) (k:cap<=maxLen) (z:Array Value) (i:z.size=e.size) (t:TypeId):
  ∃ν',Rel w0 F nt G0 G ν' (({env:=st.env,objs:=(st.nx,.arr e xs)::kill st.objs m,nx:=st.nx+1}:St).put dst (.s (.one (.own st.nx)))) (a.put dst (.slice (some ⟨w.heap.size,0,none⟩) xs.length cap)) (w.drew.alloc (.cells (cs.toArray++Builtin.zeroCells z (cap-xs.length)) t)):=by
 refine(GT h f m (e:=e) (xs:=xs) (cap:=cap) (cs:=cs) (vs:=cs.toArray++Builtin.zeroCells z (cap-xs.length)) (t:=t) j k ?_ c ?_ w.drew rfl rfl rfl rfl).1
 .simp only[Array.size_append,List.size_toArray,size_zeroCells,i,g,←lC];simp_all
 .simp
structure ElT(P:Program)(t et:TypeId)(e:Ty):Prop where
 u:P.underlying t=some (.slice et)
 i:∃i z,P.info? et=some i/\i.size=e.size/\i.zero=some z/\z.cells.size=e.size/\i.bytes<=4096
theorem elT(f:aO P T){t a:TypeId}{ty:Ty}{k:Bool}{b:TE}{e:Ty}(m:Wt T t=some ⟨ty,k,.slice a⟩)(j:Wt T a=some b)(h:b.plain=true)(g:b.ty.size=e.size):ElT P t a e:=by
 obtain⟨i,z,l,c,n,d,o⟩:=(f _ _ j).info;rw[W9 h]at c;rw[vJ h]at d;exact⟨(f _ _ m).und.2.1,i,z,l,by rw[c,g],n,by rw[←gX,d,nW,g],o⟩
theorem DE(j:Rel w0 F nt G0 G ν st a w){o:Oper}(y:∀d,o.dst=some d->nt.Ok d){c:Call}{s x:Operand}{t r:TypeId}{e:Ty}(I:ElT P t r e)
  (A:o.op= .call c) (v:c.callee= .builtin .append) (u:c.args.toList= [s,x]) (n:c.argTypes.toList= [t,t]) (eG:a.eval s= .slice none 0 0)
  {l:List e.den} {m m':List Nat} {news:List Value} (g:Src w0 F G ν st w e l m (a.eval x) news) (J:∀i∈m,i∈m') (C:WC l.length=true):
  Done P w0 F nt G0 o a w (({env:=st.env,objs:=(st.nx,.arr e l)::kill st.objs m',nx:=st.nx+1}:St).put o.dst (.s (.one (.own st.nx)))):=by
 obtain⟨hu,i,z,hi,X,hz,L,S⟩:=I;have U:l.length<=1073741824:=by grind [WC]
 have Z:=mH e;rcases g.rd with⟨D,k⟩|⟨pa,Y,D,W⟩
 .subst k;obtain⟨ν',f⟩:=UA j y e m';exact⟨_,_,_,G,ν',Au A v u n (by simp_all [O3,Xl]),.inl rfl,f⟩
 .by_cases h0:l.length=0
  .have k:l= []:=Xv h0;subst k;obtain⟨ν',f⟩:=UA j y e m';exact⟨_,_,_,G,ν',Au A v u n (by grind [WjU]),.inl rfl,f⟩
  .obtain⟨φ,B⟩:=j.h;obtain⟨V,E,_⟩:=g.enc φ B;have Q:news.length=l.length*e.size:=jJ (λx c q g=>WN e x c q g) _ _ _ E;obtain⟨R,H⟩:=Vi w l.length 0 r C;obtain⟨ν',f⟩:=Qf j y m' Q (λφ B=>by
    obtain⟨T,M,N,O⟩:=g.enc φ B;exact⟨T,M,N,λp K b o f=>FromL.mono J b o (O p K b o f)⟩) R H z.cells L r
   have vp:l.length*i.bytes<=281474976710656:=by
    have:=Nat.mul_le_mul U S;omega
   refine⟨_,_,_,G,ν',Au A v u n ?_,.inl rfl,f⟩
   grind [run_append_nil]
theorem Ax{e:Ty}{nu:Nu}{xs:List e.den}{S:CS}{b k:Nat}(h:aF w (WF G w e) e.size nu xs S)(y:nu.blk=some b)(z:k<=xs.length):
  ∃a d,cJ (WF G w e) (xs.take k) a d/\a.length=k*e.size/\Mem w b nu.off a/\Sep (rng b nu.off (nu.cap*e.size)::d.map Pc.fp)/\(∀s∈rng b nu.off (nu.cap*e.size)::d.map Pc.fp,CS.le s S):=by
 obtain⟨E,F,g⟩:=h;simp only[y]at g;obtain⟨H,I,J,p,B,u,i,v,o⟩:=g;obtain⟨a,C,d,K,r,t,f,D⟩:=DU xs p B k u;have j:=jJ (λx c q A=>WN e x c q A) _ _ _ f;rw[di,fV z]at j;obtain⟨m,n⟩:=bq.1 v;rw[t,Xw]at m n o;refine⟨a,d,f,j,by rw[r]at i;exact i.left,bq.2 ⟨λs l=>m s (Xm _ l),(dx.1 n).1⟩,λs l=>?_⟩
 grind
theorem K9(hr:Rel w0 F nt G0 G ν st a w){o:Oper}(hd:∀d,o.dst=some d->nt.Ok d){c:Call}{s x:Operand}{t X:TypeId}{e:Ty}(hE:ElT P t X e)
  (ho:o.op= .call c) (hc:c.callee= .builtin .append) (ha:c.args.toList= [s,x]) (eB:c.argTypes.toList= [t,t])
  {id g k:Nat} {xs:List e.den} (R:Wt st.objs id=some (.arr e xs)) (T:(ν id).blk=some g) (hk:k<=xs.length) (eG:a.eval s= .slice (some ⟨g,(ν id).off,none⟩) k (ν id).cap)
  {l:List e.den} {m:List Nat} {news:List Value} (C:Src w0 F G ν st w e l m (a.eval x) news) (hm:id∉m) (aS:WC (k+l.length)=true):
  Done P w0 F nt G0 o a w (({env:=st.env,objs:=(st.nx,.arr e (Xe (xs.take k) l))::kill st.objs (id::m),nx:=st.nx+1}:St).put o.dst (.s (.one (.own st.nx)))):=by
 obtain⟨hu,i,z,hi,K,hz,iE,pL⟩:=hE;have sX:k+l.length<=1073741824:=by grind [WC]
 have dC:=mH e;have aa:(Xe (xs.take k) l).length=k+l.length:=by show(xs.take k++l).length=_;rw[Xx,di,fV hk]
 obtain⟨φ0,hφ0⟩:=hr.h;have ke:aF w (WF G w e) e.size (ν id) xs (φ0 id):=hφ0.ob _ _ R;have oU:=ke.2.2;simp only[T]at oU;obtain⟨hxc,mj,⟨E,TT,hJ,af⟩,_⟩:=oU;obtain⟨c1,p10,_,sY,sZ,_,_⟩:=Ax ke T hk;obtain⟨AW,e0,_⟩:=C.enc φ0 hφ0;have M:news.length=l.length*e.size:=jJ (λx c q C=>WN e x c q C) _ _ _ e0;have J:Live st.objs id:=⟨_,R,by simp⟩;have s0:∀{U:List Value},U.length=k*e.size->Mem w g (ν id).off U->U=c1:=λ{U} D H=>Oa λj=>by
  by_cases u:j<k*e.size
  .have ru:j<U.length:=by omega
   have vq:j<c1.length:=by omega
   have a1:=H j _ (Xp ru);have a2:=sZ j _ (Xp vq);simp_all
  simp_all
 have y:∀(W:World),WLe (rng g ((ν id).off+k*e.size) (l.length*e.size)) w W->Mem W g ((ν id).off+k*e.size) news->k+l.length<=(ν id).cap->
   ∃ν',Rel w0 F nt G0 G ν' (({env:=st.env,objs:=(st.nx,.arr e (Xe (xs.take k) l))::kill st.objs (id::m),nx:=st.nx+1}:St).put o.dst (.s (.one (.own st.nx)))) (a.put o.dst (.slice (some ⟨g,(ν id).off,none⟩) (k+l.length) (ν id).cap)) W:=by
  intro W hW hM V;have jo:(k+l.length)*e.size<=(ν id).cap*e.size:=iv _ V;rw[lC]at jo;have jv:CS.le (rng g ((ν id).off+k*e.size) (l.length*e.size)) (rng g (ν id).off ((ν id).cap*e.size)):=λb o ⟨k0,k1,k2⟩=>⟨k0,by omega,by omega⟩;refine⟨upd ν st.nx ⟨some g,(ν id).off,k+l.length,(ν id).cap,e.size⟩,hr.fresh hd (id::m) (.arr e (Xe (xs.take k) l)) _ (λφ b o=>φ id b o\/FromL φ st.objs m b o) _ _ (λφ B=>?_) (λφ B b o f=>?_) (λφ B=>?_) ⟨⟨nn _,by rw[fZ];rfl⟩,rfl⟩⟩
  .have O:aF w (WF G w e) e.size (ν id) xs (φ id):=B.ob _ _ R;obtain⟨_,_,_,_,_,_,aU⟩:=Ax O T hk;exact hW.mono λb o f=>⟨id,.inr (Xg ..),J,aU _ (Xg ..) b o (jv b o f)⟩
  .rcases f with f|⟨j,u,D,H⟩
   .exact .inl ⟨id,.inr (Xg ..),J,f⟩
   .exact .inl ⟨j,.inr (Xf _ u),D,H⟩
  .have O:aF w (WF G w e) e.size (ν id) xs (φ id):=B.ob _ _ R;obtain⟨ry,N,g3,g4,g5,g6,g7⟩:=Ax O T hk;obtain⟨ps,k1,k2,L⟩:=C.enc φ B;obtain⟨q1,q2⟩:=bq.1 g6;have iH:=g7 _ (Xg ..);have oV:∀p∈N,CS.le p.fp (φ id):=λp r=>g7 _ (Xf _ (fU r));have s7:∀p∈ps,∀S,CS.le S (φ id)->CS.disj S p.fp:=λp r S hS b o D H=>by
    obtain⟨j,u,Y,Z⟩:=L p r b o H;have:=B.inj id j b o J Y (hS b o D) Z;simp_all
   have kd:∀p∈N,Same p.fp w W:=λp r=>hW.same ((q1 p.fp (fU r)).mono jv (λ_ _ f=>f)) (λb o f=>B.bl id b o J (oV p r b o f));have mh:∀p∈ps,Same p.fp w W:=λp r=>hW.same (s7 p r _ (λb o f=>iH b o (jv b o f))) (λb o f=>by
    obtain⟨j,u,Y,Z⟩:=L p r b o f;exact B.bl j b o Y Z)
   show aF W (WF G W e) e.size (upd ν st.nx ⟨some g,(ν id).off,k+l.length,(ν id).cap,e.size⟩ st.nx) _ _;rw[fZ];refine⟨aa,rfl,by simp_all,mj,hW.rows.row _ _ ⟨E,TT,hJ,af⟩,ry++news,N++ps,Ga _ _ _ _ _ _ ?_ ?_,?_,bq.2 ⟨λs A=>?_,?_⟩,λs A b o f=>?_⟩
   .exact pG (Q:=λq=>Same q.fp w W) (λx c q I C=>lG (λ_ _ _ f=>f) e x c q I C) _ _ _ kd g3
   .exact pG (Q:=λq=>Same q.fp w W) (λx c q I C=>lG (λ_ _ _ f=>f) e x c q I C) _ _ _ mh k1
   .refine Mem.app (n:=k*e.size) (λj v u=>?_) hM g4;have D:=g5 j v u;have bw:j<ry.length:=(fe.1 u).1;rw[hW.cell g ((ν id).off+j) (block_lt_of_cell D) (λ⟨_,H,_⟩=>by omega)];exact D
   .grind
   .rw[Xw];refine dx.2 ⟨q2,k2,λs A t ht=>?_⟩
    grind
   .rcases Xs.1 A with rfl|A
    .exact .inl (iH b o f)
    .rw[Xw]at A;rcases Xn.1 A with A|A
     .obtain⟨p,r,rfl⟩:=Xz.1 A;exact .inl (oV p r b o f)
     .obtain⟨q,I,rfl⟩:=Xz.1 A;exact .inr (L q I b o f)
 rcases C.rd with⟨bt,cw⟩|⟨pa,cc,bt,ak⟩
 .have rr:l.length=0:=by simp_all
  have pK:news= []:=Xv (by simp_all);obtain⟨ν',f⟩:=y w (WLe.refl _ w) (by rw[pK];exactλj v u=>by simp at u) (by omega);refine⟨_,_,_,G,ν',Au ho hc ha eB ?_,.inl rfl,f⟩
  grind [O3]
 .by_cases V:k+l.length<=(ν id).cap
  .have wm:(k+l.length)*e.size<=(ν id).cap*e.size:=iv _ V;rw[lC]at wm;have bB:=WjM (P:=P) (w:=w) t o.type X TT i hu hi g (ν id).off k (ν id).cap E hJ pa l.length cc news (by rw[K];exact M) (λj v u=>ak j v u) (QP _ _ _ e0) V (by rw[K,M];omega);obtain⟨hw,nf⟩:=DQ (k:=(ν id).off+k*i.size) (news:=news) hJ (by rw[K,M];omega);generalize w.setRow g (E.toList.take ((ν id).off+k*i.size)++news++E.toList.drop ((ν id).off+k*i.size+news.length)).toArray=W at bB hw nf;rw[K]at hw nf;rw[M]at hw;obtain⟨ν',f⟩:=y W hw nf V;exact⟨_,_,_,G,ν',Au ho hc ha eB (by rw[eG,bt,bB]),.inl rfl,f⟩
  .obtain⟨mf,fQ⟩:=Vi w (k+l.length) (ν id).cap X aS;have bN:(c1++news).length=(Xe (xs.take k) l).length*e.size:=by rw[Xx,sY,M,aa,lC]
   obtain⟨ν',f⟩:=Qf hr hd (id::m) (xs:=Xe (xs.take k) l) bN (λφ B=>by
    have O:aF w (WF G w e) e.size (ν id) xs (φ id):=B.ob _ _ R;obtain⟨ry,N,g3,g4,g5,g6,g7⟩:=Ax O T hk;obtain⟨ps,k1,k2,L⟩:=C.enc φ B;have:=s0 g4 g5;subst this;obtain⟨q1,q2⟩:=bq.1 g6;have oV:∀p∈N,CS.le p.fp (φ id):=λp r=>g7 _ (Xf _ (fU r));refine⟨N++ps,Ga _ _ _ _ _ _ g3 k1,?_,λp r b o f=>?_⟩
    .rw[Xw];refine dx.2 ⟨q2,k2,λs A t ht=>?_⟩;obtain⟨p,r,rfl⟩:=Xz.1 A;obtain⟨q,I,rfl⟩:=Xz.1 ht;intro b o D H;obtain⟨j,u,Y,Z⟩:=L q I b o H;have:=B.inj id j b o J Y (oV p r b o D) Z;subst this;exact hm u
    .rcases Xn.1 r with r|r
     .exact⟨id,Xg ..,J,oV p r b o f⟩
     .exact FromL.mono (λi hi=>Xf _ hi) b o (L p r b o f)) (by rw[aa];exact mf) fQ z.cells iE X
   have vp:(k+l.length)*i.bytes<=140737488355328:=by
    have:=Nat.mul_le_mul sX pL;omega
   have bB:=run_append_grow (P:=P) w t o.type X i z hu hi hz ⟨g,(ν id).off,none⟩ k (ν id).cap c1 (by rw[K];exact sY) (λj v u=>by rw[jI];exact sZ j v u) pa l.length cc news (by rw[K];exact M) (λj v u=>ak j v u) (by omega) (by omega) (growslice_fits (by omega) vp);refine⟨_,_,_,G,ν',Au ho hc ha eB ?_,.inl rfl,f⟩;rw[eG,bt,bB,aa];simp
theorem Mo{a:Nat}{e:Ty}{xs:List e.den}(d:HRel w0 F G ν objs nx w)(c:Wt objs a=some (.arr e xs)):
  ((ν a).blk=none/\xs= []/\(ν a).hdr= .slice none 0 0)\/∃g,(ν a).blk=some g/\(ν a).hdr= .slice (some ⟨g,(ν a).off,none⟩) xs.length (ν a).cap:=by
 obtain⟨S,b⟩:=d.obj c;unfold Nu.hdr;cases hb:(ν a).blk with
 |none=>exact .inl ⟨rfl,q7 b hb,rfl⟩
 |some g=>exact .inr ⟨g,rfl,by rw[b.1]⟩
theorem Wok(Z:aO P T)(n:Rel w0 F nt G0 G ν st a w){o:Oper}(M:∀d,o.dst=some d->nt.Ok d){c:Call}{s x:Operand}{t J:TypeId}{ty:Ty}{S:TE}{sv U:AVal}{R:Type}{k:St->Option R}{r:R}
  (hl:Wt T t=some ⟨ty,false,.slice J⟩) (W:Wt T J=some S) (C:S.plain=true)
  (O:o.op= .call c) (L:c.callee= .builtin .append) (K:c.args.toList= [s,x]) (I:c.argTypes.toList= [t,t]) (hs:ev st s=some sv) (hx:ev st x=some U)
  (h:rQ st S.ty sv U (λx objs nx=>k (({env:=st.env,objs:=objs,nx:=nx}:St).put o.dst x))=some r):∃ai,k ai=some r/\Done P w0 F nt G0 o a w ai:=by
 have v:∀(e:Ty) (l:List e.den) (m:List Nat),H0 st e U=some (l,m)->∃news,Src w0 F G ν st w e l m (a.eval x) news:=λe l m f=>by
  unfold H0 at f;split at f
  .simp only[Option.some.injEq,Prod.mk.injEq]at f;obtain⟨rfl,rfl⟩:=f;obtain⟨D,_⟩:=WU n x _ hx;exact⟨[],λφ _=>⟨[],⟨rfl,rfl⟩,List.Pairwise.nil,by simp⟩,.inl ⟨D,rfl⟩⟩
  .rename_i id;split at f
   .rename_i e' xs y;obtain⟨ys,bW,f⟩:=dw.1 f;have h2:=Prod.mk.inj f;obtain⟨h3,h4⟩:=h2;subst h3 h4;obtain⟨fx,kI⟩:=kQ bW;subst fx;simp only at kI;subst kI;obtain⟨⟨_,D⟩,_⟩:=WU n x _ hx;have bc:Live st.objs id:=⟨_,y,by simp⟩;rcases Mo n.h y with⟨z,H,q⟩|⟨g,z,q⟩
    .subst H;exact⟨[],λφ _=>⟨[],⟨rfl,rfl⟩,List.Pairwise.nil,by simp⟩,.inl ⟨by rw[D,q],rfl⟩⟩
    .obtain⟨φ0,Q⟩:=n.h;have ke:aF w (WF G w e') e'.size (ν id) xs (φ0 id):=Q.ob _ _ y;obtain⟨c1,p1,g1,g2,X,g4,g5⟩:=Ax ke z (Xl _);refine⟨c1,λφ hφ=>?_,.inr ⟨⟨g,(ν id).off,none⟩,(ν id).cap,by rw[D,q],λj u hj=>by rw[jI];exact X j u hj⟩⟩;have aM:aF w (WF G w e') e'.size (ν id) xs (φ id):=hφ.ob _ _ y;obtain⟨ry,AX,k1,k2,k3,k4,k5⟩:=Ax aM z (Xl _);have:ry=c1:=Oa λj=>by
      by_cases hj:j<xs.length*e'.size
      .have ru:j<ry.length:=by omega
       have vq:j<c1.length:=by omega
       have a1:=k3 j _ (Xp ru);have V:=X j _ (Xp vq);rw[a1]at V;rw[Xp ru,Xp vq];exact V
      .rw[ju (by omega),ju (by omega)]
     subst this;rw[gt]at k1;exact⟨AX,k1,(bq.1 k4).2,λp C b o q=>⟨id,bH.2 rfl,bc,k5 _ (Xf _ (fU C)) b o q⟩⟩
   .simp at f
  .simp at f
 unfold rQ at h;split at h
 .split at h
  .rename_i e rz;split at h
   .rename_i he;split at h
    .rename_i l m f;obtain⟨news,B⟩:=v e l m f;cases aS:WC l.length with
     |false=>simp[aS]at h
     |true=>
      simp[aS]at h;obtain⟨A,_⟩:=WU n s _ hs;exact⟨_,h,DE n M (elT Z hl W C (by rw[←he,jE])) O L K I A B (λi N=>N) aS⟩
    .simp at h
   .simp at h
  .simp at h
 .rename_i id;split at h
  .rename_i e xs y;split at h
   .rename_i he;split at h
    .rename_i l m f;obtain⟨news,B⟩:=v e l m f;split at h
     .rename_i E;have E:=(cC.1 ((Gc _).1 E)).1;cases aS:WC (xs.length+l.length)with
      |false=>simp[aS]at h
      |true=>
       simp[aS]at h;refine⟨_,h,?_⟩;have Y:ElT P t J e:=elT Z hl W C (by rw[←he,jE]);obtain⟨⟨_,A⟩,_⟩:=WU n s _ hs;rcases Mo n.h y with⟨z,H,q⟩|⟨g,z,q⟩
       .subst H;exact DE n M Y O L K I (by rw[A,q]) B (λi N=>Xf _ N) (by simpa [WC]using aS)
       .have:=K9 n M Y O L K I y z (Xl _) (by rw[A,q]) B E aS;rw[gt]at this;exact this
     .simp at h
    .simp at h
   .simp at h
  .simp at h
 .simp at h
theorem Wpe(M:aO P T)(b:Rel w0 F nt G0 G ν st a w){o:Oper}(y:∀d,o.dst=some d->nt.Ok d){c:Call}{s x:Operand}{t O:TypeId}{I J:AVal}{R:Type}{k:St->Option R}{r:R}
  (z:o.op= .call c) (v:c.callee= .builtin .append) (u:c.args.toList= [s,x]) (q:c.argTypes.toList= [t,O]) (C:ev st s=some I) (D:ev st x=some J)
  (h:wN T st t O I J (λx objs nx=>k (({env:=st.env,objs:=objs,nx:=nx}:St).put o.dst x))=some r):∃ai,k ai=some r/\Done P w0 F nt G0 o a w ai:=by
 unfold wN at h;split at h
 .rename_i ty et _ hl _;split at h
  .rename_i te aU;split at h
   .rename_i cF;obtain⟨rfl,N,E⟩:=cF;have A:ElT P t et te.ty:=elT M hl aU N rfl;cases ja:H1 st I J with
    |false=>
     simp only[ja,Bool.not_false,We]at h;exact Wok M b y hl aU N z v u q C D h
    |true=>
    simp only[ja,Xr,Wc]at h;split at h
    .rename_i l bI;cases aS:WC l.length with
     |false=>simp[aS]at h
     |true=>
      simp[aS]at h;obtain⟨e,_⟩:=WU b s _ C;obtain⟨j,m⟩:=L4 b E [] (WU b x _ D) bI;exact⟨_,h,DE (m':=[]) b y A z v u q e m (λi p=>p) aS⟩
    .rename_i id l bI;split at h
     .rename_i e0 xs aV;split at h
      .rename_i ys bW;obtain⟨n,B⟩:=Ll bW;injection n with n;subst n;simp only at B;subst B;cases aS:WC (Xb xs+l.length)with
       |false=>simp[aS]at h
       |true=>
        simp[aS]at h;refine⟨_,h,?_⟩;obtain⟨⟨_,e⟩,_⟩:=WU b s _ C;obtain⟨j,m⟩:=L4 b E [] (WU b x _ D) bI;rcases Mo b.h aV with⟨f,L,H⟩|⟨g,f,H⟩
        .subst L;exact DE (m':=[id]) b y A z v u q (by rw[e,H]) m (λi p=>by simp at p) (by simpa [WC]using aS)
        .have:=K9 b y A z v u q aV f (Xl _) (by rw[e,H]) m (by simp) aS;rw[gt]at this;exact this
      .simp at h
     .simp at h
    .rename_i id p l bI;split at h
     .rename_i e0 xs aV;split at h
      .rename_i ys bW;obtain⟨n,B⟩:=Ll bW;injection n with n;subst n;simp only at B;subst B;cases aS:WC (p+l.length)with
       |false=>simp[aS]at h
       |true=>
        simp[aS]at h;refine⟨_,h,?_⟩;obtain⟨⟨_,W,Q,U,e⟩,_⟩:=WU b s _ C;obtain⟨j,m⟩:=L4 b E [] (WU b x _ D) bI;obtain⟨S,K⟩:=b.h.obj aV;unfold Nu.vhdr at e;cases f:(ν id).blk with
        |none=>
         have L:=q7 K f;simp only[f]at e;have V:=U f;subst V;show Done P w0 F nt G0 o a w (({env:=st.env,objs:=(st.nx,.arr te.ty l)::(id,.dead)::st.objs,nx:=st.nx+1}:St).put o.dst (.s (.one (.own st.nx))));exact DE (m':=[id]) b y A z v u q e m (λi p=>by simp at p) (by simpa [WC]using aS)
        |some g=>
         simp only[f,Nat.sub_zero,Fh,eL,ite_self]at e;exact K9 b y A z v u q aV f (by rw[K.1];exact Q) e m (by simp) aS
      .simp at h
     .simp at h
    .simp at h
   .simp at h
  .simp at h
 .simp at h
end
section
variable{w0:World}{F:CS}{nt:Slots}{G0 G:GH}{ν:Nat->Nu}{φ:Nat->CS}{objs:ad}{nx:Nat}{st ai:St}{a:Act}{w w':World}{P:Program}{T:Tab}
theorem L2{t e:TypeId}{c:TE}{nu:Nu}{n:Nat}{lo hi:Option Int}{k j:Option Value}(i:P.underlying t=some (.slice e))(d:TEok P T e c)(A:c.plain=true)(o:nu.esz=c.ty.size)
  (y:n<=nu.cap) (z:n=nu.len) (l:nu.blk=none->n=0) (h:BRel lo k) (g:BRel hi j) (f:(aX n lo hi).1=true):
  (Instr.sliceAt t nu.hdr k j none).run P w= .ok (nu.vhdr (aX n lo hi).2.1 (aX n lo hi).2.2) w/\(aX n lo hi).2.1<=(aX n lo hi).2.2/\(aX n lo hi).2.2<=n:=by
 unfold Nu.hdr Nu.vhdr;cases hk:nu.blk with
 |none=>
  have u:=l hk;subst u;obtain⟨a,B,C⟩:=AO (P:=P) (w:=w) (isSlice:=true) (cap:=0) h g (Xl _) f;have r:(aX 0 lo hi).2.2=0:=by omega
  have s:(aX 0 lo hi).2.1=0:=by omega
  rw[r,s]at a⊢;refine⟨?_,Xl _,Xl _⟩;simp[Instr.sliceAt,Instr.slice,Wj i,a,d.sizeOf]
 |some b=>
  obtain⟨a,v,x⟩:=AO (P:=P) (w:=w) (isSlice:=true) (cap:=nu.cap) h g y f;refine⟨?_,v,x⟩;rw[←z];generalize (aX n lo hi).2.1=p at*;generalize (aX n lo hi).2.2=q at*;have m:c.size=nu.esz:=by rw[W9 A,o]
  simp only[Instr.sliceAt,Instr.slice,Sem.run_bind,Wj i,Result.andThen_ok,a,d.sizeOf,Sem.run_pure,m,mz,jI];split<;>rfl
theorem Ug{a:Nat}{e:Ty}{xs:List e.den}{S:CS}(h:fc G ν nx w a S (.arr e xs)):((ν a).blk=none->xs.length=0)/\((ν a).blk≠none->xs.length<=(ν a).cap):=by
 refine⟨λb=>by rw[q7 h b];rfl,λb=>?_⟩;obtain⟨_,_,c⟩:=h
 grind
theorem Rm{t f:TypeId}{d:TE}{a:Nat}{e:Ty}{xs:List e.den}{S:CS}(c:fc G ν nx w a S (.arr e xs)){lo hi:Option Int}{i h:Option Value}(y:P.underlying t=some (.slice f))(l:TEok P T f d)(x:d.plain=true)(s:d.ty.size=e.size)
  (v:BRel lo i) (u:BRel hi h) (r:(aX xs.length lo hi).1=true):
  (Instr.sliceAt t (ν a).hdr i h none).run P w= .ok ((ν a).vhdr (aX xs.length lo hi).2.1 (aX xs.length lo hi).2.2) w/\(aX xs.length lo hi).2.1<=(aX xs.length lo hi).2.2/\(aX xs.length lo hi).2.2<=xs.length:=by
 obtain⟨o,A⟩:=Ug c;have j:=c.1;have k:=c.2.1;cases hk:(ν a).blk with
 |some b=>grind [L2]
 |none=>
  have g:=o hk;have z:xs= []:=Xv g;have m:(ν a).hdr=(⟨none,(ν a).off,(ν a).len,0,(ν a).esz⟩:Nu).hdr:=by grind [Nu.hdr]
  have n:∀p q,(ν a).vhdr p q=(⟨none,(ν a).off,(ν a).len,0,(ν a).esz⟩:Nu).vhdr p q:=λp q=>by grind [Nu.vhdr]
  rw[m,n];exact L2 y l x (by show(ν a).esz=_;rw[k,s]) (by omega) j (λ_=>g) v u r
theorem LJ{o:Oper}{t:TypeId}{x:Operand}{lo hi:Option Operand}{v:Value}(b:o.op= .slice t x lo hi none)(h:(Instr.sliceAt t (a.eval x) (lo.map a.eval) (hi.map a.eval) none).run P w= .ok v w):(execOp a.eval o).run P w= .ok (.value v) w:=by
 grind [execOp,Sem.run_bind,Result.andThen_ok,Sem.run_pure]
theorem Wui(j:aO P T)(c:Rel w0 F nt G0 G ν st a w){o:Oper}(z:∀d,o.dst=some d->nt.Ok d){t i:TypeId}{ty:Ty}{f:TE}{x:Operand}{lo hi:Option Operand}(B:o.op= .slice t x lo hi none)
  {m:Nat} {l h:Option Int} {R:Type} {k:St->Option R} {r:R} (D:ev st x=some (.s (.one (.own m)))) (A:Wt T t=some ⟨ty,false,.slice i⟩) (n:Wt T i=some f) (C:f.plain=true) (v:gR st lo=some l) (y:gR st hi=some h)
  (b:oC st f.ty m l h (λx objs nx=>k (({env:=st.env,objs:=objs,nx:=nx}:St).put o.dst x))=some r):∃ai,k ai=some r/\Done P w0 F nt G0 o a w ai:=by
 unfold oC at b;split at b
 .rename_i e xs aV;split at b
  case isFalse=>simp at b
  rename_i H;cases hb:(aX (Xb xs) l h).1 with
  |false=>simp_all
  |true=>
   simp only[hb,We]at b;refine⟨_,b,?_⟩;obtain⟨⟨p,J⟩,_⟩:=WU c x _ D;obtain⟨S,g⟩:=c.h.obj aV;have E:=rn c lo _ v;have I:=rn c hi _ y;obtain⟨K,q,u⟩:=Rm (w:=w) g (j _ _ A).und.2.1 (j _ _ n) C (by rw[H,jE]) E I hb;refine⟨_,_,w,G,ν,LJ B (by simp_all),.inl rfl,c.put z ⟨⟨p,q,by rw[←g.1];exact u,λL=>?_,rfl⟩,Wwp _ _ _⟩⟩
   grind [Ug]
 grind
theorem HV(n:Nu)(h:Nat):n.part 0 h=⟨n.blk,n.off,h,n.cap,n.esz⟩:=by
 unfold Nu.part;simp
theorem VI(n:Nu)(h:Nat):n.vhdr 0 h=(⟨n.blk,n.off,h,n.cap,n.esz⟩:Nu).hdr:=by
 rw[←HV,SM]
theorem Wr0(m:aO P T)(c:Rel w0 F nt G0 G ν st a w){o:Oper}(C:∀d,o.dst=some d->nt.Ok d){t j:TypeId}{ty:Ty}{x:Operand}{lo hi:Option Operand}(H:o.op= .slice t x lo hi none)
  {id:Nat} {e:Ty} {xs:List e.den} {i:TE} {h:Int} (J:ev st x=some (.s (.one (.own id)))) (E:Wt T t=some ⟨ty,false,.slice j⟩) (p:Wt T j=some i) (I:i.plain=true) (D:i.ty=e.ro) (f:Wt st.objs id=some (.arr e xs)) (q:gR st lo=some none) (g:gR st hi=some (some h))
  (z:0<=h) (A:h<=(xs.length:Int)):Done P w0 F nt G0 o a w (({env:=st.env,objs:=(st.nx,.arr e (xs.take h.toNat))::kill st.objs [id],nx:=st.nx+1}:St).put o.dst (.s (.one (.own st.nx)))):=by
 obtain⟨⟨N,y⟩,_⟩:=WU c x _ J;obtain⟨S,n⟩:=c.h.obj f;have L:=rn c lo _ q;have M:=rn c hi _ g;have B:(aX xs.length none (some h)).1=true:=by simp[aX,z,A]
 obtain⟨k,O,Q⟩:=Rm (w:=w) n (m _ _ E).und.2.1 (m _ _ p) I (by rw[D,jE]) L M B;have u:(aX xs.length none (some h)).2.1=0:=rfl;have v:(aX xs.length none (some h)).2.2=h.toNat:=rfl;rw[u,v,VI]at k;refine⟨_,_,w,G,upd ν st.nx ((ν id).part 0 h.toNat),LJ H (by rw[y];exact k),.inl rfl,?_⟩;have r:Live st.objs id:=⟨_,f,by simp⟩;refine c.fresh C [id] (.arr e (xs.take h.toNat)) _ (λφ=>φ id) _ _ (λφ _=>WLe.refl _ w) (λφ _ b o g=>.inl ⟨id,.inr (bH.2 rfl),r,g⟩) (λφ K=>?_) ⟨⟨nn _,by rw[fZ,HV]⟩,Em _⟩;show aF w (WF G w e) e.size (upd ν st.nx ((ν id).part 0 h.toNat) st.nx) (xs.take h.toNat) (φ id);rw[fZ];have l:aF w (WF G w e) e.size (ν id) xs (φ id):=K.ob _ _ f;have:=Sa (lo:=0) (hi:=h.toNat) l (Nat.zero_le _) (by rw[←l.1];omega);simp_all
theorem Wkb(J:aO P T)(k:Rel w0 F nt G0 G ν st a w){o:Oper}(hd:∀d,o.dst=some d->nt.Ok d){t E:TypeId}{ty:Ty}{x:Operand}{lo hi:Option Operand}(ho:o.op= .slice t x lo hi none)
  {id i p:Nat} {e:Ty} {xs:List e.den} {A:TE} {h:Int} (hx:ev st x=some (.s (.one (.own id)))) (hl:Wt T t=some ⟨ty,false,.slice E⟩) (Q:Wt T E=some A) (hp:A.plain=true) (he:A.ty=e.ro) (q:Wt st.objs id=some (.hole e xs i p)) (wn:NH (Wt st.objs p) e.size=true) (R:gR st lo=some none) (c:gR st hi=some (some h))
  (h0:0<=h) (h1:h<=(xs.length:Int)) (h2:h<=(i:Int)):Done P w0 F nt G0 o a w (({env:=st.env,objs:=(st.nx,.arr e (xs.take h.toNat))::kill st.objs [id,p],nx:=st.nx+1}:St).put o.dst (.s (.one (.own st.nx)))):=by
 obtain⟨⟨ce,Y⟩,_⟩:=WU k x _ hx;obtain⟨S,oR,f⟩:=k.h.obj q;have l:∃D,Wt st.objs p=some (.box D)/\D.length=e.size:=by
  unfold NH at wn
  grind [B2]
 obtain⟨pcs,l,Z⟩:=l;have iA:=rn k lo _ R;have s9:=rn k hi _ c;have hb:(aX xs.length none (some h)).1=true:=by simp[aX,h0,h1]
 obtain⟨k1,M,k3,b,N,k5,k6,k7,k8,k9,_⟩:=f;obtain⟨H,g2,g3⟩:=L2 (w:=w) (nu:=ν id) (J _ _ hl).und.2.1 (J _ _ Q) hp (by rw[M,he,jE]) k7 k1 (λhn=>by simp_all) iA s9 hb;have W:(aX xs.length none (some h)).2.1=0:=rfl;have X:(aX xs.length none (some h)).2.2=h.toNat:=rfl;rw[W,X,VI]at H;refine⟨_,_,w,G,upd ν st.nx ((ν id).part 0 h.toNat),LJ ho (by rw[Y];exact H),.inl rfl,?_⟩;have C:Live st.objs id:=⟨_,q,by simp⟩;have L:Live st.objs p:=⟨_,l,by simp⟩;refine k.fresh hd [id,p] (.arr e (xs.take h.toNat)) _ (λφ b o=>φ id b o\/φ p b o) _ _ (λφ _=>WLe.refl _ w) (λφ _ b o c=>?_) (λφ u=>?_) ⟨⟨nn _,by rw[fZ,HV]⟩,Em _⟩
 .rcases c with c|c
  .exact .inl ⟨id,.inr (by simp),C,c⟩
  .exact .inl ⟨p,.inr (by simp),L,c⟩
 .show aF w (WF G w e) e.size (upd ν st.nx ((ν id).part 0 h.toNat) st.nx) (xs.take h.toNat) _;rw[fZ,HV];obtain⟨oR,f⟩:p<st.nx/\mW w (WF G w e) e.size (ν id) (ν p) xs i (φ id):=u.ob _ _ q;obtain⟨_,_,_,B,n,k5',_,_,_,_,c1,c2,p1,p2,j1,j2,K,j4,j5,v⟩:=f;rw[N]at n;injection n with n;subst n;obtain⟨b2,vs,m,q2,q3,q4,y⟩:fc G ν st.nx w p (φ p) (.box pcs):=u.ob _ _ l;rw[k5]at m;injection m with m;subst m;rw[Z,k6]at y;obtain⟨U,d2,z,r2,t1,t2,O,t4⟩:=DU _ _ _ h.toNat j1;rw[o5,fV (by omega)]at O;have gA:=v _ (Xg ..);have gC:=v _ (Xf _ (Xg ..));obtain⟨s1,s2⟩:=bq.1 j5;obtain⟨s3,s4⟩:=bq.1 s2;have r:∀s∈z.map Pc.fp,s∈(p1++p2).map Pc.fp:=λs g=>by simp_all
  have I:∀s∈z.map Pc.fp,CS.le s (φ id):=λs g=>v s (Xf _ (Xf _ (r s g)));have wo:∀b o,φ id b o->φ p b o->False:=λb o x1 x2=>by
   have:=u.inj id p b o C L x1 x2;simp_all
  refine⟨by simp;omega,M,?_⟩;simp only[N];refine⟨by simp;omega,k8,k9,U,z,O,by rw[t1]at K;exact K.left,bq.2 ⟨λs g=>?_,?_⟩,λs g=>?_⟩
  .exactλB o V j=>(Gy (show i<(ν id).cap by omega) (S:=λb o=>¬s b o) (λb o c j=>s1 s (Xf _ (r s g)) b o c j) (λb o c j=>wo b o (I s g b o j) (y b o c)) (λb o c j=>s3 s (r s g) b o c j) B o V) j
  .grind
  .rcases Xs.1 g with rfl|g
   .exact Gy (show i<(ν id).cap by omega) (λb o c=>.inl (gA b o c)) (λb o c=>.inr (y b o c)) (λb o c=>.inl (gC b o c))
   .exactλb o c=>.inl (I s g b o c)
theorem Wq6(Y:aO P T)(B:Rel w0 F nt G0 G ν st a w){o:Oper}(hd:∀d,o.dst=some d->nt.Ok d){c:Call}{x:Operand}{t S:TypeId}{ty:Ty}{N:TE}{e:Ty}{xs:List e.den}{id lo hi:Nat}
  (ho:o.op= .call c) (l:c.callee= .builtin .clear) (Z:c.args.toList= [x]) (R:c.argTypes.toList= [t]) (hx:ev st x=some (.s (.one (.vw id lo hi)))) (hl:Wt T t=some ⟨ty,false,.slice S⟩) (aU:Wt T S=some N)
  (I:Wt st.objs id=some (.arr e xs)) (he:N.ty=e) (hp:N.plain=true) (r:e.data=true):
  Done P w0 F nt G0 o a w (({env:=st.env,objs:=(id,.arr e (xs.take lo++Xt (hi-lo) e.dflt++xs.drop hi))::st.objs,nx:=st.nx}:St).put o.dst (.tup [])):=by
 have hu:=(Y _ _ hl).und.2.1;obtain⟨⟨ce,g1,g2,g3,hv⟩,_⟩:=WU B x _ hx;obtain⟨φ,D⟩:=B.h;have H:aF w (WF G w e) e.size (ν id) xs (φ id):=D.ob _ _ I;have O:Live st.objs id:=⟨_,I,by simp⟩;have ta:∀W,(Builtin.clear_ #[t] o.type #[a.eval x]).run P w= .ok (.tuple #[]) W->(execOp a.eval o).run P w= .ok (.value (.tuple #[])) W:=λW p=>by
  obtain⟨y,i,f⟩:=c;obtain⟨i⟩:=i;obtain⟨f⟩:=f;simp only at l Z R;subst l Z R;simp only[execOp,ho,resolve,invoke,builtin,Sem.run_bind,Sem.run_pure,Result.andThen_ok,B6,bK,cV,p]
 have U:∀W,(Builtin.clear_ #[t] o.type #[a.eval x]).run P w= .ok (.tuple #[]) W->HRel w0 F G ν ((id,.arr e (xs.take lo++Xt (hi-lo) e.dflt++xs.drop hi))::st.objs) st.nx W->
   Done P w0 F nt G0 o a w (({env:=st.env,objs:=(id,.arr e (xs.take lo++Xt (hi-lo) e.dflt++xs.drop hi))::st.objs,nx:=st.nx}:St).put o.dst (.tup [])):=λW p hH=>
  ⟨_,_,W,G,ν,ta W p,.inl rfl,(B.on (λ_ _ _ q=>q) (λ_ _=>rfl) (Xl _) hH B.gx).put hd ⟨[],rfl,rfl,λj x v hj=>by simp at hj⟩⟩
 by_cases h0:hi-lo=0
 .have wq:hi=lo:=by omega
  have e1:xs.take lo++Xt (hi-lo) e.dflt++xs.drop hi=xs:=by
   simp_all
  refine U w ?_ ?_
  .rw[hv];unfold Nu.vhdr;rw[h0];cases(ν id).blk<;>simp[Builtin.clear_,Wj hu]
  .rw[e1];exact⟨_,D.put (m:=[]) (ν':=ν) (λ_ _=>rfl) (Xl _) (D.lt id O) (WLe.refl _ w) (λb o q=>.inl ⟨id,.inl rfl,O,q⟩) (λ_=>H)⟩
 .cases bF:(ν id).blk with
  |none=>simp_all
  |some b=>
   obtain⟨kG,V,h5,⟨g,TT,M,af⟩,J,L,h8,X⟩:=AF r H bF;obtain⟨z,hz,K⟩:=Bh (w:=w) (Y _ _ aU);rw[vJ hp,he]at K;have iE:z.cells.size=e.size:=by rw[←gX,K,nW]
   have Q:=H.2.1;have bN:J.length=xs.length*e.size:=v8 (λx c l=>dF e x c l) _ _ L;have yS:(Builtin.zeroCells z.cells (hi-lo)).toList=rep (df e) (hi-lo):=by rw[←K];exact Ed z.cells (hi-lo)
   have A:(rep (df e) (hi-lo)).length=(hi-lo)*e.size:=by rw[Hj,nW]
   have wu:lo*e.size+(hi-lo)*e.size=hi*e.size:=by rw[←lC];congr 1;omega
   have vu:hi*e.size<=xs.length*e.size:=iv _ (by omega);have yT:xs.length*e.size<=(ν id).cap*e.size:=iv _ V;have fD:∀u∈rep (df e) (hi-lo),u.oneCell'=true:=Se (G:=G) _ _ (Bm r (hi-lo));have E:=run_storeCells_at P b ((ν id).off+lo*e.size) TT (rep (df e) (hi-lo)) 0 g w M (by rw[A];omega) fD;simp only[eL]at E;obtain⟨C,hm⟩:=DQ (k:=(ν id).off+lo*e.size) (news:=rep (df e) (hi-lo)) M (by rw[A];omega);have p:(Builtin.clear_ #[t] o.type #[a.eval x]).run P w= .ok (.tuple #[]) (w.setRow b (g.toList.take ((ν id).off+lo*e.size)++rep (df e) (hi-lo)++g.toList.drop ((ν id).off+lo*e.size+(rep (df e) (hi-lo)).length)).toArray):=by
    rw[hv];unfold Nu.vhdr;simp only[bF,Q];rw[Wa (by omega)];obtain⟨n,hn⟩:∃n,hi-lo=n+1:=⟨hi-lo-1,by omega⟩;simp only[Builtin.clear_,Sem.run_bind,Wj hu,Result.andThen_ok,Oc,List.getElem?_cons_zero];rw[hn]at E yS⊢;simp only[Sem.run_bind,hz,Result.andThen_ok,yS,E,Sem.run_pure]
   generalize w.setRow b (g.toList.take ((ν id).off+lo*e.size)++rep (df e) (hi-lo)++g.toList.drop ((ν id).off+lo*e.size+(rep (df e) (hi-lo)).length)).toArray=W at p C hm;refine U W p (D.turn (m:=[]) I (by simp) C (λb' o ⟨k0,k1,k2⟩=>X b' o ⟨k0,by omega,by omega⟩) ?_);have oW:(xs.take lo++Xt (hi-lo) e.dflt++xs.drop hi).length=xs.length:=by simp;omega
   have gZ:b4 (Enc G e) (xs.take lo++Xt (hi-lo) e.dflt++xs.drop hi) (J.take (lo*e.size)++rep (df e) (hi-lo)++J.drop (hi*e.size)):=
    F7 _ _ _ _ (F7 _ _ _ _ (D1 (λx c l=>dF e x c l) _ _ lo L) (Bm r _)) (DZ (λx c l=>dF e x c l) _ _ hi L)
   refine Rh r bF (by rw[oW];exact kG) Q (by rw[oW];exact V) h5 (C.rows.row _ _ ⟨g,TT,M,af⟩) gZ ?_ (λb o q=>.inl (X b o q));have:=Gk h8 C hm (by rw[A];omega);rw[A,wu]at this;exact this
end
def fC(G:GH)(w:World)(t:Ty)(a:Bool)(d:t.den)(v:Value)(b:List Pc):Prop:=
 if a then∃c:List Value,v= .agg c.toArray/\WF G w t d c b else WF G w t d [v] b
def d4(b o:Nat):Nu:=⟨some b,o,0,0,0⟩
def oy(G:GH)(w:World)(t:Ty)(d:t.den)(b o:Nat)(c:List Pc):Prop:=∃a,Row w b (o+t.size)/\Mem w b o a/\WF G w t d a c
def fps(a:List Pc):List CS:=a.map Pc.fp
def nus(a:List Pc):List Nu:=a.map Pc.nu
def iU(G:GH)(w:World):(f:List PTy)->c6 f->List Value->List Pc->List Nu->Prop
 | [],_,h,c,ks=>h= []/\c= []/\ks= []
 | .v t agg::f,d,h,c,ks=>∃v a j i,h=v::a/\c=j++i/\fC G w t agg d.1 v j/\iU G w f d.2 a i ks
 | .box t::f,d,h,c,ks=>∃b o a j i k,h= .pointer (some ⟨b,o,none⟩)::a/\c=⟨d4 b o,rng b o t.size⟩::(j++i)/\ks=d4 b o::k/\oy G w t d.1 b o j/\iU G w f d.2 a i k
 | .mut e::f,d,h,c,ks=>∃l a i k,h=l.nu.hdr::a/\c=l::i/\ks=l.nu::k/\aF w (WF G w e) e.size l.nu d.1 l.fp/\iU G w f d.2 a i k
 | .clos g n::f,d,h,c,ks=>∃m a:List Value,h= .func (.func g) #[] m.toArray::a/\m.length=n/\(∀u∈m,u.oneCell'=true)/\iU G w f d (m++a) c ks
 | .kv t agg::f,d,h,c,ks=>∃v a j i k,h=v::a/\c=j++i/\ks=nus j++k/\fC G w t agg d.1 v j/\iU G w f d.2 a i k
 | .rp t::f,d,h,c,ks=>∃b o q a,h= .pointer (some ⟨b,o,none⟩)::a/\Enc G t d.1 q/\ox G b o q/\iU G w f d.2 a c ks
 | .vj _::_,_,_,_,_=>False
 | .boxal t lf::f,d,h,c,ks=>∃b o p l a j i k,h= .pointer (some ⟨b,o,none⟩):: .pointer (some ⟨p,l.nu.off+(d.2.1*l.nu.esz+0),none⟩)::a/\c=⟨d4 b o,rng b o t.size⟩::(j++i)/\ks=d4 b o::k/\
   oy G w t d.1 b o j/\j[lf]?=some l/\l.nu.blk=some p/\d.2.1<l.nu.len/\iU G w f d.2.2 a i k
def jz(G:GH)(w:World):(f:List PTy)->dv f->List Nu->List CS->List Pc->Prop
 | [],_,c,a,ns=>c= []/\a= []/\ns= []
 | .v _ _::f,o,c,a,ns=>jz G w f o c a ns
 | .box t::f,o,c,a,ns=>∃b d g h i j,c=d4 b d::g/\a=rng b d t.size::h/\ns=i++j/\oy G w t o.1 b d i/\jz G w f o.2 g h j
 | .mut e::f,o,c,a,ns=>∃k:Pc,∃g h,c=k.nu::g/\a=k.fp::h/\aF w (WF G w e) e.size k.nu o.1 k.fp/\jz G w f o.2 g h ns
 | .clos _ _::f,o,c,a,ns=>jz G w f o c a ns
 | .kv t _::f,o,c,a,ns=>∃i g h l,c=nus i++g/\a=fps i++h/\WF G w t o.1 l i/\jz G w f o.2 g h ns
 | .rp _::f,o,c,a,ns=>jz G w f o c a ns
 | .vj _::_,_,_,_,_=>False
 | .boxal t _::f,o,c,a,ns=>∃b d g h i j,c=d4 b d::g/\a=rng b d t.size::h/\ns=i++j/\oy G w t o.1 b d i/\jz G w f o.2 g h j
def qi(G:GH)(w:World):(f:List PTy)->d7 f->List Value->List Pc->Prop
 | [],_,g,ns=>g= []/\ns= []
 | .v t agg::f,d,g,ns=>∃v a c e,g=v::a/\ns=c++e/\fC G w t agg d.1 v c/\qi G w f d.2 a e
 | .box t::f,d,g,ns=>∃b o a c e,g= .pointer (some ⟨b,o,none⟩)::a/\ns=⟨d4 b o,rng b o t.size⟩::(c++e)/\oy G w t d.1 b o c/\qi G w f d.2 a e
 | .mut _::_,_,_,_=>False
 | .clos _ _::_,_,_,_=>False
 | .kv _ _::_,_,_,_=>False
 | .rp _::_,_,_,_=>False
 | .vj t::f,d,g,ns=>∃h u a c e,g= .agg (h++ [u]).toArray::a/\u.oneCell'=true/\ns=c++e/\WF G w t d.1 h c/\qi G w f d.2 a e
 | .boxal _ _::_,_,_,_=>False
def xA:List Value->Value
 | [v]=>v
 |a=>.tuple a.toArray
def Of(a:List Pc):CS:=λb o=>∃q∈a,q.fp b o
structure After(sg:Sig)(o:dv sg.ps×d7 sg.rs)(G:GH)(w:World)(ns:List Pc)(ks:List Nu)(rv:List Value)(kf:List CS)(ms dD:List Pc)(G':GH)(w':World):Prop where
 res:qi G' w' sg.rs o.2 rv dD
 outs:jz G' w' sg.ps o.1 ks kf ms
 sep:Sep (kf++fps (ms++dD))
 own:∀S∈kf++fps (ms++dD),∀b off,S b off->G' b off=none/\(Of ns b off\/w.heap.size<=b)/\b<w'.heap.size
 gx:GExt w.heap.size (Of ns) G G'
 g:∀b o v,G' b o=some v->w'.cell? ⟨b,o,none⟩=some v
 le:WLe (Of ns) w w'
def xK(P:Program)(k:FuncId)(a:Sig):Prop:=
 ∀(d:c6 a.ps) (o:dv a.ps×d7 a.rs),a.run d=some o->∀(G:GH) (w:World) (vs:List Value) (f:List Pc) (g:List Nu),iU G w a.ps d vs f g->Sep (fps f)->
  (∀q∈f,∀b c,q.fp b c->G b c=none/\b<w.heap.size)->(∀b o v,G b o=some v->w.cell? ⟨b,o,none⟩=some v)->
  Calls P k vs.toArray w λe w'=>∃h j l i G',e= .returned (xA h)/\After a o G w f g h j l i G' w'
def Ea(P:Program)(k:FuncId):Prop:=∃a,P.funcs[k]?=some a∧a.body.isNone=false∧(a.name== "runtime.NumGoroutine")=false
def gi(P:Program)(Γ:Ctx):Prop:=∀k a,Wt Γ k=some a->xK P k a/\Ea P k
section
variable{w0:World}{F:CS}{nt:Slots}{G0 G G':GH}{ν:Nat->Nu}{φ:Nat->CS}{objs:ad}{nx:Nat}{st ai:St}{a:Act}{w w':World}{P:Program}{T:Tab}
theorem kK:∀(t:Ty) (d:t.den) (nx:Nat),(unfold t d nx).2.2=nx+t.owns
 | .prod a b,d,nx=>by simp only[unfold,kK a,kK b,Ty.owns,eK]
 | .own _,_,_=>rfl
 | .int _,_,_| .bool,_,_| .str,_,_| .slice _,_,_=>rfl
theorem WS{α:Type}{l m:List (Nat×α)}{i:Nat}{x:α}(h:Wt (l++m) i=some x):Wt l i=some x\/Wt m i=some x:=by
 rw[vL]at h
 grind
def At(ν:Nat->Nu)(φ:Nat->CS)(nx:Nat)(b:List Pc):Prop:=∀(j:Nat) (a:Pc),b[j]?=some a->ν (nx+j)=a.nu/\φ (nx+j)=a.fp
theorem At.left{n1 a:List Pc}(h:At ν φ nx (n1++a)):At ν φ nx n1:=λj b c=>h j b (by grind)
theorem At.right{n1 n2:List Pc}{k:Nat}(h:At ν φ nx (n1++n2))(c:n1.length=k):At ν φ (nx+k) n2:=λj a b=>by
 have:=h (k+j) a (by grind)
 grind
def BJ(G:GH)(ν:Nat->Nu)(φ:Nat->CS)(w:World)(a:Nat)(b:Ob):Prop:=∃(e:Ty) (xs:List e.den),b= .arr e xs/\aF w (WF G w e) e.size (ν a) xs (φ a)
theorem kP:∀(t:Ty) (d:t.den) (nx:Nat) (vs:List Value) (c:List Pc),WF G w t d vs c->At ν φ nx c->
  (∀(am:Nat),nx+t.owns<=am->CellsRel G ν am (unfold t d nx).1 vs)/\
  (∀b f,Wt (unfold t d nx).2.1 b=some f->nx<=b/\b<nx+t.owns/\BJ G ν φ w b f)
 | .own e,d,nx,vs,c,⟨j,l,g,i⟩,hν=>by
  obtain⟨u,A⟩:ν nx=j.nu/\φ nx=j.fp:=by have:=hν 0 j (by grind);omega
  refine⟨λam m=>?_,λb f a=>?_⟩
  .rw[g];refine CellsRel.one ⟨by grind [Ty.owns],by rw[u]⟩ (Em _)
  .simp only[unfold]at a;rw[WW]at a;split at a
   .rename_i e1;subst e1;injection a with a;subst a;exact⟨Xl _,by simp[Ty.owns],e,d,rfl,by simp_all⟩
   .simp[Wt]at a
 | .prod p q,d,nx,vs,c,⟨y,z,v,x,l,g,i,s⟩,hν=>by
  subst g;have n:=iQ p _ _ _ i;obtain⟨o,B⟩:=kP p d.1 nx y v i hν.left;obtain⟨r,C⟩:=kP q d.2 (nx+p.owns) z x s (hν.right n);refine⟨λam m=>?_,λb f a=>?_⟩
  .simp only[Ty.owns]at m;simp only[unfold,kK];rw[l];exact(o am (by omega)).append (r am (by omega))
  .simp only[unfold,kK]at a
   grind [Ty.owns,WS]
 | .int k,d,nx,vs,c,h,_=>⟨λam _=>jU (.int k) d vs h.2,λb f a=>by simp[unfold,Wt]at a⟩
 | .bool,d,nx,vs,c,h,_=>⟨λam _=>jU .bool d vs h.2,λb f a=>by simp[unfold,Wt]at a⟩
 | .str,d,nx,vs,c,h,_=>⟨λam _=>jU .str d vs h.2,λb f a=>by simp[unfold,Wt]at a⟩
 | .slice e,d,nx,vs,c,h,_=>⟨λam _=>jU (.slice e) d vs h.2,λb f a=>by simp[unfold,Wt]at a⟩
theorem vT:∀(t:Ty) (d:t.den) (nx:Nat),(unfold t d nx).1.length=t.size
 | .prod a b,d,nx=>by simp only[unfold,Xx,vT a,vT b,Ty.size]
 | .own _,_,_| .int _,_,_| .bool,_,_| .str,_,_| .slice _,_,_=>rfl
theorem MB{t:Ty}{a:Bool}{d:t.den}{v:Value}{b:List Pc}{nx am:Nat}(h:fC G w t a d v b)(g:At ν φ nx b)(f:nx+t.owns<=am):
  AvRel G ν am (EU a (unfold t d nx).1) v:=by
 unfold fC at h;unfold EU;cases a with
 |true=>
  simp only[ep]at h⊢;obtain⟨i,rfl,h⟩:=h;exact⟨i,rfl,(kP t d nx i b h g).1 am f⟩
 |false=>
  simp only[jP,gH]at h⊢;have e:=(kP t d nx [v] b h g).1 am f;have k:=e.1;generalize (unfold t d nx).1=j at*
  match j,k with
  | [c],_=>exact e.2 0 c v rfl rfl
theorem Nd{t:Ty}{a:Bool}{d:t.den}{v:Value}{ns:List Pc}(h:fC G w t a d v ns):∃b,WF G w t d b ns:=by
 grind [fC]
def xm(objs:ad):Ty->List Nat->Prop
 | .own e,ids=>∃(f:Nat) (g:List e.den),ids= [f]/\Wt objs f=some (.arr e g)
 | .prod a b,ids=>∃c d,ids=c++d/\xm objs a c/\xm objs b d
 | .int _,ids=>ids= []
 | .bool,ids=>ids= []
 | .str,ids=>ids= []
 | .slice _,ids=>ids= []
theorem Gs{objs:ad}:∀(t:Ty) (c:List Nat),xm objs t c->c.length=t.owns
 | .own e,c,⟨id,j,h,_⟩=>by rw[h];rfl
 | .prod a b,c,⟨g,i,h,d,f⟩=>by rw[h,Xx,Gs a _ d,Gs b _ f];rfl
 | .int _,c,h=>by have:c= []:=h;rw[this];rfl
 | .bool,c,h=>by have:c= []:=h;rw[this];rfl
 | .str,c,h=>by have:c= []:=h;rw[this];rfl
 | .slice _,c,h=>by have:c= []:=h;rw[this];rfl
def KeptBox(objs:ad)(ν:Nat->Nu)(bx:List (Nat×CS))(t:Ty)(k:Kp)(nu:Nu):Prop:=
 ∃a b,Wt objs k.id=some (.box a)/\k.off+t.size<=a.length/\(ν k.id).blk=some b/\nu=d4 b ((ν k.id).off+k.off)/\(k.id,rng b ((ν k.id).off+k.off) t.size)∈bx
def KeptOk(objs:ad)(ν:Nat->Nu)(bx:List (Nat×CS)):List PTy->List Kp->List Nu->Prop
 | [],a,ks=>a= []/\ks= []
 | .v _ _::ps,a,ks=>KeptOk objs ν bx ps a ks
 | .box t::ps,a,ks=>∃k c d b,a=k::c/\ks=d::b/\KeptBox objs ν bx t k d/\KeptOk objs ν bx ps c b
 | .mut e::ps,a,ks=>∃(g:Nat) (c:List Kp) (b:List Nu) (i:List e.den),a=⟨g,0⟩::c/\ks=ν g::b/\Wt objs g=some (.arr e i)/\KeptOk objs ν bx ps c b
 | .clos _ _::ps,a,ks=>KeptOk objs ν bx ps a ks
 | .kv t _::ps,a,ks=>∃f h b,a=kp0 f++h/\ks=f.map ν++b/\xm objs t f/\KeptOk objs ν bx ps h b
 | .rp _::ps,a,ks=>KeptOk objs ν bx ps a ks
 | .vj _::_,_,_=>False
 | .boxal t _::ps,a,ks=>∃k c d b,a=k::c/\ks=d::b/\KeptBox objs ν bx t k d/\KeptOk objs ν bx ps c b
theorem KeptBox.mono{bx a:List (Nat×CS)}{t:Ty}{k:Kp}{nu:Nu}(j:∀p∈bx,p∈a)(h:KeptBox objs ν bx t k nu):KeptBox objs ν a t k nu:=by
 obtain⟨c,b,d,e,f,g,i⟩:=h;exact⟨c,b,d,e,f,g,j _ i⟩
theorem KeptOk.mono{bx q:List (Nat×CS)}(f:∀p∈bx,p∈q):∀(b:List PTy) (a:List Kp) (c:List Nu),KeptOk objs ν bx b a c->KeptOk objs ν q b a c
 | [],_,_,h=>h
 | .v _ _::b,a,c,h=>KeptOk.mono f b a c h
 | .box t::b,a,c,⟨k,g,n,d,i,j,l,m⟩=>⟨k,g,n,d,i,j,l.mono f,KeptOk.mono f b g d m⟩
 | .mut e::b,a,c,⟨id,g,d,s,i,j,l,m⟩=>⟨id,g,d,s,i,j,l,KeptOk.mono f b g d m⟩
 | .clos _ _::b,a,c,h=>KeptOk.mono f b a c h
 | .kv t _::b,a,c,⟨r,o,d,i,j,l,m⟩=>⟨r,o,d,i,j,l,KeptOk.mono f b o d m⟩
 | .rp _::b,a,c,h=>KeptOk.mono f b a c h
 | .vj _::_,_,_,h=>h.elim
 | .boxal t _::b,a,c,⟨k,g,n,d,i,j,l,m⟩=>⟨k,g,n,d,i,j,l.mono f,KeptOk.mono f b g d m⟩
def ED(G:GH)(ν:Nat->Nu)(w:World)(g:ad)(bx:List (Nat×CS))(am c:Nat)(S:CS)(h:Ob):Prop:=
 (∃f a d b i,Wt g c=some (.box f)/\h= .box (lO f a d)/\a+d.length<=f.length/\(ν c).blk=some b/\Mem w b ((ν c).off+a) i/\CellsRel G ν am d i/\
  S=rng b ((ν c).off+a) d.length/\(c,rng b ((ν c).off+a) d.length)∈bx)\/
 (∃(e:Ty) (j xs:List e.den),Wt g c=some (.arr e j)/\h= .arr e xs/\aF w (WF G w e) e.size (ν c) xs S)
theorem LG(n:ad){bx:List (Nat×CS)}{am:Nat}:∀(t:Ty) (d:t.den) (us:List Value) (g:List Pc) (c:List Nat),WF G w t d us g->nus g=c.map ν->xm n t c->
  (∀l k,Wt (eC t d c) l=some k->∃(j:Nat) (S:CS),c[j]?=some l/\(fps g)[j]?=some S/\ED G ν w n bx am l S k)/\∀l∈c,∃k,Wt (eC t d c) l=some k
 | .own e,d,us,g,c,⟨F,r,s,p⟩,o,⟨l,K,h,x⟩=>by
  subst h r;simp only[nus,bK,cV,List.cons.injEq,and_true]at o;refine⟨λi k f=>?_,λi m=>?_⟩
  .simp only[eC,WW]at f;split at f
   .rename_i e3;subst e3;injection f with f;subst f;exact⟨0,F.fp,rfl,rfl,.inr ⟨e,K,d,x,rfl,by simp_all⟩⟩
   .simp[Wt]at f
  simp_all [bH,eC,Wt]
 | .prod a b,d,us,g,c,⟨P,Q,D,E,r,s,p,B⟩,o,⟨i1,i2,h,u,J⟩=>by
  subst h s;have y:=iQ a _ _ _ p;have C:=Gs a _ u;simp only[nus,Xw]at o;obtain⟨z,A⟩:=XJ o (by rw[Xy,Xy,y,C]);have H:(i1++i2).take a.owns=i1:=by simp_all
  have I:(i1++i2).drop a.owns=i2:=by simp_all
  obtain⟨L,M⟩:=LG n (bx:=bx) (am:=am) a d.1 _ D i1 p z u;obtain⟨N,v⟩:=LG n (bx:=bx) (am:=am) b d.2 _ E i2 B A J;simp only[eC,H,I];refine⟨λi k f=>?_,λi m=>?_⟩
  .rcases WS f with f|f
   .grind [fps,Ii,fe]
   grind [fps,xQ,tO,Xy]
  .rcases Xn.1 m with m|m
   .grind [vL]
   .obtain⟨k,O⟩:=v i m;rw[vL]
    grind
 | .int _,d,us,g,c,q,_,h=>by have:c= []:=h;grind [eC,Wt]
 | .bool,d,us,g,c,q,_,h=>by have:c= []:=h;grind [eC,Wt]
 | .str,d,us,g,c,q,_,h=>by have:c= []:=h;grind [eC,Wt]
 | .slice _,d,us,g,c,q,_,h=>by have:c= []:=h;grind [eC,Wt]
theorem LP:∀(t:Ty) (d:t.den) (c:List Nat) (f:Nat) (g:Ob),Wt (eC t d c) f=some g->f∈c
 | .own e,d,c,f,g,h=>by
  cases c with
  |nil=>simp[eC,Wt]at h
  |cons i l=>
   grind [eC,WW,Xg,Wt]
 | .prod a b,d,c,f,g,h=>by
  simp only[eC]at h;rcases WS h with h|h
  .exact jO (LP a d.1 _ f g h)
  .exact E9 (LP b d.2 _ f g h)
 | .int _,_,_,_,_,h=>by simp[eC,Wt]at h
 | .bool,_,_,_,_,h=>by simp[eC,Wt]at h
 | .str,_,_,_,_,h=>by simp[eC,Wt]at h
 | .slice _,_,_,_,_,h=>by simp[eC,Wt]at h
def kids(l:List Kp):List Nat:=l.map Kp.id
theorem GY(l:List Nat):kids (kp0 l)=l:=by simp[kids,kp0,Function.comp_def]
theorem q6(p:ad){bx:List (Nat×CS)}:∀(d:List PTy) (o:dv d) (a:List Kp) (l:List Nu) (f:List CS) (c:List Pc) (objs:ad) (nx am:Nat),jz G w d o l f c->KeptOk p ν bx d a l->At ν φ nx c->
  (kids a).Nodup->(∀k∈a,k.id<nx/\Wt objs k.id=Wt p k.id)->nx+c.length<=am->
  (ek d o a objs nx).2=nx+c.length/\f.length=a.length/\
  ∀s u,Wt (ek d o a objs nx).1 s=some u->(nx<=s/\s<nx+c.length/\BJ G ν φ w s u)\/(∃(j:Nat) (S:CS),(kids a)[j]?=some s/\f[j]?=some S/\ED G ν w p bx am s S u)\/(Wt objs s=some u/\s∉kids a)
 | [],o,a,l,f,c,objs,nx,am,⟨_,x,y⟩,m,_,_,_,_=>by subst x y;obtain⟨m,_⟩:=m;subst m;exact⟨rfl,rfl,λs u I=>.inr (.inr ⟨I,by simp[kids]⟩)⟩
 | .v _ _::d,o,a,l,f,c,objs,nx,am,h,m,r,n,q,hx=>q6 p d o a l f c objs nx am h m r n q hx
 | .box t::d,o,a,l,f,c,objs,nx,am,⟨b,C,z,A,F,T,x,y,B,Q,P⟩,m,r,n,q,hx=>putOuts_box p t d o.1 o.2 a l f c objs nx am (λa l f c objs nx am=>q6 p d o.2 a l f c objs nx am) ⟨b,C,z,A,F,T,x,y,B,Q,P⟩ m r n q hx
 | .vj _::_,_,_,_,_,_,_,_,_,h,_,_,_,_,_=>h.elim
 | .boxal t _::d,o,a,l,f,c,objs,nx,am,⟨b,C,z,A,F,T,x,y,B,Q,P⟩,m,r,n,q,hx=>putOuts_box p t d o.1 o.2 a l f c objs nx am (λa l f c objs nx am=>q6 p d o.2 a l f c objs nx am) ⟨b,C,z,A,F,T,x,y,B,Q,P⟩ m r n q hx
 | .mut e::d,o,a,l,f,c,objs,nx,am,⟨pc,z,A,x,y,B,O⟩,m,r,n,q,hx=>by
  obtain⟨s,bG,yV,ys,rfl,U,bD,L⟩:=m;rw[x]at U;simp only[List.cons.injEq]at U;obtain⟨hνid,rfl⟩:=U;subst y;have X:=cC.1 n;obtain⟨M,Y,N⟩:=q6 p d o.2 bG z A c ((s,.arr e o.1)::objs) nx am O L r X.2 (λk K=>by
   obtain⟨D,E⟩:=q k (Xf _ K);have V:s≠k.id:=λe=>X.1 (by grind);simp_all [WW,Wa]) hx
  simp only[ek];refine⟨M,by simp[Y],λi u I=>?_⟩;rcases N i u I with g|⟨j,S,D,E,H⟩|⟨g,Z⟩
  .grind
  .exact .inr (.inl ⟨j+1,S,D,E,H⟩)
  .rw[WW]at g;split at g
   .rename_i e3;subst e3;injection g with g;subst g;exact .inr (.inl ⟨0,pc.fp,rfl,rfl,.inr ⟨e,ys,o.1,bD,rfl,by simp_all⟩⟩)
   .rename_i V;exact .inr (.inr ⟨g,λJ=>by rcases Xs.1 J with J|J;exact V J.symm;exact Z J⟩)
 | .clos _ _::d,o,a,l,f,c,objs,nx,am,h,m,r,n,q,hx=>q6 p d o a l f c objs nx am h m r n q hx
 | .rp _::d,o,a,l,f,c,objs,nx,am,h,m,r,n,q,hx=>q6 p d o a l f c objs nx am h m r n q hx
 | .kv t agg::d,o,a,l,f,c,objs,nx,am,⟨F,z,A,us,x,y,B,O⟩,⟨i1,i2,yV,ce,td,ho,L⟩,r,n,q,hx=>by
  subst ce y;have W:=iQ t _ _ _ B;have R:=Gs t _ ho;rw[x]at td;obtain⟨q1,q2⟩:=XJ td (by simp[nus,W,R]);subst q2;have rD:(kp0 i1).length=t.owns:=by simp[kp0,R]
  have t1:((kp0 i1++i2).take t.owns).map Kp.id=i1:=by rw[←rD];simp;exact GY i1
  have t2:(kp0 i1++i2).drop t.owns=i2:=by simp_all
  obtain⟨r1,r2⟩:=LG (bx:=bx) (am:=am) p t o.1 us F i1 B q1 ho;have ml:kids (kp0 i1++i2)=i1++kids i2:=by grind [kids,GY]
  rw[ml]at n;obtain⟨m1,m2,m3⟩:=d9.1 n;obtain⟨M,Y,N⟩:=q6 p d o.2 i2 z A c (eC t o.1 i1++objs) nx am O L r m2 (λk K=>by
   obtain⟨D,E⟩:=q k (Xh _ K);refine⟨D,?_⟩;rw[vL];cases hq:Wt (eC t o.1 i1) k.id with
   |none=>exact E
   |some u=>exact Wi rfl (m3 _ (LP t o.1 i1 _ u hq) _ (fU K))) hx
  simp only[ek,t1,t2];have ja:(fps F).length=i1.length:=by simp[fps,W,R]
  refine⟨M,by simp_all,λi u I=>?_⟩;rw[ml];rcases N i u I with g|⟨j,S,D,E,H⟩|⟨g,Z⟩
  .grind
  .refine .inr (.inl ⟨i1.length+j,S,?_,?_,H⟩)
   .grind
   grind
  .rw[vL]at g;cases hq:Wt (eC t o.1 i1) i with
   |some dB=>
    rw[hq]at g;injection g with g;subst g;obtain⟨j,S,D,E,H⟩:=r1 i _ hq;refine .inr (.inl ⟨j,S,?_,?_,H⟩)
    .grind
    grind
   |none=>
    grind
where
 putOuts_box (bf:ad) {bx:List (Nat×CS)} (t:Ty) (ps:List PTy) (o1:t.den) (o2:dv ps) (ids:List Kp) (ks:List Nu) (kf:List CS) (ms:List Pc) (objs:ad) (nx am:Nat)
   (ih:∀(ids:List Kp) (ks:List Nu) (kf:List CS) (ms:List Pc) (objs:ad) (nx am:Nat),jz G w ps o2 ks kf ms->KeptOk bf ν bx ps ids ks->At ν φ nx ms->
    (kids ids).Nodup->(∀k∈ids,k.id<nx/\Wt objs k.id=Wt bf k.id)->nx+ms.length<=am->
    (ek ps o2 ids objs nx).2=nx+ms.length/\kf.length=ids.length/\
    ∀id ob,Wt (ek ps o2 ids objs nx).1 id=some ob->(nx<=id/\id<nx+ms.length/\BJ G ν φ w id ob)\/(∃(j:Nat) (S:CS),(kids ids)[j]?=some id/\kf[j]?=some S/\ED G ν w bf bx am id S ob)\/(Wt objs id=some ob/\id∉kids ids))
   (h:∃b off aN dY n1 n2,ks=d4 b off::aN/\kf=rng b off t.size::dY/\ms=n1++n2/\oy G w t o1 b off n1/\jz G w ps o2 aN dY n2)
   (hk:∃k bG nu aN,ids=k::bG/\ks=nu::aN/\KeptBox bf ν bx t k nu/\KeptOk bf ν bx ps bG aN) (hν:At ν φ nx ms)
   (hn:(kids ids).Nodup) (hi:∀k∈ids,k.id<nx/\Wt objs k.id=Wt bf k.id) (hx:nx+ms.length<=am):
   (ek (.box t::ps) (o1,o2) ids objs nx).2=nx+ms.length/\kf.length=ids.length/\
   ∀id ob,Wt (ek (.box t::ps) (o1,o2) ids objs nx).1 id=some ob->(nx<=id/\id<nx+ms.length/\BJ G ν φ w id ob)\/(∃(j:Nat) (S:CS),(kids ids)[j]?=some id/\kf[j]?=some S/\ED G ν w bf bx am id S ob)\/(Wt objs id=some ob/\id∉kids ids):=by
  obtain⟨b,off,aN,dY,n1,n2,h1,h2,h3,⟨us,_,aG,jb⟩,h5⟩:=h;obtain⟨k,bG,nu,yV,rfl,nh,⟨ng,b0,bD,cQ,bF,ni,ww⟩,dI⟩:=hk;rw[h1]at nh;simp only[List.cons.injEq]at nh;obtain⟨vr,rfl⟩:=nh;rw[ni]at vr;unfold d4 at vr;injection vr with wy AY;injection wy with wy;subst wy AY h2 h3;have bV:=iQ t _ _ _ jb;have aa:(n1++n2).length=t.owns+n2.length:=by rw[Xx,bV]
  obtain⟨c1,yW⟩:=kP t o1 nx us n1 jb hν.left;have bv:=cC.1 hn;obtain⟨wz,lq⟩:=hi k (Xg ..);have eA:=vT t o1 nx;have j9:rS (Wt objs k.id) k.off (unfold t o1 nx).1= .box (lO ng k.off (unfold t o1 nx).1):=by rw[lq,bD];rfl
  obtain⟨e1,el,e2⟩:=ih bG aN dY n2 ((k.id,rS (Wt objs k.id) k.off (unfold t o1 nx).1)::((unfold t o1 nx).2.1++objs)) (nx+t.owns) am h5 dI (hν.right bV) bv.2 (λk' pP=>by
   obtain⟨g1,g2⟩:=hi k' (Xf _ pP);refine⟨by omega,?_⟩;rw[WW,Wa (λe=>bv.1 (by rw[e];exact fU pP)),vL];cases hq:Wt (unfold t o1 nx).2.1 k'.id with
   |none=>exact g2
   |some ob=>have:=(yW _ ob hq).1;omega) (by omega)
  simp only[ek,kK];refine⟨by rw[e1,aa];omega,by simp[el],λi ob hl=>?_⟩;rcases e2 i ob hl with⟨g1,g2,g3⟩|⟨j,S,g1,g2,g3⟩|⟨g,gn⟩
  .exact .inl ⟨by omega,by omega,g3⟩
  .exact .inr (.inl ⟨j+1,S,g1,g2,g3⟩)
  .rw[WW]at g;split at g
   .rename_i e3;subst e3;injection g with g;rw[j9]at g;subst g;refine .inr (.inl ⟨0,_,rfl,rfl,.inl ⟨ng,k.off,_,_,us,bD,rfl,by rw[eA];exact cQ,bF,aG,c1 am (by omega),by rw[eA],by rw[eA];exact ww⟩⟩)
   .rename_i aH;rcases WS g with g|g
    .obtain⟨g1,g2,g3⟩:=yW i ob g;exact .inl ⟨g1,by omega,g3⟩
    .exact .inr (.inr ⟨g,λhm=>by rcases Xs.1 hm with hm|hm;exact aH hm.symm;exact gn hm⟩)
def VE(G:GH)(ν:Nat->Nu)(φ:Nat->CS)(w:World)(am a:Nat)(d:Ob):Prop:=
 BJ G ν φ w a d\/∃c b e,d= .box c/\(ν a).blk=some b/\Row w b ((ν a).off+c.length)/\Mem w b (ν a).off e/\CellsRel G ν am c e/\CS.le (rng b (ν a).off c.length) (φ a)
theorem Gf:∀(m:List PTy) (d:d7 m) (vs:List Value) (q:List Pc) (objs:ad) (nx am:Nat),qi G w m d vs q->At ν φ nx q->nx+q.length<=am->
  (fy m d objs nx).2.2=nx+q.length/\
  (∀p f,Wt (fy m d objs nx).2.1 p=some f->(nx<=p/\p<nx+q.length/\VE G ν φ w am p f)\/Wt objs p=some f)/\
  Nv G ν am (fy m d objs nx).1 vs
 | [],d,vs,q,objs,nx,am,⟨y,z⟩,_,_=>by subst y z;exact⟨rfl,λp f A=>.inr A,rfl,λj x v a=>by simp[fy]at a⟩
 | .v t agg::m,d,vs,q,objs,nx,am,⟨v,D,n1,k,y,z,L,P⟩,n,hx=>by
  subst z;obtain⟨C,U⟩:=Nd L;have r:=iQ _ _ _ _ U;have E:(n1++k).length=t.owns+k.length:=by rw[Xx,r]
  obtain⟨_,N⟩:=kP t d.1 nx C n1 U n.left;obtain⟨F,H,I,J⟩:=Gf m d.2 D k ((unfold t d.1 nx).2.1++objs) (nx+t.owns) am P (n.right r) (by omega);simp only[fy,kK];refine⟨by rw[F,E];omega,λi f A=>?_,?_⟩
  .rcases H i f A with⟨s,K,l⟩|g
   .exact .inl ⟨by omega,by omega,l⟩
   .rcases WS g with g|g
    .obtain⟨s,K,l⟩:=N i f g;exact .inl ⟨s,by omega,.inl l⟩
    .exact .inr g
  .rw[y];refine⟨by simp[I],λj x u a B=>?_⟩;cases j with
   |zero=>simp at a B;subst a B;exact MB L n.left (by omega)
   |succ j=>exact J j x u (by simpa using a) (by simpa using B)
 | .box t::m,d,vs,q,objs,nx,am,⟨b,o,D,n1,k,y,z,⟨C,af,V,T⟩,X⟩,n,hx=>by
  subst z;have r:=iQ _ _ _ _ T;have E:((⟨d4 b o,rng b o t.size⟩:Pc)::(n1++k)).length=1+t.owns+k.length:=by rw[List.length_cons,Xx,r];omega
  obtain⟨c,R⟩:ν nx=d4 b o/\φ nx=rng b o t.size:=by have:=n 0 _ rfl;simpa using this
  have M:At ν φ (nx+1) (n1++k):=n.right (n1:=[⟨d4 b o,rng b o t.size⟩]) rfl;obtain⟨O,N⟩:=kP t d.1 (nx+1) C n1 T M.left;obtain⟨F,H,I,J⟩:=Gf m d.2 D k ((nx,.box (unfold t d.1 (nx+1)).1)::((unfold t d.1 (nx+1)).2.1++objs)) (nx+1+t.owns) am X (M.right r) (by omega);have S:=vT t d.1 (nx+1);simp only[fy,kK];refine⟨by rw[F,E];omega,λp f A=>?_,?_⟩
  .rcases H p f A with⟨s,K,l⟩|g
   .exact .inl ⟨by omega,by omega,l⟩
   .rw[WW]at g;split at g
    .rename_i e;subst e;injection g with g;subst g;refine .inl ⟨Xl _,by omega,.inr ⟨_,b,C,rfl,by rw[c];rfl,?_,?_,O am (by omega),?_⟩⟩
     .rw[c,S];exact af
     .rw[c];exact V
     .rw[c,S,R];exactλ_ _ Y=>Y
    .rcases WS g with g|g
     .obtain⟨s,K,l⟩:=N p f g;exact .inl ⟨by omega,by omega,.inl l⟩
     .exact .inr g
  .rw[y];refine⟨by simp[I],λj x u a B=>?_⟩;cases j with
   |zero=>
    simp at a B;subst a B;exact⟨⟨by omega,b,by rw[c];rfl,by rw[c];rfl⟩,rfl⟩
   |succ j=>exact J j x u (by simpa using a) (by simpa using B)
 | .mut _::_,_,_,_,_,_,_,h,_,_=>h.elim
 | .clos _ _::_,_,_,_,_,_,_,h,_,_=>h.elim
 | .kv _ _::_,_,_,_,_,_,_,h,_,_=>h.elim
 | .rp _::_,_,_,_,_,_,_,h,_,_=>h.elim
 | .vj t::m,d,vs,q,objs,nx,am,⟨C,u,D,n1,k,y,W,z,L,P⟩,n,hx=>by
  subst z;have r:=iQ _ _ _ _ L;have E:(n1++k).length=t.owns+k.length:=by rw[Xx,r]
  obtain⟨O,N⟩:=kP t d.1 nx C n1 L n.left;obtain⟨F,H,I,J⟩:=Gf m d.2 D k ((unfold t d.1 nx).2.1++objs) (nx+t.owns) am P (n.right r) (by omega);simp only[fy,kK];refine⟨by rw[F,E];omega,λi f A=>?_,?_⟩
  .rcases H i f A with⟨s,K,l⟩|g
   .exact .inl ⟨by omega,by omega,l⟩
   .rcases WS g with g|g
    .obtain⟨s,K,l⟩:=N i f g;exact .inl ⟨s,by omega,.inl l⟩
    .exact .inr g
  .rw[y];refine⟨by simp[I],λj x v a Q=>?_⟩;cases j with
   |zero=>simp at a Q;subst a Q;exact⟨C++ [u],rfl,(O am (by omega)).append (CellsRel.one trivial W)⟩
   |succ j=>exact J j x v (by simpa using a) (by simpa using Q)
 | .boxal _ _::_,_,_,_,_,_,_,h,_,_=>h.elim
theorem Wut{xs:List AV}{vs:List Value}(h:Nv G ν nx xs vs):AValRel G ν nx (Vz xs) (xA vs):=by
 obtain⟨a,b⟩:=h
 match xs,vs,a with
 | [],[],_=>exact⟨[],rfl,rfl,λj x v c=>by simp at c⟩
 | [x],[v],_=>exact b 0 x v rfl rfl
 |x::y::xs,v::u::vs,a=>exact⟨v::u::vs,rfl,a,b⟩
end
theorem kL(i:Nat):∀l:List Nat,ew i l=true↔i∈l
 | []=>by simp[ew]
 |j::l=>by
  simp only[ew,Bool.or_eq_true,kL i l,Xs];rw[show(Nat.beq i j=true)=(i=j)from by simp]
theorem Gi:∀l:List Nat,fL l=true↔l.Nodup
 | []=>by simp[fL]
 |i::l=>by
  have h:=kL i l;simp only[fL,Xj,fg,cC,Gi l]
  grind
theorem Rs{l m:List Nat}(h:lu l m=true):∀i∈l,i∉m:=λi a b=>by
 grind [lu,cq,kL]
section
variable{w0:World}{F:CS}{nt:Slots}{G0 G G':GH}{ν:Nat->Nu}{φ:Nat->CS}{objs:ad}{nx:Nat}{st ai:St}{a:Act}{w w':World}{P:Program}{T:Tab}
theorem Hy(h:HR w0 F G ν φ objs nx w){t:Ty}{e:Bool}{x:AVal}{v:Value}{cs:List Cell}{d:t.den}{m l:List Nat}(q:GLe G G')(n:AValRel G ν nx x v)(r:Lent G' w φ objs l)(s:m.Nodup)
  (a:cellsOf e x=some cs) (o:aY t cs objs=some (d,m,l)):∃b,fC G' w t e d v b/\Sep (fps b)/\(∀p∈b,CS.le p.fp (FromL φ objs m))/\(∀i∈m,Live objs i)/\(∀i∈l,Live objs i):=by
 unfold cellsOf at a;split at a
 .split at a
  .cases a
  .rename_i c ha;injection a with a;subst a;obtain⟨b,y,f,g,j,k,_⟩:=iz h q t [c] [v] d m l (CellsRel.one n.1 n.2) r s o;refine⟨b,?_,f,g,j,k⟩;simp_all [fC,Wa]
 .split at a
  .rename_i ds ha;injection a with a;subst a;obtain⟨z,rfl,u⟩:=n;obtain⟨b,y,f,g,j,k,_⟩:=iz h q t ds z d m l u r s o;refine⟨b,?_,f,g,j,k⟩;unfold fC;simp_all
  .cases a
 .cases a
def E2(objs:ad)(m:List Nat):Prop:=∀i∈m,∃(e:Ty) (xs:List e.den),Wt objs i=some (.arr e xs)
theorem He:∀(t:Ty) (cs:List Cell) (d:t.den) (m l:List Nat),E2 objs m->aY t cs objs=some (d,m,l)->m.length<=t.owns
 | .prod a b,cs,d,m,l,g,h=>by
  simp only[aY]at h;split at h
  .rename_i x m1 l1 y m2 l2 h1 f;simp only[Option.some.injEq,Prod.mk.injEq]at h;obtain⟨rfl,rfl,rfl⟩:=h;have:=He a _ _ _ _ (λi j=>g i (Xm _ j)) h1;have:=He b _ _ _ _ (λi j=>g i (Xh _ j)) f;rw[Xx];show _<=a.owns+b.owns;omega
  grind
 | .own e,cs,d,m,l,g,h=>by
  simp only[aY]at h;split at h
  .rename_i id;obtain⟨⟨z,w⟩,c,n⟩:=dw.1 h;simp only[Prod.mk.injEq]at n;obtain⟨rfl,rfl,rfl⟩:=n;unfold HQ at c;split at c
   .obtain⟨r,_,c⟩:=dw.1 c;obtain⟨_,rfl⟩:=Prod.mk.inj c;exact Xl 1
   .rename_i e' xs i p bD;split at c
    .split at c
     .simp only[Option.some.injEq,Prod.mk.injEq]at c;obtain⟨_,rfl⟩:=c;obtain⟨u,s,f⟩:=g id (Xg ..);simp_all
     grind
    grind
   grind
  .split at h
   .obtain⟨r,_,h⟩:=dw.1 h;have f:=(Prod.mk.inj (Prod.mk.inj h).2).1;subst f;exact Xl 1
   grind
  .grind
  grind
 | .slice e,cs,d,m,l,_,h=>by
  have v:m= []:=by
   simp only[aY]at h
   grind [dw,Prod.mk.inj]
  simp_all
 | .int k,cs,d,m,l,_,h=>by
  simp only[aY]at h;split at h
  .obtain⟨q,o,h⟩:=dw.1 h;simp_all
  grind
 | .bool,cs,d,m,l,_,h=>by
  simp only[aY]at h;split at h
  .obtain⟨q,o,h⟩:=dw.1 h;simp_all
  grind
 | .str,cs,d,m,l,_,h=>by
  simp only[aY]at h;split at h
  .obtain⟨q,o,h⟩:=dw.1 h;simp_all
  grind
theorem Gp(h:HR w0 F G ν φ objs nx w)(e:GLe G G'){t:Ty}(i:t.owns=0){cs:List Cell}{vs:List Value}{d:t.den}{m l:List Nat}(b:CellsRel G ν nx cs vs)(f:Lent G' w φ objs l)(c:aY t cs objs=some (d,m,l))(g:m= []):WF G' w t d vs []:=by
 subst g;obtain⟨j,a,_⟩:=iz h e t cs vs d [] l b f qE c;have:=iQ _ _ _ _ a;simp_all
def pcs(ν:Nat->Nu)(φ:Nat->CS)(m:List Nat):List Pc:=m.map λi=>⟨ν i,φ i⟩
theorem Wyp(m:List Nat):nus (pcs ν φ m)=m.map ν:=by simp[nus,pcs,Function.comp_def]
theorem M6(m:List Nat):fps (pcs ν φ m)=m.map φ:=by simp[fps,pcs,Function.comp_def]
theorem Gl(h:HR w0 F G ν φ objs nx w)(s:GLe G G'):∀(t:Ty) (cs:List Cell) (vs:List Value) (d:t.den) (m l:List Nat),CellsRel G ν nx cs vs->Lent G' w φ objs l->(∀c∈cs,NB c=true)->E2 objs m->
  aY t cs objs=some (d,m,l)->m.length=t.owns->WF G' w t d vs (pcs ν φ m)/\xm objs t m
 | .prod a b,cs,vs,d,m,l,g,j,r,q,f,hm=>by
  have U:=f;simp only[aY]at f;split at f
  .rename_i x m1 l1 y m2 l2 h1 z;simp only[Option.some.injEq,Prod.mk.injEq]at f;obtain⟨rfl,rfl,rfl⟩:=f;have E:E2 objs m1:=λi A=>q i (Xm _ A);have D:E2 objs m2:=λi A=>q i (Xh _ A);have V:=He a _ _ _ _ E h1;have W:=He b _ _ _ _ D z;rw[Xx]at hm;have S:m1.length+m2.length=a.owns+b.owns:=hm;obtain⟨J,K⟩:=Gl h s a _ (vs.take a.size) x m1 l1 (g.take _) (j.mono (by simp_all)) (λc g=>r c (jO g)) E h1 (by omega);obtain⟨L,M⟩:=Gl h s b _ (vs.drop a.size) y m2 l2 (g.drop _) (j.mono (by simp_all)) (λc g=>r c (E9 g)) D z (by omega);exact⟨⟨_,_,pcs ν φ m1,pcs ν φ m2,(E3 a.size vs).symm,by simp[pcs],J,L⟩,m1,m2,rfl,K,M⟩
  grind
 | .own e,cs,vs,d,m,l,g,j,r,q,f,hm=>by
  simp only[aY]at f;split at f
  .rename_i id;obtain⟨v,rfl,⟨_,P⟩,_⟩:=g.single;subst P;obtain⟨⟨X,T⟩,o,f⟩:=dw.1 f;simp only[Prod.mk.injEq]at f;obtain⟨rfl,rfl,rfl⟩:=f;unfold HQ at o;split at o
   .rename_i e' B u;obtain⟨Y,I,o⟩:=dw.1 o;obtain⟨rfl,rfl⟩:=Prod.mk.inj o;obtain⟨N,C⟩:=kQ I;subst N;simp only at C;subst C;have H:aF w (WF G w e') e'.size (ν id) B (φ id):=h.ob _ _ u;exact⟨⟨⟨ν id,φ id⟩,rfl,rfl,v6 s (Same.refl _ w) (λ_ _ O=>O) H⟩,id,B,rfl,u⟩
   .rename_i e' B i p u;split at o
    .split at o
     .simp only[Option.some.injEq,Prod.mk.injEq]at o;obtain⟨_,rfl⟩:=o;obtain⟨R,Q,z⟩:=q id (Xg ..);simp_all
     grind
    grind
   grind
  .have:=r _ (bH.2 rfl);cases this
  .simp only[Option.some.injEq,Prod.mk.injEq]at f;obtain⟨rfl,rfl,rfl⟩:=f;exact Wi hm (by show¬(0=1);omega)
  grind
 | .slice e,cs,vs,d,m,l,g,j,r,q,f,hm=>by
  have n:m= []:=Xv hm;have:=Gp h s (t:=.slice e) rfl g j f n;subst n;exact⟨this,rfl⟩
 | .int k,cs,vs,d,m,l,g,j,r,q,f,hm=>by
  have n:m= []:=Xv hm;have:=Gp h s (t:=.int k) rfl g j f n;subst n;exact⟨this,rfl⟩
 | .bool,cs,vs,d,m,l,g,j,r,q,f,hm=>by
  have n:m= []:=Xv hm;have:=Gp h s (t:=.bool) rfl g j f n;subst n;exact⟨this,rfl⟩
 | .str,cs,vs,d,m,l,g,j,r,q,f,hm=>by
  have n:m= []:=Xv hm;have:=Gp h s (t:=.str) rfl g j f n;subst n;exact⟨this,rfl⟩
theorem Wr2{t:Ty}{m:List Nat}{x:AVal}(h:EB objs t m x=true):m.length=t.owns/\Vc x=true/\E2 objs m:=by
 unfold EB at h;simp only[Xj,Wg,cq]at h;obtain⟨⟨a,b⟩,c⟩:=h;refine⟨a,b,λi d=>?_⟩
 grind
theorem RL(h:HR w0 F G ν φ objs nx w){t:Ty}{b:Bool}{x:AVal}{v:Value}{cs:List Cell}{d:t.den}{m l:List Nat}(k:GLe G G')(e:AValRel G ν nx x v)(n:Lent G' w φ objs l)
  (a:cellsOf b x=some cs) (j:aY t cs objs=some (d,m,l)) (u:EB objs t m x=true):fC G' w t b d v (pcs ν φ m)/\xm objs t m:=by
 obtain⟨o,p,q⟩:=Wr2 u;unfold cellsOf at a;split at a
 .split at a
  .cases a
  .rename_i c fO;injection a with a;subst a;obtain⟨s,i⟩:=Gl h k t [c] [v] d m l (CellsRel.one e.1 e.2) n (λg f=>by rw[bH.1 f];exact p) q j o;simp_all [fC,Wa]
 .split at a
  .rename_i ds fO;injection a with a;subst a;obtain⟨y,rfl,r⟩:=e;obtain⟨s,i⟩:=Gl h k t ds y d m l r n (λg f=>cq.1 p g f) q j o;refine⟨?_,i⟩;unfold fC;simp_all
  .cases a
 .cases a
def Tk(φ:Nat->CS)(objs:ad)(bx:List (Nat×CS))(l:List Nat):CS:=λb o=>∃i∈l,Live objs i/\φ i b o/\∀p∈bx,p.1=i->p.2 b o
structure AOk(G':GH)(ν:Nat->Nu)(φ:Nat->CS)(objs:ad)(w:World)(ps:List PTy)(A:Args ps)(vs:List Value)(ns:List Pc)(ks:List Nu)(bx:List (Nat×CS)):Prop where
 args:iU G' w ps A.d vs ns ks
 kept:KeptOk objs ν bx ps A.kept ks
 sep:Sep (fps ns)
 tk:∀q∈ns,CS.le q.fp (Tk φ objs bx A.all)
 bx:∀p∈bx,p.1∈A.all
 live:∀i∈A.all,Live objs i
 lent:∀i∈A.lent,Live objs i
 mv:∀i∈A.moved,i∈A.all
 mvk:∀i∈A.all,i∈A.moved\/i∈kids A.kept
 sub:(kids A.kept).Sublist A.all
 dis:∀i∈kids A.kept,i∉A.moved
theorem Eg{bx:List (Nat×CS)}{l:List Nat}:CS.le (Tk φ objs bx l) (FromL φ objs l):=λb o ⟨i,d,a,c,_⟩=>⟨i,d,a,c⟩
theorem Hs{bx c:List (Nat×CS)}{l a:List Nat}(h:∀i∈l,i∈a)(k:∀p∈c,p∈bx\/p.1∉l):CS.le (Tk φ objs bx l) (Tk φ objs c a):=λb o ⟨i,g,d,f,j⟩=>
 ⟨i,h i g,d,f,λp m e=>by
  grind⟩
theorem Nl{bx:List (Nat×CS)}{m l:List Nat}(g:∀i∈m,i∈l)(d:∀p∈bx,p.1∉m):CS.le (FromL φ objs m) (Tk φ objs bx l):=λb o ⟨i,f,a,c⟩=>
 ⟨i,g i f,a,c,λp h e=>Wi (by simp_all) (d p h)⟩
theorem oh(h:HR w0 F G ν φ objs nx w){n1 a:List Pc}{m l:List Nat}(b:Sep (fps n1))(c:Sep (fps a))(f:∀q∈n1,CS.le q.fp (FromL φ objs m))(g:∀q∈a,CS.le q.fp (FromL φ objs l))(d:∀i∈m,i∉l):Sep (fps (n1++a)):=by
 unfold fps;rw[Xw];refine Nq b c (A:=FromL φ objs m) (B:=FromL φ objs l) (λs e=>?_) (λs e=>?_) (FromL.disj h d)
 .grind
 grind
theorem So(h:HR w0 F G ν φ objs nx w)(S:GLe G G'){t:Ty}{D:List PTy}{id off:Nat}{cs:List Cell}{d:t.den}{m:List Nat}{A:Args D}{vs:List Value}{C:List Pc}{L:List Nu}{bx:List (Nat×CS)}{v:Value}
  (U:CellRel G ν nx (.ptr id off) v) (x:Wt objs id=some (.box cs)) (R:aY t ((cs.drop off).take t.size) objs=some (d,m,[])) (O:(id::(m++A.all)).Nodup) (f:AOk G' ν φ objs w D A vs C L bx):
  ∃b n,v= .pointer (some ⟨b,(ν id).off+off,none⟩)/\(ν id).blk=some b/\oy G' w t d b ((ν id).off+off) n/\Leaf ν t ((cs.drop off).take t.size) n/\
   KeptBox objs ν ((id,rng b ((ν id).off+off) t.size)::bx) t ⟨id,off⟩ (d4 b ((ν id).off+off))/\KeptOk objs ν ((id,rng b ((ν id).off+off) t.size)::bx) D A.kept L/\
   Sep (fps (⟨d4 b ((ν id).off+off),rng b ((ν id).off+off) t.size⟩::(n++C)))/\
   (∀q∈(⟨d4 b ((ν id).off+off),rng b ((ν id).off+off) t.size⟩:Pc)::(n++C),CS.le q.fp (Tk φ objs ((id,rng b ((ν id).off+off) t.size)::bx) (id::(m++A.all))))/\
   (∀p∈(id,rng b ((ν id).off+off) t.size)::bx,p.1∈id::(m++A.all))/\(∀i∈id::(m++A.all),Live objs i)/\
   (∀i∈m++A.moved,i∈id::(m++A.all))/\(∀i∈id::(m++A.all),i∈m++A.moved\/i∈id::kids A.kept)/\(id::kids A.kept).Sublist (id::(m++A.all))/\(∀i∈id::kids A.kept,i∉m++A.moved):=by
 obtain⟨ce,b,y,rfl⟩:=U;obtain⟨n,W⟩:=cC.1 O;obtain⟨X,n4,B⟩:=d9.1 W;have z:Live objs id:=⟨_,x,by simp⟩;obtain⟨I,us,u,af,N,J,Q⟩:fc G ν nx w id (φ id) (.box cs):=h.ob _ _ x;rw[y]at u;injection u with u;subst u;obtain⟨Y,M,t2,H,t4,_,t5⟩:=iz h S t _ ((us.drop off).take t.size) d m [] ((J.drop off).take _) (λi a=>by simp at a) X R;have aa:=WN _ _ _ _ M;have P:off+t.size<=cs.length:=by
  have:=J.1
  grind [di,Fa,mH]
 have K:CS.le (rng b ((ν id).off+off) t.size) (φ id):=λI o ⟨V,k1,k2⟩=>Q I o ⟨V,by omega,by omega⟩;refine⟨b,Y,rfl,y,⟨_,?_,?_,M⟩,t5,⟨cs,b,x,P,y,rfl,Xg ..⟩,KeptOk.mono (λp c=>Xf _ c) _ _ _ f.kept,?_,?_,?_,?_,?_,?_,?_,?_⟩
 .obtain⟨E,TT,Z,r2⟩:=af;exact⟨E,TT,Z,by omega⟩
 .intro j v r;rw[mu]at r;split at r
  .rw[mn]at r;rw[eK];exact N _ v r
  grind
 .have s1:=oh h t2 f.sep H (λq l b o g=>Eg b o (f.tk q l b o g)) (λi a r=>B i a i r rfl);refine bq.2 ⟨λs T=>?_,s1⟩;obtain⟨p,c,rfl⟩:=Xz.1 T;refine CS.disj.mono (FromL.disj h (m:=[id]) (m':=m++A.all) (λi a r=>n (by simp_all))) (λb o g=>⟨id,by simp,z,K b o g⟩) (λb o g=>?_);rcases Xn.1 c with c|c
  .exact FromL.mono (λi a=>Xm _ a) b o (H p c b o g)
  .exact FromL.mono (λi a=>Xh _ a) b o (Eg b o (f.tk p c b o g))
 .intro q l;rcases Xs.1 l with rfl|l
  .exactλb o g=>⟨id,Xg ..,z,K b o g,λp c e=>by
    rcases Xs.1 c with rfl|c
    .exact g
    .exact Wi (Xh _ (by rw[←e];exact f.bx p c)) n⟩
  .rcases Xn.1 l with l|l
   .refineλb o g=>Nl (m:=m) (λi a=>Xf _ (Xm _ a)) (λp c k=>?_) b o (H q l b o g)
    rcases Xs.1 c with rfl|c
    .simp_all
    .exact B _ k _ (f.bx p c) rfl
   .refineλb o g=>Hs (λi a=>Xf _ (Xh _ a)) (λp c=>?_) b o (f.tk q l b o g)
    grind
 .intro p c;rcases Xs.1 c with rfl|c
  .simp_all
  .exact Xf _ (Xh _ (f.bx p c))
 .intro i a;rcases Xs.1 a with rfl|a
  .exact z
  .rcases Xn.1 a with a|a
   .grind
   .exact f.live i a
 .intro i a;rcases Xn.1 a with a|a
  .exact Xf _ (Xm _ a)
  .exact Xf _ (Xh _ (f.mv i a))
 .intro i a;rcases Xs.1 a with rfl|a
  .exact .inr (Xg ..)
  .rcases Xn.1 a with a|a
   .exact .inl (Xm _ a)
   .rcases f.mvk i a with a|a
    .exact .inl (Xh _ a)
    .exact .inr (Xf _ a)
 .exact List.Sublist.cons_cons _ (List.Sublist.trans f.sub (XF _ _))
 .intro i a k;rcases Xs.1 a with rfl|a
  .rcases Xn.1 k with k|k
   .exact n (Xm _ k)
   .exact n (Xh _ (f.mv _ k))
  .rcases Xn.1 k with k|k
   .exact B _ k _ (f.sub.subset a) rfl
   .exact f.dis i a k
theorem Wsb(h:HR w0 F G ν φ objs nx w){c:Cell}{y:AVal}{i:Nat}{u:Value}(g:AValRel G ν nx y u)(a:Nw objs c y=some i):
  ∃r b,c= .own r/\(ν r).blk=some b/\i<(ν r).len/\u= .pointer (some ⟨b,(ν r).off+(i*(ν r).esz+0),none⟩):=by
 unfold Nw at a;split at a
 .rename_i r p off;split at a
  .rename_i e xs j p' bD;split at a
   .rename_i d;injection a with a;subst a;have d:=B2 d;subst d;obtain⟨x,t,m,v,b,n,o,q,_⟩:p<nx/\mW w (WF G w e) e.size (ν r) (ν p) xs j (φ r):=h.ob _ _ bD;obtain⟨⟨_,s,f,rfl⟩,_⟩:=g;rw[o]at f;injection f with f;subst f;exact⟨r,b,rfl,n,by omega,by rw[q,m,eL,eL]⟩
   .simp at a
  .simp at a
 .rename_i r r' j off;split at a
  .rename_i e xs bD;split at a
   .rename_i d;injection a with a;subst a;have d:=B2 d;subst d;obtain⟨⟨_,k,b,l,rfl⟩,_⟩:=g;exact⟨r,b,rfl,l,k,rfl⟩
   .simp at a
  .simp at a
 .simp at a
theorem pB(h:HR w0 F G ν φ objs nx w)(Q:GLe G G'):∀(N:List PTy) (xs:List AVal) (vs:List Value) (A:Args N),vs.length=xs.length->
  (∀(j:Nat) (x:AVal) (v:Value),xs[j]?=some x->vs[j]?=some v->AValRel G ν nx x v)->Lent G' w φ objs A.lent->A.all.Nodup->fw N xs objs=some A->
  ∃K J R,AOk G' ν φ objs w N A vs K J R
 | [],xs,vs,A,z,C,L,O,f=>by
  simp only[fw]at f;split at f
  .injection f with f;subst f;have ka:vs= []:=Xv (by simpa using z);exact⟨[],[],[],⟨ka,rfl,rfl⟩,⟨rfl,rfl⟩,List.Pairwise.nil,by simp,by simp,by simp,by simp,by simp,by simp,List.Sublist.refl _,by simp[kids]⟩
  .cases f
 | .v t agg::N,xs,vs,A,z,C,L,O,f=>by
  simp only[fw]at f;split at f
  .rename_i x xs;split at f
   .rename_i d m r A' H P;injection f with f;subst f
    match vs,z with
    |v::vs,z=>
     cases T:cellsOf agg x with
     |none=>simp[T]at H
     |some W=>
      simp[T]at H;obtain⟨n1,X,n3⟩:=d9.1 O;obtain⟨U,g1,g2,g3,g4,g5⟩:=Hy h Q (C 0 x v rfl rfl) (L.mono (λi a=>Xm _ a)) n1 T H;obtain⟨K,J,R,l⟩:=pB h Q N xs vs A' (by simpa using z) (λj y u s I=>C (j+1) y u (by simpa using s) (by simpa using I)) (L.mono (λi a=>Xh _ a)) X P;refine⟨U++K,J,R,⟨v,vs,U,K,rfl,rfl,g1,l.args⟩,l.kept,oh h g2 l.sep g3 (λq B b o E=>Eg b o (l.tk q B b o E)) (λi a s=>n3 i a i s rfl),λq B=>?_,λp M=>Xh _ (l.bx p M),λi a=>?_,λi a=>?_,λi a=>?_,λi a=>?_,List.Sublist.trans l.sub (XF _ _),λi a S=>?_⟩
      .rcases Xn.1 B with B|B
       .exactλb o E=>Nl (λi a=>Xm _ a) (λp M S=>n3 _ S _ (l.bx p M) rfl) b o (g3 q B b o E)
       .exactλb o E=>Hs (λi a=>Xh _ a) (λp M=>.inl M) b o (l.tk q B b o E)
      .rcases Xn.1 a with a|a
       .exact g4 i a
       .exact l.live i a
      .rcases Xn.1 a with a|a
       .exact g5 i a
       .exact l.lent i a
      .rcases Xn.1 a with a|a
       .exact Xm _ a
       .exact Xh _ (l.mv i a)
      .rcases Xn.1 a with a|a
       .exact .inl (Xm _ a)
       .rcases l.mvk i a with a|a
        .exact .inl (Xh _ a)
        .exact .inr a
      .rcases Xn.1 S with S|S
       .exact n3 _ S _ (l.sub.subset a) rfl
       .exact l.dis i a S
   .cases f
  .cases f
 | .box t::N,xs,vs,A,z,C,L,O,f=>by
  simp only[fw]at f;split at f
  .rename_i id off xs;split at f
   .rename_i W V;split at f
    .rename_i d m A' H P;injection f with f;subst f
     match vs,z with
     |v::vs,z=>
      obtain⟨n1,X⟩:=cC.1 O;obtain⟨K,J,R,l⟩:=pB h Q N xs vs A' (by simpa using z) (λj y u s I=>C (j+1) y u (by simpa using s) (by simpa using I)) L (d9.1 X).2.1 P;obtain⟨b,U,rfl,bF,k1,_,k2,k3,k4,k5,k6,k7,k8,k9,Z,dJ⟩:=So h Q (C 0 _ v rfl rfl).1 V H O l;exact⟨_,_,_,⟨b,_,vs,U,K,J,rfl,rfl,rfl,k1,l.args⟩,⟨_,_,_,_,rfl,rfl,k2,k3⟩,k4,k5,k6,k7,l.lent,k8,k9,Z,dJ⟩
    .cases f
   .cases f
  .cases f
 | .vj _::_,_,_,_,_,_,_,_,f=>by simp only[fw]at f;cases f
 | .boxal t lf::N,xs,vs,A,z,C,L,O,f=>by
  simp only[fw]at f;split at f
  .rename_i id off y xs;split at f
   .rename_i W V;split at f
    .rename_i d m A' i H P Y;injection f with f;subst f
     match vs,z with
     |v::u::vs,z=>
      obtain⟨n1,X⟩:=cC.1 O;obtain⟨K,J,R,l⟩:=pB h Q N xs vs A' (by simpa using z) (λj y u s I=>C (j+2) y u (by simpa using s) (by simpa using I)) L (d9.1 X).2.1 P;obtain⟨b,U,rfl,bF,k1,kl,k2,k3,k4,k5,k6,k7,k8,k9,Z,dJ⟩:=So h Q (C 0 _ v rfl rfl).1 V H O l;obtain⟨c,T,Y⟩:=t8.1 Y;obtain⟨k,hk,T⟩:=t8.1 T;obtain⟨r,b',rfl,e1,e2,rfl⟩:=Wsb h (C 1 y u rfl rfl) Y;obtain⟨pc,e3,e4⟩:=kl lf k r hk T;exact⟨_,_,_,⟨b,_,b',pc,vs,U,K,J,by rw[e4],rfl,rfl,k1,e3,by rw[e4];exact e1,by rw[e4];exact e2,l.args⟩,⟨_,_,_,_,rfl,rfl,k2,k3⟩,k4,k5,k6,k7,l.lent,k8,k9,Z,dJ⟩
    .cases f
   .cases f
  .cases f
 | .mut e::N,xs,vs,A,z,C,L,O,f=>by
  simp only[fw]at f;split at f
  .rename_i id xs;split at f
   .rename_i e' ys V;split at f
    .rename_i d A' H P;injection f with f;subst f;obtain⟨he,hd⟩:=kQ H;subst he;simp only at hd;subst hd
     match vs,z with
     |v::vs,z=>
      obtain⟨⟨_,hv⟩,_⟩:=C 0 _ v rfl rfl;subst hv;obtain⟨n1,X⟩:=cC.1 O;have bc:Live objs id:=⟨_,V,by simp⟩;have aM:aF w (WF G w e') e'.size (ν id) ys (φ id):=h.ob _ _ V;obtain⟨K,J,R,l⟩:=pB h Q N xs vs A' (by simpa using z) (λj y u s I=>C (j+1) y u (by simpa using s) (by simpa using I)) L X P;refine⟨⟨ν id,φ id⟩::K,ν id::J,R,⟨⟨ν id,φ id⟩,vs,K,J,rfl,rfl,rfl,v6 Q (Same.refl _ w) (λ_ _ E=>E) aM,l.args⟩,⟨id,_,J,ys,rfl,rfl,V,l.kept⟩,?_,λq B=>?_,λp M=>Xf _ (l.bx p M),λi a=>?_,l.lent,λi a=>Xf _ (l.mv i a),λi a=>?_,List.Sublist.cons_cons _ l.sub,λi a S=>?_⟩
      .refine oh h (n1:=[⟨ν id,φ id⟩]) (m:=[id]) (List.pairwise_singleton _ _) l.sep (λq B=>?_) (λq B b o E=>Eg b o (l.tk q B b o E)) (λi a s=>n1 (by rw[←bH.1 a];exact s));rw[bH.1 B];exact FromL.one (by simp) bc
      .rcases Xs.1 B with rfl|B
       .exactλb o E=>⟨id,Xg ..,bc,E,λp M e=>Wi (by rw[←e];exact l.bx p M) n1⟩
       .exactλb o E=>Hs (λi a=>Xf _ a) (λp M=>.inl M) b o (l.tk q B b o E)
      .rcases Xs.1 a with rfl|a
       .exact bc
       .exact l.live i a
      .rcases Xs.1 a with rfl|a
       .exact .inr (Xg ..)
       .rcases l.mvk i a with a|a
        .exact .inl a
        .exact .inr (Xf _ a)
      .rcases Xs.1 a with rfl|a
       .exact n1 (l.mv _ S)
       .exact l.dis i a S
    .cases f
   .cases f
  .cases f
 | .clos g n::N,xs,vs,A,z,C,L,O,f=>by
  simp only[fw]at f;split at f
  .rename_i g' caps xs;split at f
   .rename_i T;obtain⟨rfl,bN⟩:=T;cases l:fw N (fS caps++xs) objs with
    |none=>simp[l]at f
    |some A'=>
     simp only[l,mz,Option.some.injEq]at f;subst f
     match vs,z with
     |v::vs,z=>
      obtain⟨⟨cvs,hv,oY,tf⟩,_⟩:=C 0 _ v rfl rfl;subst hv;obtain⟨K,J,R,D⟩:=pB h Q N (fS caps++xs) (cvs++vs) A' (by simp[fS,oY];simpa using z) (λj y u s I=>by
       rw[hG]at s I;simp only[fS,Xy]at s;rw[oY]at I;split at s
       .rename_i ab;rw[Wb ab]at I;rw[ff]at s;obtain⟨id,ce,rfl⟩:=dw.1 s;obtain⟨H,Y,P⟩:=tf _ id u ce I;exact⟨⟨H,P⟩,Y⟩
       .rename_i ab;rw[Wa ab]at I;exact C (j-caps.length+1) y u (by simpa using s) (by simpa using I)) L O l
      refine⟨K,J,R,⟨cvs,vs,rfl,by rw[oY];exact bN,λu I=>?_,D.args⟩,D.kept,D.sep,D.tk,D.bx,D.live,D.lent,D.mv,D.mvk,D.sub,D.dis⟩;obtain⟨j,s⟩:=N7 I;have ab:j<caps.length:=by rw[←oY];exact(fe.1 s).1
      exact(tf j _ u (Xp ab) s).2.1
   .cases f
  .cases f
 | .kv t agg::N,xs,vs,A,z,C,L,O,f=>by
  simp only[fw]at f;split at f
  .rename_i x xs;split at f
   .rename_i d m r A' H P;split at f
    .rename_i iL;injection f with f;subst f
     match vs,z with
     |v::vs,z=>
      cases T:cellsOf agg x with
      |none=>simp[T]at H
      |some W=>
       simp[T]at H;obtain⟨n1,X,n3⟩:=d9.1 O;have bV:Lent G' w φ objs r:=L.mono (λi a=>Xm _ a);obtain⟨_,_,_,_,g4,g5⟩:=Hy h Q (C 0 x v rfl rfl) bV n1 T H;obtain⟨k1,k2⟩:=RL h Q (C 0 x v rfl rfl) bV T H iL;obtain⟨K,J,R,l⟩:=pB h Q N xs vs A' (by simpa using z) (λj y u s I=>C (j+1) y u (by simpa using s) (by simpa using I)) (L.mono (λi a=>Xh _ a)) X P;have ml:kids (kp0 m++A'.kept)=m++kids A'.kept:=by simp only[kids,Xw];congr 1;exact GY m
       have gp:∀q∈pcs ν φ m,CS.le q.fp (FromL φ objs m):=λq B=>by
        obtain⟨i,a,rfl⟩:=Xz.1 B;exact FromL.one a (g4 i a)
       have gs:Sep (fps (pcs ν φ m)):=by
        rw[M6];refine List.pairwise_map.2 (n1.imp_of_mem λ{i j} a s aH=>?_)
        exactλb o H P=>aH (h.inj i j b o (g4 i a) (g4 j s) H P)
       refine⟨pcs ν φ m++K,m.map ν++J,R,⟨v,vs,pcs ν φ m,K,J,rfl,rfl,by rw[Wyp],k1,l.args⟩,⟨m,A'.kept,J,rfl,rfl,k2,l.kept⟩,oh h gs l.sep gp (λq B b o E=>Eg b o (l.tk q B b o E)) (λi a s=>n3 i a i s rfl),λq B=>?_,λp M=>Xh _ (l.bx p M),λi a=>?_,λi a=>?_,λi a=>Xh _ (l.mv i a),λi a=>?_,by rw[ml];exact List.Sublist.append (List.Sublist.refl _) l.sub,λi a S=>?_⟩
       .rcases Xn.1 B with B|B
        .exactλb o E=>Nl (λi a=>Xm _ a) (λp M S=>n3 _ S _ (l.bx p M) rfl) b o (gp q B b o E)
        .exactλb o E=>Hs (λi a=>Xh _ a) (λp M=>.inl M) b o (l.tk q B b o E)
       .rcases Xn.1 a with a|a
        .exact g4 i a
        .exact l.live i a
       .rcases Xn.1 a with a|a
        .exact g5 i a
        .exact l.lent i a
       .rw[ml];rcases Xn.1 a with a|a
        .exact .inr (Xm _ a)
        .rcases l.mvk i a with a|a
         .exact .inl a
         .exact .inr (Xh _ a)
       .rw[ml]at a;rcases Xn.1 a with a|a
        .exact n3 _ a _ (l.mv i S) rfl
        .exact l.dis i a S
    .cases f
   .cases f
  .cases f
 | .rp t::N,xs,vs,A,z,C,L,O,f=>by
  simp only[fw]at f;split at f
  .rename_i id off xs;split at f
   .rename_i W V;split at f
    .rename_i d r A' H P;split at f
     case isFalse=>cases f
     rename_i wB;injection f with f;subst f
     match vs,z with
     |v::vs,z=>
      obtain⟨K,J,R,l⟩:=pB h Q N xs vs A' (by simpa using z) (λj y u s I=>C (j+1) y u (by simpa using s) (by simpa using I)) (L.mono (λi a=>Xf _ (Xh _ a))) O P;obtain⟨⟨ce,b,bF,rfl⟩,_⟩:=C 0 _ v rfl rfl;have bc:Live objs id:=⟨_,V,by simp⟩;obtain⟨b',us,cS,af,aG,cu,ge⟩:fc G ν nx w id (φ id) (.box W):=h.ob _ _ V;rw[bF]at cS;injection cS with cS;subst cS;obtain⟨U,t1,t2,t3,t4,t5,_⟩:=iz h Q t _ ((us.drop off).take t.size) d [] r ((cu.drop off).take _) (L.mono (λi a=>Xf _ (Xm _ a))) qE H;have oZ:∀p∈U,Froz G' w p.fp:=λp M b o v E=>by
       obtain⟨i,a,_⟩:=t3 p M b o E;simp at a
      have gZ:Enc G' t.ro (tp t d) ((us.drop off).take t.size):=wd (λ_ _ _ E=>E) t d _ U oZ t1;have kh:=WN _ _ _ _ t1;have cQ:off+t.size<=W.length:=by
       have:=cu.1;rw[di,Fa]at kh;have:=mH t;omega
      have aL:ox G' b ((ν id).off+off) ((us.drop off).take t.size):=λj v s=>by
       have wC:j<t.size:=by have:=(fe.1 s).1;omega
       rw[mu,Wb wC,mn]at s;have Y:=aG _ v s;rw[←eK]at Y;exact L id (Xg ..) bc b _ v (ge b _ ⟨rfl,by omega,by omega⟩) Y
      exact⟨K,J,R,⟨b,(ν id).off+off,(us.drop off).take t.size,vs,rfl,((oe t d _ U wB).1 t1).1,aL,l.args⟩,l.kept,l.sep,l.tk,l.bx,l.live,λi a=>by
       rcases Xs.1 a with rfl|a
       .exact bc
       .rcases Xn.1 a with a|a
        .exact t5 i a
        .exact l.lent i a,l.mv,l.mvk,l.sub,l.dis⟩
    .cases f
   .cases f
  .rename_i t' d' off xs;split at f
   .rename_i d A' H P;split at f
    case isFalse=>cases f
    rename_i wB;injection f with f;subst f
    match vs,z with
    |v::vs,z=>
     obtain⟨K,J,R,l⟩:=pB h Q N xs vs A' (by simpa using z) (λj y u s I=>C (j+1) y u (by simpa using s) (by simpa using I)) L O P;obtain⟨⟨b,o,W,rfl,e1,e2⟩,_⟩:=C 0 _ v rfl rfl;have cu:=jU (ν:=ν) (nx:=nx) t' d' W e1;obtain⟨U,t1,t2,t3,t4,t5,_⟩:=iz h Q t _ ((W.drop off).take t.size) d [] [] ((cu.drop off).take _) (λi a=>by simp at a) qE H;exact⟨K,J,R,⟨b,o+off,(W.drop off).take t.size,vs,rfl,((oe t d _ U wB).1 t1).1,λj v s=>by
      rw[mu]at s;split at s
      .rw[mn]at s;rw[eK];exact Q _ _ _ (e2 _ v s)
      .simp at s,l.args⟩,l.kept,l.sep,l.tk,l.bx,l.live,l.lent,l.mv,l.mvk,l.sub,l.dis⟩
   .cases f
  .cases f
end
theorem pI{G G':GH}{w:World}:∀(t:Ty) (d:t.den) (vs:List Value) (l:List Pc),t.noRo=true->WF G w t d vs l->WF G' w t d vs l
 | .own e,_,_,_,f,⟨r,g,i,j⟩=>⟨r,g,i,G6 (λx c q k=>WN e x c q k) (Same.refl _ w) (λ_ _ n=>n) (λx c q _ k=>pI e x c q f k) j⟩
 | .prod a b,_,_,_,f,⟨s,u,o,p,g,i,j,m⟩=>by
  simp only[Ty.noRo,Xj]at f;exact⟨s,u,o,p,g,i,pI a _ _ _ f.1 j,pI b _ _ _ f.2 m⟩
 | .int _,_,_,_,_,h=>h
 | .bool,_,_,_,_,h=>h
 | .str,_,_,_,_,h=>h
 | .slice _,_,_,_,f,_=>by simp[Ty.noRo]at f
theorem Wue{G G':GH}{w:World}{e:Ty}{nu:Nu}{xs:List e.den}{S:CS}(d:e.noRo=true)(h:aF w (WF G w e) e.size nu xs S):aF w (WF G' w e) e.size nu xs S:=
 G6 (λx c q a=>WN e x c q a) (Same.refl _ w) (λ_ _ b=>b) (λx c q _ a=>pI e x c q d a) h
theorem Ls{G G':GH}{w:World}{t:Ty}{d:t.den}{b o:Nat}{ns:List Pc}(f:t.noRo=true)(h:oy G w t d b o ns):oy G' w t d b o ns:=by
 obtain⟨g,a,c,e⟩:=h;exact⟨g,a,c,pI _ _ _ _ f e⟩
theorem Wt5{G G':GH}{w:World}{t:Ty}{a:Bool}{d:t.den}{v:Value}{ns:List Pc}(b:t.noRo=true)(h:fC G w t a d v ns):fC G' w t a d v ns:=by
 unfold fC at h⊢;split
 .rename_i ha;rw[Wb ha]at h;obtain⟨f,c,e⟩:=h;exact⟨f,c,pI _ _ _ _ b e⟩
 .rename_i ha;rw[Wa ha]at h;exact pI _ _ _ _ b h
theorem Gg{G G':GH}{w:World}:∀(c:List PTy) (d:d7 c) (vs:List Value) (l:List Pc),c.all PTy.freshR=true->qi G w c d vs l->qi G' w c d vs l
 | [],_,_,_,_,h=>h
 | .v t agg::c,d,vs,l,a,⟨v,e,j,k,f,g,i,m⟩=>by
  simp only[o4,Xj]at a;exact⟨v,e,j,k,f,g,Wt5 a.1 i,Gg c _ _ _ a.2 m⟩
 | .box t::c,d,vs,l,a,⟨b,o,e,j,k,f,g,i,p⟩=>by
  simp only[o4,Xj]at a;exact⟨b,o,e,j,k,f,g,Ls a.1 i,Gg c _ _ _ a.2 p⟩
 | .mut _::_,_,_,_,_,h=>h.elim
 | .clos _ _::_,_,_,_,_,h=>h.elim
 | .kv _ _::_,_,_,_,_,h=>h.elim
 | .rp _::_,_,_,_,_,h=>h.elim
 | .vj t::c,d,vs,l,a,⟨q,u,e,j,k,f,n,g,i,m⟩=>by
  simp only[o4,Xj]at a;exact⟨q,u,e,j,k,f,n,g,pI _ _ _ _ a.1 i,Gg c _ _ _ a.2 m⟩
 | .boxal _ _::_,_,_,_,_,h=>h.elim
theorem qY{G G':GH}{w:World}:∀(c:List PTy) (o:dv c) (f:List Nu) (d:List CS) (g:List Pc),c.all PTy.fresh=true->jz G w c o f d g->jz G' w c o f d g
 | [],_,_,_,_,_,h=>h
 | .v _ _::c,o,f,d,g,a,h=>by
  simp only[o4,Xj]at a;exact qY c o f d g a.2 h
 | .box t::c,o,f,d,g,a,⟨b,p,i,j,q,s,k,l,m,n,r⟩=>by
  simp only[o4,Xj]at a;exact⟨b,p,i,j,q,s,k,l,m,Ls a.1 n,qY c _ _ _ _ a.2 r⟩
 | .mut e::c,o,f,d,g,a,⟨u,i,j,k,l,m,n⟩=>by
  simp only[o4,Xj]at a;exact⟨u,i,j,k,l,Wue a.1 m,qY c _ _ _ _ a.2 n⟩
 | .clos _ _::c,o,f,d,g,a,h=>by
  simp only[o4,Xj]at a;exact qY c o f d g a.2 h
 | .kv t _::c,o,f,d,g,a,⟨q,i,j,x,k,l,m,n⟩=>by
  simp only[o4,Xj]at a;exact⟨q,i,j,x,k,l,pI _ _ _ _ a.1 m,qY c _ _ _ _ a.2 n⟩
 | .rp _::c,o,f,d,g,a,h=>by
  simp only[o4,Xj]at a;exact qY c o f d g a.2 h
 | .vj _::_,_,_,_,_,_,h=>h.elim
 | .boxal t _::c,o,f,d,g,a,⟨b,p,i,j,q,s,k,l,m,n,r⟩=>by
  simp only[o4,Xj]at a;exact⟨b,p,i,j,q,s,k,l,m,Ls a.1 n,qY c _ _ _ _ a.2 r⟩
theorem O4{objs:ad}:∀(l:List Nat) (a:Nat),a∉l->Wt (kill objs l) a=Wt objs a
 | [],a,_=>rfl
 |i::l,a,h=>by
  simp only[kill];rw[WW,Wa (λe=>h (by rw[e];exact Xg ..))];exact O4 l a λb=>h (Xf _ b)
theorem Hu:∀{l:List CS},Sep l->∀{i j:Nat} {A B:CS} {b o:Nat},l[i]?=some A->l[j]?=some B->A b o->B b o->i=j
 | [],_,i,j,A,B,b,o,a,_,_,_=>by simp at a
 |C::l,g,i,j,A,B,b,o,a,c,d,hb=>by
  obtain⟨e,f⟩:=bq.1 g;cases i with
  |zero=>
   simp at a;subst a;cases j with
   |zero=>rfl
   |succ j=>
    simp at c;exact(e B (kC c) b o d hb).elim
  |succ i=>
   simp at a;cases j with
   |zero=>
    simp at c;subst c;exact(e A (kC a) b o hb d).elim
   |succ j=>
    simp at c;rw[Hu f a c d hb]
section
variable{w0:World}{F:CS}{nt:Slots}{G0 G G':GH}{ν:Nat->Nu}{φ:Nat->CS}{objs:ad}{nx:Nat}{st ai:St}{a:Act}{w w':World}{P:Program}{T:Tab}
theorem Wry{f g:Nat->Nu}:∀{l:List Nat},(∀i∈l,g i=f i)->l.map f=l.map g:=λ{l} h=>List.map_congr_left λi a=>(h i a).symm
theorem re{ν':Nat->Nu}{bx:List (Nat×CS)}:∀(d:List PTy) (a:List Kp) (f:List Nu),(∀i∈kids a,ν' i=ν i)->KeptOk objs ν bx d a f->KeptOk objs ν' bx d a f
 | [],_,_,_,h=>h
 | .v _ _::d,a,f,c,h=>re d a f c h
 | .box t::d,a,f,c,⟨k,l,z,g,m,n,⟨q,b,r,s,u,w,x⟩,o⟩=>by
  subst m;have e:=c k.id (Xg ..);exact⟨k,l,z,g,rfl,n,⟨q,b,r,s,by rw[e];exact u,by rw[e];exact w,by rw[e];exact x⟩,re d l g (λi j=>c i (Xf _ j)) o⟩
 | .mut e::d,a,f,c,⟨id,l,g,B,m,n,y,o⟩=>by
  subst m;exact⟨id,l,g,B,rfl,by rw[c id (Xg ..)];exact n,y,re d l g (λi j=>c i (Xf _ j)) o⟩
 | .clos _ _::d,a,f,c,h=>re d a f c h
 | .kv t _::d,a,f,c,⟨p,i2,g,m,n,y,o⟩=>by
  subst m;have A:kids (kp0 p++i2)=p++kids i2:=by simp only[kids,Xw];congr 1;exact GY p
  rw[A]at c;exact⟨p,i2,g,rfl,by rw[n,Wry (λi j=>c i (Xm _ j))],y,re d i2 g (λi j=>c i (Xh _ j)) o⟩
 | .rp _::d,a,f,c,h=>re d a f c h
 | .vj _::_,_,_,_,h=>h.elim
 | .boxal t _::d,a,f,c,⟨k,l,z,g,m,n,⟨q,b,r,s,u,w,x⟩,o⟩=>by
  subst m;have e:=c k.id (Xg ..);exact⟨k,l,z,g,rfl,n,⟨q,b,r,s,by rw[e];exact u,by rw[e];exact w,by rw[e];exact x⟩,re d l g (λi j=>c i (Xf _ j)) o⟩
theorem Ui(d:Rel w0 F nt G0 G ν st a w):∀(l:List Operand) (xs:List AVal),evs st l=some xs->xs.length=l.length/\
  ∀(j:Nat) (x:AVal) (v:Value),xs[j]?=some x->(l.map a.eval)[j]?=some v->AValRel G ν st.nx x v
 | [],xs,h=>by simp[evs]at h;subst h;exact⟨rfl,λj x v b=>by simp at b⟩
 |o::l,xs,h=>by
  simp only[evs]at h;split at h
  .rename_i y ys h1 h2;injection h with h;subst h;obtain⟨e,f⟩:=Ui d l ys h2;refine⟨by simp[e],λj x v b c=>?_⟩;cases j with
   |zero=>simp at b c;subst b c;exact WU d o _ h1
   |succ j=>exact f j x v (by simpa using b) (by simpa using c)
  .simp at h
theorem Wwk{o:Oper}{c:Call}{f:Operand}{g:FuncId}{b:List Value}(p:o.op= .call c)(j:c.callee= .value f)(n:a.eval f= .func (.func g) #[] b.toArray)(q:Ea P g):
  (execOp a.eval o).run P w= .ok (.enter g (c.args.toList.map a.eval++b).toArray) w:=by
 obtain⟨r,k,l,m⟩:=q;obtain⟨i,d,h⟩:=c;simp only at j;subst j;have e:(#[]++d.map a.eval++b.toArray)=(d.toList.map a.eval++b).toArray:=by
  apply Array.ext';simp
 simp only[execOp,p,resolve,Deferred.ofValue,n,Sem.run_bind,Sem.run_pure,Result.andThen_ok,invoke,callFunc,run_program,k,l,m,jP,gH,e]
theorem WvO{b o k:Nat}{vs us:List Value}(g:Mem w b o vs)(i:Mem w' b (o+k) us)(l:k+us.length<=vs.length)(e:∀j,j<vs.length->¬(k<=j/\j<k+us.length)->w'.cell? ⟨b,o+j,none⟩=w.cell? ⟨b,o+j,none⟩):
  Mem w' b o (vs.take k++us++vs.drop (k+us.length)):=λj v a=>by
 have d:∀v',vs[j]?=some v'->¬(k<=j/\j<k+us.length)->w'.cell? ⟨b,o+j,none⟩=some v':=λv' c h=>by
  rw[e j (fe.1 c).1 h];exact g j v' c
 have f:(vs.take k).length=k:=by simp;omega
 rw[lB,hG,f]at a;split at a
 .rename_i ab;rw[mu,Wb ab]at a;exact d v a (by omega)
 .rw[hG]at a;split at a
  .have:=i (j-k) v a;rw[show o+j=o+k+(j-k) by omega];exact this
  .rw[mn,show k+us.length+(j-k-us.length)=j by omega]at a;exact d v a (by omega)
theorem MO{Γ:Ctx}(hΓ:gi P Γ)(hr:Rel w0 F nt G0 G ν st a w){o:Oper}(hd:∀d,o.dst=some d->nt.Ok d){c:Call}{f:Operand}{g:FuncId}{Y:List Value}{xs:List AVal}{T:Sig}{R:Type}{k:St->Option R}{r:R}
  (ho:o.op= .call c) (hc:c.callee= .value f) (mq:a.eval f= .func (.func g) #[] Y.toArray) (pQ:Wt Γ g=some T) (aa:xs.length=(c.args.toList.map a.eval++Y).length)
  (bh:∀(j:Nat) (x:AVal) (v:Value),xs[j]?=some x->(c.args.toList.map a.eval++Y)[j]?=some v->AValRel G ν st.nx x v)
  (h:ot T st xs (λx objs nx=>k (({env:=st.env,objs:=objs,nx:=nx}:St).put o.dst x))=some r) {K:Act->World->Prop} {Q:Exit->Act->World->Prop}
  (hK:∀ai a' w' G' ν',Rel w0 F nt G0 G' ν' ai a' w'->k ai=some r->K a' w'):o.wp P a w K Q:=by
 obtain⟨mw,kJ⟩:=hΓ g T pQ;unfold ot at h;split at h
 .rename_i A hA;split at h
  .rename_i cF;simp only[Xj]at cF;obtain⟨⟨bv,nL⟩,o0⟩:=cF;have bv:=(Gi _).1 bv;have nL:=Rs nL;obtain⟨L,bB,hk⟩:=T.law' A.d _ r h;dsimp only at hk;obtain⟨φ,z⟩:=hr.h;have iD:=z.addG_le A.lent;have hG1w:=z.addG_w A.lent;obtain⟨ns,ks,bx,M⟩:=pB z iD T.ps _ (c.args.toList.map a.eval++Y) A aa.symm bh (λid ce C=>(L3 _).mono (FromL.one ce C)) bv hA;have I:∀b o,Of ns b o->Tk φ st.objs bx A.all b o:=λb o ⟨q,hq,N⟩=>M.tk q hq b o N;have bQ:∀q∈ns,∀b l,q.fp b l->lT G w (FromL φ st.objs A.lent) b l=none/\b<w.heap.size:=λq hq b l N=>by
    obtain⟨i,J,m,s,_⟩:=M.tk q hq b l N;refine⟨?_,z.bl i b l m s⟩;rw[rH (λ⟨j,hj,B,h4⟩=>by
     have:=z.inj i j b l m B s h4;subst this;exact nL _ hj J)]
    exact z.gf i b l m s
   have pR:=mw A.d L bB _ w _ ns _ M.args M.sep bQ hG1w;unfold Oper.wp;rw[Wwk ho hc mq kJ,Oper.upon_enter];refine pR.mono λe w' ti=>?_;obtain⟨rv,O,D,E,G2,rfl,n⟩:=ti;simp only;have hG3:∃U:GH,GLe G U/\(∀b l v,U b l=some v->w'.cell? ⟨b,l,none⟩=some v)/\qi U w' T.rs L.2 rv E/\jz U w' T.ps L.1 ks O D/\
     GExt w0.heap.size F G0 U/\(∀S∈O++fps (D++E),∀b l,S b l->U b l=none)/\(∀id b l,Live st.objs id->φ id b l->¬Tk φ st.objs bx A.all b l->U b l=none):=by
    by_cases aU:A.lent= []
    .have hGG:lT G w (FromL φ st.objs A.lent)=G:=by
      rw[aU];funext b l;exact rH (λ⟨i,J,_⟩=>by simp at J)
     rw[hGG]at n;refine⟨G2,n.gx.le,n.g,n.res,n.outs,⟨λb o v hv=>n.gx.le b o v (hr.gx.le b o v hv),λb o v hv=>?_⟩,λS hS b l N=>(n.own S hS b l N).1,λid b l C u hn=>?_⟩
     .rcases n.gx.new b o v hv with m|m|m
      .exact hr.gx.new b o v m
      .exact .inr (.inl (jR z.le.size m))
      .obtain⟨i,J,s,B,_⟩:=I b o m;exact .inr (z.own i b o s B)
     .cases hv:G2 b l with
      |none=>rfl
      |some v=>
       rcases n.gx.new b l v hv with m|m|m
       .rw[z.gf id b l C u]at m;cases m
       .have:=z.bl id b l C u;omega
       .exact Wi (I b l m) hn
    .have hY:T.fresh=true:=by
      rcases Bool.or_eq_true_iff.1 o0 with m|m
      .exact m
      .exact Wi (by simpa using m) aU
     unfold Sig.fresh at hY;simp only[Xj]at hY;refine⟨G,λ_ _ _ N=>N,λb o v hv=>n.g b o v (n.gx.le b o v (iD b o v hv)),Gg _ _ _ _ hY.1 n.res,qY _ _ _ _ _ hY.2 n.outs,hr.gx,λS hS b l N=>?_,λid b l C u _=>z.gf id b l C u⟩;cases hv:G b l with
     |none=>rfl
     |some v=>
      have:=n.gx.le b l v (iD b l v hv);rw[(n.own S hS b l N).1]at this;cases this
   obtain⟨U,wD,wE,jw,tj,wF,wG,wH⟩:=hG3;obtain⟨ν2,hν2⟩:∃ν2:Nat->Nu,ν2= λi=>if i<st.nx then ν i else((nus (D++E))[i-st.nx]?).getD ⟨none,0,0,0,0⟩:=⟨_,rfl⟩;obtain⟨X,W⟩:∃X:Nat->CS,X= λi=>if i<st.nx then(λb o=>(∃(j:Nat) (S:CS),(kids A.kept)[j]?=some i/\O[j]?=some S/\S b o)\/(φ i b o/\¬Tk φ st.objs bx A.all b o))else((fps (D++E))[i-st.nx]?).getD (λ_ _=>False):=⟨_,rfl⟩;have t:nc st.nx ν ν2:=λi J=>by rw[hν2];simp[J]
   have hAt:At ν2 X st.nx (D++E):=λj pc hj=>by
    have e1:(nus (D++E))[j]?=some pc.nu:=by unfold nus;rw[ff,hj];rfl
    have e2:(fps (D++E))[j]?=some pc.fp:=by unfold fps;rw[ff,hj];rfl
    rw[hν2,W];simp only;rw[Wa (by omega),Wa (by omega),tO,e1,e2];exact⟨rfl,rfl⟩
   have cA:∀i∈kids A.kept,i<st.nx:=λi J=>z.lt i (M.live i (M.sub.subset J));have nM:(kids A.kept).Nodup:=bv.sublist M.sub;obtain⟨lr,A0,dK⟩:=q6 (ν:=ν2) (φ:=X) (bx:=bx) st.objs T.ps L.1 A.kept ks O D (kill st.objs A.moved) st.nx (st.nx+D.length+E.length) tj (re _ _ _ (λi J=>t i (cA i J)) M.kept) hAt.left nM (λq hq=>by
    have lj:q.id∈kids A.kept:=fU hq;exact⟨cA _ lj,O4 _ _ (M.dis _ lj)⟩) (by omega)
   generalize u:ek T.ps L.1 A.kept (kill st.objs A.moved) st.nx=p at*;obtain⟨oZ,A1,A2⟩:=Gf (ν:=ν2) (φ:=X) T.rs L.2 rv E p.1 (st.nx+D.length) (st.nx+D.length+E.length) jw (hAt.right rfl) (by omega);rw[lr]at hk;generalize hq:fy T.rs L.2 p.1 (st.nx+D.length)=q at*;have jx:∀id ob,Wt q.2.1 id=some ob->ob≠ .dead->
     (st.nx<=id/\id<st.nx+D.length+E.length/\VE U ν2 X w' (st.nx+D.length+E.length) id ob)\/
     (∃(j:Nat) (S:CS),(kids A.kept)[j]?=some id/\O[j]?=some S/\ED U ν2 w' st.objs bx (st.nx+D.length+E.length) id S ob)\/(Wt st.objs id=some ob/\id∉A.all):=λid ob C V=>by
    rcases A1 id ob C with⟨m,s,B⟩|m
    .exact .inl ⟨by omega,s,B⟩
    .rcases dK id ob m with⟨s,B,h4⟩|s|⟨s,B⟩
     .exact .inl ⟨s,by omega,.inl h4⟩
     .exact .inr (.inl s)
     .obtain⟨h4,h5⟩:=D2 A.moved id ob s V;exact .inr (.inr ⟨h4,λhm=>by rcases M.mvk id hm with Z|Z;exact h5 Z;exact B Z⟩)
   have ak:∀id b l,Live q.2.1 id->X id b l->
     (∃(y:Nat) (S:CS),(O++fps (D++E))[y]?=some S/\S b l/\id=(if y<O.length then((kids A.kept)[y]?).getD 0 else st.nx+(y-O.length)))\/
     (Live st.objs id/\φ id b l/\¬Tk φ st.objs bx A.all b l/\id<st.nx):=λid b l ⟨ob,C,V⟩ u=>by
    have pS:id<st.nx->Live st.objs id:=λH=>by
     rcases jx id ob C V with⟨m,_⟩|⟨j,S,m,_⟩|⟨m,_⟩
     .omega
     .exact M.live id (M.sub.subset (kC m))
     .exact⟨ob,m,V⟩
    rw[W]at u
    try simp only at u
    by_cases H:id<st.nx
    .rw[Wb H]at u;rcases u with⟨j,S,m,s,B⟩|⟨m,s⟩
     .left;have hj:j<O.length:=(fe.1 s).1;refine⟨j,S,by rw[Ii hj];exact s,B,?_⟩;rw[Wb hj,m];rfl
     .exact .inr ⟨pS H,m,s,H⟩
    .rw[Wa H]at u;left;cases hS:(fps (D++E))[id-st.nx]? with
     |none=>rw[hS]at u;exact u.elim
     |some S=>
      rw[hS]at u;refine⟨O.length+(id-st.nx),S,by rw[xQ (by omega),tO];exact hS,u,?_⟩;rw[Wa (by omega)];omega
   have aM:=n.own;have kj:∀{y:Nat} {S:CS},(O++fps (D++E))[y]?=some S->S∈O++fps (D++E):=λh=>kC h;have hH:HR w0 F U ν2 X q.2.1 (st.nx+D.length+E.length) w':={
    g:=wE
    ob:=λid ob C=>by
     by_cases V:ob= .dead
     .subst V;trivial
     .rcases jx id ob C V with⟨m,s,⟨e,xs,rfl,B⟩|⟨cs,b,us,rfl,B,h4,h5,Z,h7⟩⟩|⟨j,S,m,s,B⟩|⟨m,s⟩
      .exact B
      .exact⟨b,us,B,h4,h5,Z,h7⟩
      .have ce:id∈kids A.kept:=kC m;have H:=cA id ce;have bc:Live st.objs id:=M.live id (M.sub.subset ce);have hSφ:CS.le S (X id):=λb o N=>by
        rw[W];(try simp only);rw[Wb H];exact .inl ⟨j,S,m,s,N⟩
       rcases B with⟨ng,l,ds,b,us,g1,rfl,g2,g3,g4,g5,rfl,g6⟩|⟨e,ys,xs,g1,rfl,g2⟩
       .rw[t id H]at g3 g4 g6 hSφ;obtain⟨b',vs,e1,e2,e3,e4,e5⟩:fc G ν st.nx w id (φ id) (.box ng):=z.ob _ _ g1;rw[g3]at e1;injection e1 with e1;subst e1;have eA:us.length=ds.length:=g5.1;have pJ:vs.length=ng.length:=e4.1;have iM:∀o,(ν id).off<=o->o<(ν id).off+ng.length->¬((ν id).off+l<=o/\o<(ν id).off+l+ds.length)->φ id b o/\¬Tk φ st.objs bx A.all b o:=λo k1 k2 k3=>by
         have hφo:=e5 b o ⟨rfl,k1,k2⟩;refine⟨hφo,λ⟨i,J,k4,k5,k6⟩=>?_⟩;have:=z.inj i id b o k4 bc k5 hφo;subst this;obtain⟨_,k7,k8⟩:=k6 _ g6 rfl;exact k3 ⟨k7,k8⟩
        refine⟨b,_,by rw[t id H];exact g3,by rw[t id H,Gu g2];exact n.le.rows.row _ _ e2,?_,Gt (e4.mono wD t (by omega)) g5,?_⟩
        .rw[t id H];refine WvO e3 g4 (by omega) (λj hj hn=>?_);obtain⟨k1,k2⟩:=iM ((ν id).off+j) (by omega) (by omega) (λ⟨k3,k4⟩=>hn ⟨by omega,by omega⟩);exact n.le.cell b _ (z.bl id b _ bc k1) (λpT=>k2 (I b _ pT))
        .rw[t id H,Gu g2];intro b' o ⟨k0,k1,k2⟩;subst k0;by_cases fE:(ν id).off+l<=o/\o<(ν id).off+l+ds.length
         .exact hSφ b' o ⟨rfl,fE.1,fE.2⟩
         .rw[W];(try simp only);rw[Wb H];exact .inr (iM o k1 k2 fE)
       .exact v6 (λ_ _ _ N=>N) (Same.refl _ w') hSφ g2
      .have nJ:Live st.objs id:=⟨ob,m,V⟩;have H:=z.lt id nJ;have yY:∀b o,φ id b o->¬Tk φ st.objs bx A.all b o:=λb o u ⟨i,J,k1,k2,_⟩=>by
        have:=z.inj i id b o k1 nJ k2 u;subst this;exact s J
       refine DL wD (n.le.same (λb o pT u=>yY b o u (I b o pT)) (λb o u=>z.bl id b o nJ u)) (λb o u=>?_) t (by omega) H ob (z.ob id ob m);rw[W];(try simp only);rw[Wb H];exact .inr ⟨u,yY b o u⟩
    gf:=λid b l C u=>by
     rcases ak id b l C u with⟨y,S,m,s,_⟩|⟨m,s,B,_⟩
     .exact wG S (kj m) b l s
     .exact wH id b l m s B
    inj:=λid cz b l C bI u fq=>by
     have key:∀cz,Live st.objs cz->φ cz b l->¬Tk φ st.objs bx A.all b l->∀(y:Nat) (S:CS),(O++fps (D++E))[y]?=some S->S b l->False:=λcz g1 g2 g3 y S g4 g5=>by
      rcases(aM S (kj g4) b l g5).2.1 with g6|g6
      .exact g3 (I b l g6)
      .have:=z.bl cz b l g1 g2;omega
     rcases ak id b l C u with⟨y,S,m,s,he⟩|⟨m,s,B,h4⟩<;>rcases ak cz b l bI fq with⟨wI,S',gY,lm,fx⟩|⟨gY,lm,ey,h4'⟩
     .have:=Hu n.sep m gY s lm;subst this;rw[he,fx]
     .exact(key cz gY lm ey y S m s).elim
     .exact(key id m s B wI S' gY lm).elim
     .exact z.inj id cz b l m gY s lm
    own:=λid b l C u=>by
     rcases ak id b l C u with⟨y,S,m,s,_⟩|⟨m,s,B,_⟩
     .rcases(aM S (kj m) b l s).2.1 with h5|h5
      .obtain⟨i,J,Z,h7,_⟩:=I b l h5;exact z.own i b l Z h7
      .exact .inl (jR z.le.size h5)
     .exact z.own id b l m s
    lt:=λid ⟨ob,C,V⟩=>by
     rcases jx id ob C V with⟨_,s,_⟩|⟨j,S,m,_⟩|⟨m,s⟩
     .exact s
     .have:=cA id (kC m);omega
     .have:=z.lt id ⟨ob,m,V⟩;omega
    bl:=λid b l C u=>by
     rcases ak id b l C u with⟨y,S,m,s,_⟩|⟨m,s,B,_⟩
     .exact(aM S (kj m) b l s).2.2
     .exact Nat.lt_of_lt_of_le (z.bl id b l m s) n.le.size
    le:=z.le.trans n.le (λb l pT=>by
     obtain⟨i,J,Z,h7,_⟩:=I b l pT;exact z.own i b l Z h7)}
   have hR:=hr.on wD t (by omega) ⟨X,hH⟩ wF;have hR2:=hR.put (dst:=o.dst) hd (Wut A2);rw[oZ]at hk;exact hK _ _ _ _ _ hR2 hk
  .cases h
 .cases h
theorem WyX{Γ:Ctx}(B:gi P Γ)(m:Rel w0 F nt G0 G ν st a w){o:Oper}(u:∀d,o.dst=some d->nt.Ok d){c:Call}{f:Operand}{g:FuncId}{b:List Nat}{xs:List AVal}{E:Sig}{R:Type}{k:St->Option R}{r:R}
  (z:o.op= .call c) (t:c.callee= .value f) (T:ev st f=some (.s (.one (.clos g b)))) (V:evs st c.args.toList=some xs) (D:Wt Γ g=some E)
  (h:sG E st (xs++fS b) (λx objs nx=>k (({env:=st.env,objs:=objs,nx:=nx}:St).put o.dst x))=some r) {K:Act->World->Prop} {Q:Exit->Act->World->Prop}
  (q:∀ai H w' G' ν',Rel w0 F nt G0 G' ν' ai H w'->k ai=some r->K H w'):o.wp P a w K Q:=by
 obtain⟨⟨l,C,M,W⟩,_⟩:=WU m f _ T;obtain⟨J,L⟩:=Ui m _ _ V;have n:(xs++fS b).length=(c.args.toList.map a.eval++l).length:=by simp[J,fS,M]
 have p:∀(j:Nat) (x:AVal) (v:Value),(xs++fS b)[j]?=some x->(c.args.toList.map a.eval++l)[j]?=some v->AValRel G ν st.nx x v:=λj x v e i=>by
  rw[hG]at e i;rw[Xy,←J]at i;split at e
  .rename_i ab;rw[Wb ab]at i;exact L j x v e i
  .rename_i ab;rw[Wa ab]at i;simp only[fS,ff]at e;cases hcj:b[j-xs.length]? with
   |none=>simp[hcj]at e
   |some id=>
    simp[hcj]at e;subst e;obtain⟨N,S,O⟩:=W _ id v hcj i;exact⟨⟨N,O⟩,S⟩
 unfold sG at h;cases o0:E.fresh with
 |true=>
  rw[o0]at h;exact MO B m u z t C D n p h q
 |false=>
  rw[o0]at h;simp only[Wc]at h;split at h
  .rename_i A hA;split at h
   .exact MO B m u z t C D n p h q
   .obtain⟨X,I⟩:=m.frz A.lent;refine MO B I.rel u z t C D (by simpa using n) (λj x v e i=>?_) h q;rw[ff]at e;obtain⟨y,U,rfl⟩:=dw.1 e;exact I.val y v (p j y v U i)
  .cases h
end
section
variable{w0:World}{F:CS}{nt:Slots}{G0 G G':GH}{ν:Nat->Nu}{objs:ad}{nx:Nat}{st ai:St}{a:Act}{w w':World}{P:Program}{T:Tab}{Γ:Ctx}
theorem Done.wp{o:Oper}{ai:St}(h:Done P w0 F nt G0 o a w ai){K:Act->World->Prop}{Q:Exit->Act->World->Prop}
  (d:∀b w' G' ν',Rel w0 F nt G0 G' ν' ai b w'->K b w'):o.wp P a w K Q:=by
 obtain⟨n,v,w',G',ν',e,f,c⟩:=h;unfold Oper.wp;rw[e];rcases f with rfl|⟨rfl,rfl⟩
 .exact d _ _ _ _ c
 .exact d _ _ _ _ c
theorem Wn5{t:TypeId}{x v:AVal}{ai:St}(h:mM T st t x v=some ai):({env:=st.env,objs:=ai.objs,nx:=ai.nx}:St)=ai:=by
 unfold mM at h;split at h
 .split at h
  .split at h
   .injection h with h;subst h;rfl
   .cases h
  .cases h
 .split at h
  .split at h
   .split at h
    .injection h with h;subst h;rfl
    .cases h
   .split at h
    .split at h
     .split at h
      .injection h with h;subst h;rfl
      .cases h
     .cases h
    .cases h
  .cases h
 .cases h
theorem iy{R:Type}{c:Bool}{x:Option R}{r:R}(h:(bif c then x else none)=some r):c=true/\x=some r:=by
 cases c
 .cases h
 .exact⟨rfl,h⟩
theorem j6{R:Type}{c:Prop}[Decidable c]{x:Option R}{r:R}(h:(if c then x else none)=some r):c/\x=some r:=by
 split at h
 .exact⟨by assumption,h⟩
 .cases h
theorem Wnr{e:Ty}{b:List (Nat×AVal)}{R:Type}{k:KV R}{r:R}(h:ol st e b k=some r):
  ∃x a d m,b= [(0,x)]/\lv (sw st.objs (r9 e x) x)=some a/\aY e a (p3 st.objs (r9 e x))=some (d,m,[])/\fL m=true/\
   k (.s (.one (.own st.nx))) ((st.nx,.arr e [d])::kill (p3 st.objs (r9 e x)) m) (st.nx+1)=some r:=by
 match b with
 | [p]=>
  simp only[ol]at h;obtain⟨g,h⟩:=j6 h;split at h
  .rename_i a i;split at h
   .rename_i d m f;obtain⟨c,h⟩:=j6 h;exact⟨p.2,a,d,m,by rw[←g],i,f,c,h⟩
   .cases h
  .cases h
 | []=>cases h
 |_::_::_=>cases h
theorem Nk(g:aO P T)(j:Rel w0 F nt G0 G ν st a w){o:Oper}(i:∀d,o.dst=some d->nt.Ok d){R:Type}{k:St->Option R}{r:R}
  (h:(match cr T st o.op with|some (c,v)=>bif c then k (({env:=st.env,objs:=st.objs,nx:=st.nx}:St).put o.dst v)else none|none=>none)=some r)
  {K:Act->World->Prop} {Q:Exit->Act->World->Prop} (f:∀ai b w' G' ν',Rel w0 F nt G0 G' ν' ai b w'->k ai=some r->K b w'):o.wp P a w K Q:=by
 split at h
 .rename_i c v hp;obtain⟨rfl,h⟩:=iy h;exact(Wsv g j i hp).wp λb w' G' ν' e=>f _ _ _ _ _ e h
 .cases h
theorem NL(H:aO P T)(hΓ:gi P Γ)(z:Rel w0 F nt G0 G ν st a w){o:Oper}(D:∀d,o.dst=some d->nt.Ok d){A:List (Nat×An)}{R:Type}{k:St->Option R}{r:R}(h:rx1 T Γ A o st k=some r)
  {K:Act->World->Prop} {Q:Exit->Act->World->Prop} (C:∀ai E w' G' ν',Rel w0 F nt G0 G' ν' ai E w'->k ai=some r->K E w'):o.wp P a w K Q:=by
 unfold rx1 rxe at h;split at h
 .rename_i t ho;split at h
  .rename_i e n et hl;obtain⟨u,h⟩:=j6 h;simp only[Xj]at u;exact(WlM H z D ho hl u.1 u.2).wp λE w' G' ν' b=>C _ _ _ _ _ b h
  .rename_i O _ hl;obtain⟨u,h⟩:=j6 h;exact(Wrt H z D ho hl u).wp λE w' G' ν' b=>C _ _ _ _ _ b h
  .cases h
 .rename_i t x ho;split at h
  .rename_i O cs hl B;cases hv:ev st x with
   |none=>simp[hv]at B
   |some v=>
    simp only[hv,Xd]at B;exact(Wwf z D ho hv B).wp λE w' G' ν' b=>C _ _ _ _ _ b h
  .cases h
 .rename_i t parts ho;split at h
  .rename_i ty fs ps hl dp;obtain⟨u,h⟩:=j6 h;split at h
   .rename_i cs J;refine(Wrk H z D ho hl dp J ?_).wp λE w' G' ν' b=>C _ _ _ _ _ b h;intro f J;have:=cq.1 u f J;split at this
    .rename_i O cj;exact⟨O,cj,this⟩
    .cases this
   .cases h
  .cases h
 .rename_i t n parts ho;split at h
  .rename_i ty et ps hl dp;split at h
   .rename_i O aU;split at h
    .rename_i e _;obtain⟨u,h1⟩:=j6 h;clear h;simp only[Xj,Wg]at u;obtain⟨⟨⟨S,M⟩,I⟩,cK⟩:=u;obtain⟨x,ds,d,m,rfl,iY,J,V,h⟩:=Wnr h1;clear h1;subst S;have V:=(Gc _).1 V;obtain⟨Z,L⟩:=z.frz (r9 e x);obtain⟨Y,U⟩:=Gv z _ _ dp;have fo:∃y,parts.toList= [(0,y)]/\AValRel G ν st.nx x (a.eval y):=by
      match jq:parts.toList,Y with
      | [q],_=>
       rw[jq]at U;obtain⟨q1,q2⟩:=U 0 _ q rfl rfl;refine⟨q.2,?_,q2⟩;have:q=(0,q.2):=Prod.ext q1.symm rfl;rw[←this]
     obtain⟨y,A4,A5⟩:=fo;exact(Wm5 H L.rel D ho A4 hl aU (L.val _ _ A5) iY J V M I cK).wp λE w' G' ν' b=>C _ _ _ _ _ b h
    split at h
    .rename_i xs J;obtain⟨u,h⟩:=j6 h;simp only[Xj,Wg]at u;obtain⟨Z,L⟩:=z.frz (Hn ps);obtain⟨Y,U⟩:=Gv z _ _ dp;exact(ZY H L.rel D ho hl aU (by simpa [MJ]using Y) (λj p q I hq=>by
      simp only[MJ,ff]at I;obtain⟨y,hy,rfl⟩:=dw.1 I;exact⟨(U j y q hy hq).1,L.val _ _ (U j y q hy hq).2⟩) J u.1.1 u.1.2 u.2).wp λE w' G' ν' b=>C _ _ _ _ _ b h
    .cases h
   .cases h
  .cases h
 .rename_i t n c ho;split at h
  .rename_i ty et n' c' hl S u;split at h
   .rename_i O aU;obtain⟨k1,wz⟩:∃k,a.eval n= .int k n':=by
     cases hv:ev st n with
     |none=>simp[hv]at S
     |some v=>simp only[hv,Xd]at S;exact xc _ _ _ (WU z n _ hv) S
    obtain⟨k2,lq⟩:∃k,a.eval c= .int k c':=by
     cases hv:ev st c with
     |none=>simp[hv]at u
     |some v=>simp only[hv,Xd]at u;exact xc _ _ _ (WU z c _ hv) u
    split at h
    .obtain⟨N,h⟩:=j6 h;obtain⟨B,h⟩:=iy h;simp only[Xj,Wg]at B N;exact(ZZ H z D ho hl aU wz lq B.1.1 B.1.2 B.2 N.1 N.2).wp λE w' G' ν' b=>C _ _ _ _ _ b h
    .obtain⟨N,h⟩:=j6 h;obtain⟨B,h⟩:=iy h;simp only[Xj,Wg]at B N;exact(Wkl H z D ho hl aU wz lq B.1.1 B.1.2 B.2 N.1 N.2).wp λE w' G' ν' b=>C _ _ _ _ _ b h
   .cases h
  .cases h
 .rename_i t x y ho;split at h
  .rename_i p v I hv;split at h
   .rename_i ai hs;split at h
    .rename_i kH;have h:k (({env:=st.env,objs:=ai.objs,nx:=ai.nx}:St).put o.dst (.tup []))=some r:=h;obtain⟨Z,L⟩:=z.frz (xa st.objs p v);have cT:=Wn5 hs;simp only at cT;rw[cT,kH]at h;exact(Wr8 H L.rel ho kH (AValRel.mono L.le (λ_ _=>rfl) (Xl _) _ _ (WU z x _ I)) (L.val _ _ (WU z y _ hv)) hs).wp λE w' G' ν' b=>C _ _ _ _ _ b h
    .cases h
   .cases h
  .cases h
 .rename_i t x lo hi ho;split at h
  .rename_i id hx;split at h
   .rename_i ty et l hh hl bD rE;split at h
    .rename_i O aU;split at h
     .obtain⟨I,h⟩:=j6 h;obtain⟨ai,X,W⟩:=Wui H z D ho hx hl aU I bD rE h;exact W.wp λE w' G' ν' b=>C _ _ _ _ _ b X
     .split at h
      .rename_i h' e xs _ aV;obtain⟨⟨M,I⟩,h⟩:=j6 h;obtain⟨B,h⟩:=iy h;simp only[Xj,Wg]at B;exact(Wr0 H z D ho hx hl aU I M aV bD rE B.1 B.2).wp λE w' G' ν' b=>C _ _ _ _ _ b h
      .rename_i h' e xs i p _ aV;obtain⟨⟨M,I,ww⟩,h⟩:=j6 h;obtain⟨B,h⟩:=iy h;simp only[Xj,Wg]at B;exact(Wkb H z D ho hx hl aU I M aV ww bD rE B.1.1 B.1.2 B.2).wp λE w' G' ν' b=>C _ _ _ _ _ b h
      .cases h
    .cases h
   .cases h
  .rename_i hx;exact Nk H z D (by rw[ho];rw[ho]at h;exact h) C
 .rename_i c ho;split at h
  .rename_i s x t t2 u ha eB;split at h
   .rename_i sv xv hs hx;obtain⟨ai,X,W⟩:=Wpe H z D ho u ha eB hs hx h;exact W.wp λE w' G' ν' b=>C _ _ _ _ _ b X
   .cases h
  .rename_i x t u ha eB;split at h
   .rename_i id lo hi hx;split at h
    .rename_i ty et e xs hl aV;split at h
     .rename_i O aU;obtain⟨⟨M,I,bC⟩,h⟩:=j6 h;exact(Wq6 H z D ho u ha eB hx hl aU aV M I bC).wp λE w' G' ν' b=>C _ _ _ _ _ b h
     .cases h
    .cases h
   .cases h
  .exact Nk H z D h C
  .rename_i f args _ u;split at h
   .rename_i g caps xs J nl;split at h
    .rename_i sg pQ;exact WyX hΓ z D ho u J nl pQ h C
    .cases h
   .cases h
  .cases h
 .exact Nk H z D h C
end
section
variable{w0:World}{F:CS}{nt:Slots}{G0 G G':GH}{ν ν':Nat->Nu}{φ φ':Nat->CS}{objs objs':ad}{nx am:Nat}{st ai:St}{a:Act}{w w':World}{P:Program}{T:Tab}{Γ:Ctx}
theorem Rel.rebind(h:Rel w0 F nt G0 G ν st a w){i:Nat}{x:AVal}{v:Value}(c:a.tmps[i]?=some v)(d:AValRel G ν st.nx x v):Rel w0 F nt G0 G ν (st.put (some i) x) a w:=
 ⟨h.defers,h.ntm,h.par,λj y b=>by
  simp only[St.put]at b;rw[WW]at b;split at b
  .rename_i e;subst e;injection b with b;subst b;exact⟨v,c,d⟩
  .exact h.env j y b,h.h,h.gx⟩
theorem CellsRel.set{cs:List Cell}{vs:List Value}(h:CellsRel G ν nx cs vs){off:Nat}{c:Cell}(f:∀v,vs[off]?=some v->CellRel G ν nx c v):CellsRel G ν nx (cs.set off c) vs:=by
 refine⟨by simp[h.1],λj d v a b=>?_⟩;rw[List.getElem?_set]at a;split at a
 .rename_i e;subst e;split at a
  .rename_i ab;injection a with a;subst a;exact⟨f v b,(h.2 off cs[off] v (Xp ab) b).2⟩
  .cases a
 .exact h.2 j d v a b
theorem HRel.mk_box(h:HRel w0 F G ν objs nx w){id:Nat}{cs db:List Cell}(e:Wt objs id=some (.box cs))(d:db.length=cs.length)
  (l:∀a,CellsRel G ν nx cs a->CellsRel G ν nx db a):HRel w0 F G ν ((id,.box db)::objs) nx w:=by
 obtain⟨φ,h⟩:=h;have c:Live objs id:=⟨_,e,by simp⟩;obtain⟨b,a,f,g,i,j,k⟩:fc G ν nx w id (φ id) (.box cs):=h.ob _ _ e;exact⟨_,h.put (ν':=ν) (m:=[]) (λ_ _=>rfl) (Xl _) (h.lt id c) (WLe.refl _ w) (λb o n=>.inl ⟨id,.inl rfl,c,n⟩) (λ_=>⟨b,a,f,by rw[d];exact g,i,l _ j,by rw[d];exact k⟩)⟩
theorem HRel.adopt(h:HRel w0 F G ν objs nx w)(e:Ty):HRel w0 F G (upd ν nx ⟨none,0,0,0,e.size⟩) ((nx,.arr e [])::objs) (nx+1) w:=by
 obtain⟨φ,h⟩:=h;refine⟨_,h.put (m:=[]) (S:=λ_ _=>False) (EC ν nx _) (B7 _) (nn _) (WLe.refl _ w) (λb o a=>a.elim) (λ_=>?_)⟩;show aF _ _ _ (upd ν nx ⟨none,0,0,0,e.size⟩ nx) _ _;rw[fZ];exact⟨rfl,rfl,rfl⟩
theorem Wre(e:Ty):CellRel G (upd ν nx ⟨none,0,0,0,e.size⟩) (nx+1) (.own nx) (.slice none 0 0):=
 ⟨nn _,by rw[fZ];rfl⟩
theorem WrK(h:Rel w0 F nt G0 G ν st a w){r i:Nat}{e:Ty}{xs:List e.den}(bD:Wt st.objs r=some (.arr e xs))(hi:i<xs.length)(hg:HO st r i=some ai):
  ∃ν' b,Rel w0 F nt G0 G ν' ai a w/\st.nx<ai.nx/\(ν r).blk=some b/\(ν' st.nx)=d4 b ((ν r).off+i*(ν r).esz)/\ai.env=st.env:=by
 unfold HO at hg;rw[bD]at hg;simp only[Option.some.injEq]at hg;subst hg;obtain⟨φ,K⟩:=h.h;have P:Live st.objs r:=⟨_,bD,by simp⟩;have aM:aF w (WF G w e) e.size (ν r) xs (φ r):=K.ob _ _ bD;obtain⟨g1,g2,g3⟩:=aM;have wJ:=K.lt r P;cases hb:(ν r).blk with
 |none=>simp only[hb]at g3;rw[g3]at hi;simp at hi
 |some b=>
  simp only[hb]at g3;obtain⟨g4,g5,g6,cs,ps,g7,g8,g9,vm⟩:=g3;obtain⟨c1,c,c2,U,pc,V,k1,k2,k3,k4,k5⟩:=M8 g7 e.dflt hi;have l1:=jJ (λx c q hx=>WN e x c q hx) _ _ _ k3;rw[di,fV (by omega)]at l1;have lc:=WN _ _ _ _ k4;have lo:=iQ _ _ _ _ k4;have e1:(i+1)*e.size=i*e.size+e.size:=gz i e.size;have e2:((ν r).cap-(i+1))*e.size+(i+1)*e.size=(ν r).cap*e.size:=by rw[←lC];congr 1;omega
  have tm:=kK e (xs.getD i e.dflt) (st.nx+1);have eA:=vT e (xs.getD i e.dflt) (st.nx+1);rw[k1]at g8;have m1:Mem w b (ν r).off c1:=g8.left;have m2:Mem w b ((ν r).off+i*e.size) c:=(g8.right l1).left;have m3:Mem w b ((ν r).off+(i+1)*e.size) c2:=by
   have:=(g8.right l1).right lc;rw[eK,←e1]at this;exact this
  obtain⟨q1,q2⟩:=bq.1 g9;have iH:=vm _ (Xg ..);have oV:∀p∈U++(pc++V),CS.le p.fp (φ r):=λp k=>vm _ (Xf _ (fU (by rw[k2];exact k)));have W:∀p∈U++(pc++V),CS.disj (rng b (ν r).off ((ν r).cap*e.size)) p.fp:=λp k=>q1 _ (fU (by rw[k2];exact k));rw[k2,Xw,Xw]at q2;obtain⟨s1,s2,s3⟩:=dx.1 q2;obtain⟨s4,s5,s6⟩:=dx.1 s2;have rA:CS.le (rng b (ν r).off (i*e.size)) (rng b (ν r).off ((ν r).cap*e.size)):=λb o ⟨x0,v,z⟩=>⟨x0,by omega,by omega⟩;have rB:CS.le (rng b ((ν r).off+i*e.size) e.size) (rng b (ν r).off ((ν r).cap*e.size)):=λb o ⟨x0,v,z⟩=>⟨x0,by omega,by omega⟩;have rC:CS.le (rng b ((ν r).off+(i+1)*e.size) (((ν r).cap-(i+1))*e.size)) (rng b (ν r).off ((ν r).cap*e.size)):=λb o ⟨x0,v,z⟩=>⟨x0,by omega,by omega⟩;obtain⟨SR,S⟩:∃SR:CS,SR= λf o=>rng b (ν r).off (i*e.size) f o\/rng b ((ν r).off+(i+1)*e.size) (((ν r).cap-(i+1))*e.size) f o\/∃p∈U++V,p.fp f o:=⟨_,rfl⟩;have hSRφ:CS.le SR (φ r):=λb o g=>by
   rw[S]at g;rcases g with g|g|⟨p,k,g⟩
   .exact iH b o (rA b o g)
   .exact iH b o (rC b o g)
   .refine oV p ?_ b o g;rcases Xn.1 k with k|k
    .exact Xm _ k
    .exact Xh _ (Xh _ k)
  obtain⟨ν',T⟩:∃ν':Nat->Nu,ν'= λj=>if j<st.nx then ν j else if j=st.nx then d4 b ((ν r).off+i*e.size)else((nus pc)[j-(st.nx+1)]?).getD ⟨none,0,0,0,0⟩:=⟨_,rfl⟩;obtain⟨φ',N⟩:∃φ':Nat->CS,φ'= λj=>if j=r then SR else if j<st.nx then φ j else if j=st.nx then rng b ((ν r).off+i*e.size) e.size else((fps pc)[j-(st.nx+1)]?).getD (λ_ _=>False):=⟨_,rfl⟩;have C:nc st.nx ν ν':=λj n=>by rw[T];simp[n]
  have I:ν' st.nx=d4 b ((ν r).off+i*e.size):=by rw[T];simp
  have hφr:φ' r=SR:=by rw[N];simp
  have hφp:φ' st.nx=rng b ((ν r).off+i*e.size) e.size:=by rw[N];simp;omega
  have L:∀j,j<st.nx->j≠r->φ' j=φ j:=λj n hn=>by rw[N];simp[n,hn]
  have Z:At ν' φ' (st.nx+1) pc:=λj q n=>by
   have v:(nus pc)[j]?=some q.nu:=by unfold nus;rw[ff,n];rfl
   have z:(fps pc)[j]?=some q.fp:=by unfold fps;rw[ff,n];rfl
   rw[T,N];constructor
   .show(if st.nx+1+j<st.nx then _ else if st.nx+1+j=st.nx then _ else _)=_;rw[Wa (by omega),Wa (by omega),tO,v];rfl
   .show(if st.nx+1+j=r then _ else if st.nx+1+j<st.nx then _ else if st.nx+1+j=st.nx then _ else _)=_;rw[Wa (by omega),Wa (by omega),Wa (by omega),tO,z];rfl
  obtain⟨uc,uo⟩:=kP (ν:=ν') (φ:=φ') e (xs.getD i e.dflt) (st.nx+1) c pc k4 Z;have jx:∀d A,Wt ((r,Ob.hole e xs i st.nx)::(st.nx,Ob.box (unfold e (xs.getD i e.dflt) (st.nx+1)).1)::((unfold e (xs.getD i e.dflt) (st.nx+1)).2.1++st.objs)) d=some A->A≠ .dead->
    (d=r/\A= .hole e xs i st.nx)\/(d=st.nx/\A= .box (unfold e (xs.getD i e.dflt) (st.nx+1)).1)\/(st.nx+1<=d/\d<st.nx+1+e.owns/\BJ G ν' φ' w d A)\/(d≠r/\d<st.nx/\Wt st.objs d=some A):=λd A m Q=>by
   rw[WW]at m;split at m
   .rename_i x;injection m with m;exact .inl ⟨x.symm,m.symm⟩
   .rename_i vn;rw[WW]at m;split at m
    .rename_i x;injection m with m;exact .inr (.inl ⟨x.symm,m.symm⟩)
    .rcases WS m with m|m
     .obtain⟨v,z,B⟩:=uo d A m;exact .inr (.inr (.inl ⟨v,z,B⟩))
     .exact .inr (.inr (.inr ⟨λx=>vn x.symm,K.lt d ⟨A,m,Q⟩,m⟩))
  have gG:∀d f o,Live ((r,Ob.hole e xs i st.nx)::(st.nx,Ob.box (unfold e (xs.getD i e.dflt) (st.nx+1)).1)::((unfold e (xs.getD i e.dflt) (st.nx+1)).2.1++st.objs)) d->φ' d f o->
    (d=r/\SR f o)\/(d=st.nx/\rng b ((ν r).off+i*e.size) e.size f o)\/(∃(j:Nat) (q:Pc),d=st.nx+1+j/\pc[j]?=some q/\q.fp f o)\/(d≠r/\d<st.nx/\Live st.objs d/\φ d f o):=λd f o ⟨A,m,Q⟩ k=>by
   rcases jx d A m Q with⟨rfl,_⟩|⟨rfl,_⟩|⟨v,z,_⟩|⟨v,z,B⟩
   .rw[hφr]at k;exact .inl ⟨rfl,k⟩
   .rw[hφp]at k;exact .inr (.inl ⟨rfl,k⟩)
   .right;right;left;have ab:d-(st.nx+1)<pc.length:=by omega
    refine⟨d-(st.nx+1),pc[d-(st.nx+1)],by omega,Xp ab,?_⟩;have:=(Z (d-(st.nx+1)) _ (Xp ab)).2;rw[show st.nx+1+(d-(st.nx+1))=d by omega]at this;rw[this]at k;exact k
   .rw[L d z v]at k;exact .inr (.inr (.inr ⟨v,z,⟨A,B,Q⟩,k⟩))
  have hq:∀(j:Nat) (q:Pc),pc[j]?=some q->q∈U++(pc++V):=λj q n=>Xh _ (Xm _ (kC n));have J:∀d f o,(d=r/\SR f o)\/(d=st.nx/\rng b ((ν r).off+i*e.size) e.size f o)\/(∃(j:Nat) (q:Pc),d=st.nx+1+j/\pc[j]?=some q/\q.fp f o)->φ r f o:=λd f o g=>by
   rcases g with⟨_,g⟩|⟨_,g⟩|⟨j,q,_,n,g⟩
   .exact hSRφ f o g
   .exact iH f o (rB f o g)
   .exact oV q (hq j q n) f o g
  have hH:HR w0 F G ν' φ' ((r,Ob.hole e xs i st.nx)::(st.nx,Ob.box (unfold e (xs.getD i e.dflt) (st.nx+1)).1)::((unfold e (xs.getD i e.dflt) (st.nx+1)).2.1++st.objs)) (st.nx+1+e.owns) w:=by
   refine K.step (WLe.refl _ w) (λd A m Q=>?_) (λd ⟨A,m,Q⟩=>?_) (λd f o me k=>?_) (λd f o me k=>?_) (λd D f o m bI k fq=>?_)
   .rcases jx d A m Q with⟨rfl,rfl⟩|⟨rfl,rfl⟩|⟨v,z,e',vv,rfl,B⟩|⟨v,z,B⟩
    .refine⟨by omega,?_⟩;rw[hφr,C d wJ,I];refine⟨g1,g2,hi,b,hb,rfl,rfl,g4,g5,g6,c1,c2,U,V,k3,k5,m1,m3,?_,λs H f o g=>?_⟩
     .refine bq.2 ⟨λs H=>?_,bq.2 ⟨λs H=>?_,?_⟩⟩
      .rcases Xs.1 H with rfl|H
       .exact Wvm (by omega)
       .obtain⟨p,k,rfl⟩:=Xz.1 H;refine(W p ?_).mono rA (λ_ _ g=>g);rcases Xn.1 k with k|k
        .exact Xm _ k
        .exact Xh _ (Xh _ k)
      .obtain⟨p,k,rfl⟩:=Xz.1 H;refine(W p ?_).mono rC (λ_ _ g=>g);rcases Xn.1 k with k|k
       .exact Xm _ k
       .exact Xh _ (Xh _ k)
      .rw[Xw];exact dx.2 ⟨s1,s5,λs H t ht=>s3 s H t (Xh _ ht)⟩
     .rw[S];rcases Xs.1 H with rfl|H
      .exact .inl g
      .rcases Xs.1 H with rfl|H
       .exact .inr (.inl g)
       .obtain⟨p,k,rfl⟩:=Xz.1 H;exact .inr (.inr ⟨p,k,g⟩)
    .refine⟨b,c,by rw[I];rfl,?_,by rw[I];exact m2,uc _ (Xl _),?_⟩
     .rw[I,eA];obtain⟨row,TT,u,X⟩:=g6;exact⟨row,TT,u,by show(ν r).off+i*e.size+e.size<=row.size;omega⟩
     .rw[I,eA,hφp];exactλ_ _ g=>g
    .exact B
    .rw[L d z v];exact DL (λ_ _ _ g=>g) (Same.refl _ w) (λ_ _ g=>g) C (by omega) z A (K.ob d A B)
   .rcases jx d A m Q with⟨rfl,_⟩|⟨rfl,_⟩|⟨_,z,_⟩|⟨_,z,_⟩<;>omega
   .rcases gG d f o me k with g|g|g|⟨_,_,B,R⟩
    .exact .inl ⟨r,P,J d f o (.inl g)⟩
    .exact .inl ⟨r,P,J d f o (.inr (.inl g))⟩
    .exact .inl ⟨r,P,J d f o (.inr (.inr g))⟩
    .exact .inl ⟨d,B,R⟩
   .rcases gG d f o me k with g|g|g|⟨_,_,B,R⟩
    .exact K.bl r f o P (J d f o (.inl g))
    .exact K.bl r f o P (J d f o (.inr (.inl g)))
    .exact K.bl r f o P (J d f o (.inr (.inr g)))
    .exact K.bl d f o B R
   .have out:∀D,D≠r->Live st.objs D->φ D f o->φ r f o->False:=λD u X O y4=>u (K.inj D r f o X P O y4);have M:SR f o->∀s,(s=rng b ((ν r).off+i*e.size) e.size\/∃q∈pc,s=q.fp)->s f o->False:=λu s X O=>by
     rw[S]at u;rcases X with rfl|⟨q,pd,rfl⟩
     .rcases u with u|u|⟨p,k,u⟩
      .obtain⟨z0,z1,z2⟩:=u;obtain⟨z3,z4,z5⟩:=O;omega
      .obtain⟨z0,z1,z2⟩:=u;obtain⟨z3,z4,z5⟩:=O;omega
      .refine W p ?_ f o (rB f o O) u;rcases Xn.1 k with k|k
       .exact Xm _ k
       .exact Xh _ (Xh _ k)
     .have tn:q∈U++(pc++V):=Xh _ (Xm _ pd);rcases u with u|u|⟨p,k,u⟩
      .exact W q tn f o (rA f o u) O
      .exact W q tn f o (rC f o u) O
      .rcases Xn.1 k with k|k
       .exact s3 _ (fU k) _ (Xm _ (fU pd)) f o u O
       .exact s6 _ (fU pd) _ (fU k) f o O u
    have Y:∀(j:Nat) (q:Pc),pc[j]?=some q->rng b ((ν r).off+i*e.size) e.size f o->q.fp f o->False:=λj q n u X=>W q (hq j q n) f o (rB f o u) X;rcases gG d f o m k with g|g|g|⟨v,z,B,R⟩<;>rcases gG D f o bI fq with E|E|E|⟨wK,x2',vx,vy⟩
    .rw[g.1,E.1]
    .exact(M g.2 _ (.inl rfl) E.2).elim
    .obtain⟨j,q,_,n,y⟩:=E;exact(M g.2 _ (.inr ⟨q,kC n,rfl⟩) y).elim
    .exact(out D wK vx vy (J d f o (.inl g))).elim
    .exact(M E.2 _ (.inl rfl) g.2).elim
    .rw[g.1,E.1]
    .obtain⟨j,q,_,n,y⟩:=E;exact(Y j q n g.2 y).elim
    .exact(out D wK vx vy (J d f o (.inr (.inl g)))).elim
    .obtain⟨j,q,_,n,y⟩:=g;exact(M E.2 _ (.inr ⟨q,kC n,rfl⟩) y).elim
    .obtain⟨j,q,_,n,y⟩:=g;exact(Y j q n E.2 y).elim
    .obtain⟨j,q,ce,n,y⟩:=g;obtain⟨j',q',wL,bw,y'⟩:=E;have v:(fps pc)[j]?=some q.fp:=by unfold fps;rw[ff,n];rfl
     have z:(fps pc)[j']?=some q'.fp:=by unfold fps;rw[ff,bw];rfl
     have:=Hu (l:=fps pc) s4 v z y y';rw[ce,wL,this]
    .exact(out D wK vx vy (J d f o (.inr (.inr g)))).elim
    .exact(out d v B R (J D f o (.inl E))).elim
    .exact(out d v B R (J D f o (.inr (.inl E)))).elim
    .exact(out d v B R (J D f o (.inr (.inr E)))).elim
    .exact K.inj d D f o B vx R vy
  refine⟨ν',b,?_,?_,rfl,by rw[I,g2],rfl⟩
  .have:=h.on (λ_ _ _ g=>g) C (by omega) ⟨φ',hH⟩ h.gx;rw[tm];exact this
  .show st.nx<(unfold e (xs.getD i e.dflt) (st.nx+1)).2.2;rw[tm];omega
end
theorem ri:∀(l:List Nat) (i j:Nat),nb i l=some j->l[j]?=some i
 | [],i,j,h=>by cases h
 |k::l,i,j,h=>by
  simp only[nb]at h;split at h
  .rename_i hb;injection h with h;subst h;have:i=k:=by simpa using hb
   rw[this];rfl
  .cases hp:nb i l with
   |none=>simp[hp]at h
   |some n=>
    simp[hp]at h;subst h;exact ri l i n hp
theorem Qr{m:List Nat}:∀(l r:List Nat),EJ m l=some r->r.length=l.length/\∀(q j:Nat),r[q]?=some j->∃i,l[q]?=some i/\m[j]?=some i
 | [],r,h=>by simp[EJ]at h;subst h;exact⟨rfl,λq j a=>by simp at a⟩
 |i::l,r,h=>by
  simp only[EJ]at h;split at h
  .rename_i j r' h1 h2;injection h with h;subst h;obtain⟨b,c⟩:=Qr l r' h2;refine⟨by simp[b],λq d a=>?_⟩;cases q with
   |zero=>simp at a;subst a;exact⟨i,rfl,ri m i j h1⟩
   |succ q=>exact c q d (by simpa using a)
  .cases h
theorem Aw:∀(n:Nat) (a acc:List Nat) (objs:ad),acc.Nodup->(qr n a acc objs).Nodup
 |0,_,_,_,h=>h
 |n+1,[],acc,objs,h=>h
 |n+1,i::l,acc,objs,h=>by
  simp only[qr];split
  .exact Aw n l acc objs h
  .rename_i hi;have g:i∉acc:=λd=>hi ((kL i acc).2 d);have b:(acc++ [i]).Nodup:=by
    rw[d9];refine⟨h,by simp,λx f y c=>?_⟩;simp at c;subst c
    exactλe=>g (e▸f)
   split
   .exact Aw n _ _ objs b
   .exact Aw n _ _ objs b
   .exact Aw n _ _ objs b
   .exact Aw n _ _ objs h
theorem Pk{m:List Nat}{objs:ad}:∀(l:List Nat) (a:Nat) (j:Nat) (c:Ob),Wt (pX m objs a l) j=some c->∃i dB,a<=j/\l[j-a]?=some i/\Wt objs i=some dB/\c=EP m dB
 | [],a,j,c,h=>by cases h
 |i::l,a,j,c,h=>by
  simp only[pX]at h;have b:Wt (pX m objs (a+1) l) j=some c->∃d dB,a<=j/\(i::l)[j-a]?=some d/\Wt objs d=some dB/\c=EP m dB:=λh=>by
   obtain⟨d,dB,o,f,g,k⟩:=Pk l (a+1) j c h;refine⟨d,dB,by omega,?_,g,k⟩;rw[show j-a=(j-(a+1))+1 by omega];simpa using f
  split at h
  .rename_i dB n;rw[WW]at h;split at h
   .rename_i e;subst e;injection h with h;exact⟨i,dB,Xl _,by simp,n,h.symm⟩
   .exact b h
  .exact b h
theorem L8{env:List (Nat×AVal)}{f:AVal->AVal}:∀(l:List Nat) (i:Nat) (x:AVal),Wt ((xd env l).map λp=>(p.1,f p.2)) i=some x->∃y,Wt env i=some y/\x=f y
 | [],i,x,h=>by cases h
 |j::l,i,x,h=>by
  simp only[xd]at h;split at h
  .rename_i y a;simp only[bK]at h;rw[WW]at h;split at h
   .rename_i e;subst e;injection h with h;exact⟨y,a,h.symm⟩
   .exact L8 l i x h
  .exact L8 l i x h
section
variable{w0:World}{F:CS}{nt:Slots}{G0 G G':GH}{ν ν':Nat->Nu}{objs objs':ad}{nx am:Nat}{st ai:St}{a:Act}{w w':World}{P:Program}{T:Tab}{Γ:Ctx}
structure Ren(m:List Nat)(ν ν':Nat->Nu)(am:Nat):Prop where
 nx:∀(i j:Nat),m[j]?=some i->j<am
 nu:∀(i j:Nat),m[j]?=some i->ν' j=ν i
theorem CellRel.ren{m:List Nat}(b:Ren m ν ν' am):∀(c:Cell) (v:Value),CellRel G ν nx c v->CellRel G ν' am (mQ m c) v
 | .val t d,v,h=>h
 | .nils,v,h=>h
 | .rptr t d off,v,h=>h
 | .junk,v,h=>h
 | .own e,v,h=>by
  simp only[mQ];split
  .rename_i j a;have a:=ri _ _ _ a;exact⟨b.nx _ _ a,by rw[b.nu _ _ a];exact h.2⟩
  .trivial
 | .vw e lo hi,v,h=>by
  simp only[mQ];split
  .rename_i j a;have a:=ri _ _ _ a;exact⟨b.nx _ _ a,by rw[b.nu _ _ a];exact h.2⟩
  .trivial
 | .aptr e,v,h=>by
  simp only[mQ];split
  .rename_i j a;have a:=ri _ _ _ a;exact⟨b.nx _ _ a,by rw[b.nu _ _ a];exact h.2⟩
  .trivial
 | .ptr e off,v,h=>by
  simp only[mQ];split
  .rename_i j a;have a:=ri _ _ _ a;exact⟨b.nx _ _ a,by rw[b.nu _ _ a];exact h.2⟩
  .trivial
 | .eptr e i off,v,h=>by
  simp only[mQ];split
  .rename_i j a;have a:=ri _ _ _ a;exact⟨b.nx _ _ a,by rw[b.nu _ _ a];exact h.2⟩
  .trivial
 | .clos f caps,v,h=>by
  simp only[mQ];split
  .rename_i js a;obtain⟨l,n⟩:=Qr _ _ a;obtain⟨z,o,p,r⟩:=h;refine⟨z,o,p.trans l.symm,λq e u x y=>?_⟩;obtain⟨i,s,g⟩:=n q e x;obtain⟨A,w,k⟩:=r q i u s y;exact⟨b.nx _ _ g,w,by rw[b.nu _ _ g];exact k⟩
  .trivial
theorem CellsRel.ren{m:List Nat}(f:Ren m ν ν' am){cs:List Cell}{vs:List Value}(h:CellsRel G ν nx cs vs):CellsRel G ν' am (cs.map (mQ m)) vs:=by
 refine⟨by simp[h.1],λj c v a g=>?_⟩;simp only[ff]at a;cases hd:cs[j]? with
 |none=>simp[hd]at a
 |some d=>
  simp[hd]at a;subst a;obtain⟨b,e⟩:=h.2 j d v hd g;exact⟨b.ren f,e⟩
theorem AvRel.ren{m:List Nat}(a:Ren m ν ν' am):∀(x:AV) (v:Value),AvRel G ν nx x v->AvRel G ν' am (NT m x) v
 | .one c,v,h=>⟨h.1.ren a,h.2⟩
 | .agg cs,v,⟨e,b,d⟩=>⟨e,b,d.ren a⟩
theorem AValRel.ren{m:List Nat}(b:Ren m ν ν' am):∀(x:AVal) (v:Value),AValRel G ν nx x v->AValRel G ν' am (M0 m x) v
 | .s x,v,h=>AvRel.ren b x v h
 | .tup xs,v,⟨i,c,e,f⟩=>⟨i,c,by simp[e],λj x u a g=>by
  simp only[ff]at a;cases hd:xs[j]? with
  |none=>simp[hd]at a
  |some d=>
   simp[hd]at a;subst a;exact AvRel.ren b d u (f j d u hd g)⟩
theorem Wuz(d:List Nat)(h:Rel w0 F nt G0 G ν st a w):∃ν',Rel w0 F nt G0 G ν' (canon d st) a w:=by
 obtain⟨m,I⟩:∃m,m=qr 400 ((xd st.env d).flatMap λp=>gc p.2) [] st.objs:=⟨_,rfl⟩;have O:m.Nodup:=by rw[I];exact Aw _ _ _ _ (by simp)
 have Z:canon d st={env:=(xd st.env d).map λp=>(p.1,M0 m p.2),objs:=pX m st.objs 0 m,nx:=m.length}:=by rw[I];rfl
 obtain⟨ν',D⟩:∃ν':Nat->Nu,ν'= λj=>ν ((m[j]?).getD 0):=⟨_,rfl⟩;have r:∀(i j:Nat),m[j]?=some i->ν' j=ν i:=λi j l=>by rw[D];simp[l]
 have L:∀(j:Nat) (ob:Ob),Wt (pX m st.objs 0 m) j=some ob->∃i dB,m[j]?=some i/\Wt st.objs i=some dB/\ob=EP m dB:=λj ob A=>by
  obtain⟨i,dB,_,f,z,C⟩:=Pk _ _ _ _ A;exact⟨i,dB,by simpa using f,z,C⟩
 have M:Ren m ν ν' m.length:={
  nx:=λi j l=>(fe.1 l).1
  nu:=r}
 have u:∀j,Live (pX m st.objs 0 m) j->∃i,m[j]?=some i/\Live st.objs i:=λj ⟨ob,A,W⟩=>by
  obtain⟨i,dB,c,f,z⟩:=L j ob A;refine⟨i,c,dB,f,λQ=>W ?_⟩;rw[z,Q];rfl
 rw[Z];refine⟨ν',h.defers,h.ntm,h.par,λi x X=>?_,?_,h.gx⟩
 .obtain⟨y,c,rfl⟩:=L8 _ _ _ X;obtain⟨v,f,z⟩:=h.env i y c;exact⟨v,f,AValRel.ren M y v z⟩
 .obtain⟨φ,t⟩:=h.h;refine⟨λj=>φ ((m[j]?).getD 0),?_⟩;have s:∀(i j:Nat),m[j]?=some i->φ ((m[j]?).getD 0)=φ i:=λi j l=>by simp[l]
  exact{
   g:=t.g
   ob:=λj ob A=>by
    obtain⟨i,dB,c,f,rfl⟩:=L j ob A;have:=t.ob i dB f;cases dB with
    |dead=>trivial
    |arr e xs=>
     show aF w (WF G w e) e.size (ν' j) xs (φ ((m[j]?).getD 0));rw[r i j c,s i j c];exact this
    |hole e xs k p=>
     simp only[EP];split
     .rename_i q B;have B:=ri _ _ _ B;obtain⟨g1,R⟩:=this;show q<m.length/\mW w (WF G w e) e.size (ν' j) (ν' q) xs k (φ ((m[j]?).getD 0));rw[r i j c,s i j c,r p q B];exact⟨(fe.1 B).1,R⟩
     .trivial
    |box cs=>
     obtain⟨b,vs,C,S,T,U,V⟩:=this;refine⟨b,vs,by rw[r i j c];exact C,?_,by rw[r i j c];exact T,U.ren M,?_⟩
     .rw[r i j c,Xy];exact S
     .rw[r i j c,s i j c,Xy];exact V
   gf:=λj b o l n=>by
    obtain⟨i,c,f⟩:=u j l;rw[s i j c]at n;exact t.gf i b o f n
   inj:=λj K b o l P n E=>by
    obtain⟨i,c,f⟩:=u j l;obtain⟨J,H,Y⟩:=u K P;rw[s i j c]at n;rw[s J K H]at E;have:=t.inj i J b o f Y n E;subst this;have N:=(fe.1 c).1;exact(List.getElem?_inj N O).1 (c.trans H.symm)
   own:=λj b o l n=>by
    obtain⟨i,c,f⟩:=u j l;rw[s i j c]at n;exact t.own i b o f n
   lt:=λj l=>by
    obtain⟨i,c,f⟩:=u j l;exact(fe.1 c).1
   bl:=λj b o l n=>by
    obtain⟨i,c,f⟩:=u j l;rw[s i j c]at n;exact t.bl i b o f n
   le:=t.le}
theorem RP{g:Ghost}(h:Rel w0 F nt G0 G ν st a w)(c:BK g st=some (true,ai)):∃G' ν',Rel w0 F nt G0 G' ν' ai a w:=by
 cases g with
 |canon slots=>
  simp only[BK]at c;injection c with c;injection c with _ c;subst c;obtain⟨ν',u⟩:=Wuz slots h;exact⟨G,ν',u⟩
 |adoptC slot off e=>
  simp only[BK]at c;split at c
  .rename_i id hs;split at c
   .rename_i cs f;split at c
    .rename_i hc;injection c with c;injection c with _ c;subst c;have p:st.nx≠id:=λe=>by
      obtain⟨φ,B⟩:=h.h;have:=B.lt id ⟨_,f,by simp⟩;omega
     have l:=h.h.adopt e;have D:Wt ((st.nx,Ob.arr e [])::st.objs) id=some (.box cs):=by rw[WW,Wa p];exact f
     have j:=l.mk_box D (db:=cs.set off (.own st.nx)) (by simp) (λI o=>o.set λv m=>by
      have:v= .slice none 0 0:=(o.2 off _ v hc m).1;subst this;exact Wre e)
     exact⟨G,_,h.on (λ_ _ _ z=>z) (EC ν st.nx _) (B7 _) j h.gx⟩
    .injection c with c;injection c with _ c;subst c;exact⟨G,ν,h⟩
    .cases c
   .cases c
  .cases c
 |nest d e=>injection c with c;injection c with _ c;subst c;exact⟨G,ν,h⟩
 |view d=>injection c with c;injection c with _ c;subst c;exact⟨G,ν,h⟩
 |opn d=>injection c with c;injection c with _ c;subst c;exact⟨G,ν,h⟩
 |unfE slot=>
  simp only[BK]at c;split at c
  .rename_i r i hs;obtain⟨s,k,c⟩:=dw.1 c;injection c with _ c;subst c;obtain⟨v,m,A⟩:=h.env _ _ hs;have C:∃(e:Ty) (xs:List e.den),Wt st.objs r=some (.arr e xs):=by
    unfold HO at k;split at k
    .rename_i e xs f;exact⟨e,xs,f⟩
    .cases k
   obtain⟨e,xs,f⟩:=C;obtain⟨⟨_,t,b,y,rfl⟩,_⟩:=A;obtain⟨S,q⟩:=h.h.obj f;obtain⟨ν',E,x,l,j,n,H⟩:=WrK h f (by rw[q.1];exact t) k;rw[y]at j;injection j with j;subst j;refine⟨G,ν',x.rebind m ⟨⟨l,b,by rw[n];rfl,?_⟩,rfl⟩⟩;rw[n];rfl
  .cases c
theorem DX:∀(l:List Ghost) (st ai:St) (G:GH) (ν:Nat->Nu),Rel w0 F nt G0 G ν st a w->lL l st=some (true,ai)->∃G' ν',Rel w0 F nt G0 G' ν' ai a w
 | [],st,ai,G,ν,h,b=>by injection b with b;injection b with _ b;subst b;exact⟨G,ν,h⟩
 |g::l,st,ai,G,ν,h,b=>by
  simp only[lL]at b;split at b
  .rename_i c s A6;split at b
   .rename_i c' s' hl;simp only[Option.some.injEq,Prod.mk.injEq,Xj]at b;obtain⟨⟨rfl,rfl⟩,rfl⟩:=b;obtain⟨d,f,e⟩:=RP h A6;exact DX l s s' d f e hl
   .cases b
  .cases b
end
section
variable{T:Tab}{Γ:Ctx}{env A7:List (Nat×AVal)}{objs objs':ad}{nx am:Nat}
theorem FU{st ao:St}:∀(l:List (Nat×Operand)),(∀p∈l,ev ao p.2=ev st p.2)->lK ao l=lK st l
 | [],_=>rfl
 |(i,x)::l,h=>by
  have a:ev ao x=ev st x:=h (i,x) (Xg ..);simp only[lK,a,FU l λp b=>h p (Xf _ b)]
theorem Rb{st ao:St}:∀(l:List Operand),(∀x∈l,ev ao x=ev st x)->evs ao l=evs st l
 | [],_=>rfl
 |x::l,h=>by simp only[evs,h x (Xg ..),Rb l λp a=>h p (Xf _ a)]
theorem PL{st ao:St}:∀(l:List Operand),(∀x∈l,ev ao x=ev st x)->qf ao l=qf st l
 | [],_=>rfl
 |x::l,h=>by simp only[qf,h x (Xg ..),PL l λp a=>h p (Xf _ a)]
theorem Qq{st ao:St}(x:Option Operand)(h:∀y∈x.toList,ev ao y=ev st y):gR ao x=gR st x:=by
 cases x with
 |none=>rfl
 |some y=>simp only[gR,h y (by simp)]
def lR(st ao:St)(v:AVal):Prop:=∀a∈gc v,Wt ao.objs a=Wt st.objs a
theorem WpP{st ao:St}{t:TypeId}{v:AVal}(h:lR st ao v):rR T ao t v=rR T st t v:=by
 unfold rR;cases v with
 |tup xs=>rfl
 |s x=>
  cases x with
  |agg cs=>rfl
  |one c=>
   cases c with
   |ptr id off=>have:=h id (by simp[gc,iW,hU]);simp only[this]
   |eptr id i off=>have:=h id (by simp[gc,iW,hU]);simp only[this]
   |_=>rfl
theorem WoG{st ao:St}{t:TypeId}{v:AVal}(h:lR st ao v):xe T ao t v=xe T st t v:=by
 unfold xe;cases v with
 |tup xs=>rfl
 |s x=>
  cases x with
  |agg cs=>rfl
  |one c=>
   cases c with
   |aptr id=>have:=h id (by simp[gc,iW,hU]);simp only[this]
   |_=>rfl
theorem Rk{st:St}{t:TypeId}{b:Nat}:oD T st t (.s (.one (.own b)))=match Wt T t with
  |some ⟨_,false,.slice _⟩=>obL (Wt st.objs b)
  |_=>none:=by
 unfold oD;generalize Wt T t=q;rcases q with _|⟨c,a,shape⟩
 .rfl
 .cases c<;>cases a<;>cases shape<;>rfl
theorem WoV{st ao:St}{t:TypeId}{v:AVal}(h:∀b,v≠ .s (.one (.own b))):oD T ao t v=oD T st t v:=by
 unfold oD;generalize Wt T t=q;rcases q with _|⟨a,agg,shape⟩
 .cases v<;>rfl
 .cases v with
  |tup xs=>cases a<;>cases agg<;>cases shape<;>rfl
  |s x=>
   cases x with
   |agg cs=>cases a<;>cases agg<;>cases shape<;>rfl
   |one c=>
    cases c with
    |own b=>exact Wi rfl (h b)
    |val t' d=>cases a<;>cases agg<;>cases shape<;>cases t'<;>rfl
    |_=>cases a<;>cases agg<;>cases shape<;>rfl
theorem UP(v:AVal):(∃a,v= .s (.one (.own a)))\/∀a,v≠ .s (.one (.own a)):=by
 rcases v with x|xs
 .rcases x with c|cs
  .cases c with
   |own a=>exact .inl ⟨a,rfl⟩
   |_=>exact .inr λa h=>by injection h with h;injection h with h;cases h
  .exact .inr λa h=>by injection h with h;cases h
 .exact .inr λa h=>by cases h
theorem Wrr{st ao:St}{t:TypeId}{v:AVal}(h:lR st ao v):oD T ao t v=oD T st t v:=by
 rcases UP v with⟨id,rfl⟩|hv
 .rw[Rk,Rk,h id (by simp[gc,iW,hU])]
 .exact WoV hv
theorem ZU{st ao:St}{t:TypeId}{v:AVal}{f:Nat}(h:lR st ao v):Aq T ao t v f=Aq T st t v f:=by
 unfold Aq;generalize Eb T t f=q;rcases q with _|⟨a,b⟩
 .cases v<;>rfl
 .cases v with
  |tup xs=>rfl
  |s x=>
   cases x with
   |agg cs=>rfl
   |one c=>
    cases c with
    |ptr id o=>
     have:=h id (by simp[gc,iW,hU]);show(λq:Option Ob=>match q with|some (.box _)=>some (true,AVal.s (.one (.ptr id (o+a))))|_=>none) (Wt ao.objs id)=(λq:Option Ob=>match q with|some (.box _)=>some (true,AVal.s (.one (.ptr id (o+a))))|_=>none) (Wt st.objs id);rw[this]
    |eptr id i o=>
     have:=h id (by simp[gc,iW,hU]);show(λq:Option Ob=>match q with|some (.arr _ _)=>some (true,AVal.s (.one (.eptr id i (o+a))))|_=>none) (Wt ao.objs id)=(λq:Option Ob=>match q with|some (.arr _ _)=>some (true,AVal.s (.one (.eptr id i (o+a))))|_=>none) (Wt st.objs id);rw[this]
    |_=>rfl
theorem ZT{st ao:St}{t:TypeId}{v i:AVal}(h:lR st ao v):Ao T ao t v i=Ao T st t v i:=by
 unfold Ao;generalize Wt T t=q;generalize asI i=z;rcases q with _|⟨b,agg,shape⟩
 .rfl
 rcases z with _|n
 .cases shape<;>rfl
 cases shape with
 |slice et=>
  show(match Wt T et with|some te=>_|none=>_)=(match Wt T et with|some te=>_|none=>_);generalize Wt T et=q;rcases q with _|te
  .rfl
  .show(if te.plain=true then _ else _)=(if te.plain=true then _ else _);by_cases a:te.plain=true
   .rw[Wb a,Wb a];cases v with
    |tup xs=>rfl
    |s x=>
     cases x with
     |agg cs=>rfl
     |one c=>
      cases c with
      |own id=>
       have:=h id (by simp[gc,iW,hU]);show obI te n id (Wt ao.objs id)=obI te n id (Wt st.objs id);rw[this]
      |vw id lo hi=>
       have:=h id (by simp[gc,iW,hU]);show EV te n id lo hi (Wt ao.objs id)=EV te n id lo hi (Wt st.objs id);rw[this]
      |val t' d=>cases t'<;>rfl
      |_=>rfl
   .rw[Wa a,Wa a]
 |arr k et=>
  show(match Wt T et with|some te=>_|none=>_)=(match Wt T et with|some te=>_|none=>_);generalize Wt T et=q;rcases q with _|te
  .rfl
  .show(if te.plain=true then _ else _)=(if te.plain=true then _ else _);by_cases a:te.plain=true
   .rw[Wb a,Wb a];cases v with
    |tup xs=>rfl
    |s x=>
     cases x with
     |agg cs=>rfl
     |one c=>
      cases c with
      |aptr id=>
       have:=h id (by simp[gc,iW,hU]);show EZ te n k id (Wt ao.objs id)=EZ te n k id (Wt st.objs id);rw[this]
      |_=>rfl
   .rw[Wa a,Wa a]
 |_=>rfl
theorem Wra{st ao:St}{v:AVal}(h:lR st ao v):HT ao v=HT st v:=by
 rcases UP v with⟨id,rfl⟩|hv
 .exact h id (by simp[gc,iW,hU])
 .unfold HT;split
  .rename_i id;exact Wi rfl (hv id)
  .rfl
theorem WoW{st ao:St}{s d:TypeId}{v:AVal}(h:lR st ao v):Bz T ao s d v=Bz T st s d v:=by
 unfold Bz;rw[Wra h]
theorem Wr5{st ao:St}{v:AVal}(h:lR st ao v):BN ao v=BN st v:=by
 unfold BN;cases v with
 |tup xs=>rfl
 |s x=>
  cases x with
  |agg cs=>rfl
  |one c=>
   cases c with
   |ptr id off=>have:=h id (by simp[gc,iW,hU]);simp only[this]
   |eptr id i off=>have:=h id (by simp[gc,iW,hU]);simp only[this]
   |aptr id=>have:=h id (by simp[gc,iW,hU]);simp only[this]
   |_=>rfl
theorem WrN{st ao:St}{a:BinOp}{t:TypeId}{v z:AVal}(h:lR st ao v):BO T ao a t v z=BO T st a t v z:=by
 unfold BO;split
 .rename_i id;rw[h id (by simp[gc,iW,hU])]
 .rfl
theorem As{α β:Type}{x:Option α}{f g:α->Option β}(h:∀v,x=some v->f v=g v):x.bind f=x.bind g:=by
 cases x with
 |none=>rfl
 |some v=>exact h v rfl
theorem Pp{st ao:St}(op:Op)(o:∀t x l h m,op≠ .slice t x l h m)(e:∀x∈aJ op,ev ao x=ev st x)(j:N2 op=true->∀x∈aJ op,∀v,ev st x=some v->lR st ao v):cr T ao op=cr T st op:=by
 cases op with
 |move x=>simp only[cr,e x (by simp[aJ])]
 |assign x=>simp only[cr,e x (by simp[aJ])]
 |pick c a b=>simp only[cr,e c (by simp[aJ]),e a (by simp[aJ]),e b (by simp[aJ])]
 |load t a=>
  simp only[cr,e a (by simp[aJ])];exact As λv g=>by rw[WpP (j rfl a (by simp[aJ]) v g),WoG (j rfl a (by simp[aJ]) v g)]
 |nilCheck x=>
  simp only[cr,e x (by simp[aJ])];exact As λv g=>Wr5 (j rfl x (by simp[aJ]) v g)
 |binOp op t x y z=>
  simp only[cr,e x (by simp[aJ]),e y (by simp[aJ])];split
  .rename_i a b h1 h2;rw[WrN (j rfl x (by simp[aJ]) _ h1)]
  .rfl
 |unOp op t x=>simp only[cr,e x (by simp[aJ])]
 |convert s d x=>
  simp only[cr,e x (by simp[aJ])];exact As λv g=>WoW (j rfl x (by simp[aJ]) v g)
 |slice t x l h m=>exact Wi rfl (o t x l h m)
 |fieldAddr s x f=>
  simp only[cr,e x (by simp[aJ])];exact As λv g=>ZU (j rfl x (by simp[aJ]) v g)
 |field t x f=>simp only[cr,e x (by simp[aJ])]
 |indexAddr t x i=>
  simp only[cr,e x (by simp[aJ]),e i (by simp[aJ])];split
  .rename_i a b h1 h2;exact ZT (j rfl x (by simp[aJ]) _ h1)
  .rfl
 |index t x i=>simp only[cr,e x (by simp[aJ]),e i (by simp[aJ])]
 |extract t q=>simp only[cr,e t (by simp[aJ])]
 |makeFunc f first captured=>
  cases f with
  |func f=>simp only[cr,PL (st:=st) (ao:=ao) captured.toList λx n=>e x (by simp[aJ];right;simpa using n)]
  |_=>rfl
 |call c=>
  have k:∀x∈c.args.toList,ev ao x=ev st x:=λx n=>e x (Xh _ n);have p:∀x∈c.args.toList,∀v,ev st x=some v->lR st ao v:=λx n=>j rfl x (Xh _ n);simp only[cr];split
  .rename_i x t _ ha _;rw[k x (by rw[ha];simp)];exact As λv g=>Wrr (p x (by rw[ha];simp) v g)
  .rename_i x y _ _ _ ha _;rw[k x (by rw[ha];simp),k y (by rw[ha];simp)]
  .rename_i x y _ _ _ ha _;rw[k x (by rw[ha];simp),k y (by rw[ha];simp)]
  .rfl
 |_=>rfl
end
abbrev Out:=AVal×ad×Nat
def fd(x:AVal)(objs:ad)(nx:Nat):Option Out:=some (x,objs,nx)
section
variable{T:Tab}{Γ:Ctx}{A:List (Nat×An)}
theorem jK{α β:Type}{c:Prop}[Decidable c]{x:Option α}{f:α->Option β}:(if c then x else none).bind f=if c then x.bind f else none:=by split<;>rfl
theorem og{α β:Type}{c:Bool}{x:Option α}{f:α->Option β}:(bif c then x else none).bind f=bif c then x.bind f else none:=by cases c<;>rfl
theorem Lt{R:Type}(a:Sig)(st:St)(xs:List AVal)(k:KV R):ot a st xs k=(ot a st xs fd).bind λp=>k p.1 p.2.1 p.2.2:=by
 unfold ot;split
 .split
  .rw[a.law,a.law,Option.bind_assoc];rfl
  .rfl
 .rfl
theorem WrL{R:Type}(a:Sig)(st:St)(xs:List AVal)(k:KV R):sG a st xs k=(sG a st xs fd).bind λp=>k p.1 p.2.1 p.2.2:=by
 unfold sG;cases a.fresh with
 |true=>exact Lt _ _ _ _
 |false=>
  simp only[Wc];split
  .split
   .exact Lt _ _ _ _
   .exact Lt _ _ _ _
  .rfl
theorem WnK{R:Type}(st:St)(a:Ty)(s x:AVal)(k:KV R):rQ st a s x k=(rQ st a s x fd).bind λp=>k p.1 p.2.1 p.2.2:=by
 unfold rQ;split
 .split
  .split
   .split
    .rw[og];rfl
    .rfl
   .rfl
  .rfl
 .split
  .split
   .split
    .rw[jK,og];rfl
    .rfl
   .rfl
  .rfl
 .rfl
theorem Wn2{R:Type}(st:St)(e:Ty)(a:List (Nat×AVal))(k:KV R):ol st e a k=(ol st e a fd).bind λp=>k p.1 p.2.1 p.2.2:=by
 unfold ol;split
 .rw[jK];split
  .split
   .split
    .rw[jK];rfl
    .rfl
   .rfl
  .rfl
 .rfl
theorem Wpi{R:Type}(st:St)(b:Ty)(a:Nat)(l h:Option Int)(k:KV R):oC st b a l h k=(oC st b a l h fd).bind λp=>k p.1 p.2.1 p.2.2:=by
 unfold oC;split
 .rw[jK,og];rfl
 .rfl
theorem WlX{R:Type}(st:St)(t a:TypeId)(s x:AVal)(k:KV R):wN T st t a s x k=(wN T st t a s x fd).bind λp=>k p.1 p.2.1 p.2.2:=by
 unfold wN;split
 .split
  .split
   .cases H1 st s x with
    |false=>exact WnK _ _ _ _ _
    |true=>
    simp only[Xr,Wc];split
    .rw[og];rfl
    .split
     .split
      .rw[og];rfl
      .rfl
     .rfl
    .split
     .split
      .rw[og];rfl
      .rfl
     .rfl
    .rfl
   .rfl
  .rfl
 .rfl
theorem N3{R:Type}(p:Option (Bool×AVal))(objs:ad)(nx:Nat)(k:KV R):(match p with|some (c,v)=>bif c then k v objs nx else none|none=>none)=(match p with|some (c,v)=>bif c then fd v objs nx else none|none=>none).bind λp=>k p.1 p.2.1 p.2.2:=by
 rcases p with _|⟨c,v⟩
 .rfl
 .cases c<;>rfl
theorem D4{R:Type}(o:Oper)(st:St)(k:KV R):rxe T Γ A o st k=(rxe T Γ A o st fd).bind λp=>k p.1 p.2.1 p.2.2:=by
 unfold rxe;split
 .split
  .rw[jK];rfl
  .rw[jK];rfl
  .rfl
 .split<;>rfl
 .split
  .split
   .split<;>rfl
   .rfl
  .rfl
 .split
  .split
   .split
    .rw[jK];split
     .exact Wn2 _ _ _ _
     .rfl
    .split
     .rw[jK];rfl
     .rfl
   .rfl
  .rfl
 .split
  .split
   .split
    .rw[jK,og];rfl
    .rw[jK,og];rfl
   .rfl
  .rfl
 .split
  .split
   .split<;>rfl
   .rfl
  .rfl
 .split
  .split
   .split
    .split
     .rw[jK];split
      .exact Wpi _ _ _ _ _ _
      .rfl
     .split
      .rw[jK,og];rfl
      .rw[jK,og];rfl
      .rfl
    .rfl
   .rfl
  .exact N3 _ _ _ _
 .split
  .split
   .exact WlX _ _ _ _ _ _
   .rfl
  .split
   .split
    .split
     .rw[jK];rfl
     .rfl
    .rfl
   .rfl
  .exact N3 _ _ _ _
  .split
   .split
    .exact WrL _ _ _ _
    .rfl
   .rfl
  .rfl
 .exact N3 _ _ _ _
end
section
variable{T:Tab}{Γ:Ctx}{A:List (Nat×An)}
theorem WpH{st:St}{env:List (Nat×AVal)}{t:TypeId}{x v:AVal}:mM T {env:=env,objs:=st.objs,nx:=st.nx} t x v=(mM T st t x v).map λs=>{env:=env,objs:=s.objs,nx:=s.nx}:=by
 unfold mM;generalize Wt T t=q;generalize lv v=z;rcases q with _|te
 .rfl
 rcases z with _|ds
 .rcases x with(c|cs)|xs
  .cases c<;>rfl
  .rfl
  .rfl
 rcases x with(c|cs)|xs
 .cases c with
  |ptr id off=>
   show(match Wt st.objs id with|some (.box cs)=>_|_=>_)=Fj _ (match Wt st.objs id with|some (.box cs)=>_|_=>_);generalize Wt st.objs id=a;rcases a with _|a
   .rfl
   cases a with
   |box cs=>
    show(if _ then _ else _)=Fj _ (if _ then _ else _);split<;>rfl
   |arr e xs=>rfl
   |hole e xs i p=>rfl
   |dead=>rfl
  |eptr id i off=>
   show(match Wt st.objs id with|some (.arr e xs)=>_|_=>_)=Fj _ (match Wt st.objs id with|some (.arr e xs)=>_|_=>_);generalize Wt st.objs id=a;rcases a with _|a
   .rfl
   cases a with
   |box cs=>rfl
   |hole e xs i p=>rfl
   |dead=>rfl
   |arr e xs=>
    show(if _ then _ else _)=Fj _ (if _ then _ else _);by_cases f:(decide (te.ty.size=ds.length)&&te.plain&&decide (off+ds.length<=e.size)&&e.data)=true
    .rw[Wb f,Wb f];generalize aY e (lO (split e (Xc xs i e.dflt)) off ds) st.objs=r;rcases r with _|⟨d,m,l⟩
     .rfl
     .cases m<;>cases l<;>rfl
    .rw[Wa f,Wa f];by_cases b:(decide (te.ty.size=ds.length)&&te.plain&&decide (off=0)&&decide (ds.length=e.size))=true
     .rw[Wb b,Wb b];generalize aY e ds st.objs=r;rcases r with _|⟨d,m,l⟩
      .rfl
      .cases l with
       |nil=>
        show(if _ then _ else _)=Fj _ (if _ then _ else _);split<;>rfl
       |cons _ _=>rfl
     .rw[Wa b,Wa b];rfl
  |_=>rfl
 .rfl
 .rfl
theorem Wub{R:Type}(o:Oper){st:St}{env:List (Nat×AVal)}(k:KV R)(g:∀x∈aJ o.op,ev {env:=env,objs:=st.objs,nx:=st.nx} x=ev st x):
  rxe T Γ A o {env:=env,objs:=st.objs,nx:=st.nx} k=rxe T Γ A o st k:=by
 have j:(∀t x l h m,o.op≠ .slice t x l h m)->cr T {env:=env,objs:=st.objs,nx:=st.nx} o.op=cr T st o.op:=λN=>Pp o.op N g (λ_ _ _ _ _ _ _=>rfl);obtain⟨L,D,J,O,w,guard⟩:=o;simp only at g j;cases D with
 |alloc t=>rfl
 |box t x=>simp only[rxe,g x (by simp[aJ])]
 |build t parts=>simp only[rxe,FU (st:=st) parts.toList λp q=>g p.2 (by simp only[aJ];exact Xz.2 ⟨p,q,rfl⟩)]
 |buildSlice t n parts=>
  have B:∀e G,ol {env:=env,objs:=st.objs,nx:=st.nx} e G k=ol st e G k:=λ_ _=>rfl;simp only[rxe,B,FU (st:=st) parts.toList λp q=>g p.2 (by simp only[aJ];exact Xz.2 ⟨p,q,rfl⟩)]
 |makeSlice t n c=>simp only[rxe,g n (by simp[aJ]),g c (by simp[aJ])]
 |store t a x=>
  simp only[rxe,g a (by simp[aJ]),g x (by simp[aJ])];split
  .rename_i p v _ _;have e:=WpH (T:=T) (st:={env:=st.env,objs:=p3 st.objs (xa st.objs p v),nx:=st.nx}) (env:=env) (t:=t) (x:=p) (v:=sw st.objs (xa st.objs p v) v);simp only at e;rw[e];cases mM T {env:=st.env,objs:=p3 st.objs (xa st.objs p v),nx:=st.nx} t p (sw st.objs (xa st.objs p v) v)<;>rfl
  .rfl
 |slice t x lo hi m=>
  have u:=g x (by simp[aJ]);have E:=Qq (st:=st) (ao:={env:=env,objs:=st.objs,nx:=st.nx}) lo λy C=>g y (by simp only[aJ];exact Xf _ (Xm _ C));have H:=Qq (st:=st) (ao:={env:=env,objs:=st.objs,nx:=st.nx}) hi λy C=>g y (by simp only[aJ];exact Xf _ (Xh _ (Xm _ C)));cases m with
  |none=>
   have q:cr T {env:=env,objs:=st.objs,nx:=st.nx} (.slice t x lo hi none)=cr T st (.slice t x lo hi none):=by
    simp only[cr,u];refine As λv _=>?_;simp only[Hk,E,H]
   have B:∀I F l h,oC {env:=env,objs:=st.objs,nx:=st.nx} I F l h k=oC st I F l h k:=λ_ _ _ _=>rfl;simp only[rxe,u,E,H,q,B]
  |some y=>rfl
 |call c=>
  have K:=Rb (st:=st) (ao:={env:=env,objs:=st.objs,nx:=st.nx}) c.args.toList λx u=>g x (by simp only[aJ];exact Xh _ u);have q:=j (λ_ _ _ _ _ h=>by cases h);simp only[rxe];split
  .rename_i s x t t2 hc ha eB;have r:ev {env:=env,objs:=st.objs,nx:=st.nx} s=ev st s:=g s (by simp only[aJ];rw[ha];exact Xh _ (by simp));have M:ev {env:=env,objs:=st.objs,nx:=st.nx} x=ev st x:=g x (by simp only[aJ];rw[ha];exact Xh _ (by simp));rw[r,M];rfl
  .rename_i x t hc ha eB;have r:ev {env:=env,objs:=st.objs,nx:=st.nx} x=ev st x:=g x (by simp only[aJ];rw[ha];exact Xh _ (by simp));rw[r]
  .rw[q]
  .rename_i f hc;have r:ev {env:=env,objs:=st.objs,nx:=st.nx} f=ev st f:=g f (by simp only[aJ];rw[hc];exact Xm _ (by simp));rw[r,K];rfl
  .rfl
 |move x=>simp only[rxe,j (λ_ _ _ _ _ h=>by cases h)]
 |assign x=>simp only[rxe,j (λ_ _ _ _ _ h=>by cases h)]
 |pick c a b=>simp only[rxe,j (λ_ _ _ _ _ h=>by cases h)]
 |load t a=>simp only[rxe,j (λ_ _ _ _ _ h=>by cases h)]
 |nilCheck x=>simp only[rxe,j (λ_ _ _ _ _ h=>by cases h)]
 |binOp D t x y z=>simp only[rxe,j (λ_ _ _ _ _ h=>by cases h)]
 |unOp D t x=>simp only[rxe,j (λ_ _ _ _ _ h=>by cases h)]
 |convert s d x=>simp only[rxe,j (λ_ _ _ _ _ h=>by cases h)]
 |fieldAddr s x f=>simp only[rxe,j (λ_ _ _ _ _ h=>by cases h)]
 |field t x f=>simp only[rxe,j (λ_ _ _ _ _ h=>by cases h)]
 |indexAddr t x i=>simp only[rxe,j (λ_ _ _ _ _ h=>by cases h)]
 |index t x i=>simp only[rxe,j (λ_ _ _ _ _ h=>by cases h)]
 |extract t P=>simp only[rxe,j (λ_ _ _ _ _ h=>by cases h)]
 |makeFunc f first captured=>simp only[rxe,j (λ_ _ _ _ _ h=>by cases h)]
 |_=>rfl
def tL(T:Tab)(o:Oper)(st:St):Option AVal:=match o.op with
 | .build t parts=>match Wt T t,lK st parts.toList with
  |some ⟨a,true,.struct fs⟩,some ps=>
   if fs.all (λf=>match Wt T f.2 with|some te=>te.plain|none=>false)then
    match tc T fs ps (mV a)with
    |some cs=>some (.s (.agg cs))
    |none=>none
   else none
  |_,_=>none
 |op=>match cr T st op with
  |some (c,v)=>bif c then some v else none
  |none=>none
theorem VD(p:Option (Bool×AVal))(objs:ad)(nx:Nat):(match p with|some (c,v)=>bif c then fd v objs nx else none|none=>none)=(match p with|some (c,v)=>bif c then some v else none|none=>none).bind λv=>fd v objs nx:=by
 rcases p with _|⟨c,v⟩
 .rfl
 .cases c<;>rfl
theorem Rz{o:Oper}(b:bL o=false)(st:St):rxe T Γ A o st fd=(tL T o st).bind λv=>fd v st.objs st.nx:=by
 obtain⟨g,h,f,i,e,guard⟩:=o;cases h with
 |alloc t=>cases b
 |box t x=>cases b
 |buildSlice t n parts=>cases b
 |makeSlice t n c=>cases b
 |store t a x=>cases b
 |slice t x lo hi m=>cases b
 |build t parts=>
  simp only[rxe,tL];generalize Wt T t=q;generalize lK st parts.toList=z;rcases q with _|⟨j,d,shape⟩
  .rfl
  rcases z with _|ps
  .cases d<;>cases shape<;>rfl
  cases d with
  |false=>rfl
  |true=>
   cases shape with
   |struct fs=>
    show(if _ then _ else _)=Option.bind (if _ then _ else _) _;rw[jK];cases tc T fs ps (mV j)<;>rfl
   |_=>rfl
 |call c=>
  simp only[rxe,tL];split
  .rename_i hc _ _;simp only[bL,hc]at b;cases b
  .rename_i hc _ _;simp only[bL,hc]at b;cases b
  .exact VD _ _ _
  .rename_i hc;simp only[bL,hc]at b;cases b
  .rename_i h0 h1 h2 h3;have:cr T st (.call c)=none:=by
    simp only[cr];split
    .rename_i hc _ _;first|exact Wi hc (h0 _)|exact Wi hc (h1 _)|exact Wi hc (h2 _)|exact Wi hc (h3 _)
    .rename_i hc _ _;first|exact Wi hc (h0 _)|exact Wi hc (h1 _)|exact Wi hc (h2 _)|exact Wi hc (h3 _)
    .rename_i hc _ _;first|exact Wi hc (h0 _)|exact Wi hc (h1 _)|exact Wi hc (h2 _)|exact Wi hc (h3 _)
    .rfl
   rw[this];rfl
 |_=>first|rfl|exact VD (cr T st _) st.objs st.nx
theorem WrY{o:Oper}(c:bL o=false){st ao:St}(b:∀x∈aJ o.op,ev ao x=ev st x)(g:N2 o.op=true->∀x∈aJ o.op,∀v,ev st x=some v->lR st ao v):tL T o ao=tL T o st:=by
 have d:(∀t x l h m,o.op≠ .slice t x l h m)->cr T ao o.op=cr T st o.op:=λc=>Pp o.op c b g;obtain⟨f,j,e,k,a,guard⟩:=o;simp only at b d;cases j with
 |slice t x lo hi m=>cases c
 |build t parts=>simp only[tL,FU (st:=st) parts.toList λp i=>b p.2 (by simp only[aJ];exact Xz.2 ⟨p,i,rfl⟩)]
 |_=>simp only[tL,d (λ_ _ _ _ _ h=>by cases h)]
theorem DP(objs:ad):∀l,∃a,kill objs l=a++objs
 | []=>⟨[],rfl⟩
 |i::l=>by
  obtain⟨a,h⟩:=DP objs l;exact⟨(i,.dead)::a,by simp only[kill,h];rfl⟩
theorem pE:∀(c:List PTy) (o:dv c) (a:List Kp) (objs:ad) (nx:Nat),∃b,(ek c o a objs nx).1=b++objs
 | [],_,_,objs,_=>⟨[],rfl⟩
 | .v _ _::c,o,a,objs,nx=>pE c o a objs nx
 | .rp _::c,o,a,objs,nx=>pE c o a objs nx
 | .box t::c,o,a,objs,nx=>by
  cases a with
  |nil=>exact⟨[],rfl⟩
  |cons k a=>
   obtain⟨b,h⟩:=pE c o.2 a ((k.id,rS (Wt objs k.id) k.off (unfold t o.1 nx).1)::((unfold t o.1 nx).2.1++objs)) (unfold t o.1 nx).2.2;exact⟨b++(k.id,rS (Wt objs k.id) k.off (unfold t o.1 nx).1)::(unfold t o.1 nx).2.1,by simp only[ek,h];simp⟩
 | .vj _::c,o,a,objs,nx=>pE c o a objs nx
 | .boxal t _::c,o,a,objs,nx=>by
  cases a with
  |nil=>exact⟨[],rfl⟩
  |cons k a=>
   obtain⟨b,h⟩:=pE c o.2 a ((k.id,rS (Wt objs k.id) k.off (unfold t o.1 nx).1)::((unfold t o.1 nx).2.1++objs)) (unfold t o.1 nx).2.2;exact⟨b++(k.id,rS (Wt objs k.id) k.off (unfold t o.1 nx).1)::(unfold t o.1 nx).2.1,by simp only[ek,h];simp⟩
 | .mut e::c,o,a,objs,nx=>by
  cases a with
  |nil=>exact⟨[],rfl⟩
  |cons k a=>
   obtain⟨b,h⟩:=pE c o.2 a ((k.id,.arr e o.1)::objs) nx;exact⟨b++ [(k.id,.arr e o.1)],by simp only[ek,h];simp⟩
 | .clos _ _::c,o,a,objs,nx=>pE c o a objs nx
 | .kv t _::c,o,a,objs,nx=>by
  obtain⟨b,h⟩:=pE c o.2 (a.drop t.owns) (eC t o.1 ((a.take t.owns).map Kp.id)++objs) nx;exact⟨b++eC t o.1 ((a.take t.owns).map Kp.id),by simp only[ek,h];simp⟩
theorem pA:∀(a:List PTy) (d:d7 a) (objs:ad) (nx:Nat),∃b,(fy a d objs nx).2.1=b++objs
 | [],_,objs,_=>⟨[],rfl⟩
 | .v t agg::a,d,objs,nx=>by
  obtain⟨b,h⟩:=pA a d.2 ((unfold t d.1 nx).2.1++objs) (unfold t d.1 nx).2.2;exact⟨b++(unfold t d.1 nx).2.1,by simp only[fy,h];simp⟩
 | .box t::a,d,objs,nx=>by
  obtain⟨b,h⟩:=pA a d.2 ((nx,.box (unfold t d.1 (nx+1)).1)::((unfold t d.1 (nx+1)).2.1++objs)) (unfold t d.1 (nx+1)).2.2;exact⟨b++(nx,.box (unfold t d.1 (nx+1)).1)::(unfold t d.1 (nx+1)).2.1,by simp only[fy,h];simp⟩
 | .mut _::a,d,objs,nx=>pA a d objs nx
 | .clos _ _::a,d,objs,nx=>pA a d objs nx
 | .kv _ _::a,d,objs,nx=>pA a d objs nx
 | .rp _::a,d,objs,nx=>pA a d objs nx
 | .vj t::a,d,objs,nx=>by
  obtain⟨b,h⟩:=pA a d.2 ((unfold t d.1 nx).2.1++objs) (unfold t d.1 nx).2.2;exact⟨b++(unfold t d.1 nx).2.1,by simp only[fy,h];simp⟩
 | .boxal _ _::a,d,objs,nx=>pA a d objs nx
def Suf(objs:ad)(r:Option Out):Prop:=∀x objs' nx,r=some (x,objs',nx)->∃a,objs'=a++objs
theorem Suf.none{objs:ad}:Suf objs none:=λ_ _ _ h=>by cases h
theorem Suf.out{objs pre:ad}{x:AVal}{nx:Nat}:Suf objs (fd x (pre++objs) nx):=λ_ _ _ h=>by
 injection h with h;have:=Wp (λp:Out=>p.2.1) h;exact⟨pre,this.symm⟩
theorem Suf.ite{objs:ad}{c:Prop}[Decidable c]{r:Option Out}(h:Suf objs r):Suf objs (if c then r else Option.none):=by split;exact h;exact .none
theorem Suf.bif{objs:ad}{c:Bool}{r:Option Out}(h:Suf objs r):Suf objs (bif c then r else Option.none):=by cases c;exact .none;exact h
theorem Wkv{st ai:St}{t:TypeId}{x v:AVal}(h:mM T st t x v=some ai):∃a,ai.objs=a++st.objs:=by
 unfold mM at h;split at h
 .split at h
  .split at h
   .injection h with h;subst h;exact⟨[_],rfl⟩
   .cases h
  .cases h
 .split at h
  .split at h
   .split at h
    .injection h with h;subst h;exact⟨[_],rfl⟩
    .cases h
   .split at h
    .split at h
     .rename_i m _;split at h
      .injection h with h;subst h;obtain⟨a,b⟩:=DP st.objs m;exact⟨_::a,by simp only[b];rfl⟩
      .cases h
     .cases h
    .cases h
  .cases h
 .cases h
theorem No(p:Option (Bool×AVal))(objs:ad)(nx:Nat):Suf objs (match p with|some (c,v)=>bif c then fd v objs nx else none|none=>none):=by
 rcases p with _|⟨c,v⟩
 .exact .none
 .exact Suf.bif (Suf.out (pre:=[]))
theorem Lg(a:Sig)(st:St)(xs:List AVal):Suf st.objs (ot a st xs fd):=by
 unfold ot;split
 .rename_i A _;split
  .intro x objs' nx h;rw[a.law]at h;cases hr:a.run A.d with
   |none=>rw[hr]at h;cases h
   |some out=>
    rw[hr]at h;simp only[Xd]at h;injection h with h;have b:=Wp (λp:Out=>p.2.1) h;simp only at b;obtain⟨g,c⟩:=DP st.objs A.moved;obtain⟨i,e⟩:=pE a.ps out.1 A.kept (kill st.objs A.moved) st.nx;obtain⟨j,f⟩:=pA a.rs out.2 (ek a.ps out.1 A.kept (kill st.objs A.moved) st.nx).1 (ek a.ps out.1 A.kept (kill st.objs A.moved) st.nx).2;refine⟨j++(i++g),?_⟩;rw[←b,f,e,c];simp
  .exact .none
 .exact .none
theorem Suf.over{objs:ad}{l:List Nat}{r:Option Out}(h:Suf (kill objs l) r):Suf objs r:=λx objs' nx c=>by
 obtain⟨d,a⟩:=h x objs' nx c;obtain⟨e,b⟩:=DP objs l;exact⟨d++e,by rw[a,b];simp⟩
theorem Woq(a:Sig)(st:St)(xs:List AVal):Suf st.objs (sG a st xs fd):=by
 unfold sG;cases a.fresh with
 |true=>exact Lg _ _ _
 |false=>
  simp only[Wc];split
  .split
   .exact Lg _ _ _
   .exact Suf.over (Lg a {env:=st.env,objs:=kill st.objs _,nx:=st.nx} _)
  .exact .none
theorem MY{objs:ad}{x:AVal}{p:Nat×Ob}{l:List Nat}{nx:Nat}:Suf objs (fd x (p::kill objs l) nx):=by
 obtain⟨pre,h⟩:=DP objs l;rw[h];exact Suf.out (pre:=p::pre)
theorem Wkr(st:St)(a:Ty)(s x:AVal):Suf st.objs (rQ st a s x fd):=by
 unfold rQ;split
 .split
  .split
   .split
    .exact Suf.bif MY
    .exact .none
   .exact .none
  .exact .none
 .split
  .split
   .split
    .exact Suf.ite (Suf.bif MY)
    .exact .none
   .exact .none
  .exact .none
 .exact .none
theorem Wkm(st:St)(e:Ty)(a:List (Nat×AVal)):Suf st.objs (ol st e a fd):=by
 unfold ol;split
 .refine Suf.ite ?_;split
  .split
   .exact Suf.ite (Suf.over MY)
   .exact .none
  .exact .none
 .exact .none
theorem WmG(st:St)(b:Ty)(a:Nat)(l h:Option Int):Suf st.objs (oC st b a l h fd):=by
 unfold oC;split
 .exact Suf.ite (Suf.bif (Suf.out (pre:=[])))
 .exact .none
theorem WrP(o:Oper)(st:St):Suf st.objs (rxe T Γ A o st fd):=by
 unfold rxe;split
 .split
  .exact Suf.ite (Suf.out (pre:=[_]))
  .exact Suf.ite (Suf.out (pre:=[_]))
  .exact .none
 .split
  .exact Suf.out (pre:=[_])
  .exact .none
 .split
  .split
   .split
    .exact Suf.out (pre:=[])
    .exact .none
   .exact .none
  .exact .none
 .split
  .split
   .split
    .exact Suf.ite (Wkm _ _ _)
    .split
     .exact Suf.ite (Suf.over (Suf.out (pre:=[_])))
     .exact .none
   .exact .none
  .exact .none
 .split
  .split
   .split
    .exact Suf.ite (Suf.bif (Suf.out (pre:=[_])))
    .exact Suf.ite (Suf.bif (Suf.out (pre:=[_])))
   .exact .none
  .exact .none
 .split
  .split
   .rename_i ai hs;split
    .obtain⟨pre,h⟩:=Wkv hs;rw[h];exact Suf.over Suf.out
    .exact .none
   .exact .none
  .exact .none
 .split
  .split
   .split
    .split
     .exact Suf.ite (WmG _ _ _ _ _)
     .split
      .exact Suf.ite (Suf.bif (Suf.out (pre:=[_,_])))
      .exact Suf.ite (Suf.bif (Suf.out (pre:=[_,_,_])))
      .exact .none
    .exact .none
   .exact .none
  .exact No _ _ _
 .split
  .split
   .unfold wN;split
    .split
     .split
      .cases H1 st _ _ with
       |false=>exact Wkr _ _ _ _
       |true=>
       simp only[Xr,Wc];split
       .exact Suf.bif (Suf.out (pre:=[_]))
       .split
        .split
         .exact Suf.bif (Suf.out (pre:=[_,_]))
         .exact .none
        .exact .none
       .split
        .split
         .exact Suf.bif (Suf.out (pre:=[_,_]))
         .exact .none
        .exact .none
       .exact .none
      .exact .none
     .exact .none
    .exact .none
   .exact .none
  .split
   .split
    .split
     .exact Suf.ite (Suf.out (pre:=[_]))
     .exact .none
    .exact .none
   .exact .none
  .exact No _ _ _
  .split
   .split
    .exact Woq _ _ _
    .exact .none
   .exact .none
  .exact .none
 .exact No _ _ _
end
end Go.Sx
