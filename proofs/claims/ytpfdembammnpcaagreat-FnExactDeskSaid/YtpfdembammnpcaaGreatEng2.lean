/- The abstract machine, part 2: a reflective interpreter of the program's code over data, with its soundness over the model. -/
import Derived.Test.YtpfdembammnpcaaGreatEng1
open Bool renaming and_eq_true→Xh,not_eq_true'→de,false_eq_true→dq
open List renaming nodup_cons→cr,getElem?_append_left→Hj,getElem?_append_right→vC,ext_getElem?→NI,getElem?_eq_none→gw,replicate→Xk,prefix_refl→YC,nil_prefix→YS,prefix_append_right_inj→Yq,length_replicate→AB,append_nil→hU,getElem?_toArray→NR,append_assoc→fq,getElem?_append→eW,getElem?_take→lm,getElem?_drop→li,getElem?_eq_some_iff→dp,drop_drop→AE,take_append_drop→X9,length_take→dA,mem_cons_self→Xl,mem_cons_of_mem→Xg,mem_map_of_mem→eB,pairwise_cons→Xu,mem_append_left→Xo,mem_append_right→Xi,length_append→Xz,map_append→Xx,pairwise_append→d0,mem_append→Xp,mem_map→Xv,mem_cons→Xr,getElem?_of_mem→NM,getElem?_eq_getElem→Xq,eq_nil_of_length_eq_zero→dV,map_toArray→AF,map_cons→bz,map_nil→eX,append→Xf,take_length→nY,mem_singleton→cw,length→Xb,append_inj→YD,length_map→Xt,mem_of_mem_take→nI,mem_of_mem_drop→Yn,nodup_append→dc,all_eq_true→bA,nodup_nil→p0,length_drop→D9,sublist_append_right→Yz,getElem?_map→dF,all_cons→dG,mem_of_getElem?→fN
open Array renaming range→jf,foldl_toList→Yu,length_toList→fi
open Nat renaming succ_mul→eY,mul_le_mul_right→fO,add_zero→c5,le_trans→fP,zero_mul→Ec,le_refl→Xm,min_eq_left→lB,add_assoc→dB,lt_succ_self→j3,add_mul→j8,eq_of_beq_eq_true→vG,add_sub_cancel_left→rQ,le_succ→nZ
open Int renaming mul_le_mul_of_nonneg_right→Yl
open Option renaming map_eq_some_iff→Xw,map_some→lr,bind_eq_some_iff→jc,bind_some→Xd
namespace Go.Sx
set_option linter.unusedVariables false
set_option linter.unusedSimpArgs false
theorem CQ:∀l:List Nat,d8 l=true↔l.Nodup
 | []=>by simp[d8]
 |i::l=>by
  have h:=Ll i l;simp only[d8,Xh,de,cr,CQ l]
  grind
theorem Vu{α:Type}(l:List α)(d:α):∀(n i:Nat),i<n*l.length->(rep l n)[i]?=some (l.getD (i%l.length) d)
 |0,i,h=>by simp at h
 |n+1,i,h=>by
  rw[rep];by_cases a:i<l.length
  .grind [Hj,Nat.mod_eq_of_lt,List.getD]
  .have eh:l.length<=i:=by omega
   rw[vC eh,Vu l d n (i-l.length) (by grind)];rw[Nat.mod_eq_sub_mod eh]
theorem Dc(z:Array Value)(n:Nat):((jf (n*z.size)).map λi=>z[i%z.size]!).toList=rep z.toList n:=by
 apply NI;intro i;by_cases a:i<n*z.size
 .rw[Vu z.toList default n i (by omega)]
  grind
 grind [gw,Gh]
section
variable{w0:World}{F:CS}{nt:Slots}{G0 G:GH}{ν:Nat->Nu}{objs:aa}{nx:Nat}{st ai:St}{a:Act}{w w':World}{P:Program}{T:Tab}
theorem RP(o:HRel w0 F G ν objs nx w){e:Ty}(n:e.data=true):
  ∀(l:List (Nat×AVal)) (f:List (Nat×Value)) (xs b:List e.den) (vs:Array Value),bG (Enc G e) xs vs.toList->f.length=l.length->
   (∀(j:Nat) (p:Nat×AVal) (q:Nat×Value),l[j]?=some p->f[j]?=some q->p.1=q.1/\AValRel G ν nx p.2 q.2)->z7 e objs l xs=some b->
   ∃g,Instr.fill (λi=>some (i*e.size,e.size)) vs f=some g/\bG (Enc G e) b g.toList/\b.length=xs.length
 | [],[],xs,b,vs,a,_,_,h=>by simp[z7]at h;subst h;exact⟨vs,rfl,a,rfl⟩
 |(i,x)::l,[],_,_,_,_,k,_,_=>by simp at k
 | [],_::_,_,_,_,_,k,_,_=>by simp at k
 |(i,x)::l,(i',v)::f,xs,b,vs,a,k,s,h=>by
  obtain⟨r,t⟩:=s 0 _ _ rfl rfl;simp only at r t;subst r;simp only[z7]at h;split at h
  .rename_i ds jG;split at h
   .rename_i d hf;split at h
    .rename_i ae;obtain⟨z,_⟩:=yO t jG;have u:=Tt o z n hf;have y:v.cells.toList.length=e.size:=c0 _ _ _ u;have J:vs.toList.length=xs.length*e.size:=tV (λx c a=>c0 e x c a) _ _ a;have D:i*e.size+e.size<=xs.length*e.size:=by rw[←eY];exact fO _ ae
     have m:=Lt v.cells.toList (i*e.size) 0 vs (by simp_all);simp only[c5]at m;have C:=LY (λx c a=>c0 e x c a) xs vs.toList i d v.cells.toList a ae u;obtain⟨g,A,B,E⟩:=RP o n l f (xs.set i d) b _ (by rw[m,y];exact C) (by simp_all) (λj p q H I=>s (j+1) p q (by simp_all) (by simp_all)) h;refine⟨g,?_,B,by grind⟩;simp only[Instr.fill];rw[We (by simp_all)];rw[←A];congr 1;rw[←Yu];simp
    grind
   grind
  grind
theorem Wi9(r:ao P T)(H:Rel w0 F nt G0 G ν st a w){o:Oper}(R:∀d,o.dst=some d->nt.Ok d){t:TypeId}{n:Nat}{b:Array (Nat×Operand)}(V:o.op= .buildSlice t n b)
  {ty:Ty} {l:TypeId} {f:TE} {g:List (Nat×AVal)} {xs:List f.ty.den} (U:Wt T t=some ⟨ty,false,.slice l⟩) (A:Wt T l=some f)
  (N:g.length=b.toList.length) (h2:∀(j:Nat) (p:Nat×AVal) (q:Nat×Operand),g[j]?=some p->b.toList[j]?=some q->p.1=q.1/\AValRel G ν st.nx p.2 (a.eval q.2))
  (S:z7 f.ty st.objs g (Xk n f.ty.dflt)=some xs) (J:n*f.ty.size<=16777216) (y:f.ty.data=true) (u:f.plain=true):
  Done P w0 F nt G0 o a w (st.new o.dst (.arr f.ty xs) (.s (.one (.own st.nx)))):=by
 have W:=(r _ _ U).und.2.1;obtain⟨z,hz,m⟩:=y7 (w:=w) (r _ _ A);rw[tN u]at m;have Y:z.cells.size=f.ty.size:=by rw[←fi,m,mU]
 have M:=Dc z.cells n;rw[Y,m]at M;obtain⟨k,C,D,h5⟩:=RP H.h y g (b.toList.map λp=>(p.1,a.eval p.2)) _ xs ((jf (n*f.ty.size)).map λi=>z.cells[i%f.ty.size]!) (by grind [zk]) (by simp[N]) (λj p q u hq=>by
   grind) S
 have I:xs.length=n:=by grind
 have O:=lP f.ty;have hn:n<=16777216:=fP (Nat.le_mul_of_pos_right n O) J;have Z:k.size=n*f.ty.size:=by
  rw[←fi,tV (λx c Q=>c0 f.ty x c Q) _ _ D,I]
 obtain⟨⟨ν',E⟩,_⟩:=MC (t:=l) (vs:=k) H R (e:=f.ty) y (xs:=xs) (cap:=n) (cs:=k.toList) (by omega) (by unfold maxLen;omega) Z D (YC _) w rfl rfl rfl rfl;rw[I]at E;refine⟨_,_,_,G,ν',?_,.inl rfl,E⟩;have X:(b.map λx=>match x with|(i,x)=>(i,a.eval x)).toList=b.toList.map λp=>(p.1,a.eval p.2):=by simp
 simp only[execOp,V,Instr.buildSlice,Sem.run_bind,Wl W,Result.andThen_ok,(r _ _ A).sizeOf,W1 u,We (show¬n*f.ty.size>2^24 by omega),Sem.run_pure];by_cases B:n*f.ty.size=0
 .have uI:n=0:=by rcases Nat.mul_eq_zero.1 B with h|h<;>omega
  have K:((jf (n*f.ty.size)).map λi=>z.cells[i%f.ty.size]!)= #[]:=by grind
  rw[K]at C;have L:∀v:Array Value,((jf (n*f.ty.size)).map λi=>v[i%v.size]!)= #[]:=λv=>by grind
  simp only[Wf B,Sem.run_pure,Result.andThen_ok,L,X,C,yv];rfl
 simp_all [We,Sem.run_bind,Result.andThen_ok,Sem.run_pure,yv]
theorem WjW(u:ao P T)(H:Rel w0 F nt G0 G ν st a w){o:Oper}(D:∀d,o.dst=some d->nt.Ok d){t:TypeId}{n c:Operand}(U:o.op= .makeSlice t n c)
  {ty:Ty} {g:TypeId} {b:TE} {f c':Int} {k I:IntKind} (E:Wt T t=some ⟨ty,false,.slice g⟩) (A:Wt T g=some b) (S:a.eval n= .int k f) (O:a.eval c= .int I c')
  (K:0<=f) (L:f<=c') (C:Wx c'.toNat=true) (m:b.ty.data=true) (v:b.plain=true):
  Done P w0 F nt G0 o a w (st.new o.dst (.arr b.ty (Xk f.toNat b.ty.dflt)) (.s (.one (.own st.nx)))):=by
 have V:=(u _ _ E).und.2.1;obtain⟨i,z,Q,x,W,j,X⟩:=(u _ _ A).info;rw[tN v]at j;rw[W1 v]at x;have y:z.cells.size=b.ty.size:=by rw[←fi,j,mU]
 have J:c'.toNat<=1073741824:=by simpa [Wx]using C
 have B:=Dc z.cells c'.toNat;rw[y,j]at B;have Y:rep (cH b.ty) f.toNat<+:rep (cH b.ty) c'.toNat:=by
  have:∀(l:List Value) (p q:Nat),rep l p<+:rep l (p+q):=λl p q=>by
   induction p with
   |zero=>exact YS
   |succ p ih=>grind [Nat.succ_add,rep,Yq]
  have h:=this (cH b.ty) f.toNat (c'.toNat-f.toNat)
  rwa [show f.toNat+(c'.toNat-f.toNat)=c'.toNat by omega]at h
 have N:(i.bytes:Int)*c'<=281474976710656:=by
  have M:(i.bytes:Int)*c'<=4096*c':=Yl (by omega) (by omega);omega
 have R:madeCells z.cells (c'.toNat*i.size)=(jf (c'.toNat*b.ty.size)).map λi=>z.cells[i%b.ty.size]!:=by
  rw[x,←y];rfl
 obtain⟨⟨ν',r⟩,_⟩:=MC (t:=g) (vs:=(jf (c'.toNat*b.ty.size)).map λi=>z.cells[i%b.ty.size]!) H D (e:=b.ty) m (xs:=Xk f.toNat b.ty.dflt) (cap:=c'.toNat) (cs:=rep (cH b.ty) f.toNat) (by simp;omega) (by unfold maxLen;omega)
  (by simp) (zk m _) (by simp_all) w rfl rfl rfl rfl
 rw[AB]at r;refine⟨_,_,_,G,ν',?_,.inl rfl,r⟩
 grind [execOp,Sem.run_bind,run_make,Result.andThen_ok,Sem.run_pure]
theorem Wja(x:ao P T)(L:Rel w0 F nt G0 G ν st a w){o:Oper}(J:∀d,o.dst=some d->nt.Ok d){t:TypeId}{n c:Operand}(ho:o.op= .makeSlice t n c)
  {ty:Ty} {j:TypeId} {f:TE} {e:Ty} {g c':Int} {k M:IntKind} (K:Wt T t=some ⟨ty,false,.slice j⟩) (D:Wt T j=some f) (Z:a.eval n= .int k g) (V:a.eval c= .int M c')
  (Q:0<=g) (R:g<=c') (I:Wx c'.toNat=true) (y:e.ro=f.ty) (r:f.plain=true):
  Done P w0 F nt G0 o a w (st.new o.dst (.arr e (Xk g.toNat e.dflt)) (.s (.one (.own st.nx)))):=by
 have hu:=(x _ _ K).und.2.1;obtain⟨i,z,X,A,hz,m,pC⟩:=(x _ _ D).info;rw[tN r]at m;rw[W1 r]at A;have N:f.ty.size=e.size:=by rw[←y,gX]
 have B:z.cells.size=f.ty.size:=by rw[←fi,m,mU]
 have O:c'.toNat<=1073741824:=by simpa [Wx]using I
 have E:=Dc z.cells c'.toNat;rw[B,m]at E;have vL:rep (cH f.ty) g.toNat<+:rep (cH f.ty) c'.toNat:=by
  have:∀(l:List Value) (p q:Nat),rep l p<+:rep l (p+q):=λl p q=>by
   induction p with
   |zero=>exact YS
   |succ p ih=>grind [Nat.succ_add,rep,Yq]
  have h:=this (cH f.ty) g.toNat (c'.toNat-g.toNat)
  rwa [show g.toNat+(c'.toNat-g.toNat)=c'.toNat by omega]at h
 have U:(i.bytes:Int)*c'<=281474976710656:=by
  have S:(i.bytes:Int)*c'<=4096*c':=Yl (by omega) (by omega);omega
 have Y:madeCells z.cells (c'.toNat*i.size)=(jf (c'.toNat*f.ty.size)).map λi=>z.cells[i%f.ty.size]!:=by
  rw[A,←B];rfl
 obtain⟨⟨ν',v⟩,_⟩:=F8 (t:=j) (vs:=(jf (c'.toNat*f.ty.size)).map λi=>z.cells[i%f.ty.size]!) L J [] (e:=e) (xs:=Xk g.toNat e.dflt) (cap:=c'.toNat) (cs:=rep (cH f.ty) g.toNat) (by simp;omega) (by unfold maxLen;omega)
  (by simp[N]) (λφ _=>by
   obtain⟨C,u,H⟩:=V0 (G:=G) (w:=w) e g.toNat;rw[y]at u;exact⟨C,u,Tr C H,λp r b o W=>by simp_all⟩) (by simp_all) w rfl rfl rfl rfl
 rw[AB]at v;refine⟨_,_,_,G,ν',?_,.inl rfl,v⟩
 grind [execOp,Sem.run_bind,run_make,Result.andThen_ok,Sem.run_pure]
theorem WmT(r:ao P T)(E:Rel w0 F nt G0 G ν st a w){o:Oper}(R:∀d,o.dst=some d->nt.Ok d){t:TypeId}{f:Array (Nat×Operand)}{x:Operand}(ho:o.op= .buildSlice t 1 f)(K:f.toList= [(0,x)])
  {ty:Ty} {l:TypeId} {b:TE} {e:Ty} {I:AVal} {k:List Cell} {d:e.den} {m:List Nat} (Y:Wt T t=some ⟨ty,false,.slice l⟩) (A:Wt T l=some b) (hx:AValRel G ν st.nx I (a.eval x)) (jG:jN I=some k)
  (U:aC e k st.objs=some (d,m,[])) (Z:m.Nodup) (S:e.ro=b.ty) (D:b.plain=true) (cJ:b.ty.size<=16777216):
  Done P w0 F nt G0 o a w (({env:=st.env,objs:=(st.nx,.arr e [d])::kill st.objs m,nx:=st.nx+1}:St).put o.dst (.s (.one (.own st.nx)))):=by
 have hu:=(r _ _ Y).und.2.1;obtain⟨z,hz,n⟩:=y7 (w:=w) (r _ _ A);rw[tN D]at n;have rV:b.ty.size=e.size:=by rw[←S,gX]
 have H:z.cells.size=b.ty.size:=by rw[←fi,n,mU]
 have C:=Dc z.cells 1;rw[H,n]at C;simp only[rep,hU,Nat.one_mul]at C;obtain⟨N,h2⟩:=yO hx jG;have B:∀φ,HR w0 F G ν φ st.objs st.nx w->∃g,cq (WC G w e) [d] (a.eval x).cells.toList g/\Sep (g.map Pc.fp)/\∀p∈g,CS.le p.fp (FromL φ st.objs m):=λφ v=>by
  obtain⟨ns,q,L,M,_⟩:=fz (G':=G) v (λ_ _ _ W=>W) e k _ d m [] N (λi X=>by simp at X) Z U;exact⟨ns,UR.2 q,L,M⟩
 have J:(a.eval x).cells.size=e.size:=by
  obtain⟨φ,v⟩:=E.h;obtain⟨g,q,_⟩:=B φ v;have:=WI _ _ _ _ (UR.1 q);simpa using this
 have zG:((jf b.ty.size).map λi=>z.cells[i%b.ty.size]!).size=b.ty.size:=by simp
 have iB:=Lt (a.eval x).cells.toList 0 0 ((jf b.ty.size).map λi=>z.cells[i%b.ty.size]!) (by simp;omega);have rW:((jf b.ty.size).map λi=>z.cells[i%b.ty.size]!).toList.length=e.size:=by simp[rV]
 have y:((a.eval x).cells.toList.zipIdx.foldl (λcs (c,j)=>cs.setIfInBounds (0+j) c) ((jf b.ty.size).map λi=>z.cells[i%b.ty.size]!)).toList=(a.eval x).cells.toList:=by
  rw[iB];simp only[Nat.zero_add,List.take_zero,List.nil_append];rw[List.drop_eq_nil_of_le (by rw[rW];simp;omega),hU]
 generalize Q:(a.eval x).cells.toList.zipIdx.foldl (λcs (c,j)=>cs.setIfInBounds (0+j) c) ((jf b.ty.size).map λi=>z.cells[i%b.ty.size]!)=V at y;have u:V.size=1*e.size:=by rw[←fi,y];simp[J]
 obtain⟨⟨ν',O⟩,_⟩:=F8 (t:=l) (vs:=V) E R m (e:=e) (xs:=[d]) (cap:=1) (cs:=(a.eval x).cells.toList) (by simp) (by unfold maxLen;omega) u B (by rw[y];exact YC _) w rfl rfl rfl rfl;refine⟨_,_,_,G,ν',?_,.inl rfl,O⟩;have rX:Instr.fill (λi=>some (i*b.ty.size,b.ty.size)) ((jf b.ty.size).map λi=>z.cells[i%b.ty.size]!) [(0,a.eval x)]=some V:=by
  simp only[Instr.fill,Ec];rw[We (by simp;omega),←Q];congr 1;rw[←Yu];simp
 have j7:(f.map λx=>match x with|(i,x)=>(i,a.eval x)).toList= [(0,a.eval x)]:=by simp[K]
 have hZ:=lP b.ty;simp only[execOp,ho,Instr.buildSlice,Sem.run_bind,Wl hu,Result.andThen_ok,(r _ _ A).sizeOf,W1 D,Nat.one_mul,We (show¬b.ty.size>2^24 by omega),We (show¬b.ty.size=0 by omega),Sem.run_pure,hz,H,j7,rX,yv];rfl
theorem KX{t:TypeId}{d:TE}(g:TEok P T t d){b off:Nat}{v:Value}{a:Array Value}{c:TypeId}(j:w.heap[b]?=some (.cells a c (0,0)))(e:d.size=v.cells.size)(f:off+v.cells.size<=a.size)(i:∀u∈v.cells.toList,u.oneCell'=true):
  (storeVar t ⟨b,off,none⟩ v).run P w= .ok () (w.setRow b (a.toList.take off++v.cells.toList++a.toList.drop (off+v.cells.size)).toArray):=by
 have h:=run_storeCells_at P b off c v.cells.toList 0 a w j (by simpa using f) i;simp only[c5,fi]at h;simp[storeVar,g.sizeOf,e,h]
theorem CR{b k:Nat}{vs:Array Value}{T:TypeId}{news:List Value}(h:w.heap[b]?=some (Obj.cells vs T (0,0)))(g:k+news.length<=vs.size):
  WLe (rng b k news.length) w (w.setRow b (vs.toList.take k++news++vs.toList.drop (k+news.length)).toArray)/\Mem (w.setRow b (vs.toList.take k++news++vs.toList.drop (k+news.length)).toArray) b k news:=by
 have c:(vs.toList.take k).length=k:=by simp;omega
 constructor
 .refine WLe.setRow h (by simp;omega) (λo f=>?_);have i:¬(k<=o/\o<k+news.length):=λ⟨d,e⟩=>f ⟨rfl,d,e⟩;simp only[NR,fq];rw[eW,c];split
  .rename_i a;rw[lm,Wf a];simp
  .rw[eW];split
   .omega
   .rw[li,show k+news.length+(o-k-news.length)=o by omega];simp
 .intro j v hj;rw[cell_of_row _ b _ _ T (0,0) (setRow_heap w b vs _ T (0,0) h)];have a:j<news.length:=(dp.1 hj).1;simp only[NR,fq];rw[vC (by omega),c,Hj (by omega),show k+j-k=j by omega];exact hj
theorem FF{b o k:Nat}{vs us:List Value}(e:Mem w b o vs)(i:WLe (rng b (o+k) us.length) w w')(g:Mem w' b (o+k) us)(m:k+us.length<=vs.length):Mem w' b o (vs.take k++us++vs.drop (k+us.length)):=λj v a=>by
 have d:∀v',vs[j]?=some v'->¬(k<=j/\j<k+us.length)->w'.cell? ⟨b,o+j,none⟩=some v':=λv' h f=>by
  have c:=e j v' h;rw[i.cell b (o+j) (block_lt_of_cell c) (λ⟨_,h2,h3⟩=>f ⟨by omega,by omega⟩)];exact c
 have l:(vs.take k).length=k:=by simp;omega
 rw[fq,eW,l]at a;split at a
 .rename_i ae;rw[lm,Wf ae]at a;exact d v a (by omega)
 .rw[eW]at a;split at a
  .have:=g (j-k) v a;rw[show o+j=o+k+(j-k) by omega];exact this
  .rw[li,show k+us.length+(j-k-us.length)=j by omega]at a;exact d v a (by omega)
theorem HR.turn{φ:Nat->CS}(h:HR w0 F G ν φ objs nx w){id:Nat}{d e:Ob}{m:List Nat}(n:Wt objs id=some d)(k:d≠ .dead){S:CS}(q:WLe S w w')(p:CS.le S (φ id))
  (f:dt G ν nx w' id (λb o=>φ id b o\/FromL φ objs m b o) e):HRel w0 F G ν ((id,e)::kill objs m) nx w':=by
 have c:Live objs id:=⟨d,n,k⟩;exact⟨_,h.put (ν':=ν) (λ_ _=>rfl) (Xm _) (h.lt id c) (q.mono λb o a=>⟨id,.inl rfl,c,p b o a⟩) (λb o a=>by
  rcases a with a|⟨i,l,g,j⟩
  .exact .inl ⟨id,.inl rfl,c,a⟩
  .exact .inl ⟨i,.inr l,g,j⟩) (λ_=>f)⟩
theorem WrM(hT:ao P T)(D:Rel w0 F nt G0 G ν st a w){o:Oper}{t:TypeId}{x y:Operand}(ho:o.op= .store t x y)(kV:o.dst=none){p v:AVal}(E:AValRel G ν st.nx p (a.eval x))(hy:AValRel G ν st.nx v (a.eval y))
  (h:lW T st t p v=some ai):Done P w0 F nt G0 o a w ai:=by
 unfold lW at h;split at h
 .rename_i te id off ds hl jG;obtain⟨N,nM⟩:=yO hy jG;split at h
  .rename_i n H;split at h
   .rename_i bV;simp only[Xh,Wg]at bV;obtain⟨⟨g,X⟩,cX⟩:=bV;injection h with h;subst h;obtain⟨⟨_,b,K,kW⟩,_⟩:=E;obtain⟨φ,A⟩:=D.h;obtain⟨I,vs,c7,⟨l,R,C,S⟩,aN,cl,gW⟩:=A.ob _ _ H;rw[K]at c7;injection c7 with c7;subst c7;have O:(a.eval y).cells.size=ds.length:=by have:=N.1;simpa using this
    have J:=KX (w:=w) (hT _ _ hl) (b:=b) (off:=(ν id).off+off) (v:=a.eval y) C (by rw[W1 X,O];exact g) (by omega) nM;obtain⟨r,B⟩:=CR (k:=(ν id).off+off) (news:=(a.eval y).cells.toList) C (by simp;omega);simp only[fi]at r B;generalize w.setRow b (l.toList.take ((ν id).off+off)++(a.eval y).cells.toList++l.toList.drop ((ν id).off+off+(a.eval y).cells.size)).toArray=W at J r B;have V:HRel w0 F G ν ((id,.box (kB n off ds))::st.objs) st.nx W:=by
     refine A.turn (m:=[]) H (by simp) r (λI o ⟨e,h1,h2⟩=>gW I o ⟨e,by omega,by omega⟩) ?_;refine⟨b,_,K,by rw[FB cX];exact r.rows.row _ _ ⟨l,R,C,S⟩,FF aN (us:=(a.eval y).cells.toList) (by rw[fi];exact r) B (by rw[cl.1];simp;omega),Fr cl N,λb o f=>.inl (gW b o (by rw[FB cX]at f;exact f))⟩
    refine⟨.skip,undef,W,G,ν,?_,.inr ⟨rfl,rfl⟩,?_⟩
    .simp only[execOp,ho,kW,Instr.storeAt,Instr.sureAddr,Sem.run_bind,Sem.run_pure,Result.andThen_ok,J]
    .rw[kV];exact D.on (λ_ _ _ f=>f) (λ_ _=>rfl) (Xm _) V D.gx
   .simp at h
  .simp at h
 .rename_i te id i off ds hl jG;obtain⟨N,nM⟩:=yO hy jG;split at h
  .rename_i e xs H;split at h
   .rename_i bV;simp only[Xh,Wg]at bV;obtain⟨⟨⟨g,X⟩,cX⟩,bF⟩:=bV;split at h
    .rename_i d hf;injection h with h;subst h;obtain⟨⟨_,vM,b,K,kW⟩,_⟩:=E;obtain⟨φ,A⟩:=D.h;have bd:ah w (WC G w e) e.size (ν id) xs (φ id):=A.ob _ _ H;obtain⟨jH,Y,h5,lZ,n,Z,h8,h9⟩:=yE bF bd K;obtain⟨l,R,C,S⟩:=lZ;have U:=bd.2.1;have L:i<xs.length:=by omega
     have O:(a.eval y).cells.toList.length=ds.length:=N.1;have eT:(a.eval y).cells.size=ds.length:=by simpa using O
     have dz:n.length=xs.length*e.size:=tV (λx c hc=>c0 e x c hc) _ _ Z;have zH:i*e.size+e.size<=xs.length*e.size:=by rw[←eY];exact fO _ L
     have zI:xs.length*e.size<=(ν id).cap*e.size:=fO _ Y;have rY:=TH (λx c hc=>c0 e x c hc) xs n i e.dflt Z L;have vN:=Fr (off:=off) (ie (G:=G) (ν:=ν) (nx:=st.nx) e _ _ rY) N;have iA:=Tt D.h vN bF hf;have iB:=LY (λx c hc=>c0 e x c hc) xs n i d _ Z L iA;have J:=KX (w:=w) (hT _ _ hl) (b:=b) (off:=(ν id).off+(i*e.size+off)) (v:=a.eval y) C (by rw[W1 X];omega) (by omega) nM;obtain⟨r,B⟩:=CR (k:=(ν id).off+(i*e.size+off)) (news:=(a.eval y).cells.toList) C (by omega);simp only[fi]at r B;generalize w.setRow b (l.toList.take ((ν id).off+(i*e.size+off))++(a.eval y).cells.toList++l.toList.drop ((ν id).off+(i*e.size+off)+(a.eval y).cells.size)).toArray=W at J r B;have pD:n.take (i*e.size+off)++(a.eval y).cells.toList++n.drop (i*e.size+off+(a.eval y).cells.toList.length)=
       n.take (i*e.size)++(((n.drop (i*e.size)).take e.size).take off++(a.eval y).cells.toList++((n.drop (i*e.size)).take e.size).drop (off+(a.eval y).cells.toList.length))++n.drop (i*e.size+e.size):=by
      rw[O];have e1:n.take (i*e.size+off)=n.take (i*e.size)++((n.drop (i*e.size)).take e.size).take off:=by
       rw[List.take_take,lB (by omega),←List.take_add]
      have e2:n.drop (i*e.size+off+ds.length)=((n.drop (i*e.size)).take e.size).drop (off+ds.length)++n.drop (i*e.size+e.size):=by
       rw[List.drop_take,AE];have:n.drop (i*e.size+e.size)=(n.drop (i*e.size+(off+ds.length))).drop (e.size-(off+ds.length)):=by rw[AE];congr 1;omega
       rw[this,X9];congr 1;omega
      rw[e1,e2];simp
     have V:HRel w0 F G ν ((id,.arr e (xs.set i d))::st.objs) st.nx W:=by
      refine A.turn (m:=[]) H (by simp) r (λI o ⟨e',h1,h2⟩=>h9 I o ⟨e',by omega,by omega⟩) ?_;refine SX bF K (by simpa using jH) U (by simpa using Y) h5 (r.rows.row _ _ ⟨l,R,C,S⟩) iB ?_ (λb o f=>.inl (h9 b o f));rw[←pD];exact FF h8 (us:=(a.eval y).cells.toList) (by rw[fi];exact r) B (by omega)
     refine⟨.skip,undef,W,G,ν,?_,.inr ⟨rfl,rfl⟩,?_⟩
     .simp only[execOp,ho,kW,U,Instr.storeAt,Instr.sureAddr,Sem.run_bind,Sem.run_pure,Result.andThen_ok,J]
     .rw[kV];exact D.on (λ_ _ _ f=>f) (λ_ _=>rfl) (Xm _) V D.gx
    .simp at h
   .split at h
    .rename_i bV;simp only[Xh,Wg]at bV;obtain⟨⟨⟨g,X⟩,vQ⟩,zJ⟩:=bV;subst vQ;split at h
     .rename_i d m hf;split at h
      .rename_i bs;injection h with h;subst h;have bs:(id::m).Nodup:=(CQ _).1 bs;obtain⟨uK,zK⟩:=cr.1 bs;obtain⟨⟨_,vM,b,K,kW⟩,_⟩:=E;obtain⟨φ,A⟩:=D.h;have bd:ah w (WC G w e) e.size (ν id) xs (φ id):=A.ob _ _ H;have ba:Live st.objs id:=⟨_,H,by simp⟩;obtain⟨jH,U,h3⟩:=bd;simp only[K]at h3;obtain⟨Y,h5,lZ,n,ps,Z,h8,h9,cU⟩:=h3;obtain⟨l,R,C,S⟩:=lZ;have L:i<xs.length:=by omega
       have O:(a.eval y).cells.toList.length=ds.length:=N.1;have eT:(a.eval y).cells.size=ds.length:=by simpa using O
       have zH:i*e.size+e.size<=xs.length*e.size:=by rw[←eY];exact fO _ L
       have zI:xs.length*e.size<=(ν id).cap*e.size:=fO _ Y;obtain⟨c1,c,c2,p1,pc,p2,g1,g2,g3,g4,g5⟩:=MQ Z e.dflt L;have l1:=gO (λx c q E=>WI e x c q E) _ _ _ g3;rw[dA,lB (by omega)]at l1;have lc:=WI _ _ _ _ g4;obtain⟨ns,t1,t2,t3,t4,_⟩:=fz (G':=G) A (λ_ _ _ f=>f) e ds _ d m [] N (λi hi=>by simp at hi) zK hf;have J:=KX (w:=w) (hT _ _ hl) (b:=b) (off:=(ν id).off+(i*e.size+0)) (v:=a.eval y) C (by rw[W1 X];omega) (by omega) nM;obtain⟨r,B⟩:=CR (k:=(ν id).off+(i*e.size+0)) (news:=(a.eval y).cells.toList) C (by omega);simp only[fi]at r B;generalize w.setRow b (l.toList.take ((ν id).off+(i*e.size+0))++(a.eval y).cells.toList++l.toList.drop ((ν id).off+(i*e.size+0)+(a.eval y).cells.size)).toArray=W at J r B;have j9:CS.le (rng b ((ν id).off+(i*e.size+0)) (a.eval y).cells.size) (rng b (ν id).off ((ν id).cap*e.size)):=λI o ⟨e',k1,k2⟩=>⟨e',by omega,by omega⟩;have jm:=cU _ (Xl ..);have jj:∀p∈p1++(pc++p2),∀b o,p.fp b o->b<w.heap.size:=λp z b o f=>A.bl id b o ba (cU p.fp (Xg _ (eB (by rw[g2];exact z))) b o f);obtain⟨q1,q2⟩:=Xu.1 h9;have kE:∀p∈p1++(pc++p2),Same p.fp w W:=λp z=>r.same ((q1 p.fp (eB (by rw[g2];exact z))).mono j9 (λ_ _ f=>f)) (jj p z);have ma:∀p∈ns,Same p.fp w W:=λp z=>r.same (λb o k1 k2=>by
        obtain⟨j,hj,k3,k4⟩:=t3 p z b o k2;have:=A.inj id j b o ba k3 (jm b o (j9 b o k1)) k4;subst this;exact uK hj) (λb o f=>by
        obtain⟨j,hj,k3,k4⟩:=t3 p z b o f;exact A.bl j b o k3 k4)
       have hEnc:cq (WC G W e) (xs.set i d) (c1++((a.eval y).cells.toList++c2)) (p1++(ns++p2)):=by
        refine UE L ?_ (kq (λ_ _ _ f=>f) e _ _ _ ma t1) ?_
        .exact oY (Q:=λq=>Same q.fp w W) (λx c q u E=>kq (λ_ _ _ f=>f) e x c q u E) _ _ _ (λq u=>kE q (Xo _ u)) g3
        .exact oY (Q:=λq=>Same q.fp w W) (λx c q u E=>kq (λ_ _ _ f=>f) e x c q u E) _ _ _ (λq u=>kE q (Xi _ (Xi _ u))) g5
       have hMem:Mem W b (ν id).off (c1++((a.eval y).cells.toList++c2)):=by
        have:=FF h8 (k:=i*e.size+0) (us:=(a.eval y).cells.toList) (by rw[fi];exact r) B (by rw[g1];simp;omega);rw[g1,c5,List.take_append_of_le_length (by omega),List.take_of_length_le (by omega)]at this;have rZ:(c1++(c++c2)).drop (i*e.size+(a.eval y).cells.toList.length)=c2:=by
         rw[←fq,show i*e.size+(a.eval y).cells.toList.length=(c1++c).length by rw[Xz];omega,List.drop_left]
        rw[rZ,fq]at this;exact this
       have V:HRel w0 F G ν ((id,.arr e (xs.set i d))::kill st.objs m) st.nx W:=by
        refine A.turn H (by simp) r (λI o f=>jm I o (j9 I o f)) ?_;refine⟨by simpa using jH,U,?_⟩;simp only[K];rw[g2,Xx,Xx]at q2 q1;have qA:=d0.1 q2;have qB:=d0.1 qA.2.1;have vR:∀p∈ns,∀s,CS.le s (φ id)->CS.disj p.fp s:=λp z s g b o k1 k2=>by
         obtain⟨j,hj,k3,k4⟩:=t3 p z b o k1;have:=A.inj id j b o ba k3 (g b o k2) k4;subst this;exact uK hj
        have cO:∀p∈p1++(pc++p2),CS.le p.fp (φ id):=λp z=>cU p.fp (Xg _ (eB (by rw[g2];exact z)));refine⟨by simpa using Y,h5,r.rows.row _ _ ⟨l,R,C,S⟩,_,p1++(ns++p2),hEnc,hMem,Xu.2 ⟨λs g=>?_,?_⟩,λs g=>?_⟩
        .simp only[Xx,Xp]at g;rcases g with g|g|g
         .exact q1 s (Xo _ g)
         .obtain⟨p,z,rfl⟩:=Xv.1 g;exact(vR p z _ jm).symm
         .exact q1 s (Xi _ (Xi _ g))
        .rw[Xx,Xx];refine TJ (d0.2 ⟨qA.1,qB.2.1,λs g t M=>qA.2.2 s g t (Xi _ M)⟩) t2 (λs g t M=>?_);obtain⟨p,z,rfl⟩:=Xv.1 g;rcases Xp.1 M with M|M
         .obtain⟨q,u,rfl⟩:=Xv.1 M;exact vR p z _ (cO q (Xo _ u))
         .obtain⟨q,u,rfl⟩:=Xv.1 M;exact vR p z _ (cO q (Xi _ (Xi _ u)))
        .intro b o f;rcases Xr.1 g with rfl|g
         .exact .inl (jm b o f)
         .simp only[Xx,Xp]at g;rcases g with g|g|g
          .obtain⟨q,u,rfl⟩:=Xv.1 g;exact .inl (cO q (Xo _ u) b o f)
          .obtain⟨q,u,rfl⟩:=Xv.1 g;exact .inr (t3 q u b o f)
          .obtain⟨q,u,rfl⟩:=Xv.1 g;exact .inl (cO q (Xi _ (Xi _ u)) b o f)
       refine⟨.skip,undef,W,G,ν,?_,.inr ⟨rfl,rfl⟩,?_⟩
       .simp only[execOp,ho,kW,U,Instr.storeAt,Instr.sureAddr,Sem.run_bind,Sem.run_pure,Result.andThen_ok,J]
       .rw[kV];exact D.on (λ_ _ _ f=>f) (λ_ _=>rfl) (Xm _) V D.gx
      .simp at h
     .simp at h
    .simp at h
  .simp at h
 .simp at h
end
theorem Wxu{G:GH}(t:Ty)(d:t.den)(cs:List Value)(h:Enc G t d cs):∀u∈cs,u.oneCell'=true:=λu e=>by
 obtain⟨j,c⟩:=NM e;have a:=ie (ν:=λ_=>⟨none,0,0,0,0⟩) (nx:=0) t d cs h;have b:j<(split t d).length:=by rw[←a.1];grind
 exact(a.2 j _ u (Xq b) c).2
theorem UB{G:GH}{t:Ty}:∀(l:List t.den) (cs:List Value),bG (Enc G t) l cs->∀u∈cs,u.oneCell'=true
 | [],cs,h,u,a=>by grind [bG]
 |x::l,cs,⟨e,b,d,f,c⟩,u,a=>by
  subst d;rcases Xp.1 a with a|a
  .grind [Wxu]
  .exact UB l b c u a
theorem WsT{G:GH}{w:World}(t:Ty)(d:t.den)(cs:List Value)(b:List Pc)(h:WC G w t d cs b):∀u∈cs,u.oneCell'=true:=λu f=>by
 obtain⟨j,e⟩:=NM f;have a:=F7 (ν:=λ_=>⟨none,0,0,0,0⟩) (nx:=0) t d cs b h;have c:j<(split t d).length:=by rw[←a.1];grind
 exact(a.2 j _ u (Xq c) e).2
theorem Tx{G:GH}{w:World}{t:Ty}:∀(l:List t.den) (cs:List Value) (b:List Pc),cq (WC G w t) l cs b->∀u∈cs,u.oneCell'=true
 | [],cs,b,h,u,a=>by rw[h.1]at a;simp at a
 |x::l,cs,b,⟨g,c,k,f,e,j,i,d⟩,u,a=>by
  subst e;rcases Xp.1 a with a|a
  .grind [WsT]
  .exact Tx l c f d u a
section
variable{w0:World}{F:CS}{nt:Slots}{G0 G:GH}{ν:Nat->Nu}{φ:Nat->CS}{objs:aa}{nx:Nat}{st ai:St}{a:Act}{w w':World}{P:Program}{T:Tab}
structure Src(w0:World)(F:CS)(G:GH)(ν:Nat->Nu)(st:St)(w:World)(e:Ty)(l:List e.den)(m:List Nat)(v:Value)(news:List Value):Prop where
 enc:∀φ,HR w0 F G ν φ st.objs st.nx w->∃ps,cq (WC G w e) l news ps/\Sep (ps.map Pc.fp)/\∀p∈ps,CS.le p.fp (FromL φ st.objs m)
 rd:(v= .slice none 0 0/\l= [])\/∃(p:Addr) (c:Nat),v= .slice (some p) l.length c/\∀(j:Nat) (u:Value),news[j]?=some u->w.cell? (p.add j)=some u
theorem o6{e:Ty}(a:e.data=true){l:List e.den}{m:List Nat}{v:Value}{news:List Value}(h:bG (Enc G e) l news)
  (rd:(v= .slice none 0 0/\l= [])\/∃(p:Addr) (c:Nat),v= .slice (some p) l.length c/\∀(j:Nat) (u:Value),news[j]?=some u->w.cell? (p.add j)=some u):Src w0 F G ν st w e l m v news:=
 ⟨λφ _=>⟨[],(qx a l news []).2 ⟨h,rfl⟩,List.Pairwise.nil,by simp⟩,rd⟩
theorem LJ(D:Rel w0 F nt G0 G ν st a w){e:Ty}(d:e.data=true){x:AVal}{u:Value}{l:List e.den}(m:List Nat)(t:AValRel G ν st.nx x u)(h:Nl st e x=some l):∃news,Src w0 F G ν st w e l m u news:=by
 unfold Nl at h;split at h
 .rename_i e' d';obtain⟨r,k⟩:=jB h;subst r;simp only at k;subst k;obtain⟨⟨v,i,M⟩,_⟩:=t;simp at i;subst i;rcases M with⟨rfl,s⟩|⟨b,E,o,p,rfl,y,H,z,A⟩|⟨J,o,rfl,s⟩
  rotate_left 2
  .exact⟨[],o6 d (by rw[s];rfl) (.inr ⟨J,o,by grind,λj u f=>by simp at f⟩)⟩
  .exact⟨[],o6 d (by rw[s];rfl) (.inl ⟨rfl,s⟩)⟩
  .exact⟨p,o6 d z (.inr ⟨⟨b,E,none⟩,o,rfl,λj u f=>by rw[gM];exact D.h.g (A j u f)⟩)⟩
 .injection h with h;subst h;obtain⟨i,_⟩:=t;simp only[CellRel]at i;subst i;exact⟨[],o6 d rfl (.inl ⟨rfl,rfl⟩)⟩
 .rename_i id;split at h
  .rename_i e' xs ho;obtain⟨r,k⟩:=jB h;subst r;simp only at k;subst k;obtain⟨⟨_,i⟩,_⟩:=t;subst i;obtain⟨S,n⟩:=D.h.obj ho;unfold Nu.hdr;cases hb:(ν id).blk with
   |none=>have:=qv n hb;exact⟨[],o6 d (by rw[this];rfl) (.inl ⟨rfl,this⟩)⟩
   |some b=>
    obtain⟨y,H,z,A,p,B,C,L⟩:=yE d n hb;exact⟨p,o6 d B (.inr ⟨⟨b,(ν id).off,none⟩,(ν id).cap,by rw[y],λj u f=>by rw[gM];exact C j u f⟩)⟩
  grind
 .rename_i id lo hi;split at h
  .rename_i e' xs ho;obtain⟨T,q,h⟩:=Xw.1 h;subst h;obtain⟨r,k⟩:=jB q;subst r;simp only at k;subst k;obtain⟨⟨_,O,P,Q,i⟩,_⟩:=t;subst i;obtain⟨S,n⟩:=D.h.obj ho;have K:=n.2.1;have R:=n.1;unfold Nu.vhdr;cases hb:(ν id).blk with
   |none=>
    have:=qv n hb;subst this;exact⟨[],o6 d (by simp;rfl) (.inl ⟨rfl,by simp⟩)⟩
   |some b=>
    obtain⟨y,H,z,A,p,B,C,L⟩:=yE d n hb;have I:((xs.take hi).drop lo).length=hi-lo:=by simp;omega
    by_cases N:(ν id).cap=lo
    .have h0:(xs.take hi).drop lo= []:=dV (by omega);exact⟨[],o6 d (by rw[h0];rfl) (.inr ⟨_,_,by rw[I],λj u f=>by simp at f⟩)⟩
    .refine⟨(p.take (hi*e'.size)).drop (lo*e'.size),o6 d (C8 (λx c q=>c0 e' x c q) _ _ lo (C9 (λx c q=>c0 e' x c q) _ _ hi B)) (.inr ⟨_,_,by rw[I,We N],λj u f=>?_⟩)⟩;rw[li,lm]at f;rw[gM,K,dB];split at f
     .exact C _ u f
     grind
  grind
 grind
theorem Vy(g:Rel w0 F nt G0 G ν st a w){dst:Option Tmp}(c:∀d,dst=some d->nt.Ok d)(e:Ty)(m:List Nat):
  ∃ν',Rel w0 F nt G0 G ν' (({env:=st.env,objs:=(st.nx,.arr e [])::kill st.objs m,nx:=st.nx+1}:St).put dst (.s (.one (.own st.nx)))) (a.put dst (.slice none 0 0)) w:=by
 refine⟨upd ν st.nx ⟨none,0,0,0,e.size⟩,g.fresh c m (.arr e []) _ (λ_ _ _=>False) _ _ (λφ _=>WLe.refl _ w) (λφ _ b o f=>f.elim) (λφ _=>?_) ⟨⟨j3 _,by rw[d7];rfl⟩,rfl⟩⟩;show ah _ _ _ (upd ν st.nx ⟨none,0,0,0,e.size⟩ st.nx) _ _;rw[d7];exact⟨rfl,rfl,rfl⟩
theorem Wjh(t ty e f:TypeId)(i:TypeInfo)(r:P.underlying t=some (.slice e))(hi:P.info? e=some i)
  (g off a d:Nat) (b:Array Value) (o:w.heap[g]?=some (.cells b f (0,0)))
  (p:Addr) (m c:Nat) (news:List Value) (q:news.length=m*i.size) (s:∀j u,news[j]?=some u->w.cell? (p.add j)=some u) (l:∀u∈news,u.oneCell'=true)
  (k:a+m<=d) (v:off+a*i.size+news.length<=b.size):
  (Builtin.append_ #[t,t] ty #[.slice (some ⟨g,off,none⟩) a d,.slice (some p) m c]).run P w=
   .ok (.slice (some ⟨g,off,none⟩) (a+m) d) (w.setRow g (b.toList.take (off+a*i.size)++news++b.toList.drop (off+a*i.size+news.length)).toArray):=by
 have n:=run_firstCells_some (P:=P) w i.size m p m c news q s;have h:=run_storeCells_at P g (off+a*i.size) f news 0 b w o (by omega) l;simp only[c5]at h;simp[Builtin.append_,Wl r,sizeOf,typeInfo,hi,Builtin.lenOf,k,n,gM,h]
theorem QN(t ty e:TypeId)(i:TypeInfo)(b:P.underlying t=some (.slice e))(hi:P.info? e=some i)(a:Option Addr)(n cap:Nat)(h:n<=cap):
  (Builtin.append_ #[t,t] ty #[.slice a n cap,.slice none 0 0]).run P w= .ok (.slice a n cap) w:=by
 cases a<;>simp[Builtin.append_,Wl b,sizeOf,typeInfo,hi,Builtin.lenOf,h,Builtin.firstCells,storeCells]
theorem Wjt(t ty e:TypeId)(i:TypeInfo)(a:P.underlying t=some (.slice e))(hi:P.info? e=some i)(p:Addr)(c:Nat):
  (Builtin.append_ #[t,t] ty #[.slice none 0 0,.slice (some p) 0 c]).run P w= .ok (.slice none 0 0) w:=by
 simp[Builtin.append_,Wl a,sizeOf,typeInfo,hi,Builtin.lenOf,Builtin.firstCells,loadCells,loadCellsFrom]
theorem yB{o:Oper}{c:Call}(j:o.op= .call c){s x:Operand}{t:TypeId}(h:c.callee= .builtin .append)(g:c.args.toList= [s,x])(f:c.argTypes.toList= [t,t]){v:Value}
  (i:(Builtin.append_ #[t,t] o.type #[a.eval s,a.eval x]).run P w= .ok v w'):(execOp a.eval o).run P w= .ok (.value v) w':=by
 obtain⟨e,d,b⟩:=c;obtain⟨d⟩:=d;obtain⟨b⟩:=b;simp only at h g f;subst h g f;simp only[execOp,j,resolve,invoke,builtin,Sem.run_bind,Sem.run_pure,Result.andThen_ok,AF,bz,eX,i]
theorem VY(w:World)(a b:Nat)(e:TypeId)(h:Wx a=true):a<=grownCap w a b e/\grownCap w a b e<=maxLen:=
 ⟨grownCap_ge w a b e,grownCap_le_maxLen w a b e (by grind [Wx,maxLen])⟩
theorem SK(h:Rel w0 F nt G0 G ν st a w){dst:Option Tmp}(f:∀d,dst=some d->nt.Ok d)(m:List Nat){e:Ty}{xs:List e.den}{cs:List Value}(g:cs.length=xs.length*e.size)
  (c:∀φ,HR w0 F G ν φ st.objs st.nx w->∃b,cq (WC G w e) xs cs b/\Sep (b.map Pc.fp)/\∀p∈b,CS.le p.fp (FromL φ st.objs m)) {cap:Nat} (j:xs.length<=cap) (k:cap<=maxLen) (z:Array Value) (i:z.size=e.size) (t:TypeId):
  ∃ν',Rel w0 F nt G0 G ν' (({env:=st.env,objs:=(st.nx,.arr e xs)::kill st.objs m,nx:=st.nx+1}:St).put dst (.s (.one (.own st.nx)))) (a.put dst (.slice (some ⟨w.heap.size,0,none⟩) xs.length cap)) (w.drew.alloc (.cells (cs.toArray++Builtin.zeroCells z (cap-xs.length)) t)):=by
 refine(F8 h f m (e:=e) (xs:=xs) (cap:=cap) (cs:=cs) (vs:=cs.toArray++Builtin.zeroCells z (cap-xs.length)) (t:=t) j k ?_ c ?_ w.drew rfl rfl rfl rfl).1
 .simp only[Array.size_append,List.size_toArray,size_zeroCells,i,g,←j8];simp_all
 .simp
structure ElT(P:Program)(t et:TypeId)(e:Ty):Prop where
 u:P.underlying t=some (.slice et)
 i:∃i z,P.info? et=some i/\i.size=e.size/\i.zero=some z/\z.cells.size=e.size/\i.bytes<=4096
theorem elT(f:ao P T){t a:TypeId}{ty:Ty}{j:Bool}{b:TE}{e:Ty}(m:Wt T t=some ⟨ty,j,.slice a⟩)(k:Wt T a=some b)(h:b.plain=true)(g:b.ty.size=e.size):ElT P t a e:=by
 obtain⟨i,z,l,c,n,d,o⟩:=(f _ _ k).info;rw[W1 h]at c;rw[tN h]at d;exact⟨(f _ _ m).und.2.1,i,z,l,by rw[c,g],n,by rw[←fi,d,mU,g],o⟩
theorem CN(j:Rel w0 F nt G0 G ν st a w){o:Oper}(y:∀d,o.dst=some d->nt.Ok d){c:Call}{s x:Operand}{t r:TypeId}{e:Ty}(H:ElT P t r e)
  (A:o.op= .call c) (v:c.callee= .builtin .append) (u:c.args.toList= [s,x]) (n:c.argTypes.toList= [t,t]) (Y:a.eval s= .slice none 0 0)
  {l:List e.den} {m m':List Nat} {news:List Value} (g:Src w0 F G ν st w e l m (a.eval x) news) (I:∀i∈m,i∈m') (D:Wx l.length=true):
  Done P w0 F nt G0 o a w (({env:=st.env,objs:=(st.nx,.arr e l)::kill st.objs m',nx:=st.nx+1}:St).put o.dst (.s (.one (.own st.nx)))):=by
 obtain⟨hu,i,z,hi,W,hz,K,R⟩:=H;have U:l.length<=1073741824:=by grind [Wx]
 have Z:=lP e;rcases g.rd with⟨C,k⟩|⟨pa,X,C,V⟩
 .subst k;obtain⟨ν',f⟩:=Vy j y e m';exact⟨_,_,_,G,ν',yB A v u n (by simp_all [QN,Xm]),.inl rfl,f⟩
 .by_cases h0:l.length=0
  .have k:l= []:=dV h0;subst k;obtain⟨ν',f⟩:=Vy j y e m';exact⟨_,_,_,G,ν',yB A v u n (by grind [Wjt]),.inl rfl,f⟩
  .obtain⟨φ,B⟩:=j.h;obtain⟨zL,E,_⟩:=g.enc φ B;have O:news.length=l.length*e.size:=gO (λx c q g=>WI e x c q g) _ _ _ E;obtain⟨T,Q⟩:=VY w l.length 0 r D;obtain⟨ν',f⟩:=SK j y m' O (λφ B=>by
    obtain⟨S,L,M,N⟩:=g.enc φ B;exact⟨S,L,M,λp J b o f=>FromL.mono I b o (N p J b o f)⟩) T Q z.cells K r
   have yF:l.length*i.bytes<=281474976710656:=by
    have:=Nat.mul_le_mul U R;omega
   refine⟨_,_,_,G,ν',yB A v u n ?_,.inl rfl,f⟩
   grind [run_append_nil]
theorem yW{e:Ty}{nu:Nu}{xs:List e.den}{S:CS}{b k:Nat}(h:ah w (WC G w e) e.size nu xs S)(y:nu.blk=some b)(z:k<=xs.length):
  ∃a d,cq (WC G w e) (xs.take k) a d/\a.length=k*e.size/\Mem w b nu.off a/\Sep (rng b nu.off (nu.cap*e.size)::d.map Pc.fp)/\(∀s∈rng b nu.off (nu.cap*e.size)::d.map Pc.fp,CS.le s S):=by
 obtain⟨E,F,g⟩:=h;simp only[y]at g;obtain⟨H,I,J,p,B,u,i,v,o⟩:=g;obtain⟨a,C,d,K,r,t,f,D⟩:=C6 xs p B k u;have j:=gO (λx c q A=>WI e x c q A) _ _ _ f;rw[dA,lB z]at j;obtain⟨m,n⟩:=Xu.1 v;rw[t,Xx]at m n o;refine⟨a,d,f,j,by rw[r]at i;exact i.left,Xu.2 ⟨λs l=>m s (Xo _ l),(d0.1 n).1⟩,λs l=>?_⟩
 grind
theorem KO(hr:Rel w0 F nt G0 G ν st a w){o:Oper}(hd:∀d,o.dst=some d->nt.Ok d){c:Call}{s x:Operand}{t X:TypeId}{e:Ty}(hE:ElT P t X e)
  (ho:o.op= .call c) (hc:c.callee= .builtin .append) (ha:c.args.toList= [s,x]) (eP:c.argTypes.toList= [t,t])
  {id g k:Nat} {xs:List e.den} (O:Wt st.objs id=some (.arr e xs)) (R:(ν id).blk=some g) (hk:k<=xs.length) (eV:a.eval s= .slice (some ⟨g,(ν id).off,none⟩) k (ν id).cap)
  {l:List e.den} {m:List Nat} {news:List Value} (C:Src w0 F G ν st w e l m (a.eval x) news) (hm:id∉m) (aw:Wx (k+l.length)=true):
  Done P w0 F nt G0 o a w (({env:=st.env,objs:=(st.nx,.arr e (Xf (xs.take k) l))::kill st.objs (id::m),nx:=st.nx+1}:St).put o.dst (.s (.one (.own st.nx)))):=by
 obtain⟨hu,i,z,hi,K,hz,jZ,pC⟩:=hE;have vT:k+l.length<=1073741824:=by grind [Wx]
 have hZ:=lP e;have af:(Xf (xs.take k) l).length=k+l.length:=by show(xs.take k++l).length=_;rw[Xz,dA,lB hk]
 obtain⟨φ0,hφ0⟩:=hr.h;have kF:ah w (WC G w e) e.size (ν id) xs (φ0 id):=hφ0.ob _ _ O;have oO:=kF.2.2;simp only[R]at oO;obtain⟨hxc,kX,⟨E,TT,iD,bu⟩,_⟩:=oO;obtain⟨c1,yG,_,sa,sb,_,_⟩:=yW kF R hk;obtain⟨zL,e0,_⟩:=C.enc φ0 hφ0;have M:news.length=l.length*e.size:=gO (λx c q C=>WI e x c q C) _ _ _ e0;have J:Live st.objs id:=⟨_,O,by simp⟩;have sc:∀{U:List Value},U.length=k*e.size->Mem w g (ν id).off U->U=c1:=λ{U} D H=>NI λj=>by
  by_cases u:j<k*e.size
  .have oP:j<U.length:=by omega
   have uL:j<c1.length:=by omega
   have a1:=H j _ (Xq oP);have a2:=sb j _ (Xq uL);simp_all
  simp_all
 have y:∀(W:World),WLe (rng g ((ν id).off+k*e.size) (l.length*e.size)) w W->Mem W g ((ν id).off+k*e.size) news->k+l.length<=(ν id).cap->
   ∃ν',Rel w0 F nt G0 G ν' (({env:=st.env,objs:=(st.nx,.arr e (Xf (xs.take k) l))::kill st.objs (id::m),nx:=st.nx+1}:St).put o.dst (.s (.one (.own st.nx)))) (a.put o.dst (.slice (some ⟨g,(ν id).off,none⟩) (k+l.length) (ν id).cap)) W:=by
  intro W hW hM V;have lX:(k+l.length)*e.size<=(ν id).cap*e.size:=fO _ V;rw[j8]at lX;have j9:CS.le (rng g ((ν id).off+k*e.size) (l.length*e.size)) (rng g (ν id).off ((ν id).cap*e.size)):=λb o ⟨k0,k1,k2⟩=>⟨k0,by omega,by omega⟩;refine⟨upd ν st.nx ⟨some g,(ν id).off,k+l.length,(ν id).cap,e.size⟩,hr.fresh hd (id::m) (.arr e (Xf (xs.take k) l)) _ (λφ b o=>φ id b o\/FromL φ st.objs m b o) _ _ (λφ B=>?_) (λφ B b o f=>?_) (λφ B=>?_) ⟨⟨j3 _,by rw[d7];rfl⟩,rfl⟩⟩
  .have T:ah w (WC G w e) e.size (ν id) xs (φ id):=B.ob _ _ O;obtain⟨_,_,_,_,_,_,bp⟩:=yW T R hk;exact hW.mono λb o f=>⟨id,.inr (Xl ..),J,bp _ (Xl ..) b o (j9 b o f)⟩
  .rcases f with f|⟨j,u,D,H⟩
   .exact .inl ⟨id,.inr (Xl ..),J,f⟩
   .exact .inl ⟨j,.inr (Xg _ u),D,H⟩
  .have T:ah w (WC G w e) e.size (ν id) xs (φ id):=B.ob _ _ O;obtain⟨rc,N,g3,g4,g5,g6,g7⟩:=yW T R hk;obtain⟨ps,k1,k2,L⟩:=C.enc φ B;obtain⟨q1,q2⟩:=Xu.1 g6;have jm:=g7 _ (Xl ..);have oQ:∀p∈N,CS.le p.fp (φ id):=λp r=>g7 _ (Xg _ (eB r));have se:∀p∈ps,∀S,CS.le S (φ id)->CS.disj S p.fp:=λp r S hS b o D H=>by
    obtain⟨j,u,Y,Z⟩:=L p r b o H;have:=B.inj id j b o J Y (hS b o D) Z;simp_all
   have kE:∀p∈N,Same p.fp w W:=λp r=>hW.same ((q1 p.fp (eB r)).mono j9 (λ_ _ f=>f)) (λb o f=>B.bl id b o J (oQ p r b o f));have ma:∀p∈ps,Same p.fp w W:=λp r=>hW.same (se p r _ (λb o f=>jm b o (j9 b o f))) (λb o f=>by
    obtain⟨j,u,Y,Z⟩:=L p r b o f;exact B.bl j b o Y Z)
   show ah W (WC G W e) e.size (upd ν st.nx ⟨some g,(ν id).off,k+l.length,(ν id).cap,e.size⟩ st.nx) _ _;rw[d7];refine⟨af,rfl,by simp_all,kX,hW.rows.row _ _ ⟨E,TT,iD,bu⟩,rc++news,N++ps,Fi _ _ _ _ _ _ ?_ ?_,?_,Xu.2 ⟨λs A=>?_,?_⟩,λs A b o f=>?_⟩
   .exact oY (Q:=λq=>Same q.fp w W) (λx c q I C=>kq (λ_ _ _ f=>f) e x c q I C) _ _ _ kE g3
   .exact oY (Q:=λq=>Same q.fp w W) (λx c q I C=>kq (λ_ _ _ f=>f) e x c q I C) _ _ _ ma k1
   .refine Mem.app (n:=k*e.size) (λj v u=>?_) hM g4;have D:=g5 j v u;have gh:j<rc.length:=(dp.1 u).1;rw[hW.cell g ((ν id).off+j) (block_lt_of_cell D) (λ⟨_,H,_⟩=>by omega)];exact D
   .grind
   .rw[Xx];refine d0.2 ⟨q2,k2,λs A t ht=>?_⟩
    grind
   .rcases Xr.1 A with rfl|A
    .exact .inl (jm b o f)
    .rw[Xx]at A;rcases Xp.1 A with A|A
     .obtain⟨p,r,rfl⟩:=Xv.1 A;exact .inl (oQ p r b o f)
     .obtain⟨q,I,rfl⟩:=Xv.1 A;exact .inr (L q I b o f)
 rcases C.rd with⟨aU,ce⟩|⟨pa,cc,aU,bR⟩
 .have ra:l.length=0:=by simp_all
  have uI:news= []:=dV (by simp_all);obtain⟨ν',f⟩:=y w (WLe.refl _ w) (by rw[uI];exactλj v u=>by simp at u) (by omega);refine⟨_,_,_,G,ν',yB ho hc ha eP ?_,.inl rfl,f⟩
  grind [QN]
 .by_cases V:k+l.length<=(ν id).cap
  .have vU:(k+l.length)*e.size<=(ν id).cap*e.size:=fO _ V;rw[j8]at vU;have bB:=Wjh (P:=P) (w:=w) t o.type X TT i hu hi g (ν id).off k (ν id).cap E iD pa l.length cc news (by rw[K];exact M) (λj v u=>bR j v u) (Tx _ _ _ e0) V (by rw[K,M];omega);obtain⟨hw,nO⟩:=CR (k:=(ν id).off+k*i.size) (news:=news) iD (by rw[K,M];omega);generalize w.setRow g (E.toList.take ((ν id).off+k*i.size)++news++E.toList.drop ((ν id).off+k*i.size+news.length)).toArray=W at bB hw nO;rw[K]at hw nO;rw[M]at hw;obtain⟨ν',f⟩:=y W hw nO V;exact⟨_,_,_,G,ν',yB ho hc ha eP (by rw[eV,aU,bB]),.inl rfl,f⟩
  .obtain⟨uH,nL⟩:=VY w (k+l.length) (ν id).cap X aw;have dz:(c1++news).length=(Xf (xs.take k) l).length*e.size:=by rw[Xz,sa,M,af,j8]
   obtain⟨ν',f⟩:=SK hr hd (id::m) (xs:=Xf (xs.take k) l) dz (λφ B=>by
    have T:ah w (WC G w e) e.size (ν id) xs (φ id):=B.ob _ _ O;obtain⟨rc,N,g3,g4,g5,g6,g7⟩:=yW T R hk;obtain⟨ps,k1,k2,L⟩:=C.enc φ B;have:=sc g4 g5;subst this;obtain⟨q1,q2⟩:=Xu.1 g6;have oQ:∀p∈N,CS.le p.fp (φ id):=λp r=>g7 _ (Xg _ (eB r));refine⟨N++ps,Fi _ _ _ _ _ _ g3 k1,?_,λp r b o f=>?_⟩
    .rw[Xx];refine d0.2 ⟨q2,k2,λs A t ht=>?_⟩;obtain⟨p,r,rfl⟩:=Xv.1 A;obtain⟨q,I,rfl⟩:=Xv.1 ht;intro b o D H;obtain⟨j,u,Y,Z⟩:=L q I b o H;have:=B.inj id j b o J Y (oQ p r b o D) Z;subst this;exact hm u
    .rcases Xp.1 r with r|r
     .exact⟨id,Xl ..,J,oQ p r b o f⟩
     .exact FromL.mono (λi hi=>Xg _ hi) b o (L p r b o f)) (by rw[af];exact uH) nL z.cells jZ X
   have yF:(k+l.length)*i.bytes<=140737488355328:=by
    have:=Nat.mul_le_mul vT pC;omega
   have bB:=run_append_grow (P:=P) w t o.type X i z hu hi hz ⟨g,(ν id).off,none⟩ k (ν id).cap c1 (by rw[K];exact sa) (λj v u=>by rw[gM];exact sb j v u) pa l.length cc news (by rw[K];exact M) (λj v u=>bR j v u) (by omega) (by omega) (growslice_fits (by omega) yF);refine⟨_,_,_,G,ν',yB ho hc ha eP ?_,.inl rfl,f⟩;rw[eV,aU,bB,af];simp
theorem L6{a:Nat}{e:Ty}{xs:List e.den}(d:HRel w0 F G ν objs nx w)(c:Wt objs a=some (.arr e xs)):
  ((ν a).blk=none/\xs= []/\(ν a).hdr= .slice none 0 0)\/∃g,(ν a).blk=some g/\(ν a).hdr= .slice (some ⟨g,(ν a).off,none⟩) xs.length (ν a).cap:=by
 obtain⟨S,b⟩:=d.obj c;unfold Nu.hdr;cases hb:(ν a).blk with
 |none=>exact .inl ⟨rfl,qv b hb,rfl⟩
 |some g=>exact .inr ⟨g,rfl,by rw[b.1]⟩
theorem WnX(Z:ao P T)(n:Rel w0 F nt G0 G ν st a w){o:Oper}(M:∀d,o.dst=some d->nt.Ok d){c:Call}{s x:Operand}{t J:TypeId}{ty:Ty}{S:TE}{sv U:AVal}{R:Type}{k:St->Option R}{r:R}
  (hl:Wt T t=some ⟨ty,false,.slice J⟩) (W:Wt T J=some S) (C:S.plain=true)
  (O:o.op= .call c) (L:c.callee= .builtin .append) (K:c.args.toList= [s,x]) (I:c.argTypes.toList= [t,t]) (hs:ev st s=some sv) (hx:ev st x=some U)
  (h:qL st S.ty sv U (λx objs nx=>k (({env:=st.env,objs:=objs,nx:=nx}:St).put o.dst x))=some r):∃ai,k ai=some r/\Done P w0 F nt G0 o a w ai:=by
 have v:∀(e:Ty) (l:List e.den) (m:List Nat),GU st e U=some (l,m)->∃news,Src w0 F G ν st w e l m (a.eval x) news:=λe l m f=>by
  unfold GU at f;split at f
  .simp only[Option.some.injEq,Prod.mk.injEq]at f;obtain⟨rfl,rfl⟩:=f;obtain⟨D,_⟩:=WO n x _ hx;exact⟨[],λφ _=>⟨[],⟨rfl,rfl⟩,List.Pairwise.nil,by simp⟩,.inl ⟨D,rfl⟩⟩
  .rename_i id;split at f
   .rename_i e' xs y;obtain⟨ys,bW,f⟩:=Xw.1 f;have h2:=Prod.mk.inj f;obtain⟨h3,h4⟩:=h2;subst h3 h4;obtain⟨nN,yH⟩:=jB bW;subst nN;simp only at yH;subst yH;obtain⟨⟨_,D⟩,_⟩:=WO n x _ hx;have ba:Live st.objs id:=⟨_,y,by simp⟩;rcases L6 n.h y with⟨z,H,q⟩|⟨g,z,q⟩
    .subst H;exact⟨[],λφ _=>⟨[],⟨rfl,rfl⟩,List.Pairwise.nil,by simp⟩,.inl ⟨by rw[D,q],rfl⟩⟩
    .obtain⟨φ0,Q⟩:=n.h;have kF:ah w (WC G w e') e'.size (ν id) xs (φ0 id):=Q.ob _ _ y;obtain⟨c1,p1,g1,g2,X,g4,g5⟩:=yW kF z (Xm _);refine⟨c1,λφ hφ=>?_,.inr ⟨⟨g,(ν id).off,none⟩,(ν id).cap,by rw[D,q],λj u hj=>by rw[gM];exact X j u hj⟩⟩;have bd:ah w (WC G w e') e'.size (ν id) xs (φ id):=hφ.ob _ _ y;obtain⟨rc,zM,k1,k2,k3,k4,k5⟩:=yW bd z (Xm _);have:rc=c1:=NI λj=>by
      by_cases hj:j<xs.length*e'.size
      .have oP:j<rc.length:=by omega
       have uL:j<c1.length:=by omega
       have a1:=k3 j _ (Xq oP);have V:=X j _ (Xq uL);rw[a1]at V;rw[Xq oP,Xq uL];exact V
      .rw[gw (by omega),gw (by omega)]
     subst this;rw[nY]at k1;exact⟨zM,k1,(Xu.1 k4).2,λp C b o q=>⟨id,cw.2 rfl,ba,k5 _ (Xg _ (eB C)) b o q⟩⟩
   .simp at f
  .simp at f
 unfold qL at h;split at h
 .split at h
  .rename_i e sh;split at h
   .rename_i he;split at h
    .rename_i l m f;obtain⟨news,A⟩:=v e l m f;cases aw:Wx l.length with
     |false=>simp[aw]at h
     |true=>
      simp[aw]at h;obtain⟨B,_⟩:=WO n s _ hs;exact⟨_,h,CN n M (elT Z hl W C (by rw[←he,gX])) O L K I B A (λi N=>N) aw⟩
    .simp at h
   .simp at h
  .simp at h
 .rename_i id;split at h
  .rename_i e xs y;split at h
   .rename_i he;split at h
    .rename_i l m f;obtain⟨news,A⟩:=v e l m f;split at h
     .rename_i E;have E:=(cr.1 ((CQ _).1 E)).1;cases aw:Wx (xs.length+l.length)with
      |false=>simp[aw]at h
      |true=>
       simp[aw]at h;refine⟨_,h,?_⟩;have Y:ElT P t J e:=elT Z hl W C (by rw[←he,gX]);obtain⟨⟨_,B⟩,_⟩:=WO n s _ hs;rcases L6 n.h y with⟨z,H,q⟩|⟨g,z,q⟩
       .subst H;exact CN n M Y O L K I (by rw[B,q]) A (λi N=>Xg _ N) (by simpa [Wx]using aw)
       .have:=KO n M Y O L K I y z (Xm _) (by rw[B,q]) A E aw;rw[nY]at this;exact this
     .simp at h
    .simp at h
   .simp at h
  .simp at h
 .simp at h
theorem WoS(M:ao P T)(b:Rel w0 F nt G0 G ν st a w){o:Oper}(y:∀d,o.dst=some d->nt.Ok d){c:Call}{s x:Operand}{t O:TypeId}{I J:AVal}{R:Type}{k:St->Option R}{r:R}
  (z:o.op= .call c) (v:c.callee= .builtin .append) (u:c.args.toList= [s,x]) (q:c.argTypes.toList= [t,O]) (C:ev st s=some I) (D:ev st x=some J)
  (h:t8 T st t O I J (λx objs nx=>k (({env:=st.env,objs:=objs,nx:=nx}:St).put o.dst x))=some r):∃ai,k ai=some r/\Done P w0 F nt G0 o a w ai:=by
 unfold t8 at h;split at h
 .rename_i ty et _ hl _;split at h
  .rename_i te bp;split at h
   .rename_i bV;obtain⟨rfl,N,E⟩:=bV;have A:ElT P t et te.ty:=elT M hl bp N rfl;cases jo:G3 st I J with
    |false=>
     simp only[jo,Bool.not_false,Wa]at h;exact WnX M b y hl bp N z v u q C D h
    |true=>
    simp only[jo,Bool.not_true,Wb]at h;split at h
    .rename_i l eT;cases aw:Wx l.length with
     |false=>simp[aw]at h
     |true=>
      simp[aw]at h;obtain⟨e,_⟩:=WO b s _ C;obtain⟨j,m⟩:=LJ b E [] (WO b x _ D) eT;exact⟨_,h,CN (m':=[]) b y A z v u q e m (λi p=>p) aw⟩
    .rename_i id l eT;split at h
     .rename_i e0 xs aM;split at h
      .rename_i ys bW;obtain⟨n,B⟩:=K5 bW;injection n with n;subst n;simp only at B;subst B;cases aw:Wx (Xb xs+l.length)with
       |false=>simp[aw]at h
       |true=>
        simp[aw]at h;refine⟨_,h,?_⟩;obtain⟨⟨_,e⟩,_⟩:=WO b s _ C;obtain⟨j,m⟩:=LJ b E [] (WO b x _ D) eT;rcases L6 b.h aM with⟨f,L,H⟩|⟨g,f,H⟩
        .subst L;exact CN (m':=[id]) b y A z v u q (by rw[e,H]) m (λi p=>by simp at p) (by simpa [Wx]using aw)
        .have:=KO b y A z v u q aM f (Xm _) (by rw[e,H]) m (by simp) aw;rw[nY]at this;exact this
      .simp at h
     .simp at h
    .rename_i id p l eT;split at h
     .rename_i e0 xs aM;split at h
      .rename_i ys bW;obtain⟨n,B⟩:=K5 bW;injection n with n;subst n;simp only at B;subst B;cases aw:Wx (p+l.length)with
       |false=>simp[aw]at h
       |true=>
        simp[aw]at h;refine⟨_,h,?_⟩;obtain⟨⟨_,W,Q,U,e⟩,_⟩:=WO b s _ C;obtain⟨j,m⟩:=LJ b E [] (WO b x _ D) eT;obtain⟨S,K⟩:=b.h.obj aM;unfold Nu.vhdr at e;cases f:(ν id).blk with
        |none=>
         have L:=qv K f;simp only[f]at e;have V:=U f;subst V;show Done P w0 F nt G0 o a w (({env:=st.env,objs:=(st.nx,.arr te.ty l)::(id,.dead)::st.objs,nx:=st.nx+1}:St).put o.dst (.s (.one (.own st.nx))));exact CN (m':=[id]) b y A z v u q e m (λi p=>by simp at p) (by simpa [Wx]using aw)
        |some g=>
         simp only[f,Nat.sub_zero,Ec,c5,ite_self]at e;exact KO b y A z v u q aM f (by rw[K.1];exact Q) e m (by simp) aw
      .simp at h
     .simp at h
    .simp at h
   .simp at h
  .simp at h
 .simp at h
end
section
variable{w0:World}{F:CS}{nt:Slots}{G0 G:GH}{ν:Nat->Nu}{φ:Nat->CS}{objs:aa}{nx:Nat}{st ai:St}{a:Act}{w w':World}{P:Program}{T:Tab}
theorem LH{t e:TypeId}{c:TE}{nu:Nu}{n:Nat}{lo hi:Option Int}{k j:Option Value}(i:P.underlying t=some (.slice e))(d:TEok P T e c)(A:c.plain=true)(o:nu.esz=c.ty.size)
  (y:n<=nu.cap) (z:n=nu.len) (l:nu.blk=none->n=0) (h:BRel lo k) (g:BRel hi j) (f:(aI n lo hi).1=true):
  (Instr.sliceAt t nu.hdr k j none).run P w= .ok (nu.vhdr (aI n lo hi).2.1 (aI n lo hi).2.2) w/\(aI n lo hi).2.1<=(aI n lo hi).2.2/\(aI n lo hi).2.2<=n:=by
 unfold Nu.hdr Nu.vhdr;cases hk:nu.blk with
 |none=>
  have u:=l hk;subst u;obtain⟨a,B,C⟩:=yw (P:=P) (w:=w) (isSlice:=true) (cap:=0) h g (Xm _) f;have r:(aI 0 lo hi).2.2=0:=by omega
  have s:(aI 0 lo hi).2.1=0:=by omega
  rw[r,s]at a⊢;refine⟨?_,Xm _,Xm _⟩;simp[Instr.sliceAt,Instr.slice,Wl i,a,d.sizeOf]
 |some b=>
  obtain⟨a,v,x⟩:=yw (P:=P) (w:=w) (isSlice:=true) (cap:=nu.cap) h g y f;refine⟨?_,v,x⟩;rw[←z];generalize (aI n lo hi).2.1=p at*;generalize (aI n lo hi).2.2=q at*;have m:c.size=nu.esz:=by rw[W1 A,o]
  simp only[Instr.sliceAt,Instr.slice,Sem.run_bind,Wl i,Result.andThen_ok,a,d.sizeOf,Sem.run_pure,m,lr,gM];split<;>rfl
theorem Vm{a:Nat}{e:Ty}{xs:List e.den}{S:CS}(h:dt G ν nx w a S (.arr e xs)):((ν a).blk=none->xs.length=0)/\((ν a).blk≠none->xs.length<=(ν a).cap):=by
 refine⟨λb=>by rw[qv h b];rfl,λb=>?_⟩;obtain⟨_,_,c⟩:=h
 grind
theorem TG{t f:TypeId}{d:TE}{a:Nat}{e:Ty}{xs:List e.den}{S:CS}(c:dt G ν nx w a S (.arr e xs)){lo hi:Option Int}{i h:Option Value}(y:P.underlying t=some (.slice f))(l:TEok P T f d)(x:d.plain=true)(s:d.ty.size=e.size)
  (v:BRel lo i) (u:BRel hi h) (r:(aI xs.length lo hi).1=true):
  (Instr.sliceAt t (ν a).hdr i h none).run P w= .ok ((ν a).vhdr (aI xs.length lo hi).2.1 (aI xs.length lo hi).2.2) w/\(aI xs.length lo hi).2.1<=(aI xs.length lo hi).2.2/\(aI xs.length lo hi).2.2<=xs.length:=by
 obtain⟨o,A⟩:=Vm c;have j:=c.1;have k:=c.2.1;cases hk:(ν a).blk with
 |some b=>grind [LH]
 |none=>
  have g:=o hk;have z:xs= []:=dV g;have m:(ν a).hdr=(⟨none,(ν a).off,(ν a).len,0,(ν a).esz⟩:Nu).hdr:=by grind [Nu.hdr]
  have n:∀p q,(ν a).vhdr p q=(⟨none,(ν a).off,(ν a).len,0,(ν a).esz⟩:Nu).vhdr p q:=λp q=>by grind [Nu.vhdr]
  rw[m,n];exact LH y l x (by show(ν a).esz=_;rw[k,s]) (by omega) j (λ_=>g) v u r
theorem Lc{o:Oper}{t:TypeId}{x:Operand}{lo hi:Option Operand}{v:Value}(b:o.op= .slice t x lo hi none)(h:(Instr.sliceAt t (a.eval x) (lo.map a.eval) (hi.map a.eval) none).run P w= .ok v w):(execOp a.eval o).run P w= .ok (.value v) w:=by
 grind [execOp,Sem.run_bind,Result.andThen_ok,Sem.run_pure]
theorem WtE(j:ao P T)(c:Rel w0 F nt G0 G ν st a w){o:Oper}(z:∀d,o.dst=some d->nt.Ok d){t i:TypeId}{ty:Ty}{f:TE}{x:Operand}{lo hi:Option Operand}(B:o.op= .slice t x lo hi none)
  {m:Nat} {l h:Option Int} {R:Type} {k:St->Option R} {r:R} (D:ev st x=some (.s (.one (.own m)))) (A:Wt T t=some ⟨ty,false,.slice i⟩) (n:Wt T i=some f) (C:f.plain=true) (v:fe st lo=some l) (y:fe st hi=some h)
  (b:nn st f.ty m l h (λx objs nx=>k (({env:=st.env,objs:=objs,nx:=nx}:St).put o.dst x))=some r):∃ai,k ai=some r/\Done P w0 F nt G0 o a w ai:=by
 unfold nn at b;split at b
 .rename_i e xs aM;split at b
  case isFalse=>simp at b
  rename_i H;cases hb:(aI (Xb xs) l h).1 with
  |false=>simp_all
  |true=>
   simp only[hb,Wa]at b;refine⟨_,b,?_⟩;obtain⟨⟨p,J⟩,_⟩:=WO c x _ D;obtain⟨S,g⟩:=c.h.obj aM;have E:=qE c lo _ v;have I:=qE c hi _ y;obtain⟨K,q,u⟩:=TG (w:=w) g (j _ _ A).und.2.1 (j _ _ n) C (by rw[H,gX]) E I hb;refine⟨_,_,w,G,ν,Lc B (by simp_all),.inl rfl,c.put z ⟨⟨p,q,by rw[←g.1];exact u,λL=>?_,rfl⟩,UQ _ _ _⟩⟩
   grind [Vm]
 grind
theorem G5(n:Nu)(h:Nat):n.part 0 h=⟨n.blk,n.off,h,n.cap,n.esz⟩:=by
 unfold Nu.part;simp
theorem XU(n:Nu)(h:Nat):n.vhdr 0 h=(⟨n.blk,n.off,h,n.cap,n.esz⟩:Nu).hdr:=by
 rw[←G5,LS]
theorem WrH(l:ao P T)(c:Rel w0 F nt G0 G ν st a w){o:Oper}(C:∀d,o.dst=some d->nt.Ok d){t j:TypeId}{ty:Ty}{x:Operand}{lo hi:Option Operand}(H:o.op= .slice t x lo hi none)
  {id:Nat} {e:Ty} {xs:List e.den} {i:TE} {h:Int} (J:ev st x=some (.s (.one (.own id)))) (E:Wt T t=some ⟨ty,false,.slice j⟩) (r:Wt T j=some i) (I:i.plain=true) (D:i.ty=e.ro) (f:Wt st.objs id=some (.arr e xs)) (n:fe st lo=some none) (g:fe st hi=some (some h))
  (z:0<=h) (A:h<=(xs.length:Int)):Done P w0 F nt G0 o a w (({env:=st.env,objs:=(st.nx,.arr e (xs.take h.toNat))::kill st.objs [id],nx:=st.nx+1}:St).put o.dst (.s (.one (.own st.nx)))):=by
 obtain⟨⟨N,y⟩,_⟩:=WO c x _ J;obtain⟨S,q⟩:=c.h.obj f;have L:=qE c lo _ n;have M:=qE c hi _ g;have B:(aI xs.length none (some h)).1=true:=by simp[aI,z,A]
 obtain⟨k,O,Q⟩:=TG (w:=w) q (l _ _ E).und.2.1 (l _ _ r) I (by rw[D,gX]) L M B;have u:(aI xs.length none (some h)).2.1=0:=rfl;have v:(aI xs.length none (some h)).2.2=h.toNat:=rfl;rw[u,v,XU]at k;refine⟨_,_,w,G,upd ν st.nx ((ν id).part 0 h.toNat),Lc H (by rw[y];exact k),.inl rfl,?_⟩;have p:Live st.objs id:=⟨_,f,by simp⟩;refine c.fresh C [id] (.arr e (xs.take h.toNat)) _ (λφ=>φ id) _ _ (λφ _=>WLe.refl _ w) (λφ _ b o g=>.inl ⟨id,.inr (cw.2 rfl),p,g⟩) (λφ K=>?_) ⟨⟨j3 _,by rw[d7,G5]⟩,Dz _⟩;show ah w (WC G w e) e.size (upd ν st.nx ((ν id).part 0 h.toNat) st.nx) (xs.take h.toNat) (φ id);rw[d7];have m:ah w (WC G w e) e.size (ν id) xs (φ id):=K.ob _ _ f;have:=Uk (lo:=0) (hi:=h.toNat) m (Nat.zero_le _) (by rw[←m.1];omega);simp_all
theorem WjO(K:ao P T)(k:Rel w0 F nt G0 G ν st a w){o:Oper}(hd:∀d,o.dst=some d->nt.Ok d){t E:TypeId}{ty:Ty}{x:Operand}{lo hi:Option Operand}(ho:o.op= .slice t x lo hi none)
  {id i p:Nat} {e:Ty} {xs:List e.den} {A:TE} {h:Int} (hx:ev st x=some (.s (.one (.own id)))) (hl:Wt T t=some ⟨ty,false,.slice E⟩) (R:Wt T E=some A) (hp:A.plain=true) (he:A.ty=e.ro) (q:Wt st.objs id=some (.hole e xs i p)) (vW:M3 (Wt st.objs p) e.size=true) (Q:fe st lo=some none) (c:fe st hi=some (some h))
  (h0:0<=h) (h1:h<=(xs.length:Int)) (h2:h<=(i:Int)):Done P w0 F nt G0 o a w (({env:=st.env,objs:=(st.nx,.arr e (xs.take h.toNat))::kill st.objs [id,p],nx:=st.nx+1}:St).put o.dst (.s (.one (.own st.nx)))):=by
 obtain⟨⟨ck,X⟩,_⟩:=WO k x _ hx;obtain⟨S,nJ,f⟩:=k.h.obj q;have l:∃D,Wt st.objs p=some (.box D)/\D.length=e.size:=by
  unfold M3 at vW
  grind [vG]
 obtain⟨pcs,l,gv⟩:=l;have jj:=qE k lo _ Q;have si:=qE k hi _ c;have hb:(aI xs.length none (some h)).1=true:=by simp[aI,h0,h1]
 obtain⟨k1,M,k3,b,N,k5,k6,k7,k8,k9,_⟩:=f;obtain⟨H,g2,g3⟩:=LH (w:=w) (nu:=ν id) (K _ _ hl).und.2.1 (K _ _ R) hp (by rw[M,he,gX]) k7 k1 (λhn=>by simp_all) jj si hb;have V:(aI xs.length none (some h)).2.1=0:=rfl;have W:(aI xs.length none (some h)).2.2=h.toNat:=rfl;rw[V,W,XU]at H;refine⟨_,_,w,G,upd ν st.nx ((ν id).part 0 h.toNat),Lc ho (by rw[X];exact H),.inl rfl,?_⟩;have C:Live st.objs id:=⟨_,q,by simp⟩;have I:Live st.objs p:=⟨_,l,by simp⟩;refine k.fresh hd [id,p] (.arr e (xs.take h.toNat)) _ (λφ b o=>φ id b o\/φ p b o) _ _ (λφ _=>WLe.refl _ w) (λφ _ b o c=>?_) (λφ u=>?_) ⟨⟨j3 _,by rw[d7,G5]⟩,Dz _⟩
 .rcases c with c|c
  .exact .inl ⟨id,.inr (by simp),C,c⟩
  .exact .inl ⟨p,.inr (by simp),I,c⟩
 .show ah w (WC G w e) e.size (upd ν st.nx ((ν id).part 0 h.toNat) st.nx) (xs.take h.toNat) _;rw[d7,G5];obtain⟨nJ,f⟩:p<st.nx/\kQ w (WC G w e) e.size (ν id) (ν p) xs i (φ id):=u.ob _ _ q;obtain⟨_,_,_,B,n,k5',_,_,_,_,c1,c2,p1,p2,j1,j2,L,j4,j5,v⟩:=f;rw[N]at n;injection n with n;subst n;obtain⟨b2,vs,m,q2,q3,q4,y⟩:dt G ν st.nx w p (φ p) (.box pcs):=u.ob _ _ l;rw[k5]at m;injection m with m;subst m;rw[gv,k6]at y;obtain⟨U,d2,z,r2,t1,t2,O,t4⟩:=C6 _ _ _ h.toNat j1;rw[List.take_take,lB (by omega)]at O;have Y:=v _ (Xl ..);have Z:=v _ (Xg _ (Xl ..));obtain⟨s1,s2⟩:=Xu.1 j5;obtain⟨s3,s4⟩:=Xu.1 s2;have r:∀s∈z.map Pc.fp,s∈(p1++p2).map Pc.fp:=λs g=>by simp_all
  have J:∀s∈z.map Pc.fp,CS.le s (φ id):=λs g=>v s (Xg _ (Xg _ (r s g)));have vX:∀b o,φ id b o->φ p b o->False:=λb o x1 x2=>by
   have:=u.inj id p b o C I x1 x2;simp_all
  refine⟨by simp;omega,M,?_⟩;simp only[N];refine⟨by simp;omega,k8,k9,U,z,O,by rw[t1]at L;exact L.left,Xu.2 ⟨λs g=>?_,?_⟩,λs g=>?_⟩
  .exactλB o lG j=>(FW (show i<(ν id).cap by omega) (S:=λb o=>¬s b o) (λb o c j=>s1 s (Xg _ (r s g)) b o c j) (λb o c j=>vX b o (J s g b o j) (y b o c)) (λb o c j=>s3 s (r s g) b o c j) B o lG) j
  .grind
  .rcases Xr.1 g with rfl|g
   .exact FW (show i<(ν id).cap by omega) (λb o c=>.inl (Y b o c)) (λb o c=>.inr (y b o c)) (λb o c=>.inl (Z b o c))
   .exactλb o c=>.inl (J s g b o c)
theorem WqF(Y:ao P T)(B:Rel w0 F nt G0 G ν st a w){o:Oper}(hd:∀d,o.dst=some d->nt.Ok d){c:Call}{x:Operand}{t U:TypeId}{ty:Ty}{N:TE}{e:Ty}{xs:List e.den}{id lo hi:Nat}
  (ho:o.op= .call c) (l:c.callee= .builtin .clear) (Z:c.args.toList= [x]) (S:c.argTypes.toList= [t]) (hx:ev st x=some (.s (.one (.vw id lo hi)))) (hl:Wt T t=some ⟨ty,false,.slice U⟩) (bp:Wt T U=some N)
  (E:Wt st.objs id=some (.arr e xs)) (he:N.ty=e) (hp:N.plain=true) (r:e.data=true):
  Done P w0 F nt G0 o a w (({env:=st.env,objs:=(id,.arr e (xs.take lo++Xk (hi-lo) e.dflt++xs.drop hi))::st.objs,nx:=st.nx}:St).put o.dst (.tup [])):=by
 have hu:=(Y _ _ hl).und.2.1;obtain⟨⟨ck,g1,g2,g3,hv⟩,_⟩:=WO B x _ hx;obtain⟨φ,D⟩:=B.h;have I:ah w (WC G w e) e.size (ν id) xs (φ id):=D.ob _ _ E;have Q:Live st.objs id:=⟨_,E,by simp⟩;have sj:∀W,(Builtin.clear_ #[t] o.type #[a.eval x]).run P w= .ok (.tuple #[]) W->(execOp a.eval o).run P w= .ok (.value (.tuple #[])) W:=λW p=>by
  obtain⟨A,i,f⟩:=c;obtain⟨i⟩:=i;obtain⟨f⟩:=f;simp only at l Z S;subst l Z S;simp only[execOp,ho,resolve,invoke,builtin,Sem.run_bind,Sem.run_pure,Result.andThen_ok,AF,bz,eX,p]
 have ik:∀W,(Builtin.clear_ #[t] o.type #[a.eval x]).run P w= .ok (.tuple #[]) W->HRel w0 F G ν ((id,.arr e (xs.take lo++Xk (hi-lo) e.dflt++xs.drop hi))::st.objs) st.nx W->
   Done P w0 F nt G0 o a w (({env:=st.env,objs:=(id,.arr e (xs.take lo++Xk (hi-lo) e.dflt++xs.drop hi))::st.objs,nx:=st.nx}:St).put o.dst (.tup [])):=λW p hH=>
  ⟨_,_,W,G,ν,sj W p,.inl rfl,(B.on (λ_ _ _ q=>q) (λ_ _=>rfl) (Xm _) hH B.gx).put hd ⟨[],rfl,rfl,λj x v hj=>by simp at hj⟩⟩
 by_cases h0:hi-lo=0
 .have re:hi=lo:=by omega
  have e1:xs.take lo++Xk (hi-lo) e.dflt++xs.drop hi=xs:=by
   simp_all
  refine ik w ?_ ?_
  .rw[hv];unfold Nu.vhdr;rw[h0];cases(ν id).blk<;>simp[Builtin.clear_,Wl hu]
  .rw[e1];exact⟨_,D.put (m:=[]) (ν':=ν) (λ_ _=>rfl) (Xm _) (D.lt id Q) (WLe.refl _ w) (λb o q=>.inl ⟨id,.inl rfl,Q,q⟩) (λ_=>I)⟩
 .cases bM:(ν id).blk with
  |none=>simp_all
  |some b=>
   obtain⟨jH,V,h5,⟨g,O,M,bu⟩,J,L,h8,X⟩:=yE r I bM;obtain⟨z,hz,K⟩:=y7 (w:=w) (Y _ _ bp);rw[tN hp,he]at K;have jZ:z.cells.size=e.size:=by rw[←fi,K,mU]
   have R:=I.2.1;have dz:J.length=xs.length*e.size:=tV (λx c l=>c0 e x c l) _ _ L;have yI:(Builtin.zeroCells z.cells (hi-lo)).toList=rep (cH e) (hi-lo):=by rw[←K];exact Dc z.cells (hi-lo)
   have y:(rep (cH e) (hi-lo)).length=(hi-lo)*e.size:=by rw[Gh,mU]
   have vY:lo*e.size+(hi-lo)*e.size=hi*e.size:=by rw[←j8];congr 1;omega
   have uO:hi*e.size<=xs.length*e.size:=fO _ (by omega);have yJ:xs.length*e.size<=(ν id).cap*e.size:=fO _ V;have gi:∀u∈rep (cH e) (hi-lo),u.oneCell'=true:=UB (G:=G) _ _ (zk r (hi-lo));have H:=run_storeCells_at P b ((ν id).off+lo*e.size) O (rep (cH e) (hi-lo)) 0 g w M (by rw[y];omega) gi;simp only[c5]at H;obtain⟨C,hm⟩:=CR (k:=(ν id).off+lo*e.size) (news:=rep (cH e) (hi-lo)) M (by rw[y];omega);have p:(Builtin.clear_ #[t] o.type #[a.eval x]).run P w= .ok (.tuple #[]) (w.setRow b (g.toList.take ((ν id).off+lo*e.size)++rep (cH e) (hi-lo)++g.toList.drop ((ν id).off+lo*e.size+(rep (cH e) (hi-lo)).length)).toArray):=by
    rw[hv];unfold Nu.vhdr;simp only[bM,R];rw[We (by omega)];obtain⟨n,hn⟩:∃n,hi-lo=n+1:=⟨hi-lo-1,by omega⟩;simp only[Builtin.clear_,Sem.run_bind,Wl hu,Result.andThen_ok,NR,List.getElem?_cons_zero];rw[hn]at H yI⊢;simp only[Sem.run_bind,hz,Result.andThen_ok,yI,H,Sem.run_pure]
   generalize w.setRow b (g.toList.take ((ν id).off+lo*e.size)++rep (cH e) (hi-lo)++g.toList.drop ((ν id).off+lo*e.size+(rep (cH e) (hi-lo)).length)).toArray=W at p C hm;refine ik W p (D.turn (m:=[]) E (by simp) C (λb' o ⟨k0,k1,k2⟩=>X b' o ⟨k0,by omega,by omega⟩) ?_);have oR:(xs.take lo++Xk (hi-lo) e.dflt++xs.drop hi).length=xs.length:=by simp;omega
   have iA:bG (Enc G e) (xs.take lo++Xk (hi-lo) e.dflt++xs.drop hi) (J.take (lo*e.size)++rep (cH e) (hi-lo)++J.drop (hi*e.size)):=
    Ff _ _ _ _ (Ff _ _ _ _ (C9 (λx c l=>c0 e x c l) _ _ lo L) (zk r _)) (C8 (λx c l=>c0 e x c l) _ _ hi L)
   refine SX r bM (by rw[oR];exact jH) R (by rw[oR];exact V) h5 (C.rows.row _ _ ⟨g,O,M,bu⟩) iA ?_ (λb o q=>.inl (X b o q));have:=FF h8 C hm (by rw[y];omega);rw[y,vY]at this;exact this
end
def ec(G:GH)(w:World)(t:Ty)(a:Bool)(d:t.den)(v:Value)(b:List Pc):Prop:=
 if a then∃c:List Value,v= .agg c.toArray/\WC G w t d c b else WC G w t d [v] b
def c6(b o:Nat):Nu:=⟨some b,o,0,0,0⟩
def nh(G:GH)(w:World)(t:Ty)(d:t.den)(b o:Nat)(c:List Pc):Prop:=∃a,Row w b (o+t.size)/\Mem w b o a/\WC G w t d a c
def fps(a:List Pc):List CS:=a.map Pc.fp
def nus(a:List Pc):List Nu:=a.map Pc.nu
def gc(G:GH)(w:World):(f:List PTy)->cu f->List Value->List Pc->List Nu->Prop
 | [],_,h,c,ks=>h= []/\c= []/\ks= []
 | .v t agg::f,d,h,c,ks=>∃v a j i,h=v::a/\c=j++i/\ec G w t agg d.1 v j/\gc G w f d.2 a i ks
 | .box t::f,d,h,c,ks=>∃b o a j i k,h= .pointer (some ⟨b,o,none⟩)::a/\c=⟨c6 b o,rng b o t.size⟩::(j++i)/\ks=c6 b o::k/\nh G w t d.1 b o j/\gc G w f d.2 a i k
 | .mut e::f,d,h,c,ks=>∃l a i k,h=l.nu.hdr::a/\c=l::i/\ks=l.nu::k/\ah w (WC G w e) e.size l.nu d.1 l.fp/\gc G w f d.2 a i k
 | .clos g n::f,d,h,c,ks=>∃m a:List Value,h= .func (.func g) #[] m.toArray::a/\m.length=n/\(∀u∈m,u.oneCell'=true)/\gc G w f d (m++a) c ks
 | .kv t agg::f,d,h,c,ks=>∃v a j i k,h=v::a/\c=j++i/\ks=nus j++k/\ec G w t agg d.1 v j/\gc G w f d.2 a i k
 | .rp t::f,d,h,c,ks=>∃b o q a,h= .pointer (some ⟨b,o,none⟩)::a/\Enc G t d.1 q/\m9 G b o q/\gc G w f d.2 a c ks
 | .vj _::_,_,_,_,_=>False
 | .boxal t lf::f,d,h,c,ks=>∃b o p l a j i k,h= .pointer (some ⟨b,o,none⟩):: .pointer (some ⟨p,l.nu.off+(d.2.1*l.nu.esz+0),none⟩)::a/\c=⟨c6 b o,rng b o t.size⟩::(j++i)/\ks=c6 b o::k/\
   nh G w t d.1 b o j/\j[lf]?=some l/\l.nu.blk=some p/\d.2.1<l.nu.len/\gc G w f d.2.2 a i k
def gS(G:GH)(w:World):(f:List PTy)->cT f->List Nu->List CS->List Pc->Prop
 | [],_,c,a,ns=>c= []/\a= []/\ns= []
 | .v _ _::f,o,c,a,ns=>gS G w f o c a ns
 | .box t::f,o,c,a,ns=>∃b d g h i j,c=c6 b d::g/\a=rng b d t.size::h/\ns=i++j/\nh G w t o.1 b d i/\gS G w f o.2 g h j
 | .mut e::f,o,c,a,ns=>∃k:Pc,∃g h,c=k.nu::g/\a=k.fp::h/\ah w (WC G w e) e.size k.nu o.1 k.fp/\gS G w f o.2 g h ns
 | .clos _ _::f,o,c,a,ns=>gS G w f o c a ns
 | .kv t _::f,o,c,a,ns=>∃i g h l,c=nus i++g/\a=fps i++h/\WC G w t o.1 l i/\gS G w f o.2 g h ns
 | .rp _::f,o,c,a,ns=>gS G w f o c a ns
 | .vj _::_,_,_,_,_=>False
 | .boxal t _::f,o,c,a,ns=>∃b d g h i j,c=c6 b d::g/\a=rng b d t.size::h/\ns=i++j/\nh G w t o.1 b d i/\gS G w f o.2 g h j
def pi(G:GH)(w:World):(f:List PTy)->db f->List Value->List Pc->Prop
 | [],_,g,ns=>g= []/\ns= []
 | .v t agg::f,d,g,ns=>∃v a c e,g=v::a/\ns=c++e/\ec G w t agg d.1 v c/\pi G w f d.2 a e
 | .box t::f,d,g,ns=>∃b o a c e,g= .pointer (some ⟨b,o,none⟩)::a/\ns=⟨c6 b o,rng b o t.size⟩::(c++e)/\nh G w t d.1 b o c/\pi G w f d.2 a e
 | .mut _::_,_,_,_=>False
 | .clos _ _::_,_,_,_=>False
 | .kv _ _::_,_,_,_=>False
 | .rp _::_,_,_,_=>False
 | .vj t::f,d,g,ns=>∃h u a c e,g= .agg (h++ [u]).toArray::a/\u.oneCell'=true/\ns=c++e/\WC G w t d.1 h c/\pi G w f d.2 a e
 | .boxal _ _::_,_,_,_=>False
def uJ:List Value->Value
 | [v]=>v
 |a=>.tuple a.toArray
def Of(a:List Pc):CS:=λb o=>∃q∈a,q.fp b o
structure After(sg:Sig)(o:cT sg.ps×db sg.rs)(G:GH)(w:World)(ns:List Pc)(ks:List Nu)(rv:List Value)(kf:List CS)(ms dM:List Pc)(G':GH)(w':World):Prop where
 res:pi G' w' sg.rs o.2 rv dM
 outs:gS G' w' sg.ps o.1 ks kf ms
 sep:Sep (kf++fps (ms++dM))
 own:∀S∈kf++fps (ms++dM),∀b off,S b off->G' b off=none/\(Of ns b off\/w.heap.size<=b)/\b<w'.heap.size
 gx:GExt w.heap.size (Of ns) G G'
 g:∀b o v,G' b o=some v->w'.cell? ⟨b,o,none⟩=some v
 le:WLe (Of ns) w w'
def Ar(P:Program)(k:FuncId)(sg:Sig):Prop:=
 ∀(d:cu sg.ps) (o:cT sg.ps×db sg.rs),sg.run d=some o->∀(G:GH) (w:World) (vs:List Value) (c:List Pc) (f:List Nu),gc G w sg.ps d vs c f->Sep (fps c)->
  (∀q∈c,∀b a,q.fp b a->G b a=none/\b<w.heap.size)->(∀b o v,G b o=some v->w.cell? ⟨b,o,none⟩=some v)->
  Calls P k vs.toArray w λe w'=>∃g i j h G',e= .returned (uJ g)/\After sg o G w c f g i j h G' w'
def Dl(P:Program)(k:FuncId):Prop:=∃a,P.funcs[k]?=some a∧a.body.isNone=false∧(a.name== "runtime.NumGoroutine")=false
def XT(P:Program)(k:FuncId)(i:Inl):Prop:=
 ∀(st:St) (vs:List Value) (a:Out),i.fn Out st cC=some a->vs.length<=st.env.length->∀(w0:World) (F:CS) (G0 G:GH) (ν:Nat->Nu) (b:AVal->Value->Prop) (w:World),
  (∀j x,Wt st.env j=some x->∃v,vs[j]?=some v/\AValRel G ν st.nx x v)->HRel w0 F G ν st.objs st.nx w->GExt w0.heap.size F G0 G->(∀x v,b x v->AValRel G ν st.nx x v)->
  Calls P k vs.toArray w λe w'=>∃c G' ν',e= .returned c/\AValRel G' ν' a.2.2 a.1 c/\HRel w0 F G' ν' a.2.1 a.2.2 w'/\GExt w0.heap.size F G0 G'/\∀x v,b x v->AValRel G' ν' a.2.2 x v
def vr(P:Program)(k:FuncId)(sg:Sig):Prop:=match sg.inl with
 |none=>Ar P k sg
 |some i=>XT P k i
def ez(P:Program)(Γ:Ctx):Prop:=∀k sg,Wt Γ k=some sg->vr P k sg/\Dl P k
section
variable{w0:World}{F:CS}{nt:Slots}{G0 G G':GH}{ν:Nat->Nu}{φ:Nat->CS}{objs:aa}{nx:Nat}{st ai:St}{a:Act}{w w':World}{P:Program}{T:Tab}
theorem jw:∀(t:Ty) (d:t.den) (nx:Nat),(unfold t d nx).2.2=nx+t.owns
 | .prod a b,d,nx=>by simp only[unfold,jw a,jw b,Ty.owns,dB]
 | .own _,_,_=>rfl
 | .int _,_,_| .bool,_,_| .str,_,_| .slice _,_,_=>rfl
theorem WQ{α:Type}{l m:List (Nat×α)}{i:Nat}{x:α}(h:Wt (l++m) i=some x):Wt l i=some x\/Wt m i=some x:=by
 rw[tO]at h
 grind
def At(ν:Nat->Nu)(φ:Nat->CS)(nx:Nat)(b:List Pc):Prop:=∀(j:Nat) (a:Pc),b[j]?=some a->ν (nx+j)=a.nu/\φ (nx+j)=a.fp
theorem At.left{n1 a:List Pc}(h:At ν φ nx (n1++a)):At ν φ nx n1:=λj b c=>h j b (by grind)
theorem At.right{n1 n2:List Pc}{k:Nat}(h:At ν φ nx (n1++n2))(c:n1.length=k):At ν φ (nx+k) n2:=λj a b=>by
 have:=h (k+j) a (by grind)
 grind
def zO(G:GH)(ν:Nat->Nu)(φ:Nat->CS)(w:World)(a:Nat)(b:Ob):Prop:=∃(e:Ty) (xs:List e.den),b= .arr e xs/\ah w (WC G w e) e.size (ν a) xs (φ a)
theorem jz:∀(t:Ty) (d:t.den) (nx:Nat) (vs:List Value) (c:List Pc),WC G w t d vs c->At ν φ nx c->
  (∀(aq:Nat),nx+t.owns<=aq->CellsRel G ν aq (unfold t d nx).1 vs)/\
  (∀b f,Wt (unfold t d nx).2.1 b=some f->nx<=b/\b<nx+t.owns/\zO G ν φ w b f)
 | .own e,d,nx,vs,c,⟨j,l,g,i⟩,hν=>by
  obtain⟨u,y⟩:ν nx=j.nu/\φ nx=j.fp:=by have:=hν 0 j (by grind);omega
  refine⟨λaq m=>?_,λb f a=>?_⟩
  .rw[g];refine CellsRel.one ⟨by grind [Ty.owns],by rw[u]⟩ (Dz _)
  .simp only[unfold]at a;rw[WJ]at a;split at a
   .rename_i e1;subst e1;injection a with a;subst a;exact⟨Xm _,by simp[Ty.owns],e,d,rfl,by simp_all⟩
   .simp[Wt]at a
 | .prod p q,d,nx,vs,c,⟨v1,v2,v,x,l,g,i,s⟩,hν=>by
  subst g;have r:=W9 p _ _ _ i;obtain⟨n,z⟩:=jz p d.1 nx v1 v i hν.left;obtain⟨o,A⟩:=jz q d.2 (nx+p.owns) v2 x s (hν.right r);refine⟨λaq m=>?_,λb f a=>?_⟩
  .simp only[Ty.owns]at m;simp only[unfold,jw];rw[l];exact(n aq (by omega)).append (o aq (by omega))
  .simp only[unfold,jw]at a
   grind [Ty.owns,WQ]
 | .int k,d,nx,vs,c,h,_=>⟨λaq _=>ie (.int k) d vs h.2,λb f a=>by simp[unfold,Wt]at a⟩
 | .bool,d,nx,vs,c,h,_=>⟨λaq _=>ie .bool d vs h.2,λb f a=>by simp[unfold,Wt]at a⟩
 | .str,d,nx,vs,c,h,_=>⟨λaq _=>ie .str d vs h.2,λb f a=>by simp[unfold,Wt]at a⟩
 | .slice e,d,nx,vs,c,h,_=>⟨λaq _=>ie (.slice e) d vs h.2,λb f a=>by simp[unfold,Wt]at a⟩
theorem tR:∀(t:Ty) (d:t.den) (nx:Nat),(unfold t d nx).1.length=t.size
 | .prod a b,d,nx=>by simp only[unfold,Xz,tR a,tR b,Ty.size]
 | .own _,_,_| .int _,_,_| .bool,_,_| .str,_,_| .slice _,_,_=>rfl
theorem L4{t:Ty}{a:Bool}{d:t.den}{v:Value}{b:List Pc}{nx aq:Nat}(h:ec G w t a d v b)(g:At ν φ nx b)(f:nx+t.owns<=aq):
  AvRel G ν aq (D3 a (unfold t d nx).1) v:=by
 unfold ec at h;unfold D3;cases a with
 |true=>
  simp only[WN]at h⊢;obtain⟨i,rfl,h⟩:=h;exact⟨i,rfl,(jz t d nx i b h g).1 aq f⟩
 |false=>
  simp only[dq,W4]at h⊢;have e:=(jz t d nx [v] b h g).1 aq f;have k:=e.1;generalize (unfold t d nx).1=j at*
  match j,k with
  | [c],_=>exact e.2 0 c v rfl rfl
theorem MJ{t:Ty}{a:Bool}{d:t.den}{v:Value}{ns:List Pc}(h:ec G w t a d v ns):∃b,WC G w t d b ns:=by
 grind [ec]
def uC(objs:aa):Ty->List Nat->Prop
 | .own e,ids=>∃(f:Nat) (g:List e.den),ids= [f]/\Wt objs f=some (.arr e g)
 | .prod a b,ids=>∃c d,ids=c++d/\uC objs a c/\uC objs b d
 | .int _,ids=>ids= []
 | .bool,ids=>ids= []
 | .str,ids=>ids= []
 | .slice _,ids=>ids= []
theorem FM{objs:aa}:∀(t:Ty) (c:List Nat),uC objs t c->c.length=t.owns
 | .own e,c,⟨id,j,h,_⟩=>by rw[h];rfl
 | .prod a b,c,⟨g,i,h,d,f⟩=>by rw[h,Xz,FM a _ d,FM b _ f];rfl
 | .int _,c,h=>by have:c= []:=h;rw[this];rfl
 | .bool,c,h=>by have:c= []:=h;rw[this];rfl
 | .str,c,h=>by have:c= []:=h;rw[this];rfl
 | .slice _,c,h=>by have:c= []:=h;rw[this];rfl
def KeptBox(objs:aa)(ν:Nat->Nu)(bx:List (Nat×CS))(t:Ty)(k:Kp)(nu:Nu):Prop:=
 ∃a b,Wt objs k.id=some (.box a)/\k.off+t.size<=a.length/\(ν k.id).blk=some b/\nu=c6 b ((ν k.id).off+k.off)/\(k.id,rng b ((ν k.id).off+k.off) t.size)∈bx
def KeptOk(objs:aa)(ν:Nat->Nu)(bx:List (Nat×CS)):List PTy->List Kp->List Nu->Prop
 | [],a,ks=>a= []/\ks= []
 | .v _ _::ps,a,ks=>KeptOk objs ν bx ps a ks
 | .box t::ps,a,ks=>∃k c d b,a=k::c/\ks=d::b/\KeptBox objs ν bx t k d/\KeptOk objs ν bx ps c b
 | .mut e::ps,a,ks=>∃(g:Nat) (c:List Kp) (b:List Nu) (i:List e.den),a=⟨g,0⟩::c/\ks=ν g::b/\Wt objs g=some (.arr e i)/\KeptOk objs ν bx ps c b
 | .clos _ _::ps,a,ks=>KeptOk objs ν bx ps a ks
 | .kv t _::ps,a,ks=>∃f h b,a=kp0 f++h/\ks=f.map ν++b/\uC objs t f/\KeptOk objs ν bx ps h b
 | .rp _::ps,a,ks=>KeptOk objs ν bx ps a ks
 | .vj _::_,_,_=>False
 | .boxal t _::ps,a,ks=>∃k c d b,a=k::c/\ks=d::b/\KeptBox objs ν bx t k d/\KeptOk objs ν bx ps c b
theorem KeptBox.mono{bx a:List (Nat×CS)}{t:Ty}{k:Kp}{nu:Nu}(j:∀p∈bx,p∈a)(h:KeptBox objs ν bx t k nu):KeptBox objs ν a t k nu:=by
 obtain⟨c,b,d,e,f,g,i⟩:=h;exact⟨c,b,d,e,f,g,j _ i⟩
theorem KeptOk.mono{bx q:List (Nat×CS)}(f:∀p∈bx,p∈q):∀(b:List PTy) (a:List Kp) (c:List Nu),KeptOk objs ν bx b a c->KeptOk objs ν q b a c
 | [],_,_,h=>h
 | .v _ _::b,a,c,h=>KeptOk.mono f b a c h
 | .box t::b,a,c,⟨k,g,n,d,i,j,l,m⟩=>⟨k,g,n,d,i,j,l.mono f,KeptOk.mono f b g d m⟩
 | .mut e::b,a,c,⟨id,g,d,s,i,j,l,m⟩=>⟨id,g,d,s,i,j,l,KeptOk.mono f b g d m⟩
 | .clos _ _::b,a,c,h=>KeptOk.mono f b a c h
 | .kv t _::b,a,c,⟨r,o,d,i,j,l,m⟩=>⟨r,o,d,i,j,l,KeptOk.mono f b o d m⟩
 | .rp _::b,a,c,h=>KeptOk.mono f b a c h
 | .vj _::_,_,_,h=>h.elim
 | .boxal t _::b,a,c,⟨k,g,n,d,i,j,l,m⟩=>⟨k,g,n,d,i,j,l.mono f,KeptOk.mono f b g d m⟩
def DH(G:GH)(ν:Nat->Nu)(w:World)(g:aa)(bx:List (Nat×CS))(aq c:Nat)(S:CS)(h:Ob):Prop:=
 (∃f a d b i,Wt g c=some (.box f)/\h= .box (kB f a d)/\a+d.length<=f.length/\(ν c).blk=some b/\Mem w b ((ν c).off+a) i/\CellsRel G ν aq d i/\
  S=rng b ((ν c).off+a) d.length/\(c,rng b ((ν c).off+a) d.length)∈bx)\/
 (∃(e:Ty) (j xs:List e.den),Wt g c=some (.arr e j)/\h= .arr e xs/\ah w (WC G w e) e.size (ν c) xs S)
theorem La(n:aa){bx:List (Nat×CS)}{aq:Nat}:∀(t:Ty) (d:t.den) (us:List Value) (g:List Pc) (c:List Nat),WC G w t d us g->nus g=c.map ν->uC n t c->
  (∀l k,Wt (dv t d c) l=some k->∃(j:Nat) (S:CS),c[j]?=some l/\(fps g)[j]?=some S/\DH G ν w n bx aq l S k)/\∀l∈c,∃k,Wt (dv t d c) l=some k
 | .own e,d,us,g,c,⟨H,r,s,p⟩,o,⟨l,K,h,x⟩=>by
  subst h r;simp only[nus,bz,eX,List.cons.injEq,and_true]at o;refine⟨λi k f=>?_,λi m=>?_⟩
  .simp only[dv,WJ]at f;split at f
   .rename_i e3;subst e3;injection f with f;subst f;exact⟨0,H.fp,rfl,rfl,.inr ⟨e,K,d,x,rfl,by simp_all⟩⟩
   .simp[Wt]at f
  simp_all [cw,dv,Wt]
 | .prod a b,d,us,g,c,⟨u1,u2,D,E,r,s,p,B⟩,o,⟨i1,i2,h,u,C⟩=>by
  subst h s;have y:=W9 a _ _ _ p;have F:=FM a _ u;simp only[nus,Xx]at o;obtain⟨z,A⟩:=YD o (by rw[Xt,Xt,y,F]);have I:(i1++i2).take a.owns=i1:=by simp_all
  have J:(i1++i2).drop a.owns=i2:=by simp_all
  obtain⟨L,M⟩:=La n (bx:=bx) (aq:=aq) a d.1 _ D i1 p z u;obtain⟨N,v⟩:=La n (bx:=bx) (aq:=aq) b d.2 _ E i2 B A C;simp only[dv,I,J];refine⟨λi k f=>?_,λi m=>?_⟩
  .rcases WQ f with f|f
   .grind [fps,Hj,dp]
   grind [fps,vC,rQ,Xt]
  .rcases Xp.1 m with m|m
   .grind [tO]
   .obtain⟨k,O⟩:=v i m;rw[tO]
    grind
 | .int _,d,us,g,c,q,_,h=>by have:c= []:=h;grind [dv,Wt]
 | .bool,d,us,g,c,q,_,h=>by have:c= []:=h;grind [dv,Wt]
 | .str,d,us,g,c,q,_,h=>by have:c= []:=h;grind [dv,Wt]
 | .slice _,d,us,g,c,q,_,h=>by have:c= []:=h;grind [dv,Wt]
theorem Lv:∀(t:Ty) (d:t.den) (c:List Nat) (f:Nat) (g:Ob),Wt (dv t d c) f=some g->f∈c
 | .own e,d,c,f,g,h=>by
  cases c with
  |nil=>simp[dv,Wt]at h
  |cons i l=>
   grind [dv,WJ,Xl,Wt]
 | .prod a b,d,c,f,g,h=>by
  simp only[dv]at h;rcases WQ h with h|h
  .exact nI (Lv a d.1 _ f g h)
  .exact Yn (Lv b d.2 _ f g h)
 | .int _,_,_,_,_,h=>by simp[dv,Wt]at h
 | .bool,_,_,_,_,h=>by simp[dv,Wt]at h
 | .str,_,_,_,_,h=>by simp[dv,Wt]at h
 | .slice _,_,_,_,_,h=>by simp[dv,Wt]at h
def kids(l:List Kp):List Nat:=l.map Kp.id
theorem Gc(l:List Nat):kids (kp0 l)=l:=by simp[kids,kp0,Function.comp_def]
theorem qq(p:aa){bx:List (Nat×CS)}:∀(d:List PTy) (o:cT d) (a:List Kp) (l:List Nu) (f:List CS) (c:List Pc) (objs:aa) (nx aq:Nat),gS G w d o l f c->KeptOk p ν bx d a l->At ν φ nx c->
  (kids a).Nodup->(∀k∈a,k.id<nx/\Wt objs k.id=Wt p k.id)->nx+c.length<=aq->
  (di d o a objs nx).2=nx+c.length/\f.length=a.length/\
  ∀s u,Wt (di d o a objs nx).1 s=some u->(nx<=s/\s<nx+c.length/\zO G ν φ w s u)\/(∃(j:Nat) (S:CS),(kids a)[j]?=some s/\f[j]?=some S/\DH G ν w p bx aq s S u)\/(Wt objs s=some u/\s∉kids a)
 | [],o,a,l,f,c,objs,nx,aq,⟨_,x,y⟩,m,_,_,_,_=>by subst x y;obtain⟨m,_⟩:=m;subst m;exact⟨rfl,rfl,λs u I=>.inr (.inr ⟨I,by simp[kids]⟩)⟩
 | .v _ _::d,o,a,l,f,c,objs,nx,aq,h,m,r,n,q,hx=>qq p d o a l f c objs nx aq h m r n q hx
 | .box t::d,o,a,l,f,c,objs,nx,aq,⟨b,C,z,A,F,T,x,y,B,P,O⟩,m,r,n,q,hx=>putOuts_box p t d o.1 o.2 a l f c objs nx aq (λa l f c objs nx aq=>qq p d o.2 a l f c objs nx aq) ⟨b,C,z,A,F,T,x,y,B,P,O⟩ m r n q hx
 | .vj _::_,_,_,_,_,_,_,_,_,h,_,_,_,_,_=>h.elim
 | .boxal t _::d,o,a,l,f,c,objs,nx,aq,⟨b,C,z,A,F,T,x,y,B,P,O⟩,m,r,n,q,hx=>putOuts_box p t d o.1 o.2 a l f c objs nx aq (λa l f c objs nx aq=>qq p d o.2 a l f c objs nx aq) ⟨b,C,z,A,F,T,x,y,B,P,O⟩ m r n q hx
 | .mut e::d,o,a,l,f,c,objs,nx,aq,⟨pc,z,A,x,y,B,N⟩,m,r,n,q,hx=>by
  obtain⟨s,bN,yK,ys,rfl,Q,bJ,R⟩:=m;rw[x]at Q;simp only[List.cons.injEq]at Q;obtain⟨hνid,rfl⟩:=Q;subst y;have W:=cr.1 n;obtain⟨L,Y,M⟩:=qq p d o.2 bN z A c ((s,.arr e o.1)::objs) nx aq N R r W.2 (λk K=>by
   obtain⟨D,E⟩:=q k (Xg _ K);have V:s≠k.id:=λe=>W.1 (by grind);simp_all [WJ,We]) hx
  simp only[di];refine⟨L,by simp[Y],λi u I=>?_⟩;rcases M i u I with g|⟨j,S,D,E,H⟩|⟨g,Z⟩
  .grind
  .exact .inr (.inl ⟨j+1,S,D,E,H⟩)
  .rw[WJ]at g;split at g
   .rename_i e3;subst e3;injection g with g;subst g;exact .inr (.inl ⟨0,pc.fp,rfl,rfl,.inr ⟨e,ys,o.1,bJ,rfl,by simp_all⟩⟩)
   .rename_i V;exact .inr (.inr ⟨g,λJ=>by rcases Xr.1 J with J|J;exact V J.symm;exact Z J⟩)
 | .clos _ _::d,o,a,l,f,c,objs,nx,aq,h,m,r,n,q,hx=>qq p d o a l f c objs nx aq h m r n q hx
 | .rp _::d,o,a,l,f,c,objs,nx,aq,h,m,r,n,q,hx=>qq p d o a l f c objs nx aq h m r n q hx
 | .kv t agg::d,o,a,l,f,c,objs,nx,aq,⟨F,z,A,us,x,y,B,N⟩,⟨i1,i2,yK,ck,sm,ho,R⟩,r,n,q,hx=>by
  subst ck y;have X:=W9 t _ _ _ B;have U:=FM t _ ho;rw[x]at sm;obtain⟨q1,q2⟩:=YD sm (by simp[nus,X,U]);subst q2;have rf:(kp0 i1).length=t.owns:=by simp[kp0,U]
  have t1:((kp0 i1++i2).take t.owns).map Kp.id=i1:=by rw[←rf];simp;exact Gc i1
  have t2:(kp0 i1++i2).drop t.owns=i2:=by simp_all
  obtain⟨r1,r2⟩:=La (bx:=bx) (aq:=aq) p t o.1 us F i1 B q1 ho;have kG:kids (kp0 i1++i2)=i1++kids i2:=by grind [kids,Gc]
  rw[kG]at n;obtain⟨m1,m2,m3⟩:=dc.1 n;obtain⟨L,Y,M⟩:=qq p d o.2 i2 z A c (dv t o.1 i1++objs) nx aq N R r m2 (λk K=>by
   obtain⟨D,E⟩:=q k (Xi _ K);refine⟨D,?_⟩;rw[tO];cases hq:Wt (dv t o.1 i1) k.id with
   |none=>exact E
   |some u=>exact Wz rfl (m3 _ (Lv t o.1 i1 _ u hq) _ (eB K))) hx
  simp only[di,t1,t2];have jo:(fps F).length=i1.length:=by simp[fps,X,U]
  refine⟨L,by simp_all,λi u I=>?_⟩;rw[kG];rcases M i u I with g|⟨j,S,D,E,H⟩|⟨g,Z⟩
  .grind
  .refine .inr (.inl ⟨i1.length+j,S,?_,?_,H⟩)
   .grind
   grind
  .rw[tO]at g;cases hq:Wt (dv t o.1 i1) i with
   |some dL=>
    rw[hq]at g;injection g with g;subst g;obtain⟨j,S,D,E,H⟩:=r1 i _ hq;refine .inr (.inl ⟨j,S,?_,?_,H⟩)
    .grind
    grind
   |none=>
    grind
where
 putOuts_box (be:aa) {bx:List (Nat×CS)} (t:Ty) (ps:List PTy) (o1:t.den) (o2:cT ps) (ids:List Kp) (ks:List Nu) (kf:List CS) (ms:List Pc) (objs:aa) (nx aq:Nat)
   (ih:∀(ids:List Kp) (ks:List Nu) (kf:List CS) (ms:List Pc) (objs:aa) (nx aq:Nat),gS G w ps o2 ks kf ms->KeptOk be ν bx ps ids ks->At ν φ nx ms->
    (kids ids).Nodup->(∀k∈ids,k.id<nx/\Wt objs k.id=Wt be k.id)->nx+ms.length<=aq->
    (di ps o2 ids objs nx).2=nx+ms.length/\kf.length=ids.length/\
    ∀id ob,Wt (di ps o2 ids objs nx).1 id=some ob->(nx<=id/\id<nx+ms.length/\zO G ν φ w id ob)\/(∃(j:Nat) (S:CS),(kids ids)[j]?=some id/\kf[j]?=some S/\DH G ν w be bx aq id S ob)\/(Wt objs id=some ob/\id∉kids ids))
   (h:∃b off aH ey n1 n2,ks=c6 b off::aH/\kf=rng b off t.size::ey/\ms=n1++n2/\nh G w t o1 b off n1/\gS G w ps o2 aH ey n2)
   (hk:∃k bN nu aH,ids=k::bN/\ks=nu::aH/\KeptBox be ν bx t k nu/\KeptOk be ν bx ps bN aH) (hν:At ν φ nx ms)
   (hn:(kids ids).Nodup) (hi:∀k∈ids,k.id<nx/\Wt objs k.id=Wt be k.id) (hx:nx+ms.length<=aq):
   (di (.box t::ps) (o1,o2) ids objs nx).2=nx+ms.length/\kf.length=ids.length/\
   ∀id ob,Wt (di (.box t::ps) (o1,o2) ids objs nx).1 id=some ob->(nx<=id/\id<nx+ms.length/\zO G ν φ w id ob)\/(∃(j:Nat) (S:CS),(kids ids)[j]?=some id/\kf[j]?=some S/\DH G ν w be bx aq id S ob)\/(Wt objs id=some ob/\id∉kids ids):=by
  obtain⟨b,off,aH,ey,n1,n2,h1,h2,h3,⟨us,_,aN,jI⟩,h5⟩:=h;obtain⟨k,bN,nu,yK,rfl,kY,⟨nj,b0,bJ,cX,bM,nk,vZ⟩,lH⟩:=hk;rw[h1]at kY;simp only[List.cons.injEq]at kY;obtain⟨uM,rfl⟩:=kY;rw[nk]at uM;unfold c6 at uM;injection uM with sn zN;injection sn with sn;subst sn zN h2 h3;have cg:=W9 t _ _ _ jI;have af:(n1++n2).length=t.owns+n2.length:=by rw[Xz,cg]
  obtain⟨c1,uQ⟩:=jz t o1 nx us n1 jI hν.left;have bs:=cr.1 hn;obtain⟨v6,nP⟩:=hi k (Xl ..);have ew:=tR t o1 nx;have iy:qX (Wt objs k.id) k.off (unfold t o1 nx).1= .box (kB nj k.off (unfold t o1 nx).1):=by rw[nP,bJ];rfl
  obtain⟨e1,el,e2⟩:=ih bN aH ey n2 ((k.id,qX (Wt objs k.id) k.off (unfold t o1 nx).1)::((unfold t o1 nx).2.1++objs)) (nx+t.owns) aq h5 lH (hν.right cg) bs.2 (λk' pE=>by
   obtain⟨g1,g2⟩:=hi k' (Xg _ pE);refine⟨by omega,?_⟩;rw[WJ,We (λe=>bs.1 (by rw[e];exact eB pE)),tO];cases hq:Wt (unfold t o1 nx).2.1 k'.id with
   |none=>exact g2
   |some ob=>have:=(uQ _ ob hq).1;omega) (by omega)
  simp only[di,jw];refine⟨by rw[e1,af];omega,by simp[el],λi ob hl=>?_⟩;rcases e2 i ob hl with⟨g1,g2,g3⟩|⟨j,S,g1,g2,g3⟩|⟨g,gn⟩
  .exact .inl ⟨by omega,by omega,g3⟩
  .exact .inr (.inl ⟨j+1,S,g1,g2,g3⟩)
  .rw[WJ]at g;split at g
   .rename_i e3;subst e3;injection g with g;rw[iy]at g;subst g;refine .inr (.inl ⟨0,_,rfl,rfl,.inl ⟨nj,k.off,_,_,us,bJ,rfl,by rw[ew];exact cX,bM,aN,c1 aq (by omega),by rw[ew],by rw[ew];exact vZ⟩⟩)
   .rename_i bI;rcases WQ g with g|g
    .obtain⟨g1,g2,g3⟩:=uQ i ob g;exact .inl ⟨g1,by omega,g3⟩
    .exact .inr (.inr ⟨g,λhm=>by rcases Xr.1 hm with hm|hm;exact bI hm.symm;exact gn hm⟩)
def X7(G:GH)(ν:Nat->Nu)(φ:Nat->CS)(w:World)(aq a:Nat)(d:Ob):Prop:=
 zO G ν φ w a d\/∃c b e,d= .box c/\(ν a).blk=some b/\Row w b ((ν a).off+c.length)/\Mem w b (ν a).off e/\CellsRel G ν aq c e/\CS.le (rng b (ν a).off c.length) (φ a)
theorem Fu:∀(m:List PTy) (d:db m) (vs:List Value) (q:List Pc) (objs:aa) (nx aq:Nat),pi G w m d vs q->At ν φ nx q->nx+q.length<=aq->
  (d5 m d objs nx).2.2=nx+q.length/\
  (∀p f,Wt (d5 m d objs nx).2.1 p=some f->(nx<=p/\p<nx+q.length/\X7 G ν φ w aq p f)\/Wt objs p=some f)/\
  M8 G ν aq (d5 m d objs nx).1 vs
 | [],d,vs,q,objs,nx,aq,⟨y,z⟩,_,_=>by subst y z;exact⟨rfl,λp f A=>.inr A,rfl,λj x v a=>by simp[d5]at a⟩
 | .v t agg::m,d,vs,q,objs,nx,aq,⟨v,E,n1,k,y,z,L,P⟩,n,hx=>by
  subst z;obtain⟨C,U⟩:=MJ L;have r:=W9 _ _ _ _ U;have D:(n1++k).length=t.owns+k.length:=by rw[Xz,r]
  obtain⟨_,N⟩:=jz t d.1 nx C n1 U n.left;obtain⟨F,H,I,J⟩:=Fu m d.2 E k ((unfold t d.1 nx).2.1++objs) (nx+t.owns) aq P (n.right r) (by omega);simp only[d5,jw];refine⟨by rw[F,D];omega,λi f A=>?_,?_⟩
  .rcases H i f A with⟨s,K,l⟩|g
   .exact .inl ⟨by omega,by omega,l⟩
   .rcases WQ g with g|g
    .obtain⟨s,K,l⟩:=N i f g;exact .inl ⟨s,by omega,.inl l⟩
    .exact .inr g
  .rw[y];refine⟨by simp[I],λj x u a B=>?_⟩;cases j with
   |zero=>simp at a B;subst a B;exact L4 L n.left (by omega)
   |succ j=>exact J j x u (by simpa using a) (by simpa using B)
 | .box t::m,d,vs,q,objs,nx,aq,⟨b,o,E,n1,k,y,z,⟨C,W,V,T⟩,Y⟩,n,hx=>by
  subst z;have r:=W9 _ _ _ _ T;have D:((⟨c6 b o,rng b o t.size⟩:Pc)::(n1++k)).length=1+t.owns+k.length:=by rw[List.length_cons,Xz,r];omega
  obtain⟨c,R⟩:ν nx=c6 b o/\φ nx=rng b o t.size:=by have:=n 0 _ rfl;simpa using this
  have M:At ν φ (nx+1) (n1++k):=n.right (n1:=[⟨c6 b o,rng b o t.size⟩]) rfl;obtain⟨O,N⟩:=jz t d.1 (nx+1) C n1 T M.left;obtain⟨F,H,I,J⟩:=Fu m d.2 E k ((nx,.box (unfold t d.1 (nx+1)).1)::((unfold t d.1 (nx+1)).2.1++objs)) (nx+1+t.owns) aq Y (M.right r) (by omega);have S:=tR t d.1 (nx+1);simp only[d5,jw];refine⟨by rw[F,D];omega,λp f A=>?_,?_⟩
  .rcases H p f A with⟨s,K,l⟩|g
   .exact .inl ⟨by omega,by omega,l⟩
   .rw[WJ]at g;split at g
    .rename_i e;subst e;injection g with g;subst g;refine .inl ⟨Xm _,by omega,.inr ⟨_,b,C,rfl,by rw[c];rfl,?_,?_,O aq (by omega),?_⟩⟩
     .rw[c,S];exact W
     .rw[c];exact V
     .rw[c,S,R];exactλ_ _ Z=>Z
    .rcases WQ g with g|g
     .obtain⟨s,K,l⟩:=N p f g;exact .inl ⟨by omega,by omega,.inl l⟩
     .exact .inr g
  .rw[y];refine⟨by simp[I],λj x u a B=>?_⟩;cases j with
   |zero=>
    simp at a B;subst a B;exact⟨⟨by omega,b,by rw[c];rfl,by rw[c];rfl⟩,rfl⟩
   |succ j=>exact J j x u (by simpa using a) (by simpa using B)
 | .mut _::_,_,_,_,_,_,_,h,_,_=>h.elim
 | .clos _ _::_,_,_,_,_,_,_,h,_,_=>h.elim
 | .kv _ _::_,_,_,_,_,_,_,h,_,_=>h.elim
 | .rp _::_,_,_,_,_,_,_,h,_,_=>h.elim
 | .vj t::m,d,vs,q,objs,nx,aq,⟨C,u,E,n1,k,y,X,z,L,P⟩,n,hx=>by
  subst z;have r:=W9 _ _ _ _ L;have D:(n1++k).length=t.owns+k.length:=by rw[Xz,r]
  obtain⟨O,N⟩:=jz t d.1 nx C n1 L n.left;obtain⟨F,H,I,J⟩:=Fu m d.2 E k ((unfold t d.1 nx).2.1++objs) (nx+t.owns) aq P (n.right r) (by omega);simp only[d5,jw];refine⟨by rw[F,D];omega,λi f A=>?_,?_⟩
  .rcases H i f A with⟨s,K,l⟩|g
   .exact .inl ⟨by omega,by omega,l⟩
   .rcases WQ g with g|g
    .obtain⟨s,K,l⟩:=N i f g;exact .inl ⟨s,by omega,.inl l⟩
    .exact .inr g
  .rw[y];refine⟨by simp[I],λj x v a Q=>?_⟩;cases j with
   |zero=>simp at a Q;subst a Q;exact⟨C++ [u],rfl,(O aq (by omega)).append (CellsRel.one trivial X)⟩
   |succ j=>exact J j x v (by simpa using a) (by simpa using Q)
 | .boxal _ _::_,_,_,_,_,_,_,h,_,_=>h.elim
theorem WtN{xs:List AV}{vs:List Value}(h:M8 G ν nx xs vs):AValRel G ν nx (XS xs) (uJ vs):=by
 obtain⟨a,b⟩:=h
 match xs,vs,a with
 | [],[],_=>exact⟨[],rfl,rfl,λj x v c=>by simp at c⟩
 | [x],[v],_=>exact b 0 x v rfl rfl
 |x::y::xs,v::u::vs,a=>exact⟨v::u::vs,rfl,a,b⟩
end
theorem jx(i:Nat):∀l:List Nat,dl i l=true↔i∈l
 | []=>by simp[dl]
 |j::l=>by
  simp only[dl,Bool.or_eq_true,jx i l,Xr];rw[show(Nat.beq i j=true)=(i=j)from by simp]
theorem FD:∀l:List Nat,d8 l=true↔l.Nodup
 | []=>by simp[d8]
 |i::l=>by
  have h:=jx i l;simp only[d8,Xh,de,cr,FD l]
  grind
theorem TU{l m:List Nat}(h:gZ l m=true):∀i∈l,i∉m:=λi a b=>by
 grind [gZ,bA,jx]
section
variable{w0:World}{F:CS}{nt:Slots}{G0 G G':GH}{ν:Nat->Nu}{φ:Nat->CS}{objs:aa}{nx:Nat}{st ai:St}{a:Act}{w w':World}{P:Program}{T:Tab}
theorem Gi(h:HR w0 F G ν φ objs nx w){t:Ty}{e:Bool}{x:AVal}{v:Value}{cs:List Cell}{d:t.den}{m l:List Nat}(q:GLe G G')(n:AValRel G ν nx x v)(r:Lent G' w φ objs l)(s:m.Nodup)
  (a:cellsOf e x=some cs) (o:aC t cs objs=some (d,m,l)):∃b,ec G' w t e d v b/\Sep (fps b)/\(∀p∈b,CS.le p.fp (FromL φ objs m))/\(∀i∈m,Live objs i)/\(∀i∈l,Live objs i):=by
 unfold cellsOf at a;split at a
 .split at a
  .cases a
  .rename_i c ha;injection a with a;subst a;obtain⟨b,y,f,g,j,k,_⟩:=fz h q t [c] [v] d m l (CellsRel.one n.1 n.2) r s o;refine⟨b,?_,f,g,j,k⟩;simp_all [ec,We]
 .split at a
  .rename_i ds ha;injection a with a;subst a;obtain⟨z,rfl,u⟩:=n;obtain⟨b,y,f,g,j,k,_⟩:=fz h q t ds z d m l u r s o;refine⟨b,?_,f,g,j,k⟩;unfold ec;simp_all
  .cases a
 .cases a
def D1(objs:aa)(m:List Nat):Prop:=∀i∈m,∃(e:Ty) (xs:List e.den),Wt objs i=some (.arr e xs)
theorem F2:∀(t:Ty) (cs:List Cell) (d:t.den) (m l:List Nat),D1 objs m->aC t cs objs=some (d,m,l)->m.length<=t.owns
 | .prod a b,cs,d,m,l,g,h=>by
  simp only[aC]at h;split at h
  .rename_i x m1 l1 y m2 l2 h1 f;simp only[Option.some.injEq,Prod.mk.injEq]at h;obtain⟨rfl,rfl,rfl⟩:=h;have:=F2 a _ _ _ _ (λi j=>g i (Xo _ j)) h1;have:=F2 b _ _ _ _ (λi j=>g i (Xi _ j)) f;rw[Xz];show _<=a.owns+b.owns;omega
  grind
 | .own e,cs,d,m,l,g,h=>by
  simp only[aC]at h;split at h
  .rename_i id;obtain⟨⟨w,v⟩,c,n⟩:=Xw.1 h;simp only[Prod.mk.injEq]at n;obtain⟨rfl,rfl,rfl⟩:=n;unfold GX at c;split at c
   .obtain⟨r,_,c⟩:=Xw.1 c;obtain⟨_,rfl⟩:=Prod.mk.inj c;exact Xm 1
   .rename_i e' xs i p bJ;split at c
    .split at c
     .simp only[Option.some.injEq,Prod.mk.injEq]at c;obtain⟨_,rfl⟩:=c;obtain⟨s,z,f⟩:=g id (Xl ..);simp_all
     grind
    grind
   grind
  .split at h
   .obtain⟨r,_,h⟩:=Xw.1 h;have f:=(Prod.mk.inj (Prod.mk.inj h).2).1;subst f;exact Xm 1
   grind
  .grind
  grind
 | .slice e,cs,d,m,l,_,h=>by
  have u:m= []:=by
   simp only[aC]at h
   grind [Xw,Prod.mk.inj]
  simp_all
 | .int k,cs,d,m,l,_,h=>by
  simp only[aC]at h;split at h
  .obtain⟨q,o,h⟩:=Xw.1 h;simp_all
  grind
 | .bool,cs,d,m,l,_,h=>by
  simp only[aC]at h;split at h
  .obtain⟨q,o,h⟩:=Xw.1 h;simp_all
  grind
 | .str,cs,d,m,l,_,h=>by
  simp only[aC]at h;split at h
  .obtain⟨q,o,h⟩:=Xw.1 h;simp_all
  grind
theorem FJ(h:HR w0 F G ν φ objs nx w)(e:GLe G G'){t:Ty}(i:t.owns=0){cs:List Cell}{vs:List Value}{d:t.den}{m l:List Nat}(b:CellsRel G ν nx cs vs)(f:Lent G' w φ objs l)(c:aC t cs objs=some (d,m,l))(g:m= []):WC G' w t d vs []:=by
 subst g;obtain⟨j,a,_⟩:=fz h e t cs vs d [] l b f p0 c;have:=W9 _ _ _ _ a;simp_all
def pcs(ν:Nat->Nu)(φ:Nat->CS)(m:List Nat):List Pc:=m.map λi=>⟨ν i,φ i⟩
theorem Ww2(m:List Nat):nus (pcs ν φ m)=m.map ν:=by simp[nus,pcs,Function.comp_def]
theorem MI(m:List Nat):fps (pcs ν φ m)=m.map φ:=by simp[fps,pcs,Function.comp_def]
theorem FG(h:HR w0 F G ν φ objs nx w)(s:GLe G G'):∀(t:Ty) (cs:List Cell) (vs:List Value) (d:t.den) (m l:List Nat),CellsRel G ν nx cs vs->Lent G' w φ objs l->(∀c∈cs,Nf c=true)->D1 objs m->
  aC t cs objs=some (d,m,l)->m.length=t.owns->WC G' w t d vs (pcs ν φ m)/\uC objs t m
 | .prod a b,cs,vs,d,m,l,g,j,r,q,f,hm=>by
  have O:=f;simp only[aC]at f;split at f
  .rename_i x m1 l1 y m2 l2 h1 z;simp only[Option.some.injEq,Prod.mk.injEq]at f;obtain⟨rfl,rfl,rfl⟩:=f;have D:D1 objs m1:=λi A=>q i (Xo _ A);have E:D1 objs m2:=λi A=>q i (Xi _ A);have U:=F2 a _ _ _ _ D h1;have V:=F2 b _ _ _ _ E z;rw[Xz]at hm;have S:m1.length+m2.length=a.owns+b.owns:=hm;obtain⟨J,K⟩:=FG h s a _ (vs.take a.size) x m1 l1 (g.take _) (j.mono (by simp_all)) (λc g=>r c (nI g)) D h1 (by omega);obtain⟨L,M⟩:=FG h s b _ (vs.drop a.size) y m2 l2 (g.drop _) (j.mono (by simp_all)) (λc g=>r c (Yn g)) E z (by omega);exact⟨⟨_,_,pcs ν φ m1,pcs ν φ m2,(X9 a.size vs).symm,by simp[pcs],J,L⟩,m1,m2,rfl,K,M⟩
  grind
 | .own e,cs,vs,d,m,l,g,j,r,q,f,hm=>by
  simp only[aC]at f;split at f
  .rename_i id;obtain⟨v,rfl,⟨_,Q⟩,_⟩:=g.single;subst Q;obtain⟨⟨W,T⟩,o,f⟩:=Xw.1 f;simp only[Prod.mk.injEq]at f;obtain⟨rfl,rfl,rfl⟩:=f;unfold GX at o;split at o
   .rename_i e' B u;obtain⟨Y,I,o⟩:=Xw.1 o;obtain⟨rfl,rfl⟩:=Prod.mk.inj o;obtain⟨N,C⟩:=jB I;subst N;simp only at C;subst C;have H:ah w (WC G w e') e'.size (ν id) B (φ id):=h.ob _ _ u;exact⟨⟨⟨ν id,φ id⟩,rfl,rfl,tZ s (Same.refl _ w) (λ_ _ P=>P) H⟩,id,B,rfl,u⟩
   .rename_i e' B i p u;split at o
    .split at o
     .simp only[Option.some.injEq,Prod.mk.injEq]at o;obtain⟨_,rfl⟩:=o;obtain⟨R,X,z⟩:=q id (Xl ..);simp_all
     grind
    grind
   grind
  .have:=r _ (cw.2 rfl);cases this
  .simp only[Option.some.injEq,Prod.mk.injEq]at f;obtain⟨rfl,rfl,rfl⟩:=f;exact Wz hm (by show¬(0=1);omega)
  grind
 | .slice e,cs,vs,d,m,l,g,j,r,q,f,hm=>by
  have n:m= []:=dV hm;have:=FJ h s (t:=.slice e) rfl g j f n;subst n;exact⟨this,rfl⟩
 | .int k,cs,vs,d,m,l,g,j,r,q,f,hm=>by
  have n:m= []:=dV hm;have:=FJ h s (t:=.int k) rfl g j f n;subst n;exact⟨this,rfl⟩
 | .bool,cs,vs,d,m,l,g,j,r,q,f,hm=>by
  have n:m= []:=dV hm;have:=FJ h s (t:=.bool) rfl g j f n;subst n;exact⟨this,rfl⟩
 | .str,cs,vs,d,m,l,g,j,r,q,f,hm=>by
  have n:m= []:=dV hm;have:=FJ h s (t:=.str) rfl g j f n;subst n;exact⟨this,rfl⟩
theorem WrI{t:Ty}{m:List Nat}{x:AVal}(h:DD objs t m x=true):m.length=t.owns/\XP x=true/\D1 objs m:=by
 unfold DD at h;simp only[Xh,Wg,bA]at h;obtain⟨⟨a,b⟩,c⟩:=h;refine⟨a,b,λi d=>?_⟩
 grind
theorem Tj(h:HR w0 F G ν φ objs nx w){t:Ty}{b:Bool}{x:AVal}{v:Value}{cs:List Cell}{d:t.den}{m l:List Nat}(k:GLe G G')(e:AValRel G ν nx x v)(n:Lent G' w φ objs l)
  (a:cellsOf b x=some cs) (j:aC t cs objs=some (d,m,l)) (u:DD objs t m x=true):ec G' w t b d v (pcs ν φ m)/\uC objs t m:=by
 obtain⟨o,p,q⟩:=WrI u;unfold cellsOf at a;split at a
 .split at a
  .cases a
  .rename_i c qY;injection a with a;subst a;obtain⟨s,i⟩:=FG h k t [c] [v] d m l (CellsRel.one e.1 e.2) n (λg f=>by rw[cw.1 f];exact p) q j o;simp_all [ec,We]
 .split at a
  .rename_i ds qY;injection a with a;subst a;obtain⟨y,rfl,r⟩:=e;obtain⟨s,i⟩:=FG h k t ds y d m l r n (λg f=>bA.1 p g f) q j o;refine⟨?_,i⟩;unfold ec;simp_all
  .cases a
 .cases a
def Tk(φ:Nat->CS)(objs:aa)(bx:List (Nat×CS))(l:List Nat):CS:=λb o=>∃i∈l,Live objs i/\φ i b o/\∀p∈bx,p.1=i->p.2 b o
structure AOk(G':GH)(ν:Nat->Nu)(φ:Nat->CS)(objs:aa)(w:World)(ps:List PTy)(A:Args ps)(vs:List Value)(ns:List Pc)(ks:List Nu)(bx:List (Nat×CS)):Prop where
 args:gc G' w ps A.d vs ns ks
 kept:KeptOk objs ν bx ps A.kept ks
 sep:Sep (fps ns)
 tk:∀q∈ns,CS.le q.fp (Tk φ objs bx A.all)
 bx:∀p∈bx,p.1∈A.all
 live:∀i∈A.all,Live objs i
 lent:∀i∈A.lent,Live objs i
 mv:∀i∈A.moved,i∈A.all
 mvk:∀i∈A.all,i∈A.moved\/i∈kids A.kept
 sub:(kids A.kept).Sublist A.all
 dis:∀i∈kids A.kept,i∉A.moved
theorem Dx{bx:List (Nat×CS)}{l:List Nat}:CS.le (Tk φ objs bx l) (FromL φ objs l):=λb o ⟨i,d,a,c,_⟩=>⟨i,d,a,c⟩
theorem Gv{bx c:List (Nat×CS)}{l a:List Nat}(h:∀i∈l,i∈a)(k:∀p∈c,p∈bx\/p.1∉l):CS.le (Tk φ objs bx l) (Tk φ objs c a):=λb o ⟨i,g,d,f,j⟩=>
 ⟨i,h i g,d,f,λp m e=>by
  grind⟩
theorem MH{bx:List (Nat×CS)}{m l:List Nat}(g:∀i∈m,i∈l)(d:∀p∈bx,p.1∉m):CS.le (FromL φ objs m) (Tk φ objs bx l):=λb o ⟨i,f,a,c⟩=>
 ⟨i,g i f,a,c,λp h e=>Wz (by simp_all) (d p h)⟩
theorem mZ(h:HR w0 F G ν φ objs nx w){n1 a:List Pc}{m l:List Nat}(b:Sep (fps n1))(c:Sep (fps a))(f:∀q∈n1,CS.le q.fp (FromL φ objs m))(g:∀q∈a,CS.le q.fp (FromL φ objs l))(d:∀i∈m,i∉l):Sep (fps (n1++a)):=by
 unfold fps;rw[Xx];refine MP b c (A:=FromL φ objs m) (B:=FromL φ objs l) (λs e=>?_) (λs e=>?_) (FromL.disj h d)
 .grind
 grind
theorem UW(h:HR w0 F G ν φ objs nx w)(U:GLe G G'){t:Ty}{D:List PTy}{id off:Nat}{cs:List Cell}{d:t.den}{m:List Nat}{A:Args D}{vs:List Value}{C:List Pc}{L:List Nu}{bx:List (Nat×CS)}{v:Value}
  (W:CellRel G ν nx (.ptr id off) v) (x:Wt objs id=some (.box cs)) (T:aC t ((cs.drop off).take t.size) objs=some (d,m,[])) (P:(id::(m++A.all)).Nodup) (f:AOk G' ν φ objs w D A vs C L bx):
  ∃b n,v= .pointer (some ⟨b,(ν id).off+off,none⟩)/\(ν id).blk=some b/\nh G' w t d b ((ν id).off+off) n/\Leaf ν t ((cs.drop off).take t.size) n/\
   KeptBox objs ν ((id,rng b ((ν id).off+off) t.size)::bx) t ⟨id,off⟩ (c6 b ((ν id).off+off))/\KeptOk objs ν ((id,rng b ((ν id).off+off) t.size)::bx) D A.kept L/\
   Sep (fps (⟨c6 b ((ν id).off+off),rng b ((ν id).off+off) t.size⟩::(n++C)))/\
   (∀q∈(⟨c6 b ((ν id).off+off),rng b ((ν id).off+off) t.size⟩:Pc)::(n++C),CS.le q.fp (Tk φ objs ((id,rng b ((ν id).off+off) t.size)::bx) (id::(m++A.all))))/\
   (∀p∈(id,rng b ((ν id).off+off) t.size)::bx,p.1∈id::(m++A.all))/\(∀i∈id::(m++A.all),Live objs i)/\
   (∀i∈m++A.moved,i∈id::(m++A.all))/\(∀i∈id::(m++A.all),i∈m++A.moved\/i∈id::kids A.kept)/\(id::kids A.kept).Sublist (id::(m++A.all))/\(∀i∈id::kids A.kept,i∉m++A.moved):=by
 obtain⟨ck,b,y,rfl⟩:=W;obtain⟨n,Y⟩:=cr.1 P;obtain⟨Z,n4,B⟩:=dc.1 Y;have z:Live objs id:=⟨_,x,by simp⟩;obtain⟨I,us,u,Q,O,J,S⟩:dt G ν nx w id (φ id) (.box cs):=h.ob _ _ x;rw[y]at u;injection u with u;subst u;obtain⟨q1,M,t2,H,t4,_,t5⟩:=fz h U t _ ((us.drop off).take t.size) d m [] ((J.drop off).take _) (λi a=>by simp at a) Z T;have af:=WI _ _ _ _ M;have R:off+t.size<=cs.length:=by
  have:=J.1
  grind [dA,D9,lP]
 have K:CS.le (rng b ((ν id).off+off) t.size) (φ id):=λI o ⟨X,k1,k2⟩=>S I o ⟨X,by omega,by omega⟩;refine⟨b,q1,rfl,y,⟨_,?_,?_,M⟩,t5,⟨cs,b,x,R,y,rfl,Xl ..⟩,KeptOk.mono (λp c=>Xg _ c) _ _ _ f.kept,?_,?_,?_,?_,?_,?_,?_,?_⟩
 .obtain⟨E,N,r1,r2⟩:=Q;exact⟨E,N,r1,by omega⟩
 .intro j v r;rw[lm]at r;split at r
  .rw[li]at r;rw[dB];exact O _ v r
  grind
 .have s1:=mZ h t2 f.sep H (λq l b o g=>Dx b o (f.tk q l b o g)) (λi a r=>B i a i r rfl);refine Xu.2 ⟨λs V=>?_,s1⟩;obtain⟨p,c,rfl⟩:=Xv.1 V;refine CS.disj.mono (FromL.disj h (m:=[id]) (m':=m++A.all) (λi a r=>n (by simp_all))) (λb o g=>⟨id,by simp,z,K b o g⟩) (λb o g=>?_);rcases Xp.1 c with c|c
  .exact FromL.mono (λi a=>Xo _ a) b o (H p c b o g)
  .exact FromL.mono (λi a=>Xi _ a) b o (Dx b o (f.tk p c b o g))
 .intro q l;rcases Xr.1 l with rfl|l
  .exactλb o g=>⟨id,Xl ..,z,K b o g,λp c e=>by
    rcases Xr.1 c with rfl|c
    .exact g
    .exact Wz (Xi _ (by rw[←e];exact f.bx p c)) n⟩
  .rcases Xp.1 l with l|l
   .refineλb o g=>MH (m:=m) (λi a=>Xg _ (Xo _ a)) (λp c k=>?_) b o (H q l b o g)
    rcases Xr.1 c with rfl|c
    .simp_all
    .exact B _ k _ (f.bx p c) rfl
   .refineλb o g=>Gv (λi a=>Xg _ (Xi _ a)) (λp c=>?_) b o (f.tk q l b o g)
    grind
 .intro p c;rcases Xr.1 c with rfl|c
  .simp_all
  .exact Xg _ (Xi _ (f.bx p c))
 .intro i a;rcases Xr.1 a with rfl|a
  .exact z
  .rcases Xp.1 a with a|a
   .grind
   .exact f.live i a
 .intro i a;rcases Xp.1 a with a|a
  .exact Xg _ (Xo _ a)
  .exact Xg _ (Xi _ (f.mv i a))
 .intro i a;rcases Xr.1 a with rfl|a
  .exact .inr (Xl ..)
  .rcases Xp.1 a with a|a
   .exact .inl (Xo _ a)
   .rcases f.mvk i a with a|a
    .exact .inl (Xi _ a)
    .exact .inr (Xg _ a)
 .exact List.Sublist.cons_cons _ (List.Sublist.trans f.sub (Yz _ _))
 .intro i a k;rcases Xr.1 a with rfl|a
  .rcases Xp.1 k with k|k
   .exact n (Xo _ k)
   .exact n (Xi _ (f.mv _ k))
  .rcases Xp.1 k with k|k
   .exact B _ k _ (f.sub.subset a) rfl
   .exact f.dis i a k
theorem WrP(h:HR w0 F G ν φ objs nx w){c:Cell}{y:AVal}{i:Nat}{u:Value}(g:AValRel G ν nx y u)(a:M2 objs c y=some i):
  ∃r b,c= .own r/\(ν r).blk=some b/\i<(ν r).len/\u= .pointer (some ⟨b,(ν r).off+(i*(ν r).esz+0),none⟩):=by
 unfold M2 at a;split at a
 .rename_i r p off;split at a
  .rename_i e xs j p' bJ;split at a
   .rename_i d;injection a with a;subst a;have d:=vG d;subst d;obtain⟨x,t,m,v,b,n,o,q,_⟩:p<nx/\kQ w (WC G w e) e.size (ν r) (ν p) xs j (φ r):=h.ob _ _ bJ;obtain⟨⟨_,s,f,rfl⟩,_⟩:=g;rw[o]at f;injection f with f;subst f;exact⟨r,b,rfl,n,by omega,by rw[q,m,c5,c5]⟩
   .simp at a
  .simp at a
 .rename_i r r' j off;split at a
  .rename_i e xs bJ;split at a
   .rename_i d;injection a with a;subst a;have d:=vG d;subst d;obtain⟨⟨_,k,b,l,rfl⟩,_⟩:=g;exact⟨r,b,rfl,l,k,rfl⟩
   .simp at a
  .simp at a
 .simp at a
theorem oL(h:HR w0 F G ν φ objs nx w)(Q:GLe G G'):∀(N:List PTy) (xs:List AVal) (vs:List Value) (A:Args N),vs.length=xs.length->
  (∀(j:Nat) (x:AVal) (v:Value),xs[j]?=some x->vs[j]?=some v->AValRel G ν nx x v)->Lent G' w φ objs A.lent->A.all.Nodup->d4 N xs objs=some A->
  ∃K J R,AOk G' ν φ objs w N A vs K J R
 | [],xs,vs,A,z,C,L,O,f=>by
  simp only[d4]at f;split at f
  .injection f with f;subst f;have ig:vs= []:=dV (by simpa using z);exact⟨[],[],[],⟨ig,rfl,rfl⟩,⟨rfl,rfl⟩,List.Pairwise.nil,by simp,by simp,by simp,by simp,by simp,by simp,List.Sublist.refl _,by simp[kids]⟩
  .cases f
 | .v t agg::N,xs,vs,A,z,C,L,O,f=>by
  simp only[d4]at f;split at f
  .rename_i x xs;split at f
   .rename_i d m r A' H P;injection f with f;subst f
    match vs,z with
    |v::vs,z=>
     cases T:cellsOf agg x with
     |none=>simp[T]at H
     |some W=>
      simp[T]at H;obtain⟨n1,X,n3⟩:=dc.1 O;obtain⟨U,g1,g2,g3,g4,g5⟩:=Gi h Q (C 0 x v rfl rfl) (L.mono (λi a=>Xo _ a)) n1 T H;obtain⟨K,J,R,l⟩:=oL h Q N xs vs A' (by simpa using z) (λj y u s I=>C (j+1) y u (by simpa using s) (by simpa using I)) (L.mono (λi a=>Xi _ a)) X P;refine⟨U++K,J,R,⟨v,vs,U,K,rfl,rfl,g1,l.args⟩,l.kept,mZ h g2 l.sep g3 (λq B b o E=>Dx b o (l.tk q B b o E)) (λi a s=>n3 i a i s rfl),λq B=>?_,λp M=>Xi _ (l.bx p M),λi a=>?_,λi a=>?_,λi a=>?_,λi a=>?_,List.Sublist.trans l.sub (Yz _ _),λi a S=>?_⟩
      .rcases Xp.1 B with B|B
       .exactλb o E=>MH (λi a=>Xo _ a) (λp M S=>n3 _ S _ (l.bx p M) rfl) b o (g3 q B b o E)
       .exactλb o E=>Gv (λi a=>Xi _ a) (λp M=>.inl M) b o (l.tk q B b o E)
      .rcases Xp.1 a with a|a
       .exact g4 i a
       .exact l.live i a
      .rcases Xp.1 a with a|a
       .exact g5 i a
       .exact l.lent i a
      .rcases Xp.1 a with a|a
       .exact Xo _ a
       .exact Xi _ (l.mv i a)
      .rcases Xp.1 a with a|a
       .exact .inl (Xo _ a)
       .rcases l.mvk i a with a|a
        .exact .inl (Xi _ a)
        .exact .inr a
      .rcases Xp.1 S with S|S
       .exact n3 _ S _ (l.sub.subset a) rfl
       .exact l.dis i a S
   .cases f
  .cases f
 | .box t::N,xs,vs,A,z,C,L,O,f=>by
  simp only[d4]at f;split at f
  .rename_i id off xs;split at f
   .rename_i W V;split at f
    .rename_i d m A' H P;injection f with f;subst f
     match vs,z with
     |v::vs,z=>
      obtain⟨n1,X⟩:=cr.1 O;obtain⟨K,J,R,l⟩:=oL h Q N xs vs A' (by simpa using z) (λj y u s I=>C (j+1) y u (by simpa using s) (by simpa using I)) L (dc.1 X).2.1 P;obtain⟨b,U,rfl,bM,k1,_,k2,k3,k4,k5,k6,k7,k8,k9,Z,jJ⟩:=UW h Q (C 0 _ v rfl rfl).1 V H O l;exact⟨_,_,_,⟨b,_,vs,U,K,J,rfl,rfl,rfl,k1,l.args⟩,⟨_,_,_,_,rfl,rfl,k2,k3⟩,k4,k5,k6,k7,l.lent,k8,k9,Z,jJ⟩
    .cases f
   .cases f
  .cases f
 | .vj _::_,_,_,_,_,_,_,_,f=>by simp only[d4]at f;cases f
 | .boxal t lf::N,xs,vs,A,z,C,L,O,f=>by
  simp only[d4]at f;split at f
  .rename_i id off y xs;split at f
   .rename_i W V;split at f
    .rename_i d m A' i H P Y;injection f with f;subst f
     match vs,z with
     |v::u::vs,z=>
      obtain⟨n1,X⟩:=cr.1 O;obtain⟨K,J,R,l⟩:=oL h Q N xs vs A' (by simpa using z) (λj y u s I=>C (j+2) y u (by simpa using s) (by simpa using I)) L (dc.1 X).2.1 P;obtain⟨b,U,rfl,bM,k1,kl,k2,k3,k4,k5,k6,k7,k8,k9,Z,jJ⟩:=UW h Q (C 0 _ v rfl rfl).1 V H O l;obtain⟨c,T,Y⟩:=jc.1 Y;obtain⟨k,hk,T⟩:=jc.1 T;obtain⟨r,b',rfl,e1,e2,rfl⟩:=WrP h (C 1 y u rfl rfl) Y;obtain⟨pc,e3,e4⟩:=kl lf k r hk T;exact⟨_,_,_,⟨b,_,b',pc,vs,U,K,J,by rw[e4],rfl,rfl,k1,e3,by rw[e4];exact e1,by rw[e4];exact e2,l.args⟩,⟨_,_,_,_,rfl,rfl,k2,k3⟩,k4,k5,k6,k7,l.lent,k8,k9,Z,jJ⟩
    .cases f
   .cases f
  .cases f
 | .mut e::N,xs,vs,A,z,C,L,O,f=>by
  simp only[d4]at f;split at f
  .rename_i id xs;split at f
   .rename_i e' ys V;split at f
    .rename_i d A' H P;injection f with f;subst f;obtain⟨he,hd⟩:=jB H;subst he;simp only at hd;subst hd
     match vs,z with
     |v::vs,z=>
      obtain⟨⟨_,hv⟩,_⟩:=C 0 _ v rfl rfl;subst hv;obtain⟨n1,X⟩:=cr.1 O;have ba:Live objs id:=⟨_,V,by simp⟩;have bd:ah w (WC G w e') e'.size (ν id) ys (φ id):=h.ob _ _ V;obtain⟨K,J,R,l⟩:=oL h Q N xs vs A' (by simpa using z) (λj y u s I=>C (j+1) y u (by simpa using s) (by simpa using I)) L X P;refine⟨⟨ν id,φ id⟩::K,ν id::J,R,⟨⟨ν id,φ id⟩,vs,K,J,rfl,rfl,rfl,tZ Q (Same.refl _ w) (λ_ _ E=>E) bd,l.args⟩,⟨id,_,J,ys,rfl,rfl,V,l.kept⟩,?_,λq B=>?_,λp M=>Xg _ (l.bx p M),λi a=>?_,l.lent,λi a=>Xg _ (l.mv i a),λi a=>?_,List.Sublist.cons_cons _ l.sub,λi a S=>?_⟩
      .refine mZ h (n1:=[⟨ν id,φ id⟩]) (m:=[id]) (List.pairwise_singleton _ _) l.sep (λq B=>?_) (λq B b o E=>Dx b o (l.tk q B b o E)) (λi a s=>n1 (by rw[←cw.1 a];exact s));rw[cw.1 B];exact FromL.one (by simp) ba
      .rcases Xr.1 B with rfl|B
       .exactλb o E=>⟨id,Xl ..,ba,E,λp M e=>Wz (by rw[←e];exact l.bx p M) n1⟩
       .exactλb o E=>Gv (λi a=>Xg _ a) (λp M=>.inl M) b o (l.tk q B b o E)
      .rcases Xr.1 a with rfl|a
       .exact ba
       .exact l.live i a
      .rcases Xr.1 a with rfl|a
       .exact .inr (Xl ..)
       .rcases l.mvk i a with a|a
        .exact .inl a
        .exact .inr (Xg _ a)
      .rcases Xr.1 a with rfl|a
       .exact n1 (l.mv _ S)
       .exact l.dis i a S
    .cases f
   .cases f
  .cases f
 | .clos g n::N,xs,vs,A,z,C,L,O,f=>by
  simp only[d4]at f;split at f
  .rename_i g' caps xs;split at f
   .rename_i T;obtain⟨rfl,dz⟩:=T;cases l:d4 N (da caps++xs) objs with
    |none=>simp[l]at f
    |some A'=>
     simp only[l,lr,Option.some.injEq]at f;subst f
     match vs,z with
     |v::vs,z=>
      obtain⟨⟨cvs,hv,nl,so⟩,_⟩:=C 0 _ v rfl rfl;subst hv;obtain⟨K,J,R,D⟩:=oL h Q N (da caps++xs) (cvs++vs) A' (by simp[da,nl];simpa using z) (λj y u s I=>by
       rw[eW]at s I;simp only[da,Xt]at s;rw[nl]at I;split at s
       .rename_i ae;rw[Wf ae]at I;rw[dF]at s;obtain⟨id,ck,rfl⟩:=Xw.1 s;obtain⟨H,Y,P⟩:=so _ id u ck I;exact⟨⟨H,P⟩,Y⟩
       .rename_i ae;rw[We ae]at I;exact C (j-caps.length+1) y u (by simpa using s) (by simpa using I)) L O l
      refine⟨K,J,R,⟨cvs,vs,rfl,by rw[nl];exact dz,λu I=>?_,D.args⟩,D.kept,D.sep,D.tk,D.bx,D.live,D.lent,D.mv,D.mvk,D.sub,D.dis⟩;obtain⟨j,s⟩:=NM I;have ae:j<caps.length:=by rw[←nl];exact(dp.1 s).1
      exact(so j _ u (Xq ae) s).2.1
   .cases f
  .cases f
 | .kv t agg::N,xs,vs,A,z,C,L,O,f=>by
  simp only[d4]at f;split at f
  .rename_i x xs;split at f
   .rename_i d m r A' H P;split at f
    .rename_i jp;injection f with f;subst f
     match vs,z with
     |v::vs,z=>
      cases T:cellsOf agg x with
      |none=>simp[T]at H
      |some W=>
       simp[T]at H;obtain⟨n1,X,n3⟩:=dc.1 O;have cg:Lent G' w φ objs r:=L.mono (λi a=>Xo _ a);obtain⟨_,_,_,_,g4,g5⟩:=Gi h Q (C 0 x v rfl rfl) cg n1 T H;obtain⟨k1,k2⟩:=Tj h Q (C 0 x v rfl rfl) cg T H jp;obtain⟨K,J,R,l⟩:=oL h Q N xs vs A' (by simpa using z) (λj y u s I=>C (j+1) y u (by simpa using s) (by simpa using I)) (L.mono (λi a=>Xi _ a)) X P;have kG:kids (kp0 m++A'.kept)=m++kids A'.kept:=by simp only[kids,Xx];congr 1;exact Gc m
       have gp:∀q∈pcs ν φ m,CS.le q.fp (FromL φ objs m):=λq B=>by
        obtain⟨i,a,rfl⟩:=Xv.1 B;exact FromL.one a (g4 i a)
       have gs:Sep (fps (pcs ν φ m)):=by
        rw[MI];refine List.pairwise_map.2 (n1.imp_of_mem λ{i j} a s bI=>?_)
        exactλb o H P=>bI (h.inj i j b o (g4 i a) (g4 j s) H P)
       refine⟨pcs ν φ m++K,m.map ν++J,R,⟨v,vs,pcs ν φ m,K,J,rfl,rfl,by rw[Ww2],k1,l.args⟩,⟨m,A'.kept,J,rfl,rfl,k2,l.kept⟩,mZ h gs l.sep gp (λq B b o E=>Dx b o (l.tk q B b o E)) (λi a s=>n3 i a i s rfl),λq B=>?_,λp M=>Xi _ (l.bx p M),λi a=>?_,λi a=>?_,λi a=>Xi _ (l.mv i a),λi a=>?_,by rw[kG];exact List.Sublist.append (List.Sublist.refl _) l.sub,λi a S=>?_⟩
       .rcases Xp.1 B with B|B
        .exactλb o E=>MH (λi a=>Xo _ a) (λp M S=>n3 _ S _ (l.bx p M) rfl) b o (gp q B b o E)
        .exactλb o E=>Gv (λi a=>Xi _ a) (λp M=>.inl M) b o (l.tk q B b o E)
       .rcases Xp.1 a with a|a
        .exact g4 i a
        .exact l.live i a
       .rcases Xp.1 a with a|a
        .exact g5 i a
        .exact l.lent i a
       .rw[kG];rcases Xp.1 a with a|a
        .exact .inr (Xo _ a)
        .rcases l.mvk i a with a|a
         .exact .inl a
         .exact .inr (Xi _ a)
       .rw[kG]at a;rcases Xp.1 a with a|a
        .exact n3 _ a _ (l.mv i S) rfl
        .exact l.dis i a S
    .cases f
   .cases f
  .cases f
 | .rp t::N,xs,vs,A,z,C,L,O,f=>by
  simp only[d4]at f;split at f
  .rename_i id off xs;split at f
   .rename_i W V;split at f
    .rename_i d r A' H P;split at f
     case isFalse=>cases f
     rename_i v7;injection f with f;subst f
     match vs,z with
     |v::vs,z=>
      obtain⟨K,J,R,l⟩:=oL h Q N xs vs A' (by simpa using z) (λj y u s I=>C (j+1) y u (by simpa using s) (by simpa using I)) (L.mono (λi a=>Xg _ (Xi _ a))) O P;obtain⟨⟨ck,b,bM,rfl⟩,_⟩:=C 0 _ v rfl rfl;have ba:Live objs id:=⟨_,V,by simp⟩;obtain⟨b',us,c7,bu,aN,cl,gW⟩:dt G ν nx w id (φ id) (.box W):=h.ob _ _ V;rw[bM]at c7;injection c7 with c7;subst c7;obtain⟨U,t1,t2,t3,t4,t5,_⟩:=fz h Q t _ ((us.drop off).take t.size) d [] r ((cl.drop off).take _) (L.mono (λi a=>Xg _ (Xo _ a))) p0 H;have v8:∀p∈U,Froz G' w p.fp:=λp M b o v E=>by
       obtain⟨i,a,_⟩:=t3 p M b o E;simp at a
      have iA:Enc G' t.ro (rF t d) ((us.drop off).take t.size):=tW (λ_ _ _ E=>E) t d _ U v8 t1;have md:=WI _ _ _ _ t1;have cX:off+t.size<=W.length:=by
       have:=cl.1;rw[dA,D9]at md;have:=lP t;omega
      have bL:m9 G' b ((ν id).off+off) ((us.drop off).take t.size):=λj v s=>by
       have wa:j<t.size:=by have:=(dp.1 s).1;omega
       rw[lm,Wf wa,li]at s;have Y:=aN _ v s;rw[←dB]at Y;exact L id (Xl ..) ba b _ v (gW b _ ⟨rfl,by omega,by omega⟩) Y
      exact⟨K,J,R,⟨b,(ν id).off+off,(us.drop off).take t.size,vs,rfl,((mT t d _ U v7).1 t1).1,bL,l.args⟩,l.kept,l.sep,l.tk,l.bx,l.live,λi a=>by
       rcases Xr.1 a with rfl|a
       .exact ba
       .rcases Xp.1 a with a|a
        .exact t5 i a
        .exact l.lent i a,l.mv,l.mvk,l.sub,l.dis⟩
    .cases f
   .cases f
  .rename_i t' d' off xs;split at f
   .rename_i d A' H P;split at f
    case isFalse=>cases f
    rename_i v7;injection f with f;subst f
    match vs,z with
    |v::vs,z=>
     obtain⟨K,J,R,l⟩:=oL h Q N xs vs A' (by simpa using z) (λj y u s I=>C (j+1) y u (by simpa using s) (by simpa using I)) L O P;obtain⟨⟨b,o,W,rfl,e1,e2⟩,_⟩:=C 0 _ v rfl rfl;have cl:=ie (ν:=ν) (nx:=nx) t' d' W e1;obtain⟨U,t1,t2,t3,t4,t5,_⟩:=fz h Q t _ ((W.drop off).take t.size) d [] [] ((cl.drop off).take _) (λi a=>by simp at a) p0 H;exact⟨K,J,R,⟨b,o+off,(W.drop off).take t.size,vs,rfl,((mT t d _ U v7).1 t1).1,λj v s=>by
      rw[lm]at s;split at s
      .rw[li]at s;rw[dB];exact Q _ _ _ (e2 _ v s)
      .simp at s,l.args⟩,l.kept,l.sep,l.tk,l.bx,l.live,l.lent,l.mv,l.mvk,l.sub,l.dis⟩
   .cases f
  .cases f
end
theorem oZ{G G':GH}{w:World}:∀(t:Ty) (d:t.den) (vs:List Value) (l:List Pc),t.noRo=true->WC G w t d vs l->WC G' w t d vs l
 | .own e,_,_,_,f,⟨r,g,i,j⟩=>⟨r,g,i,Ge (λx c q k=>WI e x c q k) (Same.refl _ w) (λ_ _ n=>n) (λx c q _ k=>oZ e x c q f k) j⟩
 | .prod a b,_,_,_,f,⟨v1,v2,o,p,g,i,j,m⟩=>by
  simp only[Ty.noRo,Xh]at f;exact⟨v1,v2,o,p,g,i,oZ a _ _ _ f.1 j,oZ b _ _ _ f.2 m⟩
 | .int _,_,_,_,_,h=>h
 | .bool,_,_,_,_,h=>h
 | .str,_,_,_,_,h=>h
 | .slice _,_,_,_,f,_=>by simp[Ty.noRo]at f
theorem WtC{G G':GH}{w:World}{e:Ty}{nu:Nu}{xs:List e.den}{S:CS}(d:e.noRo=true)(h:ah w (WC G w e) e.size nu xs S):ah w (WC G' w e) e.size nu xs S:=
 Ge (λx c q a=>WI e x c q a) (Same.refl _ w) (λ_ _ b=>b) (λx c q _ a=>oZ e x c q d a) h
theorem K3{G G':GH}{w:World}{t:Ty}{d:t.den}{b o:Nat}{ns:List Pc}(f:t.noRo=true)(h:nh G w t d b o ns):nh G' w t d b o ns:=by
 obtain⟨g,a,c,e⟩:=h;exact⟨g,a,c,oZ _ _ _ _ f e⟩
theorem Wts{G G':GH}{w:World}{t:Ty}{a:Bool}{d:t.den}{v:Value}{ns:List Pc}(b:t.noRo=true)(h:ec G w t a d v ns):ec G' w t a d v ns:=by
 unfold ec at h⊢;split
 .rename_i ha;rw[Wf ha]at h;obtain⟨f,c,e⟩:=h;exact⟨f,c,oZ _ _ _ _ b e⟩
 .rename_i ha;rw[We ha]at h;exact oZ _ _ _ _ b h
theorem Fv{G G':GH}{w:World}:∀(c:List PTy) (d:db c) (vs:List Value) (l:List Pc),c.all PTy.freshR=true->pi G w c d vs l->pi G' w c d vs l
 | [],_,_,_,_,h=>h
 | .v t agg::c,d,vs,l,a,⟨v,e,j,k,f,g,i,m⟩=>by
  simp only[dG,Xh]at a;exact⟨v,e,j,k,f,g,Wts a.1 i,Fv c _ _ _ a.2 m⟩
 | .box t::c,d,vs,l,a,⟨b,o,e,j,k,f,g,i,p⟩=>by
  simp only[dG,Xh]at a;exact⟨b,o,e,j,k,f,g,K3 a.1 i,Fv c _ _ _ a.2 p⟩
 | .mut _::_,_,_,_,_,h=>h.elim
 | .clos _ _::_,_,_,_,_,h=>h.elim
 | .kv _ _::_,_,_,_,_,h=>h.elim
 | .rp _::_,_,_,_,_,h=>h.elim
 | .vj t::c,d,vs,l,a,⟨q,u,e,j,k,f,n,g,i,m⟩=>by
  simp only[dG,Xh]at a;exact⟨q,u,e,j,k,f,n,g,oZ _ _ _ _ a.1 i,Fv c _ _ _ a.2 m⟩
 | .boxal _ _::_,_,_,_,_,h=>h.elim
theorem qo{G G':GH}{w:World}:∀(c:List PTy) (o:cT c) (f:List Nu) (d:List CS) (g:List Pc),c.all PTy.fresh=true->gS G w c o f d g->gS G' w c o f d g
 | [],_,_,_,_,_,h=>h
 | .v _ _::c,o,f,d,g,a,h=>by
  simp only[dG,Xh]at a;exact qo c o f d g a.2 h
 | .box t::c,o,f,d,g,a,⟨b,p,i,j,q,s,k,l,m,n,r⟩=>by
  simp only[dG,Xh]at a;exact⟨b,p,i,j,q,s,k,l,m,K3 a.1 n,qo c _ _ _ _ a.2 r⟩
 | .mut e::c,o,f,d,g,a,⟨u,i,j,k,l,m,n⟩=>by
  simp only[dG,Xh]at a;exact⟨u,i,j,k,l,WtC a.1 m,qo c _ _ _ _ a.2 n⟩
 | .clos _ _::c,o,f,d,g,a,h=>by
  simp only[dG,Xh]at a;exact qo c o f d g a.2 h
 | .kv t _::c,o,f,d,g,a,⟨q,i,j,x,k,l,m,n⟩=>by
  simp only[dG,Xh]at a;exact⟨q,i,j,x,k,l,oZ _ _ _ _ a.1 m,qo c _ _ _ _ a.2 n⟩
 | .rp _::c,o,f,d,g,a,h=>by
  simp only[dG,Xh]at a;exact qo c o f d g a.2 h
 | .vj _::_,_,_,_,_,_,h=>h.elim
 | .boxal t _::c,o,f,d,g,a,⟨b,p,i,j,q,s,k,l,m,n,r⟩=>by
  simp only[dG,Xh]at a;exact⟨b,p,i,j,q,s,k,l,m,K3 a.1 n,qo c _ _ _ _ a.2 r⟩
theorem QP{objs:aa}:∀(l:List Nat) (a:Nat),a∉l->Wt (kill objs l) a=Wt objs a
 | [],a,_=>rfl
 |i::l,a,h=>by
  simp only[kill];rw[WJ,We (λe=>h (by rw[e];exact Xl ..))];exact QP l a λb=>h (Xg _ b)
theorem GB:∀{l:List CS},Sep l->∀{i j:Nat} {A B:CS} {b o:Nat},l[i]?=some A->l[j]?=some B->A b o->B b o->i=j
 | [],_,i,j,A,B,b,o,a,_,_,_=>by simp at a
 |C::l,g,i,j,A,B,b,o,a,c,d,hb=>by
  obtain⟨e,f⟩:=Xu.1 g;cases i with
  |zero=>
   simp at a;subst a;cases j with
   |zero=>rfl
   |succ j=>
    simp at c;exact(e B (fN c) b o d hb).elim
  |succ i=>
   simp at a;cases j with
   |zero=>
    simp at c;subst c;exact(e A (fN a) b o hb d).elim
   |succ j=>
    simp at c;rw[GB f a c d hb]
section
variable{w0:World}{F:CS}{nt:Slots}{G0 G G':GH}{ν:Nat->Nu}{φ:Nat->CS}{objs:aa}{nx:Nat}{st ai:St}{a:Act}{w w':World}{P:Program}{T:Tab}
theorem Wra{f g:Nat->Nu}:∀{l:List Nat},(∀i∈l,g i=f i)->l.map f=l.map g:=λ{l} h=>List.map_congr_left λi a=>(h i a).symm
theorem qs{ν':Nat->Nu}{bx:List (Nat×CS)}:∀(d:List PTy) (a:List Kp) (f:List Nu),(∀i∈kids a,ν' i=ν i)->KeptOk objs ν bx d a f->KeptOk objs ν' bx d a f
 | [],_,_,_,h=>h
 | .v _ _::d,a,f,c,h=>qs d a f c h
 | .box t::d,a,f,c,⟨k,l,z,g,m,n,⟨q,b,r,s,u,w,x⟩,o⟩=>by
  subst m;have e:=c k.id (Xl ..);exact⟨k,l,z,g,rfl,n,⟨q,b,r,s,by rw[e];exact u,by rw[e];exact w,by rw[e];exact x⟩,qs d l g (λi j=>c i (Xg _ j)) o⟩
 | .mut e::d,a,f,c,⟨id,l,g,B,m,n,y,o⟩=>by
  subst m;exact⟨id,l,g,B,rfl,by rw[c id (Xl ..)];exact n,y,qs d l g (λi j=>c i (Xg _ j)) o⟩
 | .clos _ _::d,a,f,c,h=>qs d a f c h
 | .kv t _::d,a,f,c,⟨p,i2,g,m,n,y,o⟩=>by
  subst m;have A:kids (kp0 p++i2)=p++kids i2:=by simp only[kids,Xx];congr 1;exact Gc p
  rw[A]at c;exact⟨p,i2,g,rfl,by rw[n,Wra (λi j=>c i (Xo _ j))],y,qs d i2 g (λi j=>c i (Xi _ j)) o⟩
 | .rp _::d,a,f,c,h=>qs d a f c h
 | .vj _::_,_,_,_,h=>h.elim
 | .boxal t _::d,a,f,c,⟨k,l,z,g,m,n,⟨q,b,r,s,u,w,x⟩,o⟩=>by
  subst m;have e:=c k.id (Xl ..);exact⟨k,l,z,g,rfl,n,⟨q,b,r,s,by rw[e];exact u,by rw[e];exact w,by rw[e];exact x⟩,qs d l g (λi j=>c i (Xg _ j)) o⟩
theorem MX(d:Rel w0 F nt G0 G ν st a w):∀(l:List Operand) (xs:List AVal),evs st l=some xs->xs.length=l.length/\
  ∀(j:Nat) (x:AVal) (v:Value),xs[j]?=some x->(l.map a.eval)[j]?=some v->AValRel G ν st.nx x v
 | [],xs,h=>by simp[evs]at h;subst h;exact⟨rfl,λj x v b=>by simp at b⟩
 |o::l,xs,h=>by
  simp only[evs]at h;split at h
  .rename_i y ys h1 h2;injection h with h;subst h;obtain⟨e,f⟩:=MX d l ys h2;refine⟨by simp[e],λj x v b c=>?_⟩;cases j with
   |zero=>simp at b c;subst b c;exact WO d o _ h1
   |succ j=>exact f j x v (by simpa using b) (by simpa using c)
  .simp at h
theorem UO{o:Oper}{c:Call}{f:Operand}{g:FuncId}{b:List Value}(p:o.op= .call c)(j:c.callee= .value f)(n:a.eval f= .func (.func g) #[] b.toArray)(q:Dl P g):
  (execOp a.eval o).run P w= .ok (.enter g (c.args.toList.map a.eval++b).toArray) w:=by
 obtain⟨r,k,l,m⟩:=q;obtain⟨i,d,h⟩:=c;simp only at j;subst j;have e:(#[]++d.map a.eval++b.toArray)=(d.toList.map a.eval++b).toArray:=by
  apply Array.ext';simp
 simp only[execOp,p,resolve,Deferred.ofValue,n,Sem.run_bind,Sem.run_pure,Result.andThen_ok,invoke,callFunc,run_program,k,l,m,dq,W4,e]
theorem Wuy{b o k:Nat}{vs us:List Value}(f:Mem w b o vs)(h:Mem w' b (o+k) us)(l:k+us.length<=vs.length)(e:∀j,j<vs.length->¬(k<=j/\j<k+us.length)->w'.cell? ⟨b,o+j,none⟩=w.cell? ⟨b,o+j,none⟩):
  Mem w' b o (vs.take k++us++vs.drop (k+us.length)):=λj v a=>by
 have d:∀v',vs[j]?=some v'->¬(k<=j/\j<k+us.length)->w'.cell? ⟨b,o+j,none⟩=some v':=λv' c g=>by
  rw[e j (dp.1 c).1 g];exact f j v' c
 have i:(vs.take k).length=k:=by simp;omega
 rw[fq,eW,i]at a;split at a
 .rename_i ae;rw[lm,Wf ae]at a;exact d v a (by omega)
 .rw[eW]at a;split at a
  .have:=h (j-k) v a;rw[show o+j=o+k+(j-k) by omega];exact this
  .rw[li,show k+us.length+(j-k-us.length)=j by omega]at a;exact d v a (by omega)
theorem LQ{Γ:Ctx}(hΓ:ez P Γ){sg:Sig}(dN:sg.inl=none)(hr:Rel w0 F nt G0 G ν st a w){o:Oper}(hd:∀d,o.dst=some d->nt.Ok d){c:Call}{f:Operand}{g:FuncId}{X:List Value}{xs:List AVal}{R:Type}{k:St->Option R}{r:R}
  (ho:o.op= .call c) (hc:c.callee= .value f) (pF:a.eval f= .func (.func g) #[] X.toArray) (nm:Wt Γ g=some sg) (af:xs.length=(c.args.toList.map a.eval++X).length)
  (aW:∀(j:Nat) (x:AVal) (v:Value),xs[j]?=some x->(c.args.toList.map a.eval++X)[j]?=some v->AValRel G ν st.nx x v)
  (h:m7 sg st xs (λx objs nx=>k (({env:=st.env,objs:=objs,nx:=nx}:St).put o.dst x))=some r) {K:Act->World->Prop} {Q:Exit->Act->World->Prop}
  (hK:∀ai a' w' G' ν',Rel w0 F nt G0 G' ν' ai a' w'->k ai=some r->K a' w'):o.wp P a w K Q:=by
 obtain⟨dU,fB⟩:=hΓ g sg nm;unfold vr at dU;rw[dN]at dU;dsimp only at dU;unfold m7 at h;split at h
 .rename_i A hA;split at h
  .rename_i bV;simp only[Xh]at bV;obtain⟨⟨bs,nQ⟩,uR⟩:=bV;have bs:=(FD _).1 bs;have nQ:=TU nQ;obtain⟨L,bB,hk⟩:=sg.law' A.d _ r h;dsimp only at hk;obtain⟨φ,z⟩:=hr.h;have jk:=z.addG_le A.lent;have hG1w:=z.addG_w A.lent;obtain⟨ns,ks,bx,M⟩:=oL z jk sg.ps _ (c.args.toList.map a.eval++X) A af.symm aW (λid ck C=>(LI _).mono (FromL.one ck C)) bs hA;have I:∀b o,Of ns b o->Tk φ st.objs bx A.all b o:=λb o ⟨q,hq,N⟩=>M.tk q hq b o N;have dE:∀q∈ns,∀b l,q.fp b l->kR G w (FromL φ st.objs A.lent) b l=none/\b<w.heap.size:=λq hq b l N=>by
    obtain⟨i,J,m,s,_⟩:=M.tk q hq b l N;refine⟨?_,z.bl i b l m s⟩;rw[qI (λ⟨j,hj,B,h4⟩=>by
     have:=z.inj i j b l m B s h4;subst this;exact nQ _ hj J)]
    exact z.gf i b l m s
   have ka:=dU A.d L bB _ w _ ns _ M.args M.sep dE hG1w;unfold Oper.wp;rw[UO ho hc pF fB,Oper.upon_enter];refine ka.mono λe w' me=>?_;obtain⟨rv,O,D,E,G2,rfl,n⟩:=me;simp only;have hG3:∃T:GH,GLe G T/\(∀b l v,T b l=some v->w'.cell? ⟨b,l,none⟩=some v)/\pi T w' sg.rs L.2 rv E/\gS T w' sg.ps L.1 ks O D/\
     GExt w0.heap.size F G0 T/\(∀S∈O++fps (D++E),∀b l,S b l->T b l=none)/\(∀id b l,Live st.objs id->φ id b l->¬Tk φ st.objs bx A.all b l->T b l=none):=by
    by_cases bp:A.lent= []
    .have hGG:kR G w (FromL φ st.objs A.lent)=G:=by
      rw[bp];funext b l;exact qI (λ⟨i,J,_⟩=>by simp at J)
     rw[hGG]at n;refine⟨G2,n.gx.le,n.g,n.res,n.outs,⟨λb o v Z=>n.gx.le b o v (hr.gx.le b o v Z),λb o v Z=>?_⟩,λS hS b l N=>(n.own S hS b l N).1,λid b l C u hn=>?_⟩
     .rcases n.gx.new b o v Z with m|m|m
      .exact hr.gx.new b o v m
      .exact .inr (.inl (fP z.le.size m))
      .obtain⟨i,J,s,B,_⟩:=I b o m;exact .inr (z.own i b o s B)
     .cases Z:G2 b l with
      |none=>rfl
      |some v=>
       rcases n.gx.new b l v Z with m|m|m
       .rw[z.gf id b l C u]at m;cases m
       .have:=z.bl id b l C u;omega
       .exact Wz (I b l m) hn
    .have iE:sg.fresh=true:=by
      rcases Bool.or_eq_true_iff.1 uR with m|m
      .exact m
      .exact Wz (by simpa using m) bp
     unfold Sig.fresh at iE;simp only[Xh]at iE;refine⟨G,λ_ _ _ N=>N,λb o v Z=>n.g b o v (n.gx.le b o v (jk b o v Z)),Fv _ _ _ _ iE.1 n.res,qo _ _ _ _ _ iE.2 n.outs,hr.gx,λS hS b l N=>?_,λid b l C u _=>z.gf id b l C u⟩;cases Z:G b l with
     |none=>rfl
     |some v=>
      have:=n.gx.le b l v (jk b l v Z);rw[(n.own S hS b l N).1]at this;cases this
   obtain⟨T,wc,we,kb,sr,wg,wi,wj⟩:=hG3;obtain⟨ν2,hν2⟩:∃ν2:Nat->Nu,ν2= λi=>if i<st.nx then ν i else((nus (D++E))[i-st.nx]?).getD ⟨none,0,0,0,0⟩:=⟨_,rfl⟩;obtain⟨W,V⟩:∃W:Nat->CS,W= λi=>if i<st.nx then(λb o=>(∃(j:Nat) (S:CS),(kids A.kept)[j]?=some i/\O[j]?=some S/\S b o)\/(φ i b o/\¬Tk φ st.objs bx A.all b o))else((fps (D++E))[i-st.nx]?).getD (λ_ _=>False):=⟨_,rfl⟩;have t:my st.nx ν ν2:=λi J=>by rw[hν2];simp[J]
   have hAt:At ν2 W st.nx (D++E):=λj pc hj=>by
    have e1:(nus (D++E))[j]?=some pc.nu:=by unfold nus;rw[dF,hj];rfl
    have e2:(fps (D++E))[j]?=some pc.fp:=by unfold fps;rw[dF,hj];rfl
    rw[hν2,V];simp only;rw[We (by omega),We (by omega),rQ,e1,e2];exact⟨rfl,rfl⟩
   have nR:∀i∈kids A.kept,i<st.nx:=λi J=>z.lt i (M.live i (M.sub.subset J));have nS:(kids A.kept).Nodup:=bs.sublist M.sub;obtain⟨zP,zQ,nT⟩:=qq (ν:=ν2) (φ:=W) (bx:=bx) st.objs sg.ps L.1 A.kept ks O D (kill st.objs A.moved) st.nx (st.nx+D.length+E.length) sr (qs _ _ _ (λi J=>t i (nR i J)) M.kept) hAt.left nS (λq hq=>by
    have ni:q.id∈kids A.kept:=eB hq;exact⟨nR _ ni,QP _ _ (M.dis _ ni)⟩) (by omega)
   generalize u:di sg.ps L.1 A.kept (kill st.objs A.moved) st.nx=p at*;obtain⟨v8,zR,zS⟩:=Fu (ν:=ν2) (φ:=W) sg.rs L.2 rv E p.1 (st.nx+D.length) (st.nx+D.length+E.length) kb (hAt.right rfl) (by omega);rw[zP]at hk;generalize hq:d5 sg.rs L.2 p.1 (st.nx+D.length)=q at*;have kc:∀id ob,Wt q.2.1 id=some ob->ob≠ .dead->
     (st.nx<=id/\id<st.nx+D.length+E.length/\X7 T ν2 W w' (st.nx+D.length+E.length) id ob)\/
     (∃(j:Nat) (S:CS),(kids A.kept)[j]?=some id/\O[j]?=some S/\DH T ν2 w' st.objs bx (st.nx+D.length+E.length) id S ob)\/(Wt st.objs id=some ob/\id∉A.all):=λid ob C U=>by
    rcases zR id ob C with⟨m,s,B⟩|m
    .exact .inl ⟨by omega,s,B⟩
    .rcases nT id ob m with⟨s,B,h4⟩|s|⟨s,B⟩
     .exact .inl ⟨s,by omega,.inl h4⟩
     .exact .inr (.inl s)
     .obtain⟨h4,h5⟩:=C5 A.moved id ob s U;exact .inr (.inr ⟨h4,λhm=>by rcases M.mvk id hm with Y|Y;exact h5 Y;exact B Y⟩)
   have bR:∀id b l,Live q.2.1 id->W id b l->
     (∃(y:Nat) (S:CS),(O++fps (D++E))[y]?=some S/\S b l/\id=(if y<O.length then((kids A.kept)[y]?).getD 0 else st.nx+(y-O.length)))\/
     (Live st.objs id/\φ id b l/\¬Tk φ st.objs bx A.all b l/\id<st.nx):=λid b l ⟨ob,C,U⟩ u=>by
    have pG:id<st.nx->Live st.objs id:=λH=>by
     rcases kc id ob C U with⟨m,_⟩|⟨j,S,m,_⟩|⟨m,_⟩
     .omega
     .exact M.live id (M.sub.subset (fN m))
     .exact⟨ob,m,U⟩
    rw[V]at u
    try simp only at u
    by_cases H:id<st.nx
    .rw[Wf H]at u;rcases u with⟨j,S,m,s,B⟩|⟨m,s⟩
     .left;have hj:j<O.length:=(dp.1 s).1;refine⟨j,S,by rw[Hj hj];exact s,B,?_⟩;rw[Wf hj,m];rfl
     .exact .inr ⟨pG H,m,s,H⟩
    .rw[We H]at u;left;cases hS:(fps (D++E))[id-st.nx]? with
     |none=>rw[hS]at u;exact u.elim
     |some S=>
      rw[hS]at u;refine⟨O.length+(id-st.nx),S,by rw[vC (by omega),rQ];exact hS,u,?_⟩;rw[We (by omega)];omega
   have bd:=n.own;have kH:∀{y:Nat} {S:CS},(O++fps (D++E))[y]?=some S->S∈O++fps (D++E):=λh=>fN h;have hH:HR w0 F T ν2 W q.2.1 (st.nx+D.length+E.length) w':={
    g:=we
    ob:=λid ob C=>by
     by_cases U:ob= .dead
     .subst U;trivial
     .rcases kc id ob C U with⟨m,s,⟨e,xs,rfl,B⟩|⟨cs,b,us,rfl,B,h4,h5,Y,h7⟩⟩|⟨j,S,m,s,B⟩|⟨m,s⟩
      .exact B
      .exact⟨b,us,B,h4,h5,Y,h7⟩
      .have ck:id∈kids A.kept:=fN m;have H:=nR id ck;have ba:Live st.objs id:=M.live id (M.sub.subset ck);have hSφ:CS.le S (W id):=λb o N=>by
        rw[V];(try simp only);rw[Wf H];exact .inl ⟨j,S,m,s,N⟩
       rcases B with⟨nj,l,ds,b,us,g1,rfl,g2,g3,g4,g5,rfl,g6⟩|⟨e,ys,xs,g1,rfl,g2⟩
       .rw[t id H]at g3 g4 g6 hSφ;obtain⟨b',vs,e1,e2,e3,e4,e5⟩:dt G ν st.nx w id (φ id) (.box nj):=z.ob _ _ g1;rw[g3]at e1;injection e1 with e1;subst e1;have ew:us.length=ds.length:=g5.1;have rb:vs.length=nj.length:=e4.1;have jq:∀o,(ν id).off<=o->o<(ν id).off+nj.length->¬((ν id).off+l<=o/\o<(ν id).off+l+ds.length)->φ id b o/\¬Tk φ st.objs bx A.all b o:=λo k1 k2 k3=>by
         have hφo:=e5 b o ⟨rfl,k1,k2⟩;refine⟨hφo,λ⟨i,J,k4,k5,k6⟩=>?_⟩;have:=z.inj i id b o k4 ba k5 hφo;subst this;obtain⟨_,k7,k8⟩:=k6 _ g6 rfl;exact k3 ⟨k7,k8⟩
        refine⟨b,_,by rw[t id H];exact g3,by rw[t id H,FB g2];exact n.le.rows.row _ _ e2,?_,Fr (e4.mono wc t (by omega)) g5,?_⟩
        .rw[t id H];refine Wuy e3 g4 (by omega) (λj hj hn=>?_);obtain⟨k1,k2⟩:=jq ((ν id).off+j) (by omega) (by omega) (λ⟨k3,k4⟩=>hn ⟨by omega,by omega⟩);exact n.le.cell b _ (z.bl id b _ ba k1) (λpH=>k2 (I b _ pH))
        .rw[t id H,FB g2];intro b' o ⟨k0,k1,k2⟩;subst k0;by_cases dN:(ν id).off+l<=o/\o<(ν id).off+l+ds.length
         .exact hSφ b' o ⟨rfl,dN.1,dN.2⟩
         .rw[V];(try simp only);rw[Wf H];exact .inr (jq o k1 k2 dN)
       .exact tZ (λ_ _ _ N=>N) (Same.refl _ w') hSφ g2
      .have nK:Live st.objs id:=⟨ob,m,U⟩;have H:=z.lt id nK;have yN:∀b o,φ id b o->¬Tk φ st.objs bx A.all b o:=λb o u ⟨i,J,k1,k2,_⟩=>by
        have:=z.inj i id b o k1 nK k2 u;subst this;exact s J
       refine C1 wc (n.le.same (λb o pH u=>yN b o u (I b o pH)) (λb o u=>z.bl id b o nK u)) (λb o u=>?_) t (by omega) H ob (z.ob id ob m);rw[V];(try simp only);rw[Wf H];exact .inr ⟨u,yN b o u⟩
    gf:=λid b l C u=>by
     rcases bR id b l C u with⟨y,S,m,s,_⟩|⟨m,s,B,_⟩
     .exact wi S (kH m) b l s
     .exact wj id b l m s B
    inj:=λid cA b l C eT u eU=>by
     have key:∀cA,Live st.objs cA->φ cA b l->¬Tk φ st.objs bx A.all b l->∀(y:Nat) (S:CS),(O++fps (D++E))[y]?=some S->S b l->False:=λcA g1 g2 g3 y S g4 g5=>by
      rcases(bd S (kH g4) b l g5).2.1 with g6|g6
      .exact g3 (I b l g6)
      .have:=z.bl cA b l g1 g2;omega
     rcases bR id b l C u with⟨y,S,m,s,he⟩|⟨m,s,B,h4⟩<;>rcases bR cA b l eT eU with⟨wm,S',lE,lF,nN⟩|⟨lE,lF,vK,h4'⟩
     .have:=GB n.sep m lE s lF;subst this;rw[he,nN]
     .exact(key cA lE lF vK y S m s).elim
     .exact(key id m s B wm S' lE lF).elim
     .exact z.inj id cA b l m lE s lF
    own:=λid b l C u=>by
     rcases bR id b l C u with⟨y,S,m,s,_⟩|⟨m,s,B,_⟩
     .rcases(bd S (kH m) b l s).2.1 with h5|h5
      .obtain⟨i,J,Y,h7,_⟩:=I b l h5;exact z.own i b l Y h7
      .exact .inl (fP z.le.size h5)
     .exact z.own id b l m s
    lt:=λid ⟨ob,C,U⟩=>by
     rcases kc id ob C U with⟨_,s,_⟩|⟨j,S,m,_⟩|⟨m,s⟩
     .exact s
     .have:=nR id (fN m);omega
     .have:=z.lt id ⟨ob,m,U⟩;omega
    bl:=λid b l C u=>by
     rcases bR id b l C u with⟨y,S,m,s,_⟩|⟨m,s,B,_⟩
     .exact(bd S (kH m) b l s).2.2
     .exact Nat.lt_of_lt_of_le (z.bl id b l m s) n.le.size
    le:=z.le.trans n.le (λb l pH=>by
     obtain⟨i,J,Y,h7,_⟩:=I b l pH;exact z.own i b l Y h7)}
   have hR:=hr.on wc t (by omega) ⟨W,hH⟩ wg;have hR2:=hR.put (dst:=o.dst) hd (WtN zS);rw[v8]at hk;exact hK _ _ _ _ _ hR2 hk
  .cases h
 .cases h
theorem Wxr{Γ:Ctx}(C:ez P Γ){sg:Sig}(q:sg.inl=none)(m:Rel w0 F nt G0 G ν st a w){o:Oper}(z:∀d,o.dst=some d->nt.Ok d){c:Call}{f:Operand}{g:FuncId}{b:List Nat}{xs:List AVal}{R:Type}{k:St->Option R}{r:R}
  (B:o.op= .call c) (u:c.callee= .value f) (S:ev st f=some (.s (.one (.clos g b)))) (V:evs st c.args.toList=some xs) (D:Wt Γ g=some sg)
  (h:rj sg st (xs++da b) (λx objs nx=>k (({env:=st.env,objs:=objs,nx:=nx}:St).put o.dst x))=some r) {K:Act->World->Prop} {Q:Exit->Act->World->Prop}
  (t:∀ai H w' G' ν',Rel w0 F nt G0 G' ν' ai H w'->k ai=some r->K H w'):o.wp P a w K Q:=by
 obtain⟨⟨l,E,L,U⟩,_⟩:=WO m f _ S;obtain⟨J,W⟩:=MX m _ _ V;have p:(xs++da b).length=(c.args.toList.map a.eval++l).length:=by simp[J,da,L]
 have n:∀(j:Nat) (x:AVal) (v:Value),(xs++da b)[j]?=some x->(c.args.toList.map a.eval++l)[j]?=some v->AValRel G ν st.nx x v:=λj x v e i=>by
  rw[eW]at e i;rw[Xt,←J]at i;split at e
  .rename_i ae;rw[Wf ae]at i;exact W j x v e i
  .rename_i ae;rw[We ae]at i;simp only[da,dF]at e;cases hcj:b[j-xs.length]? with
   |none=>simp[hcj]at e
   |some id=>
    simp[hcj]at e;subst e;obtain⟨M,O,N⟩:=U _ id v hcj i;exact⟨⟨M,N⟩,O⟩
 unfold rj at h;cases uR:sg.fresh with
 |true=>
  rw[uR]at h;exact LQ C q m z B u E D p n h t
 |false=>
  rw[uR]at h;simp only[Wb]at h;split at h
  .rename_i A hA;split at h
   .exact LQ C q m z B u E D p n h t
   .obtain⟨X,I⟩:=m.frz A.lent;refine LQ C q I.rel z B u E D (by simpa using p) (λj x v e i=>?_) h t;rw[dF]at e;obtain⟨y,T,rfl⟩:=Xw.1 e;exact I.val y v (n j y v T i)
  .cases h
theorem SE:∀(xs:List AVal) (k i:Nat) (x:AVal),Wt (jF k xs) i=some x->k<=i/\xs[i-k]?=some x
 | [],k,i,x,h=>by simp[jF,Wt]at h
 |y::xs,k,i,x,h=>by
  simp only[jF]at h;rw[WJ]at h;split at h
  .rename_i e;subst e;injection h with h;subst h;simp
  .obtain⟨b,a⟩:=SE xs (k+1) i x h;refine⟨by omega,?_⟩;rw[show i-k=(i-(k+1))+1 by omega];simpa using a
theorem R4:∀(xs:List AVal) (k:Nat),(jF k xs).length=xs.length
 | [],_=>rfl
 |_::xs,k=>by simp[jF,R4 xs]
theorem Wvm{Γ:Ctx}(X:ez P Γ){sg:Sig}{i:Inl}(L:sg.inl=some i)(p:Rel w0 F nt G0 G ν st a w){o:Oper}(U:∀d,o.dst=some d->nt.Ok d){c:Call}{f:Operand}{g:FuncId}{b:List Nat}{xs:List AVal}{R:Type}{k:St->Option R}{r:R}
  (W:o.op= .call c) (T:c.callee= .value f) (V:ev st f=some (.s (.one (.clos g b)))) (no:evs st c.args.toList=some xs) (nm:Wt Γ g=some sg)
  (h:i.fn R {env:=jF 0 (xs++da b),objs:=st.objs,nx:=st.nx} (λx objs nx=>k (({env:=st.env,objs:=objs,nx:=nx}:St).put o.dst x))=some r) {K:Act->World->Prop} {Q:Exit->Act->World->Prop}
  (O:∀ai D w' G' ν',Rel w0 F nt G0 G' ν' ai D w'->k ai=some r->K D w'):o.wp P a w K Q:=by
 obtain⟨⟨q,pF,M,nl⟩,_⟩:=WO p f _ V;obtain⟨H,wn⟩:=MX p _ _ no;have J:(xs++da b).length=(c.args.toList.map a.eval++q).length:=by simp[H,da,M]
 have I:∀(j:Nat) (x:AVal) (v:Value),(xs++da b)[j]?=some x->(c.args.toList.map a.eval++q)[j]?=some v->AValRel G ν st.nx x v:=λj x v l m=>by
  rw[eW]at l m;rw[Xt,←H]at m;split at l
  .rename_i z;rw[Wf z]at m;exact wn j x v l m
  .rename_i z;rw[We z]at m;simp only[da,dF]at l;cases hcj:b[j-xs.length]? with
   |none=>simp[hcj]at l
   |some id=>
    simp[hcj]at l;subst l;obtain⟨A,t,n⟩:=nl _ id v hcj m;exact⟨⟨A,n⟩,t⟩
 obtain⟨B,N⟩:=X g sg nm;unfold vr at B;rw[L]at B;dsimp only at B;rw[i.law]at h;obtain⟨y,uP,Z⟩:=jc.1 h;have Y:=B _ (c.args.toList.map a.eval++q) y uP (by simp only[R4];omega) w0 F G0 G ν (λx v=>nt.ex x v\/∃j,Wt st.env j=some x/\a.tmps[j]?=some v) w (λj x l=>by
   obtain⟨_,n⟩:=SE _ _ _ _ l;have n:(xs++da b)[j]?=some x:=by simpa using n
   have z:j<(c.args.toList.map a.eval++q).length:=by rw[←J];exact(dp.1 n).1
   exact⟨_,Xq z,I j x _ n (Xq z)⟩) p.h p.gx (λx v m=>by
   rcases m with m|⟨j,A,n⟩
   .exact p.ex x v m
   .obtain⟨u,t,C⟩:=p.env j x A;rw[n]at t;injection t with t;subst t;exact C)
 unfold Oper.wp;rw[UO W T pF N,Oper.upon_enter];refine Y.mono λe w' me=>?_;obtain⟨rv,G',ν',rfl,A,n,t,C⟩:=me;simp only;have S:Rel w0 F nt G0 G' ν' {env:=st.env,objs:=y.2.1,nx:=y.2.2} a w':=⟨p.defers,p.ntm,p.par,λj x l=>by
  obtain⟨u,E,_⟩:=p.env j x l;exact⟨u,E,C x u (.inr ⟨j,l,E⟩)⟩,n,t,λx v m=>C x v (.inl m)⟩
 exact O _ _ _ _ _ (S.put (dst:=o.dst) U A) Z
end
section
variable{w0:World}{F:CS}{nt:Slots}{G0 G G':GH}{ν:Nat->Nu}{objs:aa}{nx:Nat}{st ai:St}{a:Act}{w w':World}{P:Program}{T:Tab}{Γ:Ctx}
theorem Done.wp{o:Oper}{ai:St}(h:Done P w0 F nt G0 o a w ai){K:Act->World->Prop}{Q:Exit->Act->World->Prop}
  (d:∀b w' G' ν',Rel w0 F nt G0 G' ν' ai b w'->K b w'):o.wp P a w K Q:=by
 obtain⟨n,v,w',G',ν',e,f,c⟩:=h;unfold Oper.wp;rw[e];rcases f with rfl|⟨rfl,rfl⟩
 .exact d _ _ _ _ c
 .exact d _ _ _ _ c
theorem WnL{t:TypeId}{x v:AVal}{ai:St}(h:lW T st t x v=some ai):({env:=st.env,objs:=ai.objs,nx:=ai.nx}:St)=ai:=by
 unfold lW at h;split at h
 .split at h
  .split at h
   .injection h with h;subst h;rfl
   .cases h
  .cases h
 .split at h
  .split at h
   .split at h
    .injection h with h;subst h;rfl
    .cases h
   .split at h
    .split at h
     .split at h
      .injection h with h;subst h;rfl
      .cases h
     .cases h
    .cases h
  .cases h
 .cases h
theorem W7{R:Type}{c:Bool}{x:Option R}{r:R}(h:(bif c then x else none)=some r):c=true/\x=some r:=by
 cases c
 .cases h
 .exact⟨rfl,h⟩
theorem im{R:Type}{c:Prop}[Decidable c]{x:Option R}{r:R}(h:(if c then x else none)=some r):c/\x=some r:=by
 split at h
 .exact⟨by assumption,h⟩
 .cases h
theorem Wnd{e:Ty}{b:List (Nat×AVal)}{R:Type}{k:KV R}{r:R}(h:m5 st e b k=some r):
  ∃x a d m,b= [(0,x)]/\jN (q8 st.objs (q0 e x) x)=some a/\aC e a (o8 st.objs (q0 e x))=some (d,m,[])/\d8 m=true/\
   k (.s (.one (.own st.nx))) ((st.nx,.arr e [d])::kill (o8 st.objs (q0 e x)) m) (st.nx+1)=some r:=by
 match b with
 | [p]=>
  simp only[m5]at h;obtain⟨g,h⟩:=im h;split at h
  .rename_i a i;split at h
   .rename_i d m f;obtain⟨c,h⟩:=im h;exact⟨p.2,a,d,m,by rw[←g],i,f,c,h⟩
   .cases h
  .cases h
 | []=>cases h
 |_::_::_=>cases h
theorem MG(g:ao P T)(j:Rel w0 F nt G0 G ν st a w){o:Oper}(i:∀d,o.dst=some d->nt.Ok d){R:Type}{k:St->Option R}{r:R}
  (h:(match b5 T st o.op with|some (c,v)=>bif c then k (({env:=st.env,objs:=st.objs,nx:=st.nx}:St).put o.dst v)else none|none=>none)=some r)
  {K:Act->World->Prop} {Q:Exit->Act->World->Prop} (f:∀ai b w' G' ν',Rel w0 F nt G0 G' ν' ai b w'->k ai=some r->K b w'):o.wp P a w K Q:=by
 split at h
 .rename_i c v hp;obtain⟨rfl,h⟩:=W7 h;exact(Wsa g j i hp).wp λb w' G' ν' e=>f _ _ _ _ _ e h
 .cases h
theorem Na(H:ao P T)(hΓ:ez P Γ)(z:Rel w0 F nt G0 G ν st a w){o:Oper}(D:∀d,o.dst=some d->nt.Ok d){A:List (Nat×An)}{R:Type}{k:St->Option R}{r:R}(h:rx1 T Γ A o st k=some r)
  {K:Act->World->Prop} {Q:Exit->Act->World->Prop} (C:∀ai E w' G' ν',Rel w0 F nt G0 G' ν' ai E w'->k ai=some r->K E w'):o.wp P a w K Q:=by
 unfold rx1 rxe at h;split at h
 .rename_i t ho;split at h
  .rename_i e n et hl;obtain⟨u,h⟩:=im h;simp only[Xh]at u;exact(WlB H z D ho hl u.1 u.2).wp λE w' G' ν' b=>C _ _ _ _ _ b h
  .rename_i O _ hl;obtain⟨u,h⟩:=im h;exact(Wq5 H z D ho hl u).wp λE w' G' ν' b=>C _ _ _ _ _ b h
  .cases h
 .rename_i t x ho;split at h
  .rename_i O cs hl B;cases hv:ev st x with
   |none=>simp[hv]at B
   |some v=>
    simp only[hv,Xd]at B;exact(Wu6 z D ho hv B).wp λE w' G' ν' b=>C _ _ _ _ _ b h
  .cases h
 .rename_i t parts ho;split at h
  .rename_i ty fs ps hl cO;obtain⟨u,h⟩:=im h;split at h
   .rename_i cs J;refine(WqV H z D ho hl cO J ?_).wp λE w' G' ν' b=>C _ _ _ _ _ b h;intro f J;have:=bA.1 u f J;split at this
    .rename_i O cp;exact⟨O,cp,this⟩
    .cases this
   .cases h
  .cases h
 .rename_i t n parts ho;split at h
  .rename_i ty et ps hl cO;split at h
   .rename_i O bp;split at h
    .rename_i e _;obtain⟨u,h1⟩:=im h;clear h;simp only[Xh,Wg]at u;obtain⟨⟨⟨S,M⟩,I⟩,cJ⟩:=u;obtain⟨x,ds,d,m,rfl,jG,J,V,h⟩:=Wnd h1;clear h1;subst S;have V:=(CQ _).1 V;obtain⟨Z,L⟩:=z.frz (q0 e x);obtain⟨Y,U⟩:=FR z _ _ cO;have gv:∃y,parts.toList= [(0,y)]/\AValRel G ν st.nx x (a.eval y):=by
      match ek:parts.toList,Y with
      | [q],_=>
       rw[ek]at U;obtain⟨q1,q2⟩:=U 0 _ q rfl rfl;refine⟨q.2,?_,q2⟩;have:q=(0,q.2):=Prod.ext q1.symm rfl;rw[←this]
     obtain⟨y,zT,zU⟩:=gv;exact(WmT H L.rel D ho zT hl bp (L.val _ _ zU) jG J V M I cJ).wp λE w' G' ν' b=>C _ _ _ _ _ b h
    split at h
    .rename_i xs J;obtain⟨u,h⟩:=im h;simp only[Xh,Wg]at u;obtain⟨Z,L⟩:=z.frz (Gn ps);obtain⟨Y,U⟩:=FR z _ _ cO;exact(Wi9 H L.rel D ho hl bp (by simpa [L9]using Y) (λj p q I hq=>by
      simp only[L9,dF]at I;obtain⟨y,hy,rfl⟩:=Xw.1 I;exact⟨(U j y q hy hq).1,L.val _ _ (U j y q hy hq).2⟩) J u.1.1 u.1.2 u.2).wp λE w' G' ν' b=>C _ _ _ _ _ b h
    .cases h
   .cases h
  .cases h
 .rename_i t n c ho;split at h
  .rename_i ty et n' c' hl S u;split at h
   .rename_i O bp;obtain⟨k1,v6⟩:∃k,a.eval n= .int k n':=by
     cases hv:ev st n with
     |none=>simp[hv]at S
     |some v=>simp only[hv,Xd]at S;exact ud _ _ _ (WO z n _ hv) S
    obtain⟨k2,nP⟩:∃k,a.eval c= .int k c':=by
     cases hv:ev st c with
     |none=>simp[hv]at u
     |some v=>simp only[hv,Xd]at u;exact ud _ _ _ (WO z c _ hv) u
    split at h
    .obtain⟨N,h⟩:=im h;obtain⟨B,h⟩:=W7 h;simp only[Xh,Wg]at B N;exact(Wja H z D ho hl bp v6 nP B.1.1 B.1.2 B.2 N.1 N.2).wp λE w' G' ν' b=>C _ _ _ _ _ b h
    .obtain⟨N,h⟩:=im h;obtain⟨B,h⟩:=W7 h;simp only[Xh,Wg]at B N;exact(WjW H z D ho hl bp v6 nP B.1.1 B.1.2 B.2 N.1 N.2).wp λE w' G' ν' b=>C _ _ _ _ _ b h
   .cases h
  .cases h
 .rename_i t x y ho;split at h
  .rename_i p v I hv;split at h
   .rename_i ai hs;split at h
    .rename_i kV;have h:k (({env:=st.env,objs:=ai.objs,nx:=ai.nx}:St).put o.dst (.tup []))=some r:=h;obtain⟨Z,L⟩:=z.frz (uv st.objs p v);have cF:=WnL hs;simp only at cF;rw[cF,kV]at h;exact(WrM H L.rel ho kV (AValRel.mono L.le (λ_ _=>rfl) (Xm _) _ _ (WO z x _ I)) (L.val _ _ (WO z y _ hv)) hs).wp λE w' G' ν' b=>C _ _ _ _ _ b h
    .cases h
   .cases h
  .cases h
 .rename_i t x lo hi ho;split at h
  .rename_i id hx;split at h
   .rename_i ty et l hh hl bJ rh;split at h
    .rename_i O bp;split at h
     .obtain⟨I,h⟩:=im h;obtain⟨ai,W,X⟩:=WtE H z D ho hx hl bp I bJ rh h;exact X.wp λE w' G' ν' b=>C _ _ _ _ _ b W
     .split at h
      .rename_i h' e xs _ aM;obtain⟨⟨M,I⟩,h⟩:=im h;obtain⟨B,h⟩:=W7 h;simp only[Xh,Wg]at B;exact(WrH H z D ho hx hl bp I M aM bJ rh B.1 B.2).wp λE w' G' ν' b=>C _ _ _ _ _ b h
      .rename_i h' e xs i p _ aM;obtain⟨⟨M,I,vZ⟩,h⟩:=im h;obtain⟨B,h⟩:=W7 h;simp only[Xh,Wg]at B;exact(WjO H z D ho hx hl bp I M aM vZ bJ rh B.1.1 B.1.2 B.2).wp λE w' G' ν' b=>C _ _ _ _ _ b h
      .cases h
    .cases h
   .cases h
  .rename_i hx;exact MG H z D (by rw[ho];rw[ho]at h;exact h) C
 .rename_i c ho;split at h
  .rename_i s x t t2 u ha eP;split at h
   .rename_i sv xv hs hx;obtain⟨ai,W,X⟩:=WoS H z D ho u ha eP hs hx h;exact X.wp λE w' G' ν' b=>C _ _ _ _ _ b W
   .cases h
  .rename_i x t u ha eP;split at h
   .rename_i id lo hi hx;split at h
    .rename_i ty et e xs hl aM;split at h
     .rename_i O bp;obtain⟨⟨M,I,bF⟩,h⟩:=im h;exact(WqF H z D ho u ha eP hx hl bp aM M I bF).wp λE w' G' ν' b=>C _ _ _ _ _ b h
     .cases h
    .cases h
   .cases h
  .exact MG H z D h C
  .rename_i f args _ u;split at h
   .rename_i g caps xs J no;split at h
    .rename_i sg nm;split at h
     .rename_i dN;exact Wxr hΓ dN z D ho u J no nm h C
     .rename_i i dN;exact Wvm hΓ dN z D ho u J no nm h C
    .cases h
   .cases h
  .cases h
 .exact MG H z D h C
end
section
variable{w0:World}{F:CS}{nt:Slots}{G0 G G':GH}{ν ν':Nat->Nu}{φ φ':Nat->CS}{objs objs':aa}{nx aq:Nat}{st ai:St}{a:Act}{w w':World}{P:Program}{T:Tab}{Γ:Ctx}
theorem Rel.rebind(h:Rel w0 F nt G0 G ν st a w){i:Nat}{x:AVal}{v:Value}(c:a.tmps[i]?=some v)(d:AValRel G ν st.nx x v):Rel w0 F nt G0 G ν (st.put (some i) x) a w:=
 ⟨h.defers,h.ntm,h.par,λj y b=>by
  simp only[St.put]at b;rw[WJ]at b;split at b
  .rename_i e;subst e;injection b with b;subst b;exact⟨v,c,d⟩
  .exact h.env j y b,h.h,h.gx,h.ex⟩
theorem CellsRel.set{cs:List Cell}{vs:List Value}(h:CellsRel G ν nx cs vs){off:Nat}{c:Cell}(f:∀v,vs[off]?=some v->CellRel G ν nx c v):CellsRel G ν nx (cs.set off c) vs:=by
 refine⟨by simp[h.1],λj d v a b=>?_⟩;rw[List.getElem?_set]at a;split at a
 .rename_i e;subst e;split at a
  .rename_i ae;injection a with a;subst a;exact⟨f v b,(h.2 off cs[off] v (Xq ae) b).2⟩
  .cases a
 .exact h.2 j d v a b
theorem HRel.mk_box(h:HRel w0 F G ν objs nx w){id:Nat}{cs dj:List Cell}(e:Wt objs id=some (.box cs))(d:dj.length=cs.length)
  (l:∀a,CellsRel G ν nx cs a->CellsRel G ν nx dj a):HRel w0 F G ν ((id,.box dj)::objs) nx w:=by
 obtain⟨φ,h⟩:=h;have c:Live objs id:=⟨_,e,by simp⟩;obtain⟨b,a,f,g,i,j,k⟩:dt G ν nx w id (φ id) (.box cs):=h.ob _ _ e;exact⟨_,h.put (ν':=ν) (m:=[]) (λ_ _=>rfl) (Xm _) (h.lt id c) (WLe.refl _ w) (λb o n=>.inl ⟨id,.inl rfl,c,n⟩) (λ_=>⟨b,a,f,by rw[d];exact g,i,l _ j,by rw[d];exact k⟩)⟩
theorem HRel.empt(h:HRel w0 F G ν objs nx w){id:Nat}{e e':Ty}(f:Wt objs id=some (.arr e' []))(s:e.size=e'.size):HRel w0 F G ν ((id,.arr e [])::objs) nx w:=by
 obtain⟨φ,h⟩:=h;have c:Live objs id:=⟨_,f,by simp⟩;have a:dt G ν nx w id (φ id) (.arr e' []):=h.ob _ _ f;have a:ah w (WC G w e') e'.size (ν id) [] (φ id):=a;refine⟨_,h.put (ν':=ν) (m:=[]) (λ_ _=>rfl) (Xm _) (h.lt id c) (WLe.refl _ w) (λb o r=>.inl ⟨id,.inl rfl,c,r⟩) (λ_=>?_)⟩;show ah w (WC G w e) e.size (ν id) [] (φ id);rw[s];unfold ah at*;refine⟨a.1,a.2.1,?_⟩;have d:=a.2.2;cases hb:(ν id).blk with
 |none=>rfl
 |some b=>
  rw[hb]at d;obtain⟨g,i,j,q,t,k,l,n,p⟩:=d;exact⟨g,i,j,q,t,by simpa [cq]using k,l,n,p⟩
theorem HRel.adopt(h:HRel w0 F G ν objs nx w)(e:Ty):HRel w0 F G (upd ν nx ⟨none,0,0,0,e.size⟩) ((nx,.arr e [])::objs) (nx+1) w:=by
 obtain⟨φ,h⟩:=h;refine⟨_,h.put (m:=[]) (S:=λ_ _=>False) (np ν nx _) (nZ _) (j3 _) (WLe.refl _ w) (λb o a=>a.elim) (λ_=>?_)⟩;show ah _ _ _ (upd ν nx ⟨none,0,0,0,e.size⟩ nx) _ _;rw[d7];exact⟨rfl,rfl,rfl⟩
theorem SJ(e:Ty):CellRel G (upd ν nx ⟨none,0,0,0,e.size⟩) (nx+1) (.own nx) (.slice none 0 0):=
 ⟨j3 _,by rw[d7];rfl⟩
theorem HRel.solo(h:HRel w0 F G ν objs nx w){id lo hi:Nat}{e:Ty}{xs:List e.den}(a:Wt objs id=some (.arr e xs))(f:lo<=hi)(g:hi<=(ν id).len):
  HRel w0 F G (upd ν nx ((ν id).part lo hi)) ((nx,.arr e ((xs.take hi).drop lo))::(id,.dead)::objs) (nx+1) w:=by
 obtain⟨φ,h⟩:=h;have c:Live objs id:=⟨_,a,by simp⟩;have d:ah w (WC G w e) e.size (ν id) xs (φ id):=h.ob _ _ a;refine⟨_,h.put (m:=[id]) (S:=φ id) (np ν nx _) (nZ _) (j3 _) (WLe.refl _ w) (λb o i=>.inl ⟨id,.inr (by simp),c,i⟩) (λ_=>?_)⟩;show ah _ _ _ (upd ν nx ((ν id).part lo hi) nx) _ _;rw[d7];exact TX d f g
theorem Tc{a lo hi:Nat}:CellRel G (upd ν nx ((ν a).part lo hi)) (nx+1) (.own nx) ((ν a).vhdr lo hi):=
 ⟨j3 _,by rw[d7,LS]⟩
theorem RR(h:Rel w0 F nt G0 G ν st a w){p:Nat}(f:Gw st p=some ai):Rel w0 F nt G0 G ν ai a w:=by
 unfold Gw at f;split at f
 .rename_i r _;split at f
  .rename_i e xs i p' cs z C;split at f
   .rename_i d m hf;split at f
    .rename_i bV;injection f with f;subst f;simp only[Xh]at bV;obtain⟨y,t⟩:=bV;have y:=vG y;subst y;have t:=(CQ _).1 t;obtain⟨D,L⟩:=cr.1 t;obtain⟨M,N⟩:=cr.1 L;obtain⟨φ,g⟩:=h.h;have s:Live st.objs r:=⟨_,z,by simp⟩;have u:Live st.objs p:=⟨_,C,by simp⟩;obtain⟨T,q⟩:p<st.nx/\kQ w (WC G w e) e.size (ν r) (ν p) xs i (φ r):=g.ob _ _ z;obtain⟨b,Q,K,R,H,A,B⟩:dt G ν st.nx w p (φ p) (.box cs):=g.ob _ _ C;obtain⟨U,E,O,P,V,_⟩:=fz (G':=G) g (λ_ _ _ c=>c) e cs Q d m [] A (λi x=>by simp at x) N hf;have J:=WI _ _ _ _ E;rw[←A.1,J]at B;have I:r≠p:=λe=>D (by rw[e];exact Xl ..);refine h.on (λ_ _ _ c=>c) (λ_ _=>rfl) (Xm _) ⟨_,g.put (ν':=ν) (S:=λb o=>φ r b o\/FromL φ st.objs (p::m) b o) (λ_ _=>rfl) (Xm _) (g.lt r s) (WLe.refl _ w) (λb o c=>?_) (λ_=>?_)⟩ h.gx
     .rcases c with c|⟨j,n,k,l⟩
      .exact .inl ⟨r,.inl rfl,s,c⟩
      .exact .inl ⟨j,.inr n,k,l⟩
     .refine UM q E K H B O P ?_ ?_ ?_ (λb o c=>.inl c) (λb o c=>.inr ⟨p,Xl ..,u,c⟩) (λb o c=>.inr (FromL.mono (λi x=>Xg _ x) b o c))
      .exactλb o k l=>I (g.inj r p b o s u k l)
      .exactλb o k ⟨j,n,l,v⟩=>by
        have:=g.inj r j b o s l k v;subst this;exact D (Xg _ n)
      .exactλb o k ⟨j,n,l,v⟩=>by
        have:=g.inj p j b o u l k v;subst this;exact M n
    .cases f
   .cases f
  .cases f
 .cases f
theorem Sq(h:Rel w0 F nt G0 G ν st a w){r i:Nat}{e:Ty}{xs:List e.den}(bJ:Wt st.objs r=some (.arr e xs))(hi:i<xs.length)(hg:zs st r i=some ai):
  ∃ν' b,Rel w0 F nt G0 G ν' ai a w/\st.nx<ai.nx/\(ν r).blk=some b/\(ν' st.nx)=c6 b ((ν r).off+i*(ν r).esz)/\ai.env=st.env:=by
 unfold zs at hg;rw[bJ]at hg;simp only[Option.some.injEq]at hg;subst hg;obtain⟨φ,K⟩:=h.h;have P:Live st.objs r:=⟨_,bJ,by simp⟩;have bd:ah w (WC G w e) e.size (ν r) xs (φ r):=K.ob _ _ bJ;obtain⟨g1,g2,g3⟩:=bd;have wo:=K.lt r P;cases hb:(ν r).blk with
 |none=>simp only[hb]at g3;rw[g3]at hi;simp at hi
 |some b=>
  simp only[hb]at g3;obtain⟨g4,g5,g6,cs,ps,g7,g8,g9,uG⟩:=g3;obtain⟨c1,c,c2,U,pc,V,k1,k2,k3,k4,k5⟩:=MQ g7 e.dflt hi;have l1:=gO (λx c q hx=>WI e x c q hx) _ _ _ k3;rw[dA,lB (by omega)]at l1;have lc:=WI _ _ _ _ k4;have lo:=W9 _ _ _ _ k4;have e1:(i+1)*e.size=i*e.size+e.size:=eY i e.size;have e2:((ν r).cap-(i+1))*e.size+(i+1)*e.size=(ν r).cap*e.size:=by rw[←j8];congr 1;omega
  have ss:=jw e (xs.getD i e.dflt) (st.nx+1);have ew:=tR e (xs.getD i e.dflt) (st.nx+1);rw[k1]at g8;have m1:Mem w b (ν r).off c1:=g8.left;have m2:Mem w b ((ν r).off+i*e.size) c:=(g8.right l1).left;have m3:Mem w b ((ν r).off+(i+1)*e.size) c2:=by
   have:=(g8.right l1).right lc;rw[dB,←e1]at this;exact this
  obtain⟨q1,q2⟩:=Xu.1 g9;have jm:=uG _ (Xl ..);have oQ:∀p∈U++(pc++V),CS.le p.fp (φ r):=λp k=>uG _ (Xg _ (eB (by rw[k2];exact k)));have W:∀p∈U++(pc++V),CS.disj (rng b (ν r).off ((ν r).cap*e.size)) p.fp:=λp k=>q1 _ (eB (by rw[k2];exact k));rw[k2,Xx,Xx]at q2;obtain⟨s1,s2,s3⟩:=d0.1 q2;obtain⟨s4,s5,s6⟩:=d0.1 s2;have rA:CS.le (rng b (ν r).off (i*e.size)) (rng b (ν r).off ((ν r).cap*e.size)):=λb o ⟨x0,v,z⟩=>⟨x0,by omega,by omega⟩;have rB:CS.le (rng b ((ν r).off+i*e.size) e.size) (rng b (ν r).off ((ν r).cap*e.size)):=λb o ⟨x0,v,z⟩=>⟨x0,by omega,by omega⟩;have rC:CS.le (rng b ((ν r).off+(i+1)*e.size) (((ν r).cap-(i+1))*e.size)) (rng b (ν r).off ((ν r).cap*e.size)):=λb o ⟨x0,v,z⟩=>⟨x0,by omega,by omega⟩;obtain⟨SR,S⟩:∃SR:CS,SR= λf o=>rng b (ν r).off (i*e.size) f o\/rng b ((ν r).off+(i+1)*e.size) (((ν r).cap-(i+1))*e.size) f o\/∃p∈U++V,p.fp f o:=⟨_,rfl⟩;have hSRφ:CS.le SR (φ r):=λb o g=>by
   rw[S]at g;rcases g with g|g|⟨p,k,g⟩
   .exact jm b o (rA b o g)
   .exact jm b o (rC b o g)
   .refine oQ p ?_ b o g;rcases Xp.1 k with k|k
    .exact Xo _ k
    .exact Xi _ (Xi _ k)
  obtain⟨ν',T⟩:∃ν':Nat->Nu,ν'= λj=>if j<st.nx then ν j else if j=st.nx then c6 b ((ν r).off+i*e.size)else((nus pc)[j-(st.nx+1)]?).getD ⟨none,0,0,0,0⟩:=⟨_,rfl⟩;obtain⟨φ',N⟩:∃φ':Nat->CS,φ'= λj=>if j=r then SR else if j<st.nx then φ j else if j=st.nx then rng b ((ν r).off+i*e.size) e.size else((fps pc)[j-(st.nx+1)]?).getD (λ_ _=>False):=⟨_,rfl⟩;have C:my st.nx ν ν':=λj n=>by rw[T];simp[n]
  have I:ν' st.nx=c6 b ((ν r).off+i*e.size):=by rw[T];simp
  have hφr:φ' r=SR:=by rw[N];simp
  have hφp:φ' st.nx=rng b ((ν r).off+i*e.size) e.size:=by rw[N];simp;omega
  have L:∀j,j<st.nx->j≠r->φ' j=φ j:=λj n hn=>by rw[N];simp[n,hn]
  have Z:At ν' φ' (st.nx+1) pc:=λj q n=>by
   have v:(nus pc)[j]?=some q.nu:=by unfold nus;rw[dF,n];rfl
   have z:(fps pc)[j]?=some q.fp:=by unfold fps;rw[dF,n];rfl
   rw[T,N];constructor
   .show(if st.nx+1+j<st.nx then _ else if st.nx+1+j=st.nx then _ else _)=_;rw[We (by omega),We (by omega),rQ,v];rfl
   .show(if st.nx+1+j=r then _ else if st.nx+1+j<st.nx then _ else if st.nx+1+j=st.nx then _ else _)=_;rw[We (by omega),We (by omega),We (by omega),rQ,z];rfl
  obtain⟨uc,uo⟩:=jz (ν:=ν') (φ:=φ') e (xs.getD i e.dflt) (st.nx+1) c pc k4 Z;have kc:∀d A,Wt ((r,Ob.hole e xs i st.nx)::(st.nx,Ob.box (unfold e (xs.getD i e.dflt) (st.nx+1)).1)::((unfold e (xs.getD i e.dflt) (st.nx+1)).2.1++st.objs)) d=some A->A≠ .dead->
    (d=r/\A= .hole e xs i st.nx)\/(d=st.nx/\A= .box (unfold e (xs.getD i e.dflt) (st.nx+1)).1)\/(st.nx+1<=d/\d<st.nx+1+e.owns/\zO G ν' φ' w d A)\/(d≠r/\d<st.nx/\Wt st.objs d=some A):=λd A m Q=>by
   rw[WJ]at m;split at m
   .rename_i x;injection m with m;exact .inl ⟨x.symm,m.symm⟩
   .rename_i uK;rw[WJ]at m;split at m
    .rename_i x;injection m with m;exact .inr (.inl ⟨x.symm,m.symm⟩)
    .rcases WQ m with m|m
     .obtain⟨v,z,B⟩:=uo d A m;exact .inr (.inr (.inl ⟨v,z,B⟩))
     .exact .inr (.inr (.inr ⟨λx=>uK x.symm,K.lt d ⟨A,m,Q⟩,m⟩))
  have il:∀d f o,Live ((r,Ob.hole e xs i st.nx)::(st.nx,Ob.box (unfold e (xs.getD i e.dflt) (st.nx+1)).1)::((unfold e (xs.getD i e.dflt) (st.nx+1)).2.1++st.objs)) d->φ' d f o->
    (d=r/\SR f o)\/(d=st.nx/\rng b ((ν r).off+i*e.size) e.size f o)\/(∃(j:Nat) (q:Pc),d=st.nx+1+j/\pc[j]?=some q/\q.fp f o)\/(d≠r/\d<st.nx/\Live st.objs d/\φ d f o):=λd f o ⟨A,m,Q⟩ k=>by
   rcases kc d A m Q with⟨rfl,_⟩|⟨rfl,_⟩|⟨v,z,_⟩|⟨v,z,B⟩
   .rw[hφr]at k;exact .inl ⟨rfl,k⟩
   .rw[hφp]at k;exact .inr (.inl ⟨rfl,k⟩)
   .right;right;left;have ae:d-(st.nx+1)<pc.length:=by omega
    refine⟨d-(st.nx+1),pc[d-(st.nx+1)],by omega,Xq ae,?_⟩;have:=(Z (d-(st.nx+1)) _ (Xq ae)).2;rw[show st.nx+1+(d-(st.nx+1))=d by omega]at this;rw[this]at k;exact k
   .rw[L d z v]at k;exact .inr (.inr (.inr ⟨v,z,⟨A,B,Q⟩,k⟩))
  have hq:∀(j:Nat) (q:Pc),pc[j]?=some q->q∈U++(pc++V):=λj q n=>Xi _ (Xo _ (fN n));have J:∀d f o,(d=r/\SR f o)\/(d=st.nx/\rng b ((ν r).off+i*e.size) e.size f o)\/(∃(j:Nat) (q:Pc),d=st.nx+1+j/\pc[j]?=some q/\q.fp f o)->φ r f o:=λd f o g=>by
   rcases g with⟨_,g⟩|⟨_,g⟩|⟨j,q,_,n,g⟩
   .exact hSRφ f o g
   .exact jm f o (rB f o g)
   .exact oQ q (hq j q n) f o g
  have hH:HR w0 F G ν' φ' ((r,Ob.hole e xs i st.nx)::(st.nx,Ob.box (unfold e (xs.getD i e.dflt) (st.nx+1)).1)::((unfold e (xs.getD i e.dflt) (st.nx+1)).2.1++st.objs)) (st.nx+1+e.owns) w:=by
   refine K.step (WLe.refl _ w) (λd A m Q=>?_) (λd ⟨A,m,Q⟩=>?_) (λd f o lY k=>?_) (λd f o lY k=>?_) (λd D f o m eT k eU=>?_)
   .rcases kc d A m Q with⟨rfl,rfl⟩|⟨rfl,rfl⟩|⟨v,z,e',uS,rfl,B⟩|⟨v,z,B⟩
    .refine⟨by omega,?_⟩;rw[hφr,C d wo,I];refine⟨g1,g2,hi,b,hb,rfl,rfl,g4,g5,g6,c1,c2,U,V,k3,k5,m1,m3,?_,λs H f o g=>?_⟩
     .refine Xu.2 ⟨λs H=>?_,Xu.2 ⟨λs H=>?_,?_⟩⟩
      .rcases Xr.1 H with rfl|H
       .exact Wug (by omega)
       .obtain⟨p,k,rfl⟩:=Xv.1 H;refine(W p ?_).mono rA (λ_ _ g=>g);rcases Xp.1 k with k|k
        .exact Xo _ k
        .exact Xi _ (Xi _ k)
      .obtain⟨p,k,rfl⟩:=Xv.1 H;refine(W p ?_).mono rC (λ_ _ g=>g);rcases Xp.1 k with k|k
       .exact Xo _ k
       .exact Xi _ (Xi _ k)
      .rw[Xx];exact d0.2 ⟨s1,s5,λs H t ht=>s3 s H t (Xi _ ht)⟩
     .rw[S];rcases Xr.1 H with rfl|H
      .exact .inl g
      .rcases Xr.1 H with rfl|H
       .exact .inr (.inl g)
       .obtain⟨p,k,rfl⟩:=Xv.1 H;exact .inr (.inr ⟨p,k,g⟩)
    .refine⟨b,c,by rw[I];rfl,?_,by rw[I];exact m2,uc _ (Xm _),?_⟩
     .rw[I,ew];obtain⟨row,TT,u,X⟩:=g6;exact⟨row,TT,u,by show(ν r).off+i*e.size+e.size<=row.size;omega⟩
     .rw[I,ew,hφp];exactλ_ _ g=>g
    .exact B
    .rw[L d z v];exact C1 (λ_ _ _ g=>g) (Same.refl _ w) (λ_ _ g=>g) C (by omega) z A (K.ob d A B)
   .rcases kc d A m Q with⟨rfl,_⟩|⟨rfl,_⟩|⟨_,z,_⟩|⟨_,z,_⟩<;>omega
   .rcases il d f o lY k with g|g|g|⟨_,_,B,R⟩
    .exact .inl ⟨r,P,J d f o (.inl g)⟩
    .exact .inl ⟨r,P,J d f o (.inr (.inl g))⟩
    .exact .inl ⟨r,P,J d f o (.inr (.inr g))⟩
    .exact .inl ⟨d,B,R⟩
   .rcases il d f o lY k with g|g|g|⟨_,_,B,R⟩
    .exact K.bl r f o P (J d f o (.inl g))
    .exact K.bl r f o P (J d f o (.inr (.inl g)))
    .exact K.bl r f o P (J d f o (.inr (.inr g)))
    .exact K.bl d f o B R
   .have out:∀D,D≠r->Live st.objs D->φ D f o->φ r f o->False:=λD u X O y4=>u (K.inj D r f o X P O y4);have M:SR f o->∀s,(s=rng b ((ν r).off+i*e.size) e.size\/∃q∈pc,s=q.fp)->s f o->False:=λu s X O=>by
     rw[S]at u;rcases X with rfl|⟨q,wq,rfl⟩
     .rcases u with u|u|⟨p,k,u⟩
      .obtain⟨z0,z1,z2⟩:=u;obtain⟨z3,z4,z5⟩:=O;omega
      .obtain⟨z0,z1,z2⟩:=u;obtain⟨z3,z4,z5⟩:=O;omega
      .refine W p ?_ f o (rB f o O) u;rcases Xp.1 k with k|k
       .exact Xo _ k
       .exact Xi _ (Xi _ k)
     .have su:q∈U++(pc++V):=Xi _ (Xo _ wq);rcases u with u|u|⟨p,k,u⟩
      .exact W q su f o (rA f o u) O
      .exact W q su f o (rC f o u) O
      .rcases Xp.1 k with k|k
       .exact s3 _ (eB k) _ (Xo _ (eB wq)) f o u O
       .exact s6 _ (eB wq) _ (eB k) f o O u
    have Y:∀(j:Nat) (q:Pc),pc[j]?=some q->rng b ((ν r).off+i*e.size) e.size f o->q.fp f o->False:=λj q n u X=>W q (hq j q n) f o (rB f o u) X;rcases il d f o m k with g|g|g|⟨v,z,B,R⟩<;>rcases il D f o eT eU with E|E|E|⟨ws,x2',uT,uU⟩
    .rw[g.1,E.1]
    .exact(M g.2 _ (.inl rfl) E.2).elim
    .obtain⟨j,q,_,n,y⟩:=E;exact(M g.2 _ (.inr ⟨q,fN n,rfl⟩) y).elim
    .exact(out D ws uT uU (J d f o (.inl g))).elim
    .exact(M E.2 _ (.inl rfl) g.2).elim
    .rw[g.1,E.1]
    .obtain⟨j,q,_,n,y⟩:=E;exact(Y j q n g.2 y).elim
    .exact(out D ws uT uU (J d f o (.inr (.inl g)))).elim
    .obtain⟨j,q,_,n,y⟩:=g;exact(M E.2 _ (.inr ⟨q,fN n,rfl⟩) y).elim
    .obtain⟨j,q,_,n,y⟩:=g;exact(Y j q n E.2 y).elim
    .obtain⟨j,q,ck,n,y⟩:=g;obtain⟨j',q',wt,gh,y'⟩:=E;have v:(fps pc)[j]?=some q.fp:=by unfold fps;rw[dF,n];rfl
     have z:(fps pc)[j']?=some q'.fp:=by unfold fps;rw[dF,gh];rfl
     have:=GB (l:=fps pc) s4 v z y y';rw[ck,wt,this]
    .exact(out D ws uT uU (J d f o (.inr (.inr g)))).elim
    .exact(out d v B R (J D f o (.inl E))).elim
    .exact(out d v B R (J D f o (.inr (.inl E)))).elim
    .exact(out d v B R (J D f o (.inr (.inr E)))).elim
    .exact K.inj d D f o B uT R uU
  refine⟨ν',b,?_,?_,rfl,by rw[I,g2],rfl⟩
  .have:=h.on (λ_ _ _ g=>g) C (by omega) ⟨φ',hH⟩ h.gx;rw[ss];exact this
  .show st.nx<(unfold e (xs.getD i e.dflt) (st.nx+1)).2.2;rw[ss];omega
end
theorem qC:∀(l:List Nat) (i j:Nat),mx i l=some j->l[j]?=some i
 | [],i,j,h=>by cases h
 |k::l,i,j,h=>by
  simp only[mx]at h;split at h
  .rename_i hb;injection h with h;subst h;have:i=k:=by simpa using hb
   rw[this];rfl
  .cases hp:mx i l with
   |none=>simp[hp]at h
   |some n=>
    simp[hp]at h;subst h;exact qC l i n hp
theorem Sr{m:List Nat}:∀(l r:List Nat),DG m l=some r->r.length=l.length/\∀(q j:Nat),r[q]?=some j->∃i,l[q]?=some i/\m[j]?=some i
 | [],r,h=>by simp[DG]at h;subst h;exact⟨rfl,λq j a=>by simp at a⟩
 |i::l,r,h=>by
  simp only[DG]at h;split at h
  .rename_i j r' h1 h2;injection h with h;subst h;obtain⟨b,c⟩:=Sr l r' h2;refine⟨by simp[b],λq d a=>?_⟩;cases q with
   |zero=>simp at a;subst a;exact⟨i,rfl,qC m i j h1⟩
   |succ q=>exact c q d (by simpa using a)
  .cases h
theorem yC:∀(n:Nat) (a acc:List Nat) (objs:aa),acc.Nodup->(pz n a acc objs).Nodup
 |0,_,_,_,h=>h
 |n+1,[],acc,objs,h=>h
 |n+1,i::l,acc,objs,h=>by
  simp only[pz];split
  .exact yC n l acc objs h
  .rename_i hi;have g:i∉acc:=λd=>hi ((jx i acc).2 d);have b:(acc++ [i]).Nodup:=by
    rw[dc];refine⟨h,by simp,λx f y c=>?_⟩;simp at c;subst c
    exactλe=>g (e▸f)
   split
   .exact yC n _ _ objs b
   .exact yC n _ _ objs b
   .exact yC n _ _ objs b
   .exact yC n _ _ objs h
theorem Rq{m:List Nat}{objs:aa}:∀(l:List Nat) (a:Nat) (j:Nat) (c:Ob),Wt (o9 m objs a l) j=some c->∃i dL,a<=j/\l[j-a]?=some i/\Wt objs i=some dL/\c=DQ m dL
 | [],a,j,c,h=>by cases h
 |i::l,a,j,c,h=>by
  simp only[o9]at h;have b:Wt (o9 m objs (a+1) l) j=some c->∃d dL,a<=j/\(i::l)[j-a]?=some d/\Wt objs d=some dL/\c=DQ m dL:=λh=>by
   obtain⟨d,dL,o,f,g,k⟩:=Rq l (a+1) j c h;refine⟨d,dL,by omega,?_,g,k⟩;rw[show j-a=(j-(a+1))+1 by omega];simpa using f
  split at h
  .rename_i dL n;rw[WJ]at h;split at h
   .rename_i e;subst e;injection h with h;exact⟨i,dL,Xm _,by simp,n,h.symm⟩
   .exact b h
  .exact b h
theorem Ly{env:List (Nat×AVal)}{f:AVal->AVal}:∀(l:List Nat) (i:Nat) (x:AVal),Wt ((ue env l).map λp=>(p.1,f p.2)) i=some x->∃y,Wt env i=some y/\x=f y
 | [],i,x,h=>by cases h
 |j::l,i,x,h=>by
  simp only[ue]at h;split at h
  .rename_i y a;simp only[bz]at h;rw[WJ]at h;split at h
   .rename_i e;subst e;injection h with h;exact⟨y,a,h.symm⟩
   .exact Ly l i x h
  .exact Ly l i x h
section
variable{w0:World}{F:CS}{nt:Slots}{G0 G G':GH}{ν ν':Nat->Nu}{objs objs':aa}{nx aq:Nat}{st ai:St}{a:Act}{w w':World}{P:Program}{T:Tab}{Γ:Ctx}
structure Ren(m:List Nat)(ν ν':Nat->Nu)(aq:Nat):Prop where
 nx:∀(i j:Nat),m[j]?=some i->j<aq
 nu:∀(i j:Nat),m[j]?=some i->ν' j=ν i
theorem CellRel.ren{m:List Nat}(b:Ren m ν ν' aq):∀(c:Cell) (v:Value),CellRel G ν nx c v->CellRel G ν' aq (l0 m c) v
 | .val t d,v,h=>h
 | .nils,v,h=>h
 | .rptr t d off,v,h=>h
 | .junk,v,h=>h
 | .own e,v,h=>by
  simp only[l0];split
  .rename_i j a;have a:=qC _ _ _ a;exact⟨b.nx _ _ a,by rw[b.nu _ _ a];exact h.2⟩
  .trivial
 | .vw e lo hi,v,h=>by
  simp only[l0];split
  .rename_i j a;have a:=qC _ _ _ a;exact⟨b.nx _ _ a,by rw[b.nu _ _ a];exact h.2⟩
  .trivial
 | .aptr e,v,h=>by
  simp only[l0];split
  .rename_i j a;have a:=qC _ _ _ a;exact⟨b.nx _ _ a,by rw[b.nu _ _ a];exact h.2⟩
  .trivial
 | .ptr e off,v,h=>by
  simp only[l0];split
  .rename_i j a;have a:=qC _ _ _ a;exact⟨b.nx _ _ a,by rw[b.nu _ _ a];exact h.2⟩
  .trivial
 | .eptr e i off,v,h=>by
  simp only[l0];split
  .rename_i j a;have a:=qC _ _ _ a;exact⟨b.nx _ _ a,by rw[b.nu _ _ a];exact h.2⟩
  .trivial
 | .clos f caps,v,h=>by
  simp only[l0];split
  .rename_i js a;obtain⟨l,n⟩:=Sr _ _ a;obtain⟨z,o,p,r⟩:=h;refine⟨z,o,p.trans l.symm,λq e u x y=>?_⟩;obtain⟨i,s,g⟩:=n q e x;obtain⟨A,w,k⟩:=r q i u s y;exact⟨b.nx _ _ g,w,by rw[b.nu _ _ g];exact k⟩
  .trivial
theorem CellsRel.ren{m:List Nat}(f:Ren m ν ν' aq){cs:List Cell}{vs:List Value}(h:CellsRel G ν nx cs vs):CellsRel G ν' aq (cs.map (l0 m)) vs:=by
 refine⟨by simp[h.1],λj c v a g=>?_⟩;simp only[dF]at a;cases hd:cs[j]? with
 |none=>simp[hd]at a
 |some d=>
  simp[hd]at a;subst a;obtain⟨b,e⟩:=h.2 j d v hd g;exact⟨b.ren f,e⟩
theorem AvRel.ren{m:List Nat}(a:Ren m ν ν' aq):∀(x:AV) (v:Value),AvRel G ν nx x v->AvRel G ν' aq (Nq m x) v
 | .one c,v,h=>⟨h.1.ren a,h.2⟩
 | .agg cs,v,⟨e,b,d⟩=>⟨e,b,d.ren a⟩
theorem AValRel.ren{m:List Nat}(b:Ren m ν ν' aq):∀(x:AVal) (v:Value),AValRel G ν nx x v->AValRel G ν' aq (My m x) v
 | .s x,v,h=>AvRel.ren b x v h
 | .tup xs,v,⟨i,c,e,f⟩=>⟨i,c,by simp[e],λj x u a g=>by
  simp only[dF]at a;cases hd:xs[j]? with
  |none=>simp[hd]at a
  |some d=>
   simp[hd]at a;subst a;exact AvRel.ren b d u (f j d u hd g)⟩
theorem WtQ(d:List Nat)(Q:∀x v,¬nt.ex x v)(h:Rel w0 F nt G0 G ν st a w):∃ν',Rel w0 F nt G0 G ν' (canon d st) a w:=by
 obtain⟨m,H⟩:∃m,m=pz 400 ((ue st.env d).flatMap λp=>eE p.2) [] st.objs:=⟨_,rfl⟩;have O:m.Nodup:=by rw[H];exact yC _ _ _ _ (by simp)
 have pI:canon d st={env:=(ue st.env d).map λp=>(p.1,My m p.2),objs:=o9 m st.objs 0 m,nx:=m.length}:=by rw[H];rfl
 obtain⟨ν',D⟩:∃ν':Nat->Nu,ν'= λj=>ν ((m[j]?).getD 0):=⟨_,rfl⟩;have r:∀(i j:Nat),m[j]?=some i->ν' j=ν i:=λi j l=>by rw[D];simp[l]
 have L:∀(j:Nat) (ob:Ob),Wt (o9 m st.objs 0 m) j=some ob->∃i dL,m[j]?=some i/\Wt st.objs i=some dL/\ob=DQ m dL:=λj ob A=>by
  obtain⟨i,dL,_,f,z,C⟩:=Rq _ _ _ _ A;exact⟨i,dL,by simpa using f,z,C⟩
 have M:Ren m ν ν' m.length:={
  nx:=λi j l=>(dp.1 l).1
  nu:=r}
 have u:∀j,Live (o9 m st.objs 0 m) j->∃i,m[j]?=some i/\Live st.objs i:=λj ⟨ob,A,W⟩=>by
  obtain⟨i,dL,c,f,z⟩:=L j ob A;refine⟨i,c,dL,f,λzW=>W ?_⟩;rw[z,zW];rfl
 rw[pI];refine⟨ν',h.defers,h.ntm,h.par,λi x Y=>?_,?_,h.gx,λx v X=>Wz X (Q x v)⟩
 .obtain⟨y,c,rfl⟩:=Ly _ _ _ Y;obtain⟨v,f,z⟩:=h.env i y c;exact⟨v,f,AValRel.ren M y v z⟩
 .obtain⟨φ,t⟩:=h.h;refine⟨λj=>φ ((m[j]?).getD 0),?_⟩;have s:∀(i j:Nat),m[j]?=some i->φ ((m[j]?).getD 0)=φ i:=λi j l=>by simp[l]
  exact{
   g:=t.g
   ob:=λj ob A=>by
    obtain⟨i,dL,c,f,rfl⟩:=L j ob A;have:=t.ob i dL f;cases dL with
    |dead=>trivial
    |arr e xs=>
     show ah w (WC G w e) e.size (ν' j) xs (φ ((m[j]?).getD 0));rw[r i j c,s i j c];exact this
    |hole e xs k p=>
     simp only[DQ];split
     .rename_i q B;have B:=qC _ _ _ B;obtain⟨g1,P⟩:=this;show q<m.length/\kQ w (WC G w e) e.size (ν' j) (ν' q) xs k (φ ((m[j]?).getD 0));rw[r i j c,s i j c,r p q B];exact⟨(dp.1 B).1,P⟩
     .trivial
    |box cs=>
     obtain⟨b,vs,C,S,T,U,V⟩:=this;refine⟨b,vs,by rw[r i j c];exact C,?_,by rw[r i j c];exact T,U.ren M,?_⟩
     .rw[r i j c,Xt];exact S
     .rw[r i j c,s i j c,Xt];exact V
   gf:=λj b o l n=>by
    obtain⟨i,c,f⟩:=u j l;rw[s i j c]at n;exact t.gf i b o f n
   inj:=λj J b o l R n E=>by
    obtain⟨i,c,f⟩:=u j l;obtain⟨I,K,Z⟩:=u J R;rw[s i j c]at n;rw[s I J K]at E;have:=t.inj i I b o f Z n E;subst this;have N:=(dp.1 c).1;exact(List.getElem?_inj N O).1 (c.trans K.symm)
   own:=λj b o l n=>by
    obtain⟨i,c,f⟩:=u j l;rw[s i j c]at n;exact t.own i b o f n
   lt:=λj l=>by
    obtain⟨i,c,f⟩:=u j l;exact(dp.1 c).1
   bl:=λj b o l n=>by
    obtain⟨i,c,f⟩:=u j l;rw[s i j c]at n;exact t.bl i b o f n
   le:=t.le}
theorem SQ(h:Rel w0 F nt G0 G ν st a w){r:Nat}{o:Option Nat}(d:zn st r o=some (true,ai)):∃ν',Rel w0 F nt G0 G ν' ai a w:=by
 unfold zn at d;split at d
 .rename_i c i nq;obtain⟨s,m,d⟩:=Xw.1 d;simp only[Prod.mk.injEq]at d;obtain⟨rfl,rfl⟩:=d;have j:∃(e:Ty) (xs:List e.den),Wt st.objs r=some (.arr e xs)/\i<xs.length:=by
   unfold XE at nq;split at nq
   .split at nq
    .rename_i e xs g;simp only[Option.some.injEq,Prod.mk.injEq]at nq;obtain⟨f,rfl⟩:=nq;obtain⟨k,l⟩:=pd f;exact⟨e,xs,g,by omega⟩
    .cases nq
   .split at nq
    .rename_i e xs n g hn;simp only[Option.some.injEq,Prod.mk.injEq]at nq;obtain⟨f,rfl⟩:=nq;obtain⟨k,l⟩:=pd f;exact⟨e,xs,g,by omega⟩
    .cases nq
  obtain⟨e,xs,g,j⟩:=j;obtain⟨ν',b,f,_⟩:=Sq h g j m;exact⟨ν',f⟩
 .cases d
theorem LL{g:Ghost}(R:(∀x v,¬nt.ex x v)\/g.quiet=true)(h:Rel w0 F nt G0 G ν st a w)(c:eL g st=some (true,ai)):∃G' ν',Rel w0 F nt G0 G' ν' ai a w:=by
 cases g with
 |canon slots=>
  simp only[eL]at c;injection c with c;injection c with _ c;subst c;obtain⟨ν',A⟩:=WtQ slots (R.resolve_right (by simp[Ghost.quiet])) h;exact⟨G,ν',A⟩
 |adopt slot e=>
  simp only[eL]at c;split at c
  .rename_i hs;injection c with c;injection c with _ c;subst c;obtain⟨v,l,q⟩:=h.env _ _ hs;have E:v= .slice none 0 0:=q.1;subst E;have k:=h.on (λ_ _ _ n=>n) (np ν st.nx _) (nZ _) (h.h.adopt e) h.gx;exact⟨G,_,k.rebind l ⟨SJ e,rfl⟩⟩
  .injection c with c;injection c with _ c;subst c;exact⟨G,ν,h⟩
  .cases c
 |freeze slot=>
  simp only[eL]at c;split at c
  .rename_i id hs;split at c
   .rename_i e xs f;injection c with c;injection c with _ c;subst c;obtain⟨H,B,k,m,y⟩:=h.h.freezeL h.gx [id];obtain⟨v,l,q⟩:=h.env _ _ hs;have E:v=(ν id).hdr:=q.1.2;have I:=h.on B (λ_ _=>rfl) (Xm _) k m;exact⟨H,ν,I.rebind l ⟨⟨v,rfl,E▸y id (by simp) e xs f⟩,q.2⟩⟩
   .cases c
  .cases c
 |adoptC slot off e=>
  simp only[eL]at c;split at c
  .rename_i id hs;split at c
   .rename_i cs f;split at c
    .rename_i hc;injection c with c;injection c with _ c;subst c;have z:st.nx≠id:=λe=>by
      obtain⟨φ,C⟩:=h.h;have:=C.lt id ⟨_,f,by simp⟩;omega
     have k:=h.h.adopt e;have D:Wt ((st.nx,Ob.arr e [])::st.objs) id=some (.box cs):=by rw[WJ,We z];exact f
     have m:=k.mk_box D (dj:=cs.set off (.own st.nx)) (by simp) (λJ t=>t.set λv l=>by
      have:v= .slice none 0 0:=(t.2 off _ v hc l).1;subst this;exact SJ e)
     exact⟨G,_,h.on (λ_ _ _ n=>n) (np ν st.nx _) (nZ _) m h.gx⟩
    .injection c with c;injection c with _ c;subst c;exact⟨G,ν,h⟩
    .cases c
   .cases c
  .cases c
 |freezeC slot off=>
  simp only[eL]at c;split at c
  .rename_i id hs;split at c
   .rename_i cs f;split at c
    .rename_i j hc;split at c
     .rename_i e xs u;injection c with c;injection c with _ c;subst c;obtain⟨H,B,k,m,y⟩:=h.h.freezeL h.gx [j];have z:j≠id:=λe=>by subst e;rw[f]at u;cases u
      have D:Wt ((j,Ob.dead)::st.objs) id=some (.box cs):=by rw[WJ,We z];exact f
      have I:HRel w0 F H ν ((id,.box (cs.set off (.val (.slice e.ro) (du e xs))))::(j,.dead)::st.objs) st.nx w:=by
       refine HRel.mk_box k D (by simp) (λJ t=>t.set λv l=>?_);have E:v=(ν j).hdr:=(t.2 off _ v hc l).1.2;exact⟨v,rfl,E▸y j (by simp) e xs u⟩
      exact⟨H,ν,h.on B (λ_ _=>rfl) (Xm _) I m⟩
     .cases c
    .injection c with c;injection c with _ c;subst c;exact⟨G,ν,h⟩
    .injection c with c;injection c with _ c;subst c;exact⟨G,ν,h⟩
    .cases c
   .cases c
  .cases c
 |nest d e=>injection c with c;injection c with _ c;subst c;exact⟨G,ν,h⟩
 |view d=>injection c with c;injection c with _ c;subst c;exact⟨G,ν,h⟩
 |opn d=>injection c with c;injection c with _ c;subst c;exact⟨G,ν,h⟩
 |shutD d off=>injection c with c;injection c with _ c;subst c;exact⟨G,ν,h⟩
 |empt slot e=>
  simp only[eL]at c;split at c
  .split at c
   .rename_i e' f;split at c
    .rename_i hc;injection c with c;injection c with _ c;subst c;exact⟨G,ν,h.on (λ_ _ _ n=>n) (λ_ _=>rfl) (Xm _) (h.h.empt f hc.1) h.gx⟩
    .cases c
   .cases c
  .cases c
 |unfE slot=>
  simp only[eL]at c;split at c
  .rename_i r i hs;obtain⟨s,p,c⟩:=Xw.1 c;injection c with _ c;subst c;obtain⟨v,l,q⟩:=h.env _ _ hs;have U:∃(e:Ty) (xs:List e.den),Wt st.objs r=some (.arr e xs):=by
    unfold zs at p;split at p
    .rename_i e xs f;exact⟨e,xs,f⟩
    .cases p
   obtain⟨e,xs,f⟩:=U;obtain⟨⟨_,K,b,T,rfl⟩,_⟩:=q;obtain⟨S,Q⟩:=h.h.obj f;obtain⟨ν',X,B,k,m,y,I⟩:=Sq h f (by rw[Q.1];exact K) p;rw[T]at m;injection m with m;subst m;refine⟨G,ν',B.rebind l ⟨⟨k,b,by rw[y];rfl,?_⟩,rfl⟩⟩;rw[y];rfl
  .cases c
 |unfS slot ix=>
  simp only[eL]at c;split at c
  .obtain⟨ν',A⟩:=SQ h c;exact⟨G,ν',A⟩
  .cases c
 |unfC slot off ix=>
  simp only[eL]at c;split at c
  .split at c
   .split at c
    .obtain⟨ν',A⟩:=SQ h c;exact⟨G,ν',A⟩
    .cases c
   .cases c
  .cases c
 |refold slot=>
  simp only[eL]at c;split at c
  .obtain⟨s,p,c⟩:=Xw.1 c;injection c with _ c;subst c;exact⟨G,ν,RR h p⟩
  .cases c
 |shut slot off=>
  simp only[eL]at c;split at c
  .split at c
   .split at c
    .split at c
     .obtain⟨s,p,c⟩:=Xw.1 c;injection c with _ c;subst c;exact⟨G,ν,RR h p⟩
     .injection c with c;injection c with _ c;subst c;exact⟨G,ν,h⟩
     .cases c
    .cases c
   .cases c
  .cases c
 |solo slot=>
  simp only[eL]at c;split at c
  .rename_i id lo hi hs;split at c
   .rename_i e xs f;injection c with c;injection c with _ c;subst c;obtain⟨v,l,q⟩:=h.env _ _ hs;obtain⟨⟨_,L,M,Y,rfl⟩,_⟩:=q;have k:=h.on (λ_ _ _ n=>n) (np ν st.nx _) (nZ _) (h.h.solo f L M) h.gx;exact⟨G,_,k.rebind l ⟨Tc,UQ _ _ _⟩⟩
   .cases c
  .injection c with c;injection c with _ c;subst c;exact⟨G,ν,h⟩
  .cases c
 |soloC slot off=>
  simp only[eL]at c;split at c
  .rename_i id o hs;split at c
   .rename_i cs f;split at c
    .rename_i j lo hi hc;split at c
     .rename_i e xs u;injection c with c;injection c with _ c;subst c;have z:j≠id:=λe=>by subst e;rw[f]at u;cases u
      have W:st.nx≠id:=λe=>by
       obtain⟨φ,C⟩:=h.h;have:=C.lt id ⟨_,f,by simp⟩;omega
      have N:lo<=hi/\hi<=(ν j).len:=by
       obtain⟨S,b,J,Z,k2,k3,O,k5⟩:=h.h.obj f;have K:o+off<J.length:=by rw[O.1];exact(dp.1 hc).1
       obtain⟨⟨_,L,M,_⟩,_⟩:=O.2 _ _ _ hc (Xq K);exact⟨L,M⟩
      have k:=h.h.solo u N.1 N.2;have D:Wt ((st.nx,Ob.arr e ((xs.take hi).drop lo))::(j,Ob.dead)::st.objs) id=some (.box cs):=by rw[WJ,We W,WJ,We z];exact f
      have V:j<st.nx:=by
       obtain⟨φ,C⟩:=h.h;exact C.lt j ⟨_,u,by simp⟩
      have m:=k.mk_box D (dj:=cs.set (o+off) (.own st.nx)) (by simp) (λJ t=>t.set λv l=>by
       obtain⟨_,_,_,_,P⟩:=(t.2 _ _ v hc l).1;rw[np ν st.nx _ j V]at P;rw[P];exact Tc)
      exact⟨G,_,h.on (λ_ _ _ n=>n) (np ν st.nx _) (nZ _) m h.gx⟩
     .cases c
    .injection c with c;injection c with _ c;subst c;exact⟨G,ν,h⟩
    .cases c
   .cases c
  .cases c
theorem C3:∀(l:List Ghost) (st ai:St) (G:GH) (ν:Nat->Nu),((∀x v,¬nt.ex x v)\/l.all Ghost.quiet=true)->Rel w0 F nt G0 G ν st a w->fc l st=some (true,ai)->∃G' ν',Rel w0 F nt G0 G' ν' ai a w
 | [],st,ai,G,ν,d,h,b=>by injection b with b;injection b with _ b;subst b;exact⟨G,ν,h⟩
 |g::l,st,ai,G,ν,d,h,b=>by
  simp only[dG,Xh]at d;simp only[fc]at b;split at b
  .rename_i c s zX;split at b
   .rename_i c' s' hl;simp only[Option.some.injEq,Prod.mk.injEq,Xh]at b;obtain⟨⟨rfl,rfl⟩,rfl⟩:=b;obtain⟨e,i,f⟩:=LL (d.imp_right (·.1)) h zX;exact C3 l s s' e i (d.imp_right (·.2)) f hl
   .cases b
  .cases b
end
section
variable{T:Tab}{Γ:Ctx}{env zY:List (Nat×AVal)}{objs objs':aa}{nx aq:Nat}
theorem Fe{st ar:St}:∀(l:List (Nat×Operand)),(∀p∈l,ev ar p.2=ev st p.2)->kx ar l=kx st l
 | [],_=>rfl
 |(i,x)::l,h=>by
  have a:ev ar x=ev st x:=h (i,x) (Xl ..);simp only[kx,a,Fe l λp b=>h p (Xg _ b)]
theorem Tu{st ar:St}:∀(l:List Operand),(∀x∈l,ev ar x=ev st x)->evs ar l=evs st l
 | [],_=>rfl
 |x::l,h=>by simp only[evs,h x (Xl ..),Tu l λp a=>h p (Xg _ a)]
theorem RA{st ar:St}:∀(l:List Operand),(∀x∈l,ev ar x=ev st x)->pk ar l=pk st l
 | [],_=>rfl
 |x::l,h=>by simp only[pk,h x (Xl ..),RA l λp a=>h p (Xg _ a)]
theorem Sp{st ar:St}(x:Option Operand)(h:∀y∈x.toList,ev ar y=ev st y):fe ar x=fe st x:=by
 cases x with
 |none=>rfl
 |some y=>simp only[fe,h y (by simp)]
def kP(st ar:St)(v:AVal):Prop:=∀a∈eE v,Wt ar.objs a=Wt st.objs a
theorem WpF{st ar:St}{t:TypeId}{v:AVal}(h:kP st ar v):qW T ar t v=qW T st t v:=by
 unfold qW;cases v with
 |tup xs=>rfl
 |s x=>
  cases x with
  |agg cs=>rfl
  |one c=>
   cases c with
   |ptr id off=>have:=h id (by simp[eE,gm,fD]);simp only[this]
   |eptr id i off=>have:=h id (by simp[eE,gm,fD]);simp only[this]
   |_=>rfl
theorem Wok{st ar:St}{t:TypeId}{v:AVal}(h:kP st ar v):uf T ar t v=uf T st t v:=by
 unfold uf;cases v with
 |tup xs=>rfl
 |s x=>
  cases x with
  |agg cs=>rfl
  |one c=>
   cases c with
   |aptr id=>have:=h id (by simp[eE,gm,fD]);simp only[this]
   |_=>rfl
theorem SY{st:St}{t:TypeId}{b:Nat}:nC T st t (.s (.one (.own b)))=match Wt T t with
  |some ⟨_,false,.slice _⟩=>obL (Wt st.objs b)
  |_=>none:=by
 unfold nC;generalize Wt T t=q;rcases q with _|⟨c,a,shape⟩
 .rfl
 .cases c<;>cases a<;>cases shape<;>rfl
theorem Wov{st ar:St}{t:TypeId}{v:AVal}(h:∀b,v≠ .s (.one (.own b))):nC T ar t v=nC T st t v:=by
 unfold nC;generalize Wt T t=q;rcases q with _|⟨a,agg,shape⟩
 .cases v<;>rfl
 .cases v with
  |tup xs=>cases a<;>cases agg<;>cases shape<;>rfl
  |s x=>
   cases x with
   |agg cs=>cases a<;>cases agg<;>cases shape<;>rfl
   |one c=>
    cases c with
    |own b=>exact Wz rfl (h b)
    |val t' d=>cases a<;>cases agg<;>cases shape<;>cases t'<;>rfl
    |_=>cases a<;>cases agg<;>cases shape<;>rfl
theorem XD(v:AVal):(∃a,v= .s (.one (.own a)))\/∀a,v≠ .s (.one (.own a)):=by
 rcases v with x|xs
 .rcases x with c|cs
  .cases c with
   |own a=>exact .inl ⟨a,rfl⟩
   |_=>exact .inr λa h=>by injection h with h;injection h with h;cases h
  .exact .inr λa h=>by injection h with h;cases h
 .exact .inr λa h=>by cases h
theorem Wq2{st ar:St}{t:TypeId}{v:AVal}(h:kP st ar v):nC T ar t v=nC T st t v:=by
 rcases XD v with⟨id,rfl⟩|hv
 .rw[SY,SY,h id (by simp[eE,gm,fD])]
 .exact Wov hv
theorem WhY{st ar:St}{t:TypeId}{v:AVal}{f:Nat}(h:kP st ar v):yx T ar t v f=yx T st t v f:=by
 unfold yx;generalize Do T t f=q;rcases q with _|⟨a,b⟩
 .cases v<;>rfl
 .cases v with
  |tup xs=>rfl
  |s x=>
   cases x with
   |agg cs=>rfl
   |one c=>
    cases c with
    |ptr id o=>
     have:=h id (by simp[eE,gm,fD]);show(λq:Option Ob=>match q with|some (.box _)=>some (true,AVal.s (.one (.ptr id (o+a))))|_=>none) (Wt ar.objs id)=(λq:Option Ob=>match q with|some (.box _)=>some (true,AVal.s (.one (.ptr id (o+a))))|_=>none) (Wt st.objs id);rw[this]
    |eptr id i o=>
     have:=h id (by simp[eE,gm,fD]);show(λq:Option Ob=>match q with|some (.arr _ _)=>some (true,AVal.s (.one (.eptr id i (o+a))))|_=>none) (Wt ar.objs id)=(λq:Option Ob=>match q with|some (.arr _ _)=>some (true,AVal.s (.one (.eptr id i (o+a))))|_=>none) (Wt st.objs id);rw[this]
    |_=>rfl
theorem WhX{st ar:St}{t:TypeId}{v i:AVal}(h:kP st ar v):yD T ar t v i=yD T st t v i:=by
 unfold yD;generalize Wt T t=q;generalize asI i=z;rcases q with _|⟨b,agg,shape⟩
 .rfl
 rcases z with _|n
 .cases shape<;>rfl
 cases shape with
 |slice et=>
  show(match Wt T et with|some te=>_|none=>_)=(match Wt T et with|some te=>_|none=>_);generalize Wt T et=q;rcases q with _|te
  .rfl
  .show(if te.plain=true then _ else _)=(if te.plain=true then _ else _);by_cases a:te.plain=true
   .rw[Wf a,Wf a];cases v with
    |tup xs=>rfl
    |s x=>
     cases x with
     |agg cs=>rfl
     |one c=>
      cases c with
      |own id=>
       have:=h id (by simp[eE,gm,fD]);show obI te n id (Wt ar.objs id)=obI te n id (Wt st.objs id);rw[this]
      |vw id lo hi=>
       have:=h id (by simp[eE,gm,fD]);show DV te n id lo hi (Wt ar.objs id)=DV te n id lo hi (Wt st.objs id);rw[this]
      |val t' d=>cases t'<;>rfl
      |_=>rfl
   .rw[We a,We a]
 |arr k et=>
  show(match Wt T et with|some te=>_|none=>_)=(match Wt T et with|some te=>_|none=>_);generalize Wt T et=q;rcases q with _|te
  .rfl
  .show(if te.plain=true then _ else _)=(if te.plain=true then _ else _);by_cases a:te.plain=true
   .rw[Wf a,Wf a];cases v with
    |tup xs=>rfl
    |s x=>
     cases x with
     |agg cs=>rfl
     |one c=>
      cases c with
      |aptr id=>
       have:=h id (by simp[eE,gm,fD]);show DZ te n k id (Wt ar.objs id)=DZ te n k id (Wt st.objs id);rw[this]
      |_=>rfl
   .rw[We a,We a]
 |_=>rfl
theorem WqN{st ar:St}{v:AVal}(h:kP st ar v):G4 ar v=G4 st v:=by
 rcases XD v with⟨id,rfl⟩|hv
 .exact h id (by simp[eE,gm,fD])
 .unfold G4;split
  .rename_i id;exact Wz rfl (hv id)
  .rfl
theorem Woz{st ar:St}{s d:TypeId}{v:AVal}(h:kP st ar v):zw T ar s d v=zw T st s d v:=by
 unfold zw;rw[WqN h]
theorem WrK{st ar:St}{v:AVal}(h:kP st ar v):z8 ar v=z8 st v:=by
 unfold z8;cases v with
 |tup xs=>rfl
 |s x=>
  cases x with
  |agg cs=>rfl
  |one c=>
   cases c with
   |ptr id off=>have:=h id (by simp[eE,gm,fD]);simp only[this]
   |eptr id i off=>have:=h id (by simp[eE,gm,fD]);simp only[this]
   |aptr id=>have:=h id (by simp[eE,gm,fD]);simp only[this]
   |_=>rfl
theorem Wru{st ar:St}{a:BinOp}{t:TypeId}{v z:AVal}(h:kP st ar v):zZ T ar a t v z=zZ T st a t v z:=by
 unfold zZ;split
 .rename_i id;rw[h id (by simp[eE,gm,fD])]
 .rfl
theorem yA{α β:Type}{x:Option α}{f g:α->Option β}(h:∀v,x=some v->f v=g v):x.bind f=x.bind g:=by
 cases x with
 |none=>rfl
 |some v=>exact h v rfl
theorem RG{st ar:St}(op:Op)(o:∀t x l h m,op≠ .slice t x l h m)(e:∀x∈an op,ev ar x=ev st x)(j:No op=true->∀x∈an op,∀v,ev st x=some v->kP st ar v):b5 T ar op=b5 T st op:=by
 cases op with
 |move x=>simp only[b5,e x (by simp[an])]
 |assign x=>simp only[b5,e x (by simp[an])]
 |pick c a b=>simp only[b5,e c (by simp[an]),e a (by simp[an]),e b (by simp[an])]
 |load t a=>
  simp only[b5,e a (by simp[an])];exact yA λv g=>by rw[WpF (j rfl a (by simp[an]) v g),Wok (j rfl a (by simp[an]) v g)]
 |nilCheck x=>
  simp only[b5,e x (by simp[an])];exact yA λv g=>WrK (j rfl x (by simp[an]) v g)
 |binOp op t x y z=>
  simp only[b5,e x (by simp[an]),e y (by simp[an])];split
  .rename_i a b h1 h2;rw[Wru (j rfl x (by simp[an]) _ h1)]
  .rfl
 |unOp op t x=>simp only[b5,e x (by simp[an])]
 |convert s d x=>
  simp only[b5,e x (by simp[an])];exact yA λv g=>Woz (j rfl x (by simp[an]) v g)
 |slice t x l h m=>exact Wz rfl (o t x l h m)
 |fieldAddr s x f=>
  simp only[b5,e x (by simp[an])];exact yA λv g=>WhY (j rfl x (by simp[an]) v g)
 |field t x f=>simp only[b5,e x (by simp[an])]
 |indexAddr t x i=>
  simp only[b5,e x (by simp[an]),e i (by simp[an])];split
  .rename_i a b h1 h2;exact WhX (j rfl x (by simp[an]) _ h1)
  .rfl
 |index t x i=>simp only[b5,e x (by simp[an]),e i (by simp[an])]
 |extract t q=>simp only[b5,e t (by simp[an])]
 |makeFunc f first captured=>
  cases f with
  |func f=>simp only[b5,RA (st:=st) (ar:=ar) captured.toList λx n=>e x (by simp[an];right;simpa using n)]
  |_=>rfl
 |call c=>
  have k:∀x∈c.args.toList,ev ar x=ev st x:=λx n=>e x (Xi _ n);have p:∀x∈c.args.toList,∀v,ev st x=some v->kP st ar v:=λx n=>j rfl x (Xi _ n);simp only[b5];split
  .rename_i x t _ ha _;rw[k x (by rw[ha];simp)];exact yA λv g=>Wq2 (p x (by rw[ha];simp) v g)
  .rename_i x y _ _ _ ha _;rw[k x (by rw[ha];simp),k y (by rw[ha];simp)]
  .rename_i x y _ _ _ ha _;rw[k x (by rw[ha];simp),k y (by rw[ha];simp)]
  .rfl
 |_=>rfl
end
end Go.Sx
