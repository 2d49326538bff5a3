/- Plain laws of the Lean functions. -/
import Derived.Test.YtpfdembammnpcaaGreatMW3
open List renaming mem_cons_self→Xl,mem_cons_of_mem→Xg,pairwise_cons→Xu,drop_length→fr,append→Xf,append_eq→d1,drop_eq_getElem_cons→dY,getD→Xc,drop_zero→eC,nil_append→df,getElem_mem→Xy,map_cons→bz,countP_le_length→NG,set_getElem_self→je,length_map→Xt,set→Xe,replicate→Xk,take_length→nY,take_succ_eq_append_getElem→Au,map_append→Xx,map_replicate→NN,mem_map→Xv,length_set→cZ,getElem_of_mem→ln,length→Xb,getElem_map→nU,foldl_nil→NV,foldl_cons→jd,eq_of_mem_replicate→NO,mem_or_eq_of_mem_set→NJ,getElem_set_self→YK,length_cons→Xs,mem_iff_getElem→Ea,all_cons→dG,range→cK,mem_cons→Xr,countP_append→Ys,length_take→dA,length_replicate→AB,range_succ→NT,filter_append→pK,length_filter_le→Ay,filter_cons→en,filter_nil→Ho,map_nil→eX,append_nil→hU,getElem_append_right→YA,countP_cons→YR
open Nat renaming le_refl→Xm,add_zero→c5,zero_add→bX
open Int renaming toNat→Xa,toNat_natCast→Xj
open Bool renaming not_true→Xn,not_false→bS,and_self→c3,and_eq_false_iff→pL,false_eq_true→dq,true_and→d3,false_and→pY
open Option renaming bind_some→Xd
namespace Go.Sx
set_option linter.unusedVariables false
set_option linter.unusedSimpArgs false
section
variable{N:Nat}{m:Mm}{f g:Fm}{x y:Kd}{k:Nat}{n:Int}{ξ:List Opn}{codes:List (List Opn)}{e:En}
def goP(e:En):List En->Bool->List En->Bool×List En
 | [],d,o=>(d,o)
 |z::l,d,o=>if d=true then goP e l true (if z.1=e.1 then o else o++ [z])else
  if z.1>=e.1 then goP e l true (if z.1=e.1 then o++ [e]else o++ [e]++ [z])else goP e l false (o++ [z])
theorem Hb{z:En}{l o:List En}:goP e (z::l) false o=if z.1>=e.1 then goP e l true (if z.1=e.1 then o++ [e]else o++ [e]++ [z])else goP e l false (o++ [z]):=by
 rw[goP];exact We (λh=>by cases h)
theorem Um:∀(l:List En) (o:List En),(∀z∈l,z.1≠e.1)->goP e l true o=(true,o++l)
 | [],o,_=>by simp[goP]
 |z::l,o,h=>by
  rw[goP,Wf rfl,We (h z (Xl ..)),Um l _ λy a=>h y (Xg _ a)];simp
theorem Vz:∀(l:List En) (o:List En),Ris cfE l->(if(goP e l false o).1=true then(goP e l false o).2 else(goP e l false o).2++ [e])=o++cd cfE l e
 | [],o,_=>by simp[goP,cd]
 |z::l,o,h=>by
  have d:=Xu.1 h;have f:∀y∈l,z.1<y.1:=λy a=>by have:=d.1 y a;unfold cfE at this;omega
  rw[Hb,cd];by_cases b:z.1>=e.1
  .rw[Wf b,Um l _ (λy a=>by have:=f y a;omega)];rw[Wf rfl,We (show¬cfE z e<0 by unfold cfE;omega)];by_cases c:z.1=e.1
   .rw[Wf c,We (show¬cfE e z<0 by unfold cfE;omega)];simp
   .rw[We c,Wf (show cfE e z<0 by unfold cfE;omega)];simp
  .rw[We b,Vz l _ d.2,Wf (show cfE z e<0 by unfold cfE;omega)];simp
theorem WqL{R:Type}{l:List En}{K0:Bool->Int->Bool->List En->Option R}(v:l.length<=1000):∀(g j n:Nat) (d:Bool) (o:List En),j+g=l.length->g<n->o.length<=j+d.toNat->
  gC N l e K0 n d (j:Int) o=K0 (goP e (l.drop j) d o).1 (l.length:Int) false (goP e (l.drop j) d o).2:=by
 intro g
 induction g with
 |zero=>
  intro j n d o s t c;obtain⟨n,rfl⟩:∃q,n=q+1:=⟨n-1,by omega⟩;have:j=l.length:=by omega
  subst this;simp only[gC,WP (Xm _),Wb,fr,goP]
 |succ g ih=>
  intro j n d o s t c;obtain⟨n,rfl⟩:∃q,n=q+1:=⟨n-1,by omega⟩;have b:j<l.length:=by omega
  have r:d.toNat<=1:=by cases d<;>simp
  have p:∀z:En,Wx (o.length+ [z].length)=true:=λz=>Wn (by simp;omega);have u:∀z:En,Wx ((Xf o [e]).length+ [z].length)=true:=λz=>Wn (by simp[d1];omega);have f:(l[j].1 !=e.1)=decide (l[j].1≠e.1):=by by_cases z:l[j].1=e.1<;>simp[z]
  have i:∀z:Bool,goP e (l.drop j) z o=goP e (l[j]::l.drop (j+1)) z o:=λz=>by rw[←dY b]
  have k:Xc l (Xa (j:Int)) ((0:Int),((0:Int),(0:Int)))=l[j]:=Ww b _;by_cases a:l[j].1=e.1
  .have e1:decide (l[j].1≠e.1)=false:=Wi (λz=>z a);have h:decide (l[j].1>=e.1)=true:=Wc (by omega);cases d with
   |true=>
    simp only[gC,WG b,Ws b,k,Wa,f,e1,Wb,Xn,Wk (show j<4611686018427387904 by omega)];rw[ih (j+1) n true o (by omega) (by omega) (by simp at c⊢;omega),i true,goP,Wf rfl,Wf a]
   |false=>
    simp only[gC,WG b,Ws b,k,Wa,f,e1,h,Wb,bS,p,Wk (show j<4611686018427387904 by omega),d1];rw[ih (j+1) n true _ (by omega) (by omega) (by simp at c⊢;omega),i false,Hb,Wf (by omega),Wf a]
  .have e1:decide (l[j].1≠e.1)=true:=Wc a;cases d with
   |true=>
    simp only[gC,WG b,Ws b,k,Wa,f,e1,Wb,Xn,p,Wk (show j<4611686018427387904 by omega),d1];rw[ih (j+1) n true _ (by omega) (by omega) (by simp at c⊢;omega),i true,goP,Wf rfl,We a]
   |false=>
    by_cases m:l[j].1>=e.1
    .have h:decide (l[j].1>=e.1)=true:=Wc m;simp only[gC,WG b,Ws b,k,Wa,f,e1,h,Wb,bS,p,u,Wk (show j<4611686018427387904 by omega)];simp only[d1];rw[ih (j+1) n true _ (by omega) (by omega) (by simp at c⊢;omega),i false,Hb,Wf m,We a]
    .have h:decide (l[j].1>=e.1)=false:=Wi m;simp only[gC,WG b,Ws b,k,Wa,f,e1,h,Wb,bS,p,Wk (show j<4611686018427387904 by omega),d1];rw[ih (j+1) n false _ (by omega) (by omega) (by simp at c⊢;omega),i false,Hb,We m]
theorem Wow{l:List En}(h:Ris cfE l)(b:l.length<=1000)(f:1048576<N):B8 N l e=ret (cd cfE l e):=by
 unfold B8;rw[show(0:Int)=((0:Nat):Int)from rfl,WqL b l.length 0 N false [] (by omega) (by omega) (by simp)];have a:=Vz (e:=e) l [] h;rw[eC];have c:(goP e l false []).2.length<=2000:=by
  have:∀(l:List En) (d:Bool) (o:List En),(goP e l d o).2.length<=o.length+2*l.length:=by
   intro l
   induction l with
   |nil=>intro d o;simp[goP]
   |cons z l ih=>
    intro d o;rw[goP];split
    .split
     .have:=ih true o;simp;omega
     .have:=ih true (o++ [z]);simp at this⊢;omega
    .split
     .split
      .have:=ih true (o++ [e]);simp at this⊢;omega
      .have:=ih true (o++ [e]++ [z]);simp at this⊢;omega
     .have:=ih false (o++ [z]);simp at this⊢;omega
  have:=this l false [];simp at this;omega
 cases hd:(goP e l false []).1 with
 |true=>
  rw[hd,Wf rfl,df]at a;rw[a];rfl
 |false=>
  rw[hd,We (by simp),df]at a;rw[Wn (by simp;omega)];simp only[bS,Wa,d1,a]
theorem Wq6{R:Type}{ε:List Rw}{c g h i:Int}{k:Bool}{l:List Int}{m:List Rw}{o:List Int}{p:List Rw}{q:Y_KidRun}{r:List Y_KidRun}{K0:Int->Bool->List En->Option R}(y:ε.length<=8)(t:1048576<N):∀(a j n:Nat) (b:List En),j+a=ε.length->a<n->Ris cfE b->b.length<=100+j->
  wF N g h c i k l m o p q ε r K0 n (j:Int) b=K0 (ε.length:Int) false (qz c b (ε.drop j)):=by
 intro a
 induction a with
 |zero=>
  intro j n b u v e w;obtain⟨n,rfl⟩:∃f,n=f+1:=⟨n-1,by omega⟩;have:j=ε.length:=by omega
  subst this;simp only[wF,WP (Xm _),Wb,fr];rfl
 |succ a ih=>
  intro j n b u v e w;obtain⟨n,rfl⟩:∃f,n=f+1:=⟨n-1,by omega⟩;have d:j<ε.length:=by omega
  have s:Xc ε (Xa (j:Int)) ((0:Int),(0:Int))=ε[j]:=Ww d _;simp only[wF,WG d,Ws d,s,Wa];rw[Wow e (by omega) t];simp only[ret,Xd,Wk (show j<4611686018427387904 by omega)];have x:=Te (cf:=cfE) b ((ε[j].1,(ε[j].2,c)):En);rw[ih (j+1) n _ (by omega) (by omega) (oU rG e) (by omega),dY d];rfl
theorem WoN{R:Type}{z:Kd}{g h i k:Int}{l:Bool}{m:List Int}{p:List Rw}{q:List En}{r:List Int}{s:List Y_KidRun}{K0:Int->Bool->List Rw->Option R}(C:z.δ.length<=100)(A:∀e∈z.δ,-1<=e.2.2):∀(b j n:Nat) (o:List Rw),j+b=z.δ.length->b<n->o.length<=1000+j->
  sB N g h i k l m p q r z.e s K0 n (j:Int) o=K0 (z.δ.length:Int) false (o++fw (z.δ.drop j)):=by
 have d:P7 z.e=z.δ:=rfl;intro b
 induction b with
 |zero=>
  intro j n o v w y;obtain⟨n,rfl⟩:∃c,n=c+1:=⟨n-1,by omega⟩;have:j=z.δ.length:=by omega
  subst this;simp only[sB,d,WP (Xm _),Wb,fr];simp[fw]
 |succ b ih=>
  intro j n o v w y;obtain⟨n,rfl⟩:∃c,n=c+1:=⟨n-1,by omega⟩;have a:j<z.δ.length:=by omega
  have u:Xc z.δ (Xa (j:Int)) ((0:Int),((0:Int),(0:Int)))=z.δ[j]:=Ww a _;have B:=A _ (Xy a);have t:∀x:Rw,Wx (o.length+ [x].length)=true:=λx=>Wn (by simp;omega);simp only[sB,Wp,d,WG a,Ws a,u,Wa,t,Wk (show j<4611686018427387904 by omega),d1];rw[dY a];by_cases f:z.δ[j].2.2= -1
  .rw[Wc (show z.δ[j].2.2<0 by omega),Wa,ih (j+1) n _ (by omega) (by omega) (by simp;omega)];unfold fw;rw[List.filter_cons_of_pos (by simpa using f),bz,List.append_assoc];rfl
  .rw[Wi (show¬z.δ[j].2.2<0 by omega),Wb,ih (j+1) n _ (by omega) (by omega) (by omega)];unfold fw;rw[List.filter_cons_of_neg (by simpa using f)]
theorem WlK(r:k<f.ο.length)(v:f.ο.length<=3)(A:ξ.length<=24)(a:FOk codes n f)(h:codes.getD k []=ξ)(g:f.ο[k]=x)(d:1048576<N):
  A1 N f.e x.e (k:Int)=some ((),((q9 f x k).1.e,((q9 f x k).2.e,()))):=by
 have b:=a.kid k r;rw[h,g]at b;have t:=b.pc;have z:=b.wl;have w:=b.sl;have C:=a.buf8;have y:f.Cq.length<=3:=by
  have u:=a.done;have:=NG (p:=λx:Kd=>decide (x.ζ=3)) (l:=f.ο);omega
 have B:=a.readsL;unfold A1;have j:P8 x.e=x.ι:=rfl;rw[j,Fz (by omega) d];simp only[ret,Xd];have i:Wj .i64 f.e.2.1 1=f.γ+1:=au (by have:=a.γ;show 0<=f.γ/\f.γ<=1000000;omega);have c:P6 f.e=f.buf:=rfl;have s:=o0 x.ι;rw[i,c,show(0:Int)=((0:Nat):Int)from rfl];rw[Wq6 (ε:=aA x.ι) s d (aA x.ι).length 0 N _ (by omega) (by omega) a.bufR (by omega)];have o:P8 f.e=f.κ:=rfl;have m:P7 f.e=f.Cq:=rfl;rw[o,m,Wn (by simp;omega)];simp only[Wa,eC,d1,df];rw[WoN (by omega) (λe q=>(b.δ e q).2.2.1) x.δ.length 0 N _ (by omega) (by omega) (by omega)];rw[gj (by omega)];simp only[ret,Xd,eC];rw[Wn (by simp;omega)];rfl
theorem Wl6(c:k<f.ο.length)(J:f.ο.length<=3)(K:W2 m=true)(u:KC ξ)(b:FOk codes n f)(i:codes.getD k []=ξ)(rf:codes.length<=3)(L:n<=100000)(w:1048576<N):
  AG N m f.e codes (k:Int)=some ((m,()),((i0 m f k ξ).e,())):=by
 obtain⟨x,a⟩:∃x,f.ο[k]=x:=⟨_,rfl⟩;have h:=b.kid k c;rw[i,a]at h;have Y:=b.len;obtain⟨O,k1,k2,k3,Q,k5,k6,R,k8,k9,P⟩:=kdP x;obtain⟨Z,f1,f2,H,f4,f5,f6,f7,f8,I⟩:=fmP f;unfold AG i0;rw[H];by_cases y:f.Cv=true
 .rw[y,Wf rfl];rfl
 have U:f.Cv=false:=by simpa using y
 rw[U,Wb,We (by simp),show f.ο.getD k {}=f.ο[k]from WA c _,a];have j:Fm.put (f,x) k=f:=by unfold Fm.put;simp only;rw[←a,je]
 have C:inb (k:Int) (f.ο.map Kd.e).length=true:=by rw[WH,Xt];exact Wc c
 have X:inb (k:Int) codes.length=true:=by rw[WH];exact Wc (by omega)
 have E:Xc (f.ο.map Kd.e) (Xa (k:Int)) d_KidRun=x.e:=by
  have:=Tz Kd.e f.ο k {};rw[WA c,a]at this;exact this
 have v:U9 (f.ο.map Kd.e) f.e=f.e:=rfl;have F:Xc codes (Xa (k:Int)) ([]:List Opn)=ξ:=by rw[Xj];exact i
 have W:decide ((k:Int)<0)=false:=Wi (by omega);have S:decide ((k:Int)>=Wh (f.ο.map Kd.e))=false:=Wi (by unfold Wh;rw[Xt];omega);have fin:∀q:Fm×Kd,q.1.ο=f.ο->U9 (Xe (Q9 q.1.e) (Xa (k:Int)) q.2.e) q.1.e=(Fm.put q k).e:=λq A=>by
  rw[Xj];exact U9e q.1 k q.2
 have t:∀q:Fm,q.ο=f.ο->inb (k:Int) (Q9 q.e).length=true:=λq A=>by
  show inb (k:Int) (q.ο.map Kd.e).length=true;rw[A];exact C
 have D:Wx (([]:List Y_KidRun).length+(f.ο.map Kd.e).length)=true:=Wn (by simp;omega);simp only[Wp,fV,I,W,S,Wb,D,Wa,d1,df,C,E,O,Wu];unfold nB;by_cases d:x.ζ=0
 .rw[Wf d,Wf d];simp only[X,Wa,v,F];rw[Wox c K u b i a d L w];have B:(hN m f x ξ).1.ο=f.ο:=by
   unfold hN;split
   .rfl
   .simp only;split
    .exact Sk m f x _
    .repeat' split
     all_goals rfl
  simp only[Xd,t _ B,Wa,fin _ B]
 rw[We d,We d];by_cases l:x.ζ=1
 .rw[Wf l,Wf l];by_cases p:f.Cl=0
  .rw[Wf (show f.e.2.2.1=0 from p),Wf p];rw[show Wj .i64 (k:Int) 1=(k:Int)+1 from au (by omega)];exact Wq (λz=>some ((m,()),(z,()))) (fin ({f with Cl:=(k:Int)+1},{x with ζ:=2}) rfl)
  .rw[We (show¬f.e.2.2.1=0 from p),We p,j];have:=fin (f,x) rfl;rw[j]at this;exact Wq (λz=>some ((m,()),(z,()))) this
 rw[We l,We l];by_cases o:x.ζ=2
 .rw[Wf o,Wf o];simp only[Q,R];by_cases s:x.pos=x.δ.length
  .rw[Wf (show x.pos=Wh x.δ by unfold Wh;exact s),Wf s,v,WlK c J u.toCC.len b i a w];simp only[Xd,t (q9 f x k).1 rfl,Wa,fin (q9 f x k) rfl]
  .rw[We (show¬x.pos=Wh x.δ by unfold Wh;exact s),We s];have hZ:=h.pos;have V:inb x.pos x.δ.length=true:=by unfold inb;simp;omega
   have g:P6 f.e=f.buf:=rfl;have zm:=b.buf8;simp only[V,Wa,v];rw[RY (show(P6 f.e).length<=1048576 by rw[g];omega) w,g];have G:Xc x.δ (Xa x.pos) ((0:Int),((0:Int),(0:Int)))=al x.δ x.pos (0,0,0):=rfl;rw[G];have T:Ek N (U9 (f.ο.map Kd.e) (S2 (0:Int) f.e)) x.e=some ((Fm.e {f with Cl:=0},()),((f.again x).e,())):=
    Rg (f:=Fm.e {f with Cl:=0}) (x:=x.e) b.μ.len (by have:=h.χ;show 0<=x.χ/\x.χ<=100000;omega)
   have M:Wj .i64 x.pos 1=x.pos+1:=au (by have:=h.sl;have:=h.pc;have:=u.toCC.len;omega);unfold NC;rcases he:ent f.buf (al x.δ x.pos (0,0,0)).1 with _|r
   all_goals
    simp only[ret,Xd,T,Wu,M]
   .by_cases hz:(-1:Int)=(al x.δ x.pos (0,0,0)).2.2
    .rw[Wf hz,Wf hz];exact Wq (λz=>some ((m,()),(z,()))) (fin (f,{x with pos:=x.pos+1}) rfl)
    .rw[We hz,We hz,t {f with Cl:=0} rfl,Wa];have:=fin ({f with Cl:=0},f.again x) rfl;rw[←this];show _=some ((m,()),((f.rv,(f.γ,((0:Int),(f.Cv,(f.μ,(f.start,(f.buf,(f.Cq,(f.κ,Xe (f.ο.map Kd.e) (Xa (k:Int)) (f.again x).e))))))))),()));rfl
   .by_cases hz:r.2.2.2=(al x.δ x.pos (0,0,0)).2.2
    .rw[Wf hz,Wf hz];exact Wq (λz=>some ((m,()),(z,()))) (fin (f,{x with pos:=x.pos+1}) rfl)
    .rw[We hz,We hz,t {f with Cl:=0} rfl,Wa];have:=fin ({f with Cl:=0},f.again x) rfl;rw[←this];show _=some ((m,()),((f.rv,(f.γ,((0:Int),(f.Cv,(f.μ,(f.start,(f.buf,(f.Cq,(f.κ,Xe (f.ο.map Kd.e) (Xa (k:Int)) (f.again x).e))))))))),()));rfl
 .rw[We o,We o,j];have:=fin (f,x) rfl;rw[j]at this;exact Wq (λz=>some ((m,()),(z,()))) this
end
section
abbrev FSc:=List Int×List Int×List Rw×List (List Opn)×List Int
variable{N:Nat}{s:FSc}{m:Mm}{f:Fm}{n:Int}
theorem Wos{rv:Int}{μ:List Int}{ι:List Rw}{ο:Nat}(z:μ.length<=1000)(A:ι.length<=1000)(w:ο<=3)(t:1048576<N):
  B7 N rv μ ι (ο:Int)=ret (gY rv μ ι ο).e:=by
 unfold B7;rw[gj (by omega),Fz (by omega) t];have y:=o0 ι;simp only[ret,Xd];generalize f:aA ι=nw at*;have u:∀(b:List En) (a j n:Nat) (o:List Y_KidRun),j+a=ο->a<n->o=Xk j (Kd.e {μ:=μ})->
   qe N μ (ο:Int) rv μ nw b (λp m g=>(some ((),((rv,((0:Int),((0:Int),(false,(μ,(nw,(b,(([]:List Int),(([]:List Kc),g))))))))),())))) n (j:Int) o=
   some ((),((rv,((0:Int),((0:Int),(false,(μ,(nw,(b,(([]:List Int),(([]:List Kc),Xk ο (Kd.e {μ:=μ})))))))))),())):=by
  intro b a
  induction a with
  |zero=>
   intro j n o i k c;obtain⟨n,rfl⟩:∃d,n=d+1:=⟨n-1,by omega⟩;have:j=ο:=by omega
   subst this;rw[qe,Wi (show¬(j:Int)<(j:Int) by omega),Wb,c]
  |succ a ih=>
   intro j n o i k c;obtain⟨n,rfl⟩:∃d,n=d+1:=⟨n-1,by omega⟩;rw[qe,Wc (show(j:Int)<(ο:Int) by omega),Wa,gj (by omega)];simp only[ret,Xd];rw[Wn (by rw[c];simp;omega),Wa,Wk (show j<4611686018427387904 by omega),d1];refine ih (j+1) n _ (by omega) (by omega) ?_;rw[c,List.replicate_succ'];rfl
 have v:∀(a j n:Nat) (o:List En),j+a=nw.length->a<n->o=(nw.take j).map (λr=>((r.1,r.2,0):En))->
   w2 N μ (ο:Int) rv nw μ nw (λC B l=>
  (qe N μ (ο:Int) rv μ nw l
 (λp m g=>
  (some ((),((rv,((0:Int),((0:Int),(false,(μ,(nw,(l,(([]:List Int),(([]:List Kc),g))))))))),()))))
 N (0:Int) ([]:List Y_KidRun))) n (j:Int) o=
   (qe N μ (ο:Int) rv μ nw (nw.map (λr=>((r.1,r.2,0):En)))
 (λp m g=>
  (some ((),((rv,((0:Int),((0:Int),(false,(μ,(nw,(nw.map (λr=>((r.1,r.2,0):En)),(([]:List Int),(([]:List Kc),g))))))))),()))))
 N (0:Int) ([]:List Y_KidRun)):=by
  intro a
  induction a with
  |zero=>
   intro j n o i k c;obtain⟨n,rfl⟩:∃d,n=d+1:=⟨n-1,by omega⟩;have:j=nw.length:=by omega
   subst this;simp only[w2,WP (Xm _),Wb];rw[c,nY]
  |succ a ih=>
   intro j n o i k c;obtain⟨n,rfl⟩:∃d,n=d+1:=⟨n-1,by omega⟩;have h:j<nw.length:=by omega
   have s:Xc nw (Xa (j:Int)) ((0:Int),(0:Int))=nw[j]:=Ww h _;have q:∀x:En,Wx (o.length+ [x].length)=true:=λx=>Wn (by rw[c];simp;omega);simp only[w2,WG h,Ws h,s,Wa,q,Wk (show j<4611686018427387904 by omega),d1];refine ih (j+1) n _ (by omega) (by omega) ?_;rw[c,Au h,Xx];rfl
 refine(v nw.length 0 N [] (by omega) (by omega) (by simp)).trans ?_;have:=u (nw.map (λr=>((r.1,r.2,0):En))) ο 0 N [] (by omega) (by omega) rfl;refine this.trans ?_;unfold gY Fm.e;simp only[f,NN]
end
section
variable{N:Nat}{w:Wo}{x:Rt}{k:Nat}{p:Pg}{n:Int}{o:Opn}{f:Fm}
theorem Wvc(c:f.ο.length<=3)(g:1048576<N):BY N f.e=ret (kw f):=by
 unfold BY;have m:(f.ο.map Kd.e).length=f.ο.length:=by simp
 have b:f.e.2.2.2.2.2.2.2.2.2=f.ο.map Kd.e:=rfl;have d:=WB (l:=f.ο.map Kd.e) (V:=Unit) (R:=Unit×Kf) (lp:=λn j v=>wU N f.e (some ((),(false,()))) (λo q=>some ((),(true,()))) n j) (n:=N) (by omega)
  (body:=λj x v k=>bif x.1 !=(3:Int)then some ((),(false,()))else k v) (K:=λ_ v=>some ((),(true,())))
  (λn i v a=>by simp only[wU,b,WG a,Ws a,Ww a,Wk (show i<4611686018427387904 by omega),Wa])
  (λn v=>by simp only[wU,b,WP (Xm _),Wb]) ()
 refine d.trans ?_;rw[fb (p:=λx:Y_KidRun=>x.1 !=(3:Int)) (E:=λ_=>some ((),(false,()))) _ 0 () (λj x v k _=>rfl)];have c:(f.ο.map Kd.e).any (λx=>x.1 !=3)= !kw f:=by
  unfold kw;rw[List.any_map,←ge];have:((λx:Y_KidRun=>x.1 !=3)∘Kd.e)= λx:Kd=>!decide (x.ζ=3):=by
   funext x;show(x.ζ !=3)= !decide (x.ζ=3);by_cases h:x.ζ=3<;>simp[h]
  rw[this]
 rw[c];cases kw f<;>rfl
theorem Wvp(h:f.buf.length<=1000)(d:1048576<N):B0 N f.e=ret (y9 f):=by
 unfold B0;have e:P6 f.e=f.buf:=rfl;have c:=WB (l:=f.buf) (V:=List Rw) (R:=Unit×(List Rw×Unit)) (lp:=λn j v=>wV N f.e (λg m b=>(some ((),(b,())))) n j v) (n:=N) (by omega)
  (body:=λj x v k=>bif Wx (v.length+ [(x.1,x.2.1)].length)then k (Xf v [(x.1,x.2.1)])else none) (K:=λ_ v=>ret v)
  (λn i v a=>by simp only[wV,Wp,e,WG a,Ws a,Ww a,Wk (show i<4611686018427387904 by omega),Wa])
  (λn v=>by simp only[wV,e,WP (Xm f.buf.length),Wb]) []
 refine c.trans ?_;rw[tM (f:=λx:En=>(x.1,x.2.1)) f.buf 0 [] (by simp;omega) (λj x v k _=>rfl)];rfl
theorem Wuh(p:Vals 4 f.μ)(s:f.ο.length<=3)(u:∀x∈f.ο,x.μ.length<=1000)(o:1048576<N):BZ N f.e=ret (ui f):=by
 unfold BZ ui;have e:f.e.2.2.2.2.1=f.μ:=rfl;have r:f.e.2.2.2.2.2.2.2.2.2=f.ο.map Kd.e:=rfl;have g:Q9 f.e=f.ο.map Kd.e:=rfl;have b:gl f.μ=true:=m0.2 p;have F:=p.len;have G:(f.ο.map Kd.e).length=f.ο.length:=by simp
 rw[e,r,Fq (by omega) o,Wf ⟨b,s⟩];simp only[ret,Xd,b,Xn,Wb];rw[Wi (by unfold Wh;omega),gj (by omega)];simp only[ret,Xd,Wb];have a:=WB (l:=f.ο.map Kd.e) (V:=List Int) (R:=Unit×(List Int×Unit)) (lp:=λn j v=>p8 N f.e (λE D q=>(some ((),(q,())))) n j v) (n:=N) (by omega)
  (body:=λj x v k=>bif inb j v.length then(bif P5 x==(1:Int)then((mO N (P6 x)).bind λc=>(bif c.2.1 then(bif inb 0 (P6 x).length then(bif inb j (Xe v j.toNat 0).length then k (Xe (Xe v j.toNat 0) j.toNat (Xc (P6 x) (Xa (0:Int)) 0))else none)else none)else k (Xe v j.toNat 0)))else k (Xe v j.toNat 0))else none) (K:=λ_ v=>ret v)
  (λn i v d=>by simp only[p8,Wp,g,WG d,Ws d,Ww d,Wk (show i<4611686018427387904 by omega),Wa])
  (λn v=>by simp only[p8,g,WP (Xm _),Wb]) f.μ
 refine a.trans ?_;have m:=Ld (β:=Int) (K:=λ_ v=>ret v) (f:=λx:Y_KidRun=>if P5 x=1/\gl (P6 x)=true then al (P6 x) 0 0 else 0) (f.ο.map Kd.e) [] f.μ (by omega) (body:=λj x v k=>bif inb j v.length then(bif P5 x==(1:Int)then((mO N (P6 x)).bind λc=>(bif c.2.1 then(bif inb 0 (P6 x).length then(bif inb j (Xe v j.toNat 0).length then k (Xe (Xe v j.toNat 0) j.toNat (Xc (P6 x) (Xa (0:Int)) 0))else none)else none)else k (Xe v j.toNat 0)))else k (Xe v j.toNat 0))else none)
  (λj x v k A t=>by
   obtain⟨y,w,rfl⟩:=Xv.1 A;have C:=u y w;have B:P5 (Kd.e y)=y.out:=rfl;have z:P6 (Kd.e y)=y.μ:=rfl;simp only[B,z,WH,Wc t,Wa,Fq (show y.μ.length<=1048576 by omega) o,ret,Xd,Wu,Xj,cZ];by_cases a:y.out=1
   .rw[Wf a];cases b:gl y.μ
    .rw[We (by simp)];rfl
    .have:y.μ.length=4:=(m0.1 b).len;rw[Wf ⟨a,rfl⟩,show inb (0:Int) y.μ.length=true by rw[this];rfl];simp only[Wa,List.set_set];rfl
   .rw[We a,We (λh=>a h.1)])
 simp only[List.length_nil,df,Xt,List.map_map]at m;exact m
theorem WuC(d:POk p)(f:RLive p n x)(q:x.ζ=2)(c:1048576<N):JD N x.e=ret (jP x).e:=by
 obtain⟨I,J,K,s,L,M,O,P,Q,G,D,j,v,w,z,E,F,C,o,k,l,m⟩:=rtP x;have g:=d.ξ;obtain⟨S,T,U,V,W,X⟩:=f.sz g;obtain⟨A,B,a⟩:=f.fork q;have t:=f.pc;have u:=g.len;have h:x.fam.ο.length<=3:=by have:=a.len;have:=d.k3;omega
 have H:=a.len3 d.k3;have R:=a.readsL;unfold JD jP;simp only[s,j,o,k,l,m,Df,ret,Xd];rw[Wvc h c,Wuh a.μ h (λy r=>by
  obtain⟨i,hi,rfl⟩:=ln r;rw[(a.kid i hi).μ.len];omega) c,Wvp (by have:=a.buf8;omega) c,Wn (show([]:List Rw).length+x.κ.length<=_ by simp;omega),Wn (by simp;omega),gj (by omega),au (by omega),qF]
 by_cases b:x.fam.Cv=true
 .rw[Wf b,Wf b]
 .rw[We b,We b];simp only[ret,Xd,Wa];cases ho:kw x.fam
  .rw[We (by simp)];rfl
  .rw[Wf rfl];rfl
theorem Wrk(h:CC p.1)(g:RLive p n x)(o:x.ζ=3)(t:∀u∈x.υ,UnV u)(s:ShOk w.π)(r:1048576<N):Il N w.e x.e=some ((),((gU w x).1.e,((gU w x).2.e,()))):=by
 obtain⟨Y,Z,r2,r3,r4,r5,r6,r7,r8,Q,J,F,G,k,l,K,L,I,R,M,O,P⟩:=rtP x;obtain⟨z1,z2,z3,z4,z5,z6⟩:=g.sz h;have i:=g.back (.inl o);obtain⟨m,q,v,y,⟨H,S⟩,z,A,B,C,D,E,T,V,W,X,U⟩:=g.mk24 h i;obtain⟨a,b,c,d⟩:=mV i (by omega) zRM;have j:Xc x.θ (Xa (Wv .i64 (Wh x.θ) 1)) ((0:Int),((0:Int),((0:Int),((0:Int),([]:List Int)))))=x.last:=b;unfold Il gU;rw[k,l,a,j];simp only[Wa,WX];by_cases f:Wh x.υ>x.last.2.2.2.1
 .rw[Wf f,Wf (show(x.υ.length:Int)>x.last.2.2.2.1 from f),L5 (by unfold Wh at f;omega) (by omega) t s r];rfl
 .rw[We f,We (show¬(x.υ.length:Int)>x.last.2.2.2.1 from f)];rfl
theorem Wre(B:POk p)(f:RLive p n x)(i:x.ζ=4)(A:W2 w.mem=true):
  HC N w.e x.e=some ((w.e,()),((io w x).e,())):=by
 obtain⟨r0,r1,r2,r3,D,E,F,r7,r8,ga,U,u,v,y,R,V,W,T,gd,X,Y,Z⟩:=rtP x;have h:=B.ξ;obtain⟨z1,z2,z3,z4,z5,z6⟩:=f.sz h;have k:=f.back (.inr i);obtain⟨m,q,J,K,⟨S,jg⟩,L,M,O,P,Q,t,kC,lV,nd,nf,lC⟩:=f.mk24 h k;obtain⟨a,b,c,d⟩:=mV k (by omega) zRM;have l:Xc x.θ (Xa (Wv .i64 (Wh x.θ) 1)) ((0:Int),((0:Int),((0:Int),((0:Int),([]:List Int)))))=x.last:=b;have H:=f.pos i;have G:=f.pc;have I:=h.len;unfold HC io;simp only[Wp];rw[y,a,l];simp only[Wa,ret,Xd,D,E,F,u,v,WX,Df,show w.e.2.2.1.2=w.mem.2 from rfl];by_cases g:x.pos<x.last.2.1
 .rw[Wf g,Wf g];have j:x.pos.toNat<x.κ.length:=by omega
  have s:inb x.pos x.κ.length=true:=by unfold inb;simp;omega
  have z:Xc x.κ (Xa x.pos) ((0:Int),(0:Int))=al x.κ x.pos (0,0):=rfl;have C:0<=(al x.κ x.pos (0,0)).1/\(al x.κ x.pos (0,0)).1<=7:=by
   unfold al;rw[WA j];exact(f.κ _ (Xy j)).1
  rw[s,z,jE A C,show Xc w.mem.2 (Xa (al x.κ x.pos (0,0)).1) ((0:Int),((0:Int),(0:Int)))=aK w.mem (al x.κ x.pos (0,0)).1 from rfl,au (by omega)];simp only[Wa,eJ];by_cases a:(aK w.mem (al x.κ x.pos (0,0)).1).2.2=0
  .rw[Wf a];by_cases b:(aK w.mem (al x.κ x.pos (0,0)).1).2.1>x.rv
   .rw[Wf b,Wf (.inr b)]
   .rw[We b,We (by omega)];rfl
  .rw[We a,Wf (.inl a)]
 .rw[We g,We g];have o:(decide ((0:Int)<=x.last.2.1)&&decide (x.last.2.1<=(x.κ.length:Int)))=true:=by simp;omega
  have r:(decide ((0:Int)<=x.last.2.2.1)&&decide (x.last.2.2.1<=(x.ι.length:Int)))=true:=by simp;omega
  rw[o,r,Wn (by simp;omega),Wn (by simp;omega),gj (by rw[t.len];omega),au (by omega)];simp only[Wa,ret,Xd];rfl
theorem Wry(L:k<=8)(m:CmOk x.cm)(o:W2 w.mem=true)(K:w.Ck.length<=500000)(n:1048576<N):
  Im N w.e x.e (k:Int)=some ((),((gb w x k).1.e,((gb w x k).2.e,()))):=by
 obtain⟨M,O,P,Q,R,S,T,v,U,r,C,y,z,A,B,D,E,q,I,F,G,H⟩:=rtP x;have l:=LK m o;unfold Im gb;simp only[Wp];rw[au (by omega)];simp only[v,r,q,show w.e.2.2.1=w.mem from rfl,show Q6 w.e=w.Ck from rfl];rw[qF];by_cases j:x.Cp=true
 .rw[Wf j,Wf j];obtain⟨b,t⟩:=WnM (N:=N) m n;rw[t];simp only[Xd,Wu,show(fY x.cm).e.2.2.1=(fY x.cm).ζ from rfl];by_cases c:(fY x.cm).ζ=8
  .rw[Wf c];simp only[Wf c];rfl
  .rw[We c];simp only[We c];rfl
 .rw[We j,We j,Woy m o n];simp only[Xd];obtain⟨p,a,u⟩:∃p a,iP w.mem x.cm=(p,a):=⟨_,_,rfl⟩;rw[u]at l⊢;simp only at l⊢;have s:S20 a.e x.e=Rt.e {x with cm:=a}:=rfl;have J:=l.1.plen;rw[s,Df,Wn (show([]:List Rw).length+(P5 a.e).length<=_ by show 0+a.ψ.length<=1073741824;omega),Wn (by simp;omega)];simp only[ret,Xd,Wa,Wu,WX,show a.e.2.2.1=a.ζ from rfl,show(Cm.e x.cm).2.2.1=x.cm.ζ from rfl,show P4 a.e=a.wv from rfl];unfold zv;simp only;by_cases g:x.cm.ζ<=3
  .rw[Wf g];by_cases i:a.ζ=4
   .rw[Wf i,We (by omega),We (by omega),Wf (show x.cm.ζ<=3/\a.ζ=4 from⟨g,i⟩),We (by omega),We (by omega)];rfl
   .rw[We i,We (show¬(x.cm.ζ<=3/\a.ζ=4)fromλh=>i h.2)];by_cases c:a.ζ=8
    .rw[Wf c,Wf c];rfl
    .rw[We c,We c];by_cases f:a.ζ=6
     .rw[Wf f,Wf f];by_cases d:x.Ct=2
      .rw[Wf d,Wf d];rfl
      .rw[We d,We d];rfl
     .rw[We f,We f];rfl
  .rw[We g,We (show¬(x.cm.ζ<=3/\a.ζ=4)fromλh=>g h.1)];by_cases c:a.ζ=8
   .rw[Wf c,Wf c];rfl
   .rw[We c,We c];by_cases f:a.ζ=6
    .rw[Wf f,Wf f];by_cases d:x.Ct=2
     .rw[Wf d,Wf d];rfl
     .rw[We d,We d];rfl
    .rw[We f,We f];rfl
end
section
variable{N:Nat}{w:Wo}{x:Rt}{k:Nat}{p:Pg}{n:Int}{o:Opn}{f:Fm}{s:Sc}{a:Ac}
theorem Www(S:k<=8)(W:POk p)(g:RLive p n x)(hu:∀u∈x.υ,UnV u)(hm:W2 w.mem=true)(X:ShOk w.π)(R:HOk w.holds)(v:1048576<N):
  J1 N w.e x.e (k:Int) p=some ((),((fL w x k p).1.e,((fL w x k p).2.e,()))):=by
 obtain⟨r0,r1,r2,r3,r4,r5,r6,r7,r8,ga,fy,eG,eN,eO,eS,gB,gD,fj,gd,gE,gF,gG⟩:=rtP x;have f:=W.ξ;obtain⟨z1,z2,z3,z4,Z,z6⟩:=g.sz f;have bU:=g.pc;have dz:=f.len;have L:=g.μ.len;unfold J1 fL;simp only[Wp,fV];simp only[r3,r4,fy,eG,eN,eO,eS,WX,Wu];by_cases U:x.pc>=p.1.length
 .rw[Wf (show x.pc=Wh p.1 by unfold Wh;omega),Wf U,TV S R g.rv Z z6 v];rfl
 .rw[We (show¬x.pc=Wh p.1 by unfold Wh;omega),We U];obtain⟨j,V,ej,eo⟩:=u7 (l:=p.1) bU.1 (by omega);have qP:Xc p.1 (Xa x.pc) ((0,0,0,0):Opn)=opN p.1 x.pc:=rfl;have dN:inb x.pc p.1.length=true:=by grind [WH,decide_eq_true]
  rw[dN];obtain⟨z,F,gL⟩:=f.ok j V;simp only[Wa,qP];rw[←eo]at z F gL;rw[au (show 0<=x.pc/\x.pc<=1000000 by omega)];have ng:(opN p.1 x.pc).1=9->x.θ.length≠0:=λy r=>by
   have h1:=Wq Xb g.θ.pcs;simp only[Xt,r]at h1;have h2:=eD f.up j (by omega);have h3:=f.up j V
   grind [fa,pt,Xj]
  generalize opN p.1 x.pc=o at*;by_cases B:o.1=5
  .rw[Wf B,Wf B,Wu9 f g hm B z v];rfl
  rw[We B,We B];by_cases i:o.1=6
  .rw[Wf i,We (by omega),We (by omega),We (by omega),Wf i,WV (Aj z i).2 L,Wn (show(Xf ([]:List Rw) x.ι).length+_<=_ by simp;omega),Wn (by simp;omega)];simp only[Wa,fV];rfl
  rw[We i];by_cases t:o.1=7
  .rw[Wf t];have h:=Al z t;rw[WV h.1 L,WD (a:=x.pc) (b:=o.2.2.1) (by unfold I64;omega),au (a:=x.pc+o.2.2.1) (by omega)];have T:¬o.1=10:=by omega
   have zq:¬o.1=11:=by omega
   have Y:¬o.1>=12:=by omega
   by_cases H:Xc x.μ (Xa o.2.1) 0=0
   .rw[Wf H,We T,We zq,We Y,We i,Wf t,Wf (show al x.μ o.2.1 0=0 from H)];rfl
   .rw[We H,We T,We zq,We Y,We i,Wf t,We (show¬al x.μ o.2.1 0=0 from H)];rfl
  rw[We t];by_cases C:o.1=8
  .rw[Wf C,We (by omega),We (by omega),We (by omega),We i,We t,Wf C,gj (by omega)];simp only[ret,Xd];rw[Wn (show([]:List RM).length+x.θ.length<=_ by simp;omega),Wn (by simp;omega)];rfl
  rw[We C];by_cases y:o.1=9
  .rw[Wf y,We (by omega),We (by omega),We (by omega),We i,We t,We C,Wf y];have r:=ng y;obtain⟨a,b,c,d⟩:=mV r (by omega) zRM;have K:Xc x.θ (Xa (Wv .i64 (Wh x.θ) 1)) ((0:Int),((0:Int),((0:Int),((0:Int),([]:List Int)))))=x.last:=b;obtain⟨m,q,e1,M,⟨s,J⟩,e4,O,e6,e7,e8,P,kC,lV,nd,nf,lC⟩:=g.mk24 f r;rw[K,d,c,a,M,WH,Wc s,gj (by omega)];have F:Xc p.1 (Xa ((m:Nat):Int)) ((0,0,0,0):Opn)=opN p.1 (m:Int):=rfl;have E:=rK (f.ok m s).1 J;rw[←qM s]at E;simp only[Wa,F,ret,Xd];rw[WV E L,Wn (by simp;omega)];rfl
  rw[We y];by_cases G:o.1=10
  .rw[Wf G,Wf G];unfold q5;by_cases r:x.θ.length=0
   .rw[Wf (show Wh x.θ=0 by unfold Wh;omega),Wf r,TV S R g.rv Z z6 v];rfl
   .rw[We (show¬Wh x.θ=0 by unfold Wh;omega),We r];obtain⟨a,b,c,d⟩:=mV r (by omega) zRM;have K:Xc x.θ (Xa (Wv .i64 (Wh x.θ) 1)) ((0:Int),((0:Int),((0:Int),((0:Int),([]:List Int)))))=x.last:=b;obtain⟨m,q,e1,M,⟨s,J⟩,e4,O,e6,e7,e8,P,kC,lV,nd,nf,lC⟩:=g.mk24 f r;rw[K,a];simp only[Wa];by_cases A:Wh x.υ>x.last.2.2.2.1
    .rw[Wf A,Wf (show(x.υ.length:Int)>x.last.2.2.2.1 from A),L5 (by unfold Wh at A;omega) (by omega) hu X v];rfl
    .rw[We A,We (show¬(x.υ.length:Int)>x.last.2.2.2.1 from A)];rw[d,c,gj (by rw[P.len];omega),M,WH,Wc s];have F:Xc p.1 (Xa ((m:Nat):Int)) ((0,0,0,0):Opn)=opN p.1 (m:Int):=rfl;have E:=rK (f.ok m s).1 J;rw[←qM s]at E;simp only[Wa,ret,Xd,F];rw[WV E P.len,Wn (by simp;omega)];have b2:(decide ((0:Int)<=x.last.2.2.1)&&decide (x.last.2.2.1<=(x.ι.length:Int)))=true:=by simp;omega
     rw[b2];simp only[Wa];rw[Wn (by simp;omega),R5 (by omega) v ⟨s,J⟩ O];simp only[ret,Xd,Wa];rw[au (by have:=O.len;omega)];rfl
  rw[We G,We G];by_cases I:o.1=11
  .rw[Wf I,Wf I,show Wh p.2=((p.2.length:Nat):Int)from rfl,Wos (by omega) (by omega) W.k3 v];rfl
  rw[We I,We I];by_cases Q:o.1>=12
  .rw[Wf Q];have D:=WtF (w:=w) S f g z Q X R v;have:o.1=12\/o.1=13\/o.1=14\/o.1=15\/o.1=16:=by omega
   rcases this with h|h|h|h|h
   .rw[Wf h,Wf h,D];rfl
   .rw[We (by omega),Wf h,Wf h,D];rfl
   .rw[We (by omega),We (by omega),Wf h,Wf h,D];rfl
   .rw[We (by omega),We (by omega),We (by omega),Wf h,Wf h,D];rfl
   .rw[We (by omega),We (by omega),We (by omega),We (by omega),Wf h,D];rfl
  .rw[We Q,We (show¬o.1=12 by omega),We (show¬o.1=13 by omega),We (show¬o.1=14 by omega),We (show¬o.1=15 by omega),We (show¬o.1=16 by omega),We i,We t,We C,We y,Ro v z (by omega) (by omega) g.μ];rfl
end
section
variable{N:Nat}{w:Wo}{x:Rt}{k:Nat}{p:Pg}{n:Int}{o:Opn}{f:Fm}{s:Sc}{a:Ac}
theorem Wup:JA N x.e=ret (!(decide (x.ζ=0)||decide (x.ζ=8))):=by
 unfold JA;simp only[show x.e.1=x.ζ from rfl];by_cases a:x.ζ=0
 .rw[a];rfl
 .rw[show(x.ζ !=0)=true by simpa using a,Wi a];by_cases b:x.ζ=8
  .rw[b];rfl
  .rw[show(x.ζ !=8)=true by simpa using b,Wi b];rfl
theorem UT{R:Type}{l:List Rt}{b6 b7 b8 b9:Int}{az:Y_Root}{dg:List Kb}{cM:List Int}{dh:List Kb}{fK:List Ko}{K0 K1:Option R}(i:k<=1000)(m:l.length<=1000):∀(d j n:Nat),j+d=l.length->d<n->
  kh N (k:Int) b6 b7 b8 b9 az dg cM dh (l.map Rt.e) fK K0 (λ_ _=>K1) n (j:Int)=if b7=(k:Int)+1/\ii k (l.drop j) j=false then K0 else K1
 |d,j,0,_,h=>by omega
 |0,j,n+1,g,_=>by
  rw[kh,show(j:Int)=(((l.map Rt.e).length:Nat):Int) by simp;omega,WP (Xm _),Wb,We (λz=>by
   have:=z.2;rw[List.drop_of_length_le (by omega)]at this;cases this)]
 |d+1,j,n+1,g,hn=>by
  have b:j<(l.map Rt.e).length:=by simp;omega
  have f:j<l.length:=by omega
  have o:=UT (b6:=b6) (b7:=b7) (b8:=b8) (b9:=b9) (az:=az) (dg:=dg) (cM:=cM) (dh:=dh) (fK:=fK) (K0:=K0) (K1:=K1) i m d (j+1) n (by omega) (by omega);rw[kh];simp only[WG b,Ws b,Ww b,Wk (show j<4611686018427387904 by omega),Wa,nU,Wup,ret,Xd,au (show 0<=(k:Int)/\(k:Int)<=1000000 by omega),o,Wu,eJ];rw[dY f,ii];by_cases a:b7=(k:Int)+1
  .rw[Wf a];by_cases c:j=k
   .rw[Wf (by omega),Wc c];simp
   .rw[We (by omega),Wi c];cases(decide (l[j].ζ=0)||decide (l[j].ζ=8))
    .simp[a]
    .simp
  .rw[We a,We (λz=>a z.1),We (λz=>a z.1)]
theorem WuL(n:k<=8)(o:w.η.length<=8)(m:1048576<N):BV N w.e x.e (k:Int)=some ((),((fI w x k).1.e,((fI w x k).2.e,()))):=by
 have i:(((decide ((0:Int)<=(4:Int)))&&(decide ((4:Int)<=(4:Int))))&&(Wx (Xa (4:Int))))=true:=rfl;have f:=λ(K0 K1:Option (Unit×(Y_World×(Y_Root×Unit))))=>UT (N:=N) (l:=w.η) (k:=k) (b6:=w.e.1) (b7:=w.ω) (b8:=w.e.2.2.1.1) (b9:=w.e.2.2.2.1.2) (az:=x.e) (dg:=w.e.2.2.1.2) (cM:=w.e.2.2.2.1.1) (dh:=P4 w.e) (fK:=Q6 w.e) (K0:=K0) (K1:=K1) (by omega) (by omega) w.η.length 0 N (by omega) (by omega);rw[eC]at f;unfold BV fI;simp only[fV,i,Wa,au (show 0<=(k:Int)/\(k:Int)<=1000000 by omega),Wu,eJ,WX,show w.e.2.1=w.ω from rfl,show x.e.2.1=x.χ from rfl,show P5 w.e=w.η.map Rt.e from rfl];have g:∀(K0 K1:Option (Unit×(Y_World×(Y_Root×Unit)))),kh N (k:Int) w.e.1 w.ω w.e.2.2.1.1 w.e.2.2.2.1.2 x.e w.e.2.2.1.2 w.e.2.2.2.1.1 (P4 w.e) (w.η.map Rt.e) (Q6 w.e) K0 (λ_ _=>K1) N 0=if w.ω=(k:Int)+1/\ii k w.η 0=false then K0 else K1:=f;simp only[g];by_cases a:w.ω=0
 .rw[Wf a];rw[We (show¬(w.ω≠0/\w.ω≠(k:Int)+1) by omega)];by_cases d:x.χ>=3
  .rw[Wf d,Wf a,Wf ⟨d,a⟩];rfl
  .rw[We d,We (show¬(x.χ>=3/\w.ω=0)fromλh=>d h.1),We (show¬(w.ω=(k:Int)+1/\ii k w.η 0=false) by omega),We (show¬(w.ω=(k:Int)+1/\ii k w.η 0=false) by omega)];rfl
 .rw[We a];by_cases b:w.ω=(k:Int)+1
  .rw[Wf b,We (show¬(w.ω≠0/\w.ω≠(k:Int)+1) by omega),We (show¬(x.χ>=3/\w.ω=0) by omega),We a];have j:∀(A:Option (Unit×(Y_World×(Y_Root×Unit)))),(if x.χ>=3 then A else A)=A:=λA=>by split<;>rfl
   rw[j];by_cases c:ii k w.η 0=false
   .rw[Wf ⟨b,c⟩];simp only[Wf (show w.ω=(k:Int)+1/\ii k w.η 0=false from⟨b,c⟩)]
   .rw[We (λz=>c z.2)];simp only[We (show¬(w.ω=(k:Int)+1/\ii k w.η 0=false)fromλz=>c z.2)];rfl
  .rw[We b,Wf ⟨a,b⟩]
theorem VG{q:Wo×Rt}(a:k<w.η.length)(b:q.1.η=w.η):(bif inb (k:Int) (Xb (P5 q.1.e))then some ((),((S5 (Xe (P5 q.1.e) (Xa (k:Int)) q.2.e) q.1.e),()))else none)=ret (Wo.put q k).e:=by
 rw[show P5 q.1.e=q.1.η.map Rt.e from rfl,Ws (by rw[Xt,b];exact a),Xj,S5e];rfl
theorem Ab{q:Wo×Rt}{r:Option (Unit×(Y_World×(Y_Root×Unit)))}(b:k<w.η.length)(c:q.1.η=w.η)(e:r=some ((),(q.1.e,(q.2.e,())))):
  (r.bind λa=>(bif inb (k:Int) (Xb (P5 a.2.1))then some ((),((S5 (Xe (P5 a.2.1) (Xa (k:Int)) a.2.2.1) a.2.1),()))else none))=ret (Wo.put q k).e:=by
 rw[e];exact VG b c
theorem Wpx:(fI w x k).1.η=w.η:=by
 unfold fI
 repeat' split
 all_goals rfl
theorem Wld:(gb w x k).1.η=w.η:=by
 unfold gb;split<;>rfl
theorem Wmc:(gU w x).1.η=w.η:=by
 unfold gU;split<;>rfl
theorem Wva(b:k<w.η.length)(E:w.η[k]=x)(R:w.η.length<=8)(l:POk p)(h:GOk w)(a:ROk p n x)(Q:0<=n/\n<=200000)(P:w.Ck.length<=500000)(c:1048576<N):
  ER N w.e p (k:Int)=ret (Wo.put (hF w x k p) k).e:=by
 obtain⟨g1,K,g3,L,M⟩:=woG b E;obtain⟨T,U,r2,r3,r4,r5,r6,V,r8,O,fy,X,Y,Z,J,gB,gD,fj,gd,gE,gF,gG⟩:=rtP x;have B:k<=8:=by omega
 have W:=a.χ;have yq:=a.ul;have re:=tU h.holds;have C:P5 w.e=w.η.map Rt.e:=rfl;unfold ER hF;simp only[Wp];rw[C,L,K];simp only[T,O,J,Wa,Wu];rw[qF];have S:∀A:Option (Unit×(Y_World×Unit)),A=ret (Wo.put (
   if x.ζ=0 then fI w x k else
   if x.ζ=1 then fL w x k p else
   if x.ζ=2 then(w,jP x)else
   if x.ζ=3 then gU w x else
   if x.ζ=4 then(w,io w x)else
   if x.ζ=5 then gb w x k else
   if x.ζ=6 then(if x.υ.length>0 then fH w x else(w,{x with ζ:=7}))else
   if x.ζ=7 then
    (if x.Ct=0 then({w with holds:=WW w.holds ((k:Int)+1)},{χ:=x.χ+1})
     else eA {w with holds:=WW w.holds ((k:Int)+1)} x k)
   else(w,x)) k).e->(if x.Cp=true then((Za N x.ζ 1 4).bind λI=>bif I.2.1 then((lM N x.e).bind λH=>some ((),((S5 (Xe (w.η.map Rt.e) (Xa (k:Int)) H.2.1) w.e),())))else A)else A)=ret (Wo.put (
   if x.Cp=true/\1<=x.ζ/\x.ζ<=4 then(w,gq x)else
   if x.ζ=0 then fI w x k else
   if x.ζ=1 then fL w x k p else
   if x.ζ=2 then(w,jP x)else
   if x.ζ=3 then gU w x else
   if x.ζ=4 then(w,io w x)else
   if x.ζ=5 then gb w x k else
   if x.ζ=6 then(if x.υ.length>0 then fH w x else(w,{x with ζ:=7}))else
   if x.ζ=7 then
    (if x.Ct=0 then({w with holds:=WW w.holds ((k:Int)+1)},{χ:=x.χ+1})
     else eA {w with holds:=WW w.holds ((k:Int)+1)} x k)
   else(w,x)) k).e:=λA F=>by
  by_cases s:x.Cp=true
  .rw[Wf s,ct];simp only[ret,Xd];by_cases v:1<=x.ζ/\x.ζ<=4
   .rw[Wc v.1,Wc v.2,Wf ⟨s,v⟩,Xj,Df];simp only[c3,Wa,ret,Xd];rw[S5e];rfl
   .have hb:(decide (1<=x.ζ)&&decide (x.ζ<=4))=false:=by
     rw[pL,Wm,Wm];omega
    rw[hb,We (λz=>v z.2),Wb];exact F
  .rw[We s,We (λz=>s z.1)];exact F
 refine S _ ?_;have G:∀y:Y_Root,(some ((),((S5 (Xe (w.η.map Rt.e) (Xa (k:Int)) y) w.e),())):Option (Unit×(Y_World×Unit)))=ret (S5 (Xe (w.η.map Rt.e) k y) w.e):=λy=>by rw[Xj]
 by_cases m:x.ζ=0
 .rw[Wf m,Wf m];exact Ab b Wpx (WuL B R c)
 rw[We m,We m];by_cases d:x.ζ=1
 .rw[Wf d,Wf d];exact Ab b (Va l h a d B Q.1).η (Www B l (a.Cn (by omega)) a.υ h.mem h.π h.holds c)
 rw[We d,We d];by_cases f:x.ζ=2
 .rw[Wf f,Wf f,WuC l (a.Cn (by omega)) f c];simp only[ret,Xd];rw[Xj,S5e];rfl
 rw[We f,We f];by_cases g:x.ζ=3
 .rw[Wf g,Wf g];exact Ab b Wmc (Wrk l.ξ (a.Cn (by omega)) g a.υ h.π c)
 rw[We g,We g];by_cases i:x.ζ=4
 .rw[Wf i,Wf i,Wre l (a.Cn (by omega)) i h.mem];exact VG (q:=(w,io w x)) b rfl
 rw[We i,We i];by_cases j:x.ζ=5
 .rw[Wf j,Wf j];exact Ab b Wld (Wry B (a.comm j) h.mem P c)
 rw[We j,We j];by_cases o:x.ζ=6
 .rw[Wf o,Wf o];simp only[WX];by_cases u:Wh x.υ>0
  .have yy:x.υ.length>0:=by unfold Wh at u;omega
   rw[Wf u,Wf yy];exact Ab b rfl (L5 (by omega) (by omega) a.υ h.π c)
  .have yy:¬x.υ.length>0:=by unfold Wh at u;omega
   rw[We u,We yy,G];exact Wq ret (S5e w k {x with ζ:=7})
 rw[We o,We o];by_cases r:x.ζ=7
 .rw[Wf r,Wf r];refine Ab b ?_ ?_
  .split<;>rfl
  .unfold QE;have D:S4 (WW w.holds ((k:Int)+1)) w.e=Wo.e {w with holds:=WW w.holds ((k:Int)+1)}:=rfl;rw[show P4 w.e=w.holds from rfl,au (by omega),WjG h.holds (by omega) c,V,U];simp only[ret,Xd,Wu,D];rw[Vc (by omega),au (by omega)];by_cases t:x.Ct=0
   .rw[Wf t];simp only[Wf t];rfl
   .rw[We t];simp only[We t];rfl
 .rw[We r,We r,G,M,Ml b E]
end
section
section
variable{N:Nat}{s:Sc}{p:Pg}{w:Wo}{n:Int}{a:Ac}{k:Nat}
end
def GI(p:Int):List UInt8:=if 0<=p/\p<=8 then Xc [[105,100,108,101],[114,117,110],[102,111,114,107],[117,110,119,105,110,100],[101,120,116,101,110,100],[99,111,109,109,105,116],[117,110,100,111],[102,114,101,101],[100,111,110,101]] p.toNat []else []
theorem Wrs(p:Int):(GI p).length<=6:=by
 unfold GI;split
 .rename_i h;have:p.toNat<9:=by omega
  generalize p.toNat=q at this;revert q;decide
 .simp
theorem Wl7{N:Nat}{p:Int}:AZ N p=ret (GI p):=by
 unfold AZ Zb GI;by_cases a:0<=p
 .by_cases h2:p<=8
  .have e1:decide (p>=0)=true:=by simpa using a
   have b:decide (p<=8)=true:=by simpa using h2
   have c:inb p 9=true:=by unfold inb;simp;omega
   simp only[e1,b,Wa,Xd,Xn,Wb];rw[show(Xb ([([105,100,108,101]:List UInt8),([114,117,110]:List UInt8),([102,111,114,107]:List UInt8),([117,110,119,105,110,100]:List UInt8),([101,120,116,101,110,100]:List UInt8),([99,111,109,109,105,116]:List UInt8),([117,110,100,111]:List UInt8),([102,114,101,101]:List UInt8),([100,111,110,101]:List UInt8)]))=9 from rfl,c,Wf ⟨a,h2⟩];rfl
  .have e1:decide (p>=0)=true:=by simpa using a
   have b:decide (p<=8)=false:=by simpa using h2
   rw[We (λh=>h2 h.2)];simp[e1,b]
 .have e1:decide (p>=0)=false:=by simpa using a
  rw[We (λh=>a h.1)];simp[e1]
variable{N:Nat}{s:Sc}{w:Wo}{n:Int}{a:Ac}
end
section
variable{N:Nat}{w:Wo}{x:Rt}{k:Nat}{p:Pg}{n:Int}{o:Opn}{f:Fm}{s:Sc}{a:Ac}{m:Mm}
theorem Ws5{codes:List (List Opn)}{j:Int}(b:f.ο.length=codes.length)(a:¬(0<=j/\j<codes.length)):AG N m f.e codes j=some ((m,()),(f.e,())):=by
 unfold AG;rw[qF];split
 .rfl
 .by_cases h0:j<0
  .rw[Wc h0];rfl
  .rw[Wi h0,Wb,Wc (show j>=Wh (Q9 f.e) by rw[show Q9 f.e=f.ο.map Kd.e from rfl];unfold Wh;rw[Xt];omega)];rfl
theorem MW(h:WOk s.2.1 n w)(hn:n<=99999)(D:1048576<N):qi N w.e s a=ret (ef s w a).e:=by
 have ht:=h.tick;have yr:=h.now;have uI:=h.n0;have jh:w.η.length<=4:=by rw[h.len];exact h.l4
 unfold qi ef;simp only[Wp];rw[show P5 w.e=w.η.map Rt.e from rfl,show w.e.1=w.now from rfl,au (by omega)];have F:Wh s.2.1=(w.η.length:Int):=by unfold Wh;rw[h.len]
 rw[F,WM (by unfold I64;omega)];simp only[ct,ret,Xd];by_cases d:0<=a.2.1/\a.2.1<w.η.length
 .rw[Wf d,Wc d.1,Wc (show a.2.1<=(w.η.length:Int) -1 by omega)];obtain⟨k,T⟩:∃k:Nat,a.2.1=k:=⟨a.2.1.toNat,by omega⟩;have c:k<w.η.length:=by omega
  obtain⟨x,b⟩:∃x,w.η[k]=x:=⟨_,rfl⟩;have B:=h.root k c;rw[b]at B;have E:k<s.2.1.length:=by rw[←h.len];exact c
  have u:=zu h.progs E;obtain⟨J,g2,g3,K,g5⟩:=woG c b;obtain⟨R,r1,r2,r3,r4,r5,r6,r7,r8,ga,fy,V,W,X,Y,gB,gD,I,L,gE,gF,gG⟩:=rtP x;have i:∀y:Rt,(w.now+1,S4 (Xe (w.η.map Rt.e) k y.e) w.e.2)=Wo.e (Wo.put ({w with now:=w.now+1},y) k):=λy=>by
   unfold Wo.put Wo.e;simp only[List.map_set];rfl
  have C:Wo.put ({w with now:=w.now+1},x) k={w with now:=w.now+1}:=by unfold Wo.put;simp only;rw[←b,je]
  simp only[T,Xj,c3,Xn,Wb];rw[J,K,WA c,b];simp only[Wa,R,I,L,i,C,show w.e.2.2.1=w.mem from rfl];rw[WH,Wc E];have U:Xc s.2.1 k (([]:List Ka),([]:List Kaa))=s.2.1.getD k pg0:=rfl;rw[U];generalize kW:s.2.1.getD k pg0=p at*;have O:GOk {w with now:=w.now+1}:=⟨h.mem,h.π,h.holds⟩;simp only[Wa,Wu];have G:ER N (w.now+1,w.e.2) p (k:Int)=ret (Wo.put (hF {w with now:=w.now+1} x k p) k).e:=
   Wva (w:={w with now:=w.now+1}) c b (by show w.η.length<=8;omega) u O B (by omega) (by have:=h.Ck;show w.Ck.length<=500000;omega) D
  rw[G];by_cases m:a.1=1
  .rw[Wf m,Wf m];unfold Ad;rw[WA (show k<({w with now:=w.now+1}:Wo).η.length from c)];simp only[b];rfl
  rw[We m,We m];by_cases o:a.1=2
  .rw[Wf o,Wf o];by_cases f:x.ζ=2
   .rw[Wf f];obtain⟨Z,f2,l⟩:=(B.Cn (by omega)).fork f;by_cases A:0<=a.2.2/\a.2.2<p.2.length
    .rw[Wf (show x.ζ=2/\0<=a.2.2/\a.2.2<p.2.length from⟨f,A⟩)];obtain⟨j,Q⟩:∃j:Nat,a.2.2=j:=⟨a.2.2.toNat,by omega⟩;have v:j<p.2.length:=by omega
     simp only[Q,Xj];have H:KC (p.2.getD j []):=by rw[WA v];exact u.ο _ (Xy v)
     rw[Wl6 (ξ:=p.2.getD j []) (by rw[l.len];exact v) (by rw[l.len];exact u.k3) h.mem H l rfl u.k3 (by omega) D];have:U21 (i0 w.mem x.fam j (p.2.getD j [])).e x.e=Rt.e {x with fam:=i0 w.mem x.fam j (p.2.getD j [])}:=rfl;simp only[Xd,this];exact Wq ret (i _)
    .rw[We (λz=>A z.2),Ws5 l.len A];have P:U21 x.fam.e x.e=x.e:=rfl;simp only[Xd,P];have:=i x;rw[C]at this;exact Wq ret this
   .rw[We f,We (λz=>f z.1)]
  rw[We o,We o];by_cases q:a.1=3
  .rw[Wf q,Wf q];have M:S11 true x.e=Rt.e {x with Cp:=true}:=rfl;simp only[M,i,show(Cm.e x.cm).2.2.1=x.cm.ζ from rfl,WX];by_cases g:1<=x.ζ/\x.ζ<=4
   .rw[Wc g.1,Wc g.2,Wf (show(1<=x.ζ/\x.ζ<=4)\/(x.ζ=5/\x.cm.ζ<=3)from .inl g)];rfl
   .have d:(decide (1<=x.ζ)&&decide (x.ζ<=4))=false:=by
     rw[pL,Wm,Wm];omega
    rw[d,Wb];by_cases r:x.ζ=5
    .rw[Wf r];by_cases t:x.cm.ζ<=3
     .rw[Wf t,Wf (show(1<=x.ζ/\x.ζ<=4)\/(x.ζ=5/\x.cm.ζ<=3)from .inr ⟨r,t⟩)]
     .rw[We t,We (show¬((1<=x.ζ/\x.ζ<=4)\/(x.ζ=5/\x.cm.ζ<=3))fromλz=>z.elim g λz=>t z.2)]
    .rw[We r,We (show¬((1<=x.ζ/\x.ζ<=4)\/(x.ζ=5/\x.cm.ζ<=3))fromλz=>z.elim g λz=>r z.1)]
  .rw[We q,We q]
 .rw[We d];have S:(decide (0<=a.2.1)&&decide (a.2.1<=(w.η.length:Int) -1))=false:=by
   rw[pL,Wm,Wm];omega
  rw[S];rfl
theorem Wl4{m:List Int}(k:m.length=8)(p:∀x∈m,0<=x/\x<=65536)(h:1048576<N):xC N m=ret (zA m):=by
 unfold xC zA;rw[show(Wh m !=(8:Int))=false by unfold Wh;rw[k];rfl,Wb];rw[show QD N=ret (Xk 16 0)from rfl];simp only[ret,Xd];have q:∀(d j n:Nat) (l:List Int),j+d=m.length->d<n->SlOk l->r9 N m (some ((),(([]:List Int),()))) (λr s g=>(some ((),(g,())))) n (j:Int) l=ret (o4 (m.drop j) j l):=by
  intro d
  induction d with
  |zero=>
   intro j n l i o c;obtain⟨n,rfl⟩:∃e,n=e+1:=⟨n-1,by omega⟩;have:j=m.length:=by omega
   subst this;simp[r9,WP,Xm,Wb,fr,o4]
  |succ d ih=>
   intro j n l i o c;obtain⟨n,rfl⟩:∃e,n=e+1:=⟨n-1,by omega⟩;have a:j<m.length:=by omega
   have f:=p m[j] (Xy a);simp only[r9,WG a,Ws a,Ww a,Wk (show j<4611686018427387904 by omega),Wa,WX,ct,ret,Xd,Wc f.1,Wc f.2,c3,Xn,Wb];rw[dY a,o4];by_cases b:m[j]>0
   .rw[Wf b,Wf b,WM (by unfold I64;omega),KQ c (by omega) (by omega) h];exact ih _ _ _ (by omega) (by omega) (Dj c (by omega) (by omega))
   .rw[We b,We b];exact ih _ _ _ (by omega) (by omega) c
 have:=q m.length 0 N (Xk 16 0) (by omega) (by omega) LO;rw[eC]at this;exact this
theorem WwS(c:cI s=true)(b:1048576<N):JZ N s=ret (kZ s).e:=by
 obtain⟨a,g,h,i⟩:=qQ c;have f:iL s.1.1=true:=Mn.2 a.Cx;have d:(((decide ((0:Int)<=Wh s.2.1))&&(decide (Wh s.2.1<=Wh s.2.1)))&&(Wx (Xa (Wh s.2.1))))=true:=by
  unfold Wh;rw[Wn (by omega)];simp
 unfold JZ;rw[WjY f b,Wl4 a.map.1 a.map.2 b,d];simp only[Xd,ret,Wa,fV];unfold kZ Wo.e Wh;rw[Xj];simp only[NN];rfl
end
section
variable{N:Nat}{s:Sc}
theorem WuM{R:Type}{K0:Int->Bool->Int->Int->Int->Int->Ks->Kg->Ks->(List Y_Root)->Kac->Option R}(l:s.2.2.length<=1000)(c:1048576<N):
  ∀(d j n:Nat) (m:Int) (w:Wo),j+d=s.2.2.length->d<n->WOk s.2.1 m w->m+d<=90000->
  tn N s.2.2 s K0 n (j:Int) w.now w.ω w.mem.1 w.π.2 w.mem.2 w.π.1 w.holds (w.η.map Rt.e) w.Ck=
   (λv:Wo=>K0 (s.2.2.length:Int) false v.now v.ω v.mem.1 v.π.2 v.mem.2 v.π.1 v.holds (v.η.map Rt.e) v.Ck) ((s.2.2.drop j).foldl (ef s) w):=by
 intro d
 induction d with
 |zero=>
  intro j n m w f i h g;obtain⟨n,rfl⟩:∃b,n=b+1:=⟨n-1,by omega⟩;have:j=s.2.2.length:=by omega
  subst this;simp only[tn,WP (Xm _),Wb,fr,NV]
 |succ d ih=>
  intro j n m w f i h g;obtain⟨n,rfl⟩:∃b,n=b+1:=⟨n-1,by omega⟩;have a:j<s.2.2.length:=by omega
  have k:(w.now,(w.ω,((w.mem.1,w.mem.2),((w.π.1,w.π.2),(w.holds,(w.η.map Rt.e,w.Ck))))))=w.e:=rfl;simp only[tn,WG a,Ws a,Ww a,Wk (show j<4611686018427387904 by omega),Wa,k];rw[Mr h (by omega) c,dY a,jd];exact ih (j+1) n (m+1) _ (by omega) (by omega) (ip h) (by omega)
theorem yP(l:SB s)(a:1048576<N):lN N s=ret (if cI s=true then(dI s).e else d_World):=by
 unfold lN;rw[WS l a];simp only[ret,Xd,Wp];cases hs:cI s with
 |false=>rfl
 |true=>
  obtain⟨b,r,t,u⟩:=qQ hs;have j:=zl hs;have q:=VJ s.2.1 (by omega);simp only[Xn,Wb,WN];rw[Whk b.map.1 b.map.2 a,WjP (Mn.2 b.Cx) a];simp only[ret,Xd,q,Wa,fV];have c:=WuM (s:=s) (N:=N) (K0:=λw v m f k n d g i h p=>(some ((),((m,(f,((k,d),((g,n),(i,(h,p)))))),())):Option (Unit×(Y_World×Unit)))) (by omega) a s.2.2.length 0 N 0 (kZ s) (by omega) (by omega) j (by omega);rw[Su];have o:((kZ s).η.map Rt.e)=Xk s.2.1.length d_Root:=by
   unfold kZ;simp only[NN];rfl
  rw[o]at c;refine c.trans ?_;rw[eC];rfl
theorem Wvf{R:Type}{K0:Int->Bool->Int->Int->Int->Int->Ks->Kg->Ks->(List Y_Root)->Kac->Option R}(l:s.2.2.length<=1000)(c:1048576<N):
  ∀(d j n:Nat) (m:Int) (w:Wo),j+d=s.2.2.length->d<n->WOk s.2.1 m w->m+d<=90000->
  xS N s K0 n (j:Int) w.now w.ω w.mem.1 w.π.2 w.mem.2 w.π.1 w.holds (w.η.map Rt.e) w.Ck=
   (λv:Wo=>K0 (s.2.2.length:Int) false v.now v.ω v.mem.1 v.π.2 v.mem.2 v.π.1 v.holds (v.η.map Rt.e) v.Ck) ((s.2.2.drop j).foldl (ef s) w):=by
 intro d
 induction d with
 |zero=>
  intro j n m w f i h g;obtain⟨n,rfl⟩:∃b,n=b+1:=⟨n-1,by omega⟩;have:j=s.2.2.length:=by omega
  subst this;simp only[xS,WP (Xm _),Wb,fr,NV]
 |succ d ih=>
  intro j n m w f i h g;obtain⟨n,rfl⟩:∃b,n=b+1:=⟨n-1,by omega⟩;have a:j<s.2.2.length:=by omega
  have k:(w.now,(w.ω,((w.mem.1,w.mem.2),((w.π.1,w.π.2),(w.holds,(w.η.map Rt.e,w.Ck))))))=w.e:=rfl;simp only[xS,WG a,Ws a,Ww a,Wk (show j<4611686018427387904 by omega),Wa,k];rw[show qi N w.e s s.2.2[j]=ret (ef s w s.2.2[j]).e from MW h (by omega) c,dY a,jd];exact ih (j+1) n (m+1) _ (by omega) (by omega) (ip h) (by omega)
theorem o5(j:SB s)(a:1048576<N):yo N s=ret (if cI s=true then(dI s).e else d_World):=by
 unfold yo;rw[W6 j a];simp only[ret,Xd];cases hs:cI s with
 |false=>rfl
 |true=>
  obtain⟨n,o,p,q⟩:=qQ hs;simp only[Xn,Wb,WN];rw[WwS hs a];simp only[ret,Xd];have b:=Wvf (s:=s) (N:=N) (K0:=λt r k d i l c f h g m=>(some ((),((k,(d,((i,c),((f,l),(h,(g,m)))))),())):Option (Unit×(Y_World×Unit)))) (by omega) a s.2.2.length 0 N 0 (kZ s) (by omega) (by omega) (zl hs) (by omega);rw[eC]at b;exact b
end
section
variable{n:Int}{w:Wo}{x y:Rt}{k:Nat}{p:Pg}{s:Sc}{a:Ac}
def KZ(y:Kd):Prop:=y.θ.length<=24/\∀q∈y.θ,q.2.2.length<=4
def KP(f:Fm)(x:Kd)(q:Fm×Kd):Prop:=q.1.ο=f.ο/\q.1.start=f.start/\(q.2.ζ=0\/q.2.θ=x.θ\/q.2.θ= [])
theorem Wvk{m:Mm}{f:Fm}{x:Kd}{o:Opn}(h:x.ζ=0):KP f x (iS m f x o):=by
 unfold iS;split
 .exact⟨rfl,rfl,.inl h⟩
 .split
  .split
   .exact⟨rfl,rfl,.inl rfl⟩
   .exact⟨rfl,rfl,.inl h⟩
  .simp only;generalize cS m f.rv (if x.Co=true then x.pb else(o.2.2.1,0,0,0))=q
   (repeat' split)<;>exact⟨rfl,rfl,.inl h⟩
theorem Wue{m:Mm}{f:Fm}{x:Kd}{ξ:List Opn}:KP f x (nB m f x k ξ):=by
 unfold nB;split
 .rename_i h;unfold hN;split
  .exact⟨rfl,rfl,.inr (.inl rfl)⟩
  .simp only;split
   .exact Wvk h
   .split
    .refine⟨rfl,rfl,?_⟩;simp only;unfold uD;split
     .exact .inr (.inl rfl)
     .exact .inl h
    ·(repeat' split)<;>exact⟨rfl,rfl,.inl h⟩
 .split
  .split<;>exact⟨rfl,rfl,.inr (.inl rfl)⟩
  .split
   .split
    .exact⟨rfl,rfl,.inr (.inr rfl)⟩
    .simp only;split
     .exact⟨rfl,rfl,.inr (.inl rfl)⟩
     .exact⟨rfl,rfl,.inl rfl⟩
   .exact⟨rfl,rfl,.inr (.inl rfl)⟩
theorem KOk.kz{ξ:List Opn}{c:Int}{x:Kd}(a:CC ξ)(h:KOk ξ c n x)(d:x.ζ=0):KZ x:=by
 have g:=h.pc;have i:=a.len;have b:=h.θ d;have e:=Wq Xb b.pcs;simp only[Xt]at e;have j:=eD a.up x.pc.toNat (by omega);have k:=(fE ξ x.pc.toNat).2;exact⟨by omega,λq f=>by have:=(b.each q f).1.len;omega⟩
structure RZ(x:Rt):Prop where
 rd:x.κ.length<=96
 wr:x.ι.length<=32
 ml:x.θ.length<=24
 mr:∀q∈x.θ,q.2.2.2.2.length<=4
 cm:x.ζ≠5->x.cm={}
 fm:x.ζ≠2->x.fam={}
 kd:∀y∈x.fam.ο,KZ y
 st:x.fam.start.length<=8
def RQ(x y:Rt):Prop:=((1<=y.ζ/\y.ζ<=4)\/(y.κ=x.κ/\y.ι=x.ι/\y.θ=x.θ)\/(y.κ= []/\y.ι= []/\y.θ= []))/\(y.ζ≠5->y.cm={})/\(y.ζ≠2->y.fam={})/\
 (y.fam=x.fam\/y.fam={}\/∃a μ ε n,y.fam=gY a μ ε n)
theorem F6:RQ x (gq x):=by simp[RQ,gq]
theorem RE{y:Rt}(h:y.ζ=1)(a:y.cm={})(b:y.fam={}):RQ x (kp y):=by
 unfold kp;split
 .simp[RQ,gq]
 .simp[RQ,a,b]
theorem LV(a:x.ζ≠5->x.cm={})(b:x.ζ≠2->x.fam={}):RQ x (fH w x).2:=by simp[RQ,fH];exact⟨a,b⟩
theorem WwC(h:x.ζ≠5)(a:x.ζ≠2)(b:x.ζ≠5->x.cm={})(c:x.ζ≠2->x.fam={}):RQ x (eA w x k).2:=by simp[RQ,eA,b h,c a]
theorem TO{a:Int}(h:x.ζ=1)(c:x.cm={})(b:x.fam={}):RQ x (iM w x k a).2:=by
 unfold iM;simp only;generalize (if a=2 then []else x.ι)=ε;split
 .simp[RQ,eA,c,b]
 .simp[RQ,b]
theorem Wvi{o:Opn}(h:x.ζ=1)(a:x.cm={})(b:x.fam={}):RQ x (mn w x o):=by
 unfold mn;split
 .simp[RQ,h,a,b]
 .simp only;generalize cS w.mem x.rv (if x.Co=true then x.pb else(o.2.2.1,0,0,0))=q;split
  .exact RE h a b
  .split
   .simp[RQ,h,a,b]
   .simp[RQ,h,a,b]
theorem WwX(h:x.ζ=1)(a:x.cm={})(b:x.fam={}):RQ x (fL w x k p).2:=by
 unfold fL;split
 .exact TO h a b
 .simp only;split
  .exact Wvi h a b
  .split
   .unfold q5;split
    .exact TO h a b
    .split
     .exact LV (λ_=>a) (λ_=>b)
     .simp[RQ,h,a,b]
   .split
    .simp[RQ,a];exact .inr (.inr ⟨_,_,_,_,rfl⟩)
    .split
     .unfold iN;split
      .exact RE h a b
      .simp[RQ,h,a,b]
     ·(repeat' split)<;>simp[RQ,h,a,b]
theorem Wu1(a:x.ζ≠5->x.cm={})(b:x.ζ≠2->x.fam={}):RQ x (hF w x k p).2:=by
 have same:RQ x x:=⟨.inr (.inl ⟨rfl,rfl,rfl⟩),a,b,.inl rfl⟩;unfold hF;by_cases f:x.Cp=true/\1<=x.ζ/\x.ζ<=4
 .rw[Wf f];exact F6
 rw[We f];by_cases h:x.ζ=0
 .rw[Wf h];unfold fI
  (repeat' split)<;>first|exact same|simp[RQ]
 rw[We h];by_cases h:x.ζ=1
 .rw[Wf h];exact WwX h (a (by omega)) (b (by omega))
 rw[We h];by_cases h:x.ζ=2
 .rw[Wf h];have e:=a (by omega);unfold jP;split
  .exact F6
  .split
   .simp[RQ,e]
   .exact same
 rw[We h];by_cases h:x.ζ=3
 .rw[Wf h];have e:=a (by omega);have d:=b (by omega);unfold gU;split
  .exact LV a b
  .simp[RQ,e,d]
 rw[We h];by_cases h:x.ζ=4
 .rw[Wf h];have e:=a (by omega);have d:=b (by omega);unfold io;simp only
  (repeat' split)<;>first|exact F6|simp[RQ,h,e,d]
 rw[We h];by_cases h:x.ζ=5
 .rw[Wf h];have d:=b (by omega);unfold gb;split
  .simp only;split
   .exact F6
   .simp[RQ,h,d]
  .simp only;generalize (iP w.mem x.cm).2=c;unfold zv;split
   .simp[RQ,gq]
   .split
    .refine⟨.inr (.inl ⟨rfl,rfl,rfl⟩),λ_=>rfl,λ_=>d,.inl rfl⟩
    .simp[RQ,h,d]
 rw[We h];by_cases h:x.ζ=6
 .rw[Wf h];have e:=a (by omega);have d:=b (by omega);split
  .exact LV a b
  .simp[RQ,e,d]
 rw[We h];by_cases h:x.ζ=7
 .rw[Wf h];split
  .simp[RQ]
  .exact WwC (by omega) (by omega) a b
 rw[We h];exact same
theorem RZ.nx(l:POk p)(g:RZ x)(f:RQ x y)(h:ROk p n y):RZ y:=by
 obtain⟨i,j,k,d⟩:=f;have e:y.κ.length<=96/\y.ι.length<=32/\y.θ.length<=24/\∀q∈y.θ,q.2.2.2.2.length<=4:=by
  rcases i with i|⟨a,b,c⟩|⟨a,b,c⟩
  .have hl:=h.Cn i;obtain⟨m,o,s,r,t,u⟩:=hl.sz l.ξ;exact⟨m,o,r,λq f=>by have:=(hl.θ.each q f).1.len;omega⟩
  .rw[a,b,c];exact⟨g.rd,g.wr,g.ml,g.mr⟩
  .rw[a,b,c];exact⟨by simp,by simp,by simp,λq f=>by cases f⟩
 refine⟨e.1,e.2.1,e.2.2.1,e.2.2.2,j,k,?_,?_⟩
 .rcases d with d|d|⟨_,_,_,_,d⟩<;>rw[d]
  .exact g.kd
  .intro y h;cases h
  .intro y h;rw[NO h];exact⟨by simp,λq f=>by cases f⟩
 .rcases d with d|d|⟨_,_,_,_,d⟩<;>rw[d]
  .exact g.st
  .simp
  .exact o0 _
def WZ(w:Wo):Prop:=∀x∈w.η,RZ x
theorem MU(h:WOk s.2.1 n w)(i:WZ w):WZ (ef s w a):=by
 have c:=ip (a:=a) h;revert c;unfold ef;simp only;split
 .rename_i hb;have d:a.2.1.toNat<w.η.length:=by omega
  have A:=zu h.progs (show a.2.1.toNat<s.2.1.length by rw[←h.len];exact d);have I:=h.root a.2.1.toNat d;have b:=i _ (Xy d);have fin:∀{v:Wo} {y:Rt},v.η=w.η.set a.2.1.toNat y->WOk s.2.1 (n+1) v->(ROk (s.2.1.getD a.2.1.toNat pg0) (n+1) y->RZ y)->WZ v:=λ{v y} j c g x o=>by
   rw[j]at o;rcases NJ o with o|rfl
   .exact i x o
   .refine g ?_;have:=c.root a.2.1.toNat (by rw[j,cZ];exact d);simp only[j,YK]at this;exact this
  rw[WA d];split
  .intro c;refine fin (y:=(hF {w with now:=w.now+1} w.η[a.2.1.toNat] a.2.1.toNat (s.2.1.getD a.2.1.toNat pg0)).2) ?_ c λg=>b.nx A (Wu1 b.cm b.fm) g;unfold Ad;rw[WA (show a.2.1.toNat<({w with now:=w.now+1}:Wo).η.length from d)];have j:=Wx6 h d;show Xe _ _ _=_;rw[j]
  .split
   .split
    .rename_i hf;intro c;refine fin rfl c λg=>?_;have E:=I.Cn (by omega);obtain⟨J,K,z⟩:=E.fork hf.1;have r:a.2.2.toNat<(s.2.1.getD a.2.1.toNat pg0).2.length:=by omega
     have l:a.2.2.toNat<w.η[a.2.1.toNat].fam.ο.length:=by rw[z.len];exact r
     have u:KC ((s.2.1.getD a.2.1.toNat pg0).2.getD a.2.2.toNat []):=by rw[WA r];exact A.ο _ (Xy r)
     have t:=UY (n:=n) l h.mem u z rfl;have C:(∀y∈(i0 w.mem w.η[a.2.1.toNat].fam a.2.2.toNat ((s.2.1.getD a.2.1.toNat pg0).2.getD a.2.2.toNat [])).ο,KZ y)/\(i0 w.mem w.η[a.2.1.toNat].fam a.2.2.toNat ((s.2.1.getD a.2.1.toNat pg0).2.getD a.2.2.toNat [])).start.length<=8:=by
      revert t;unfold i0;split
      .exactλ_=>⟨b.kd,b.st⟩
      .intro t;obtain⟨B,G,H⟩:=Wue (m:=w.mem) (f:=w.η[a.2.1.toNat].fam) (x:=w.η[a.2.1.toNat].fam.ο.getD a.2.2.toNat {}) (k:=a.2.2.toNat) (ξ:=(s.2.1.getD a.2.1.toNat pg0).2.getD a.2.2.toNat []);refine⟨λy g=>?_,by show(nB ..).1.start.length<=8;rw[G];exact b.st⟩;have p:y∈(nB w.mem w.η[a.2.1.toNat].fam (w.η[a.2.1.toNat].fam.ο.getD a.2.2.toNat {}) a.2.2.toNat ((s.2.1.getD a.2.1.toNat pg0).2.getD a.2.2.toNat [])).1.ο.set a.2.2.toNat (nB w.mem w.η[a.2.1.toNat].fam (w.η[a.2.1.toNat].fam.ο.getD a.2.2.toNat {}) a.2.2.toNat ((s.2.1.getD a.2.1.toNat pg0).2.getD a.2.2.toNat [])).2:=g;rw[B]at p;rcases NJ p with p|rfl
       .exact b.kd y p
       .have qV:=t.kid a.2.2.toNat (by show a.2.2.toNat<((nB ..).1.ο.set _ _).length;rw[cZ,B];exact l);simp only[Fm.put,YK]at qV;rcases H with e|e|e
        .exact qV.kz u.toCC e
        .have:=b.kd _ (Xy l);rw[WA l]at e;unfold KZ;rw[WA l,e];exact this
        .unfold KZ;rw[e];exact⟨by simp,λq F=>by cases F⟩
     exact{b with
      fm:=λD=>Wz hf.1 D
      kd:=C.1
      st:=C.2}
    .exactλ_=>i
   .split
    .split
     .intro c;exact fin rfl c λ_=>{b with}
     .exactλ_=>i
    .exactλ_=>i
 .exactλ_=>i
theorem Mx:∀(l:List Ac) (n:Int) (w:Wo),WOk s.2.1 n w->WZ w->WZ (l.foldl (ef s) w)
 | [],_,_,_,h=>h
 |a::l,n,w,h,hz=>Mx l (n+1) _ (ip h) (MU h hz)
theorem VP:WZ (kZ s):=λx b=>by
 obtain rfl:x={}:=NO b;exact⟨by simp,by simp,by simp,λq a=>by simp at a,λ_=>rfl,λ_=>rfl,λy c=>by simp at c,by simp⟩
end
section
set_option synthInstance.maxSize 20000
set_option synthInstance.maxHeartbeats 4000000
def pl(l:List Int):Nat:=l.length
end
section

end
section
def Wxj(l:List Kb):Nat:=l.length
def WyE(a:Int×List Kb):Nat:=Wxj a.2
def WwP(a:List Int×Int):Nat:=pl a.1
def Ve(l:List Kb):Nat:=l.length
def uN(l:List Kc):Nat:=l.length
def Ue(l:List Kb):Nat:=l.length
def TS(a:Int×Int×List Int):Nat:=pl a.2.2
def FK(l:List Kk):Nat:=l.length+(l.map TS).sum
def LR(a:Y_KidRun):Nat:=pl a.2.2.2.2.2.2.1+Ue a.2.2.2.2.2.2.2.1+uN a.2.2.2.2.2.2.2.2.1+FK a.2.2.2.2.2.2.2.2.2.1
def WsJ(l:List Y_KidRun):Nat:=l.length+(l.map LR).sum
def F5(a:Y_Family):Nat:=pl a.2.2.2.2.1+uN a.2.2.2.2.2.1+Ue a.2.2.2.2.2.2.1+pl a.2.2.2.2.2.2.2.1+uN a.2.2.2.2.2.2.2.2.1+WsJ a.2.2.2.2.2.2.2.2.2
def V3(a:Int×Int×Int×Int×List Int):Nat:=pl a.2.2.2.2
def GD(l:List Ki):Nat:=l.length+(l.map V3).sum
def WwV(l:List Kb):Nat:=l.length
def Wuz(a:Int×Int×Int×Int×Int×List Kc×List Int):Nat:=uN a.2.2.2.2.2.1+pl a.2.2.2.2.2.2
def GP(a:Y_Root):Nat:=pl a.2.2.2.2.2.2.2.2.2.2.2.2.1+uN a.2.2.2.2.2.2.2.2.2.2.2.2.2.1+uN a.2.2.2.2.2.2.2.2.2.2.2.2.2.2.1+GD a.2.2.2.2.2.2.2.2.2.2.2.2.2.2.2.1+WwV a.2.2.2.2.2.2.2.2.2.2.2.2.2.2.2.2.1+pl a.2.2.2.2.2.2.2.2.2.2.2.2.2.2.2.2.2.1+Wuz a.2.2.2.2.2.2.2.2.2.2.2.2.2.2.2.2.2.2.2.2.1+F5 a.2.2.2.2.2.2.2.2.2.2.2.2.2.2.2.2.2.2.2.2.2
def WwN(l:List Y_Root):Nat:=l.length+(l.map GP).sum
def Mq(a:Int×Int×List Kc):Nat:=uN a.2.2
def WuS(l:List Ko):Nat:=l.length+(l.map Mq).sum
def Vn(a:Y_World):Nat:=WyE a.2.2.1+WwP a.2.2.2.1+Ve a.2.2.2.2.1+WwN a.2.2.2.2.2.1+WuS a.2.2.2.2.2.2
end
section

end
section
variable{n:Int}{w:Wo}{x:Rt}{p:Pg}{ps:List Pg}
theorem zr{α:Type}{z:α->Nat}{c:Nat}:∀(l:List α),(∀x∈l,z x<=c)->(l.map z).sum<=c*l.length
 | [],_=>by simp
 |x::l,h=>by
  have b:=h x (Xl ..);have d:=zr l λy a=>h y (Xg _ a);rw[bz,List.sum_cons,Xs,Nat.mul_add];omega
theorem WxC(f:POk p)(h:FOk p.2 n x.fam)(a:RZ x):F5 x.fam.e<=3000:=by
 have A:=h.len;have w:=f.k3;have k:∀y∈x.fam.ο.map Kd.e,LR y<=300:=by
  intro y m;obtain⟨o,g,rfl⟩:=Xv.1 m;have d:=a.kd o g;obtain⟨i,j,rfl⟩:=Ea.1 g;have b:=h.kid i j;have v:(p.2.getD i []).length<=24:=by
   rw[WA (show i<p.2.length by omega)];exact(f.ο _ (Xy _)).len
  generalize x.fam.ο[i]=y at*;have B:=b.μ.len;have C:=b.wl;have D:=b.sl;have E:=b.pc;have:FK y.θ<=24+4*24:=by
   unfold FK;have:=zr (z:=TS) (c:=4) y.θ λz a=>d.2 z a;have:=d.1;omega
  show y.μ.length+y.δ.length+y.ι.length+FK y.θ<=300;omega
 have l:=zr _ k;rw[Xt]at l;have q:=h.μ.len;have r:=h.buf8;have s:=h.len3 (show p.2.length<=3 by omega);have t:=h.readsL;have u:=a.st;show x.fam.μ.length+x.fam.start.length+x.fam.buf.length+x.fam.Cq.length+x.fam.κ.length+((x.fam.ο.map Kd.e).length+((x.fam.ο.map Kd.e).map LR).sum)<=3000;rw[Xt];omega
theorem Wxb(j:POk p)(h:ROk p n x)(d:RZ x):GP x.e<=4000:=by
 have c:x.cm.ψ.length+x.cm.κ.length<=16:=by
  by_cases i:x.ζ=5
  .have:=h.comm i;have a:=this.plen;have b:=this.rlen;omega
  .rw[d.cm i];decide
 have f:F5 x.fam.e<=3000:=by
  by_cases g:x.ζ=2
  .exact WxC j ((h.Cn (by omega)).fork g).2.2 d
  .rw[d.fm g];decide
 have m:GD x.θ<=24+4*24:=by
  unfold GD;have:=zr (z:=V3) (c:=4) x.θ λz h=>d.mr z h;have:=d.ml;omega
 have k:=d.rd;have l:=d.wr;have o:=h.ul;have q:=h.rg;have r:=h.ord;show x.μ.length+x.κ.length+x.ι.length+GD x.θ+x.υ.length+x.Cq.length+(x.cm.ψ.length+x.cm.κ.length)+F5 x.fam.e<=4000;omega
theorem Wu2(h:WOk ps n w)(t:n<=99000)(k:WZ w):Vn w.e<=1048576:=by
 have l:=h.l4;have s:=h.len;have g:∀y∈w.η.map Rt.e,GP y<=4000:=by
  intro y a;obtain⟨x,b,rfl⟩:=Xv.1 a;have f:=k x b;obtain⟨i,d,rfl⟩:=Ea.1 b;exact Wxb (by rw[WA (show i<ps.length by omega)];exact h.progs _ (Xy _)) (h.root i d) f
 have j:=zr _ g;rw[Xt]at j;have r:=zr (z:=Mq) (c:=8) w.Ck λy a=>(h.histE y a).1;have m:=h.Ck;have o:=(WE h.mem).1;have p:=tU h.holds;have q:=h.π.slots.len;show w.mem.2.length+w.π.1.length+w.holds.length+((w.η.map Rt.e).length+((w.η.map Rt.e).map GP).sum)+(w.Ck.length+(w.Ck.map Mq).sum)<=1048576;rw[Xt];omega
end
section
def cW(s:Sc)(k:Nat):Nat->Nat->Wo->Wo
 |0,_,w=>w
 |d+1,j,w=>cW s k d (j+1) (ef s w (2,(k:Int),(j:Int)))
def ca(s:Sc):Nat->Nat->Wo->Wo
 |0,_,w=>w
 |d+1,i,w=>ca s d (i+1) (cW s i (s.2.1.getD i pg0).2.length 0 (ef s w (1,(i:Int),0)))
def mu(w:Wo):Bool:=w.η.all λx=>decide (x.ζ=8)
def cz(s:Sc):Nat->Wo->Wo×Nat
 |0,w=>(w,0)
 |d+1,w=>if mu w=true then(w,0)else((cz s d (ca s s.2.1.length 0 w)).1,(cz s d (ca s s.2.1.length 0 w)).2+1)
variable{s:Sc}{w v:Wo}{n:Int}{k N:Nat}
theorem Dn:∀(d j:Nat) (n:Int) (w:Wo),WOk s.2.1 n w->WOk s.2.1 (n+d) (cW s k d j w)
 |0,_,n,w,h=>by rw[cW];simpa using h
 |d+1,j,n,w,h=>by
  have:=Dn d (j+1) (n+1) _ (ip (a:=(2,(k:Int),(j:Int))) h);rw[cW,show n+((d+1:Nat):Int)=n+1+(d:Int) by omega];exact this
theorem Ww6{R:Type}{rounds b1 b2 b3 b4 jW:Int}{K0:Int->Bool->Int->Int->Int->Int->List Kb->List Int->List Kb->List Y_Root->List Ko->Option R}(h:1048576<N)(m:k<s.2.1.length)(q:s.2.1[k].2.length<=3):
  ∀(d j b:Nat) (n:Int) (w:Wo),j+d=s.2.1[k].2.length->d<b->WOk s.2.1 n w->n+d<=99999->
  xL N rounds (k:Int) s.2.1 jW s b1 b2 b3 b4 K0 b (j:Int) w.now w.ω w.mem.1 w.π.2 w.mem.2 w.π.1 w.holds (w.η.map Rt.e) w.Ck=
  K0 (s.2.1[k].2.length:Int) false (cW s k d j w).now (cW s k d j w).ω (cW s k d j w).mem.1 (cW s k d j w).π.2 (cW s k d j w).mem.2 (cW s k d j w).π.1 (cW s k d j w).holds ((cW s k d j w).η.map Rt.e) (cW s k d j w).Ck:=by
 intro d;have g:Xc s.2.1 (Xa (k:Int)) (([]:List Ka),([]:List Kaa))=s.2.1[k]:=Ww m _
 induction d with
 |zero=>
  intro j b n w l i c o;obtain⟨f,rfl⟩:∃f,b=f+1:=⟨b-1,by omega⟩;have:decide ((j:Int)<Wh s.2.1[k].2)=false:=Wi (by unfold Wh;omega);simp only[xL,Wp,g,this,Wb,cW];rw[show(j:Int)=(s.2.1[k].2.length:Int) by omega]
 |succ d ih=>
  intro j b n w l i c o;obtain⟨f,rfl⟩:∃f,b=f+1:=⟨b-1,by omega⟩;have:decide ((j:Int)<Wh s.2.1[k].2)=true:=Wc (by unfold Wh;omega);have p:=Mr (a:=(2,(k:Int),(j:Int))) c (by omega) h;simp only[xL,Wp,g,this,Wa];rw[show((w.now,(w.ω,((w.mem.1,w.mem.2),((w.π.1,w.π.2),(w.holds,(w.η.map Rt.e,w.Ck)))))):Y_World)=w.e from rfl,p];simp only[Xd,Wk (show j<4611686018427387904 by omega)];rw[cW];exact ih (j+1) f (n+1) _ (by omega) (by omega) (ip c) (by omega)
theorem pk3(h:WOk s.2.1 n w){i:Nat}(hi:i<s.2.1.length):(s.2.1.getD i pg0).2.length<=3:=(zu h.progs hi).k3
theorem FO:∀(d i:Nat) (n:Int) (w:Wo),i+d=s.2.1.length->WOk s.2.1 n w->∃e,n<=e/\e<=n+4*d/\WOk s.2.1 e (ca s d i w)
 |0,_,n,w,g,h=>⟨n,by omega,by omega,by rw[ca];exact h⟩
 |d+1,i,n,w,g,h=>by
  have f:=Dn (k:=i) (s.2.1.getD i pg0).2.length 0 (n+1) _ (ip (a:=(1,(i:Int),0)) h);have j:=pk3 h (i:=i) (by omega);obtain⟨e,a,b,c⟩:=FO d (i+1) _ _ (by omega) f;exact⟨e,by omega,by omega,by rw[ca];exact c⟩
theorem WuX{R:Type}{rounds b1 b2 b3 b4:Int}{K0:Int->Bool->Int->Int->Int->Int->List Kb->List Int->List Kb->List Y_Root->List Ko->Option R}(j:1048576<N)(F:s.2.1.length<=4):
  ∀(d i b:Nat) (n:Int) (w:Wo),i+d=s.2.1.length->d<b->WOk s.2.1 n w->n+4*d<=99999->
  tj N rounds s.2.1 s b1 b2 b3 b4 K0 b (i:Int) w.now w.ω w.mem.1 w.π.2 w.mem.2 w.π.1 w.holds (w.η.map Rt.e) w.Ck=
  K0 (s.2.1.length:Int) false (ca s d i w).now (ca s d i w).ω (ca s d i w).mem.1 (ca s d i w).π.2 (ca s d i w).mem.2 (ca s d i w).π.1 (ca s d i w).holds ((ca s d i w).η.map Rt.e) (ca s d i w).Ck:=by
 intro d
 induction d with
 |zero=>
  intro i b n w q p g t;obtain⟨f,rfl⟩:∃f,b=f+1:=⟨b-1,by omega⟩;have:i=s.2.1.length:=by omega
  subst this;simp only[tj,WP (Xm _),Wb,ca]
 |succ d ih=>
  intro i b n w q p g t;obtain⟨f,rfl⟩:∃f,b=f+1:=⟨b-1,by omega⟩;have c:i<s.2.1.length:=by omega
  have u:=Mr (a:=(1,(i:Int),0)) g (by omega) j;have l:s.2.1.getD i pg0=s.2.1[i]:=WA c _;have h:=pk3 g c;rw[l]at h;have m:=ip (a:=(1,(i:Int),0)) g;have r:=Ww6 (R:=R) (rounds:=rounds) (b1:=b1) (b2:=b2) (b3:=b3) (b4:=b4) (jW:=Wh s.2.1)
   (K0:=λG H B C D v x y z A E=>(tj N rounds s.2.1 s b1 b2 b3 b4 K0 f (Wj .i64 (i:Int) (1:Int)) B C D v x y z A E)) j c h s.2.1[i].2.length 0 N (n+1) _ (by omega) (by omega) m (by omega)
  have o:=Dn (k:=i) s.2.1[i].2.length 0 (n+1) _ m;simp only[tj,WG c,Ws c,Wa];rw[show((w.now,(w.ω,((w.mem.1,w.mem.2),((w.π.1,w.π.2),(w.holds,(w.η.map Rt.e,w.Ck)))))):Y_World)=w.e from rfl,u];simp only[Xd];refine r.trans ?_;simp only[Wk (show i<4611686018427387904 by omega)];rw[ca,l];exact ih (i+1) f _ _ (by omega) (by omega) o (by omega)
theorem Ux(m:w.η.length<=4)(q:1048576<N):KK N w.e=ret (mu w):=by
 unfold KK N4 Ef;have f:w.e.2.2.2.2.2.1=w.η.map Rt.e:=rfl;rw[f];have s:(w.η.map Rt.e).length<=4:=by simpa using m
 have g:=WB (l:=w.η.map Rt.e) (V:=Unit) (R:=Unit×Kj) (lp:=λn j _=>Zl N (w.η.map Rt.e) (λd=>(some ((),(d,())))) (λo p=>(some ((),((-1:Int),())))) n j) (n:=N) (by omega)
  (body:=λj x v k=>bif (x.1 !=8)then some ((),(j,()))else k v) (K:=λ_ v=>some ((),((-1:Int),())))
  (λn i u c=>by
   simp only[Zl,Qw,WG c,Ws c,Ww c,Wk (show i<4611686018427387904 by omega),Wa,Xd])
  (λn u=>by simp only[Zl,WP (Xm _),Wb]) ()
 have h:∀(l:List Y_Root) (j:Nat),∃r:Int,cY (λ(j:Int) (x:Y_Root) (v:Unit) (k:Unit->Option Kw)=>bif (x.1 !=8)then some ((),(j,()))else k v) (λ_ v=>some ((),((-1:Int),()))) l j ()=some ((),(r,()))/\(decide (r>=0)= !(l.all λx=>x.1==8)):=λl=>by
  induction l with
  |nil=>intro j;exact⟨-1,rfl,rfl⟩
  |cons x l ih=>
   intro j;rw[cY];cases hx:x.1==8 with
   |true=>
    have:(x.1 !=8)=false:=by rw[bne,hx];rfl
    simp only[this,Wb];obtain⟨r,a,b⟩:=ih (j+1);exact⟨r,a,by rw[b,dG,hx];rfl⟩
   |false=>
    have:(x.1 !=8)=true:=by rw[bne,hx];rfl
    simp only[this,Wa];exact⟨j,rfl,by rw[dG,hx];simp⟩
 obtain⟨r,a,b⟩:=h (w.η.map Rt.e) 0;rw[g.trans a];simp only[Xd,b,Bool.not_not];have:((w.η.map Rt.e).all λx=>x.1==8)=mu w:=by
  unfold mu;rw[List.all_map];congr 1
 rw[this]
theorem WvD{R:Type}{K0:Int->Bool->Int->Int->Int->Int->List Kb->List Int->List Kb->List Y_Root->List Ko->Option R}(j:1048576<N)(l:s.2.1.length<=4):
  ∀(d r g:Nat) (n:Int) (w:Wo),r+d=6000->d<g->WOk s.2.1 n w->n+16*d<=99999->
  tl N s K0 g (r:Int) w.now w.ω w.mem.1 w.π.2 w.mem.2 w.π.1 w.holds (w.η.map Rt.e) w.Ck=
  (λv:Wo×Nat=>K0 ((r+v.2:Nat):Int) false v.1.now v.1.ω v.1.mem.1 v.1.π.2 v.1.mem.2 v.1.π.1 v.1.holds (v.1.η.map Rt.e) v.1.Ck) (cz s d w):=by
 intro d
 induction d with
 |zero=>
  intro r g n w q o h p;obtain⟨f,rfl⟩:∃f,g=f+1:=⟨g-1,by omega⟩;have k:w.η.length<=4:=by rw[h.len];exact l
  simp only[tl];rw[show((w.now,(w.ω,((w.mem.1,w.mem.2),((w.π.1,w.π.2),(w.holds,(w.η.map Rt.e,w.Ck)))))):Y_World)=w.e from rfl,Ux k j];have i:decide ((r:Int)<6000)=false:=Wi (by omega);simp only[ret,Xd,i,Wb,cz,c5];cases mu w<;>rfl
 |succ d ih=>
  intro r g n w q o h p;obtain⟨f,rfl⟩:∃f,g=f+1:=⟨g-1,by omega⟩;have k:w.η.length<=4:=by rw[h.len];exact l
  simp only[tl];rw[show((w.now,(w.ω,((w.mem.1,w.mem.2),((w.π.1,w.π.2),(w.holds,(w.η.map Rt.e,w.Ck)))))):Y_World)=w.e from rfl,Ux k j];have i:decide ((r:Int)<6000)=true:=Wc (by omega);simp only[ret,Xd,i,Wa,cz];cases ho:mu w with
  |true=>rfl
  |false=>
   simp only[bS,Wa,dq,W4];obtain⟨E,a,b,c⟩:=FO s.2.1.length 0 n w (by omega) h;have m:=WuX (s:=s) (R:=R) (rounds:=Wj .i64 (r:Int) 1) (b1:=0) (b2:=0) (b3:=0) (b4:=0)
    (K0:=λF G y z A B C D u x t=>(tl N s K0 f (Wj .i64 (r:Int) (1:Int)) y z A B C D u x t)) j l s.2.1.length 0 N n w (by omega) (by omega) h (by omega)
   refine m.trans ?_;simp only[Wk (show r<4611686018427387904 by omega)];rw[ih (r+1) f E _ (by omega) (by omega) c (by omega)];simp only[show r+1+(cz s d (ca s s.2.1.length 0 w)).2=r+((cz s d (ca s s.2.1.length 0 w)).2+1) by omega]
theorem Wu3{R:Type}{rounds b1 b2 b3 b4:Int}{K0:Int->Bool->Int->Int->Int->Int->List Kb->List Int->List Kb->List Y_Root->List Ko->Option R}(h:1048576<N)(b:k<s.2.1.length)(p:s.2.1[k].2.length<=3):
  ∀(d j a:Nat) (n:Int) (w:Wo),j+d=s.2.1[k].2.length->d<a->WOk s.2.1 n w->n+d<=99999->
  xK N rounds (k:Int) s b1 b2 b3 b4 K0 a (j:Int) w.now w.ω w.mem.1 w.π.2 w.mem.2 w.π.1 w.holds (w.η.map Rt.e) w.Ck=
  K0 (s.2.1[k].2.length:Int) false (cW s k d j w).now (cW s k d j w).ω (cW s k d j w).mem.1 (cW s k d j w).π.2 (cW s k d j w).mem.2 (cW s k d j w).π.1 (cW s k d j w).holds ((cW s k d j w).η.map Rt.e) (cW s k d j w).Ck:=by
 intro d;have g:Xc s.2.1 (Xa (k:Int)) (([]:List Ka),([]:List Kaa))=s.2.1[k]:=Ww b _
 induction d with
 |zero=>
  intro j a n w l i c m;obtain⟨f,rfl⟩:∃f,a=f+1:=⟨a-1,by omega⟩;have:decide ((j:Int)<Wh s.2.1[k].2)=false:=Wi (by unfold Wh;omega);simp only[xK,Ws b,Wp,g,this,Wa,Wb,cW];rw[show(j:Int)=(s.2.1[k].2.length:Int) by omega]
 |succ d ih=>
  intro j a n w l i c m;obtain⟨f,rfl⟩:∃f,a=f+1:=⟨a-1,by omega⟩;have:decide ((j:Int)<Wh s.2.1[k].2)=true:=Wc (by unfold Wh;omega);have o:qi N w.e s (2,(k:Int),(j:Int))=ret (ef s w (2,(k:Int),(j:Int))).e:=MW c (by omega) h;simp only[xK,Ws b,Wp,g,this,Wa];rw[show((w.now,(w.ω,((w.mem.1,w.mem.2),((w.π.1,w.π.2),(w.holds,(w.η.map Rt.e,w.Ck)))))):Y_World)=w.e from rfl,o];simp only[ret,Xd,Wk (show j<4611686018427387904 by omega)];rw[cW];exact ih (j+1) f (n+1) _ (by omega) (by omega) (ip c) (by omega)
theorem WrZ{R:Type}{rounds b1 b2 b3 b4:Int}{K0:Int->Bool->Int->Int->Int->Int->List Kb->List Int->List Kb->List Y_Root->List Ko->Option R}(j:1048576<N)(F:s.2.1.length<=4):
  ∀(d i b:Nat) (n:Int) (w:Wo),i+d=s.2.1.length->d<b->WOk s.2.1 n w->n+4*d<=99999->
  th N rounds s b1 b2 b3 b4 K0 b (i:Int) w.now w.ω w.mem.1 w.π.2 w.mem.2 w.π.1 w.holds (w.η.map Rt.e) w.Ck=
  K0 (s.2.1.length:Int) false (ca s d i w).now (ca s d i w).ω (ca s d i w).mem.1 (ca s d i w).π.2 (ca s d i w).mem.2 (ca s d i w).π.1 (ca s d i w).holds ((ca s d i w).η.map Rt.e) (ca s d i w).Ck:=by
 intro d
 induction d with
 |zero=>
  intro i b n w q p g t;obtain⟨f,rfl⟩:∃f,b=f+1:=⟨b-1,by omega⟩;have:i=s.2.1.length:=by omega
  subst this;simp only[th,WP (Xm _),Wb,ca]
 |succ d ih=>
  intro i b n w q p g t;obtain⟨f,rfl⟩:∃f,b=f+1:=⟨b-1,by omega⟩;have c:i<s.2.1.length:=by omega
  have u:qi N w.e s (1,(i:Int),0)=ret (ef s w (1,(i:Int),0)).e:=MW g (by omega) j;have l:s.2.1.getD i pg0=s.2.1[i]:=WA c _;have h:=pk3 g c;rw[l]at h;have m:=ip (a:=(1,(i:Int),0)) g;have r:=Wu3 (R:=R) (rounds:=rounds) (b1:=b1) (b2:=b2) (b3:=b3) (b4:=b4)
   (K0:=λG H B C D v x y z A E=>(th N rounds s b1 b2 b3 b4 K0 f (Wj .i64 (i:Int) (1:Int)) B C D v x y z A E)) j c h s.2.1[i].2.length 0 N (n+1) _ (by omega) (by omega) m (by omega)
  have o:=Dn (k:=i) s.2.1[i].2.length 0 (n+1) _ m;simp only[th,WG c,Wa];rw[show((w.now,(w.ω,((w.mem.1,w.mem.2),((w.π.1,w.π.2),(w.holds,(w.η.map Rt.e,w.Ck)))))):Y_World)=w.e from rfl,u];simp only[ret,Xd];refine r.trans ?_;simp only[Wk (show i<4611686018427387904 by omega)];rw[ca,l];exact ih (i+1) f _ _ (by omega) (by omega) o (by omega)
theorem SV(f:w.η.length<=4)(g:1048576<N):CA N w.e=ret (mu w):=by
 unfold CA;have b:w.e.2.2.2.2.2.1=w.η.map Rt.e:=rfl;have h:(w.η.map Rt.e).length<=4:=by simpa using f
 have c:=WB (l:=w.η.map Rt.e) (V:=Unit) (R:=Unit×Kf) (lp:=λn j _=>xQ N w.e (some ((),(false,()))) (λm o=>(some ((),(true,())))) n j) (n:=N) (by omega)
  (body:=λj x v k=>bif (x.1 !=8)then some ((),(false,()))else k v) (K:=λ_ v=>some ((),(true,())))
  (λn i u a=>by simp only[xQ,b,WG a,Ws a,Ww a,Wk (show i<4611686018427387904 by omega),Wa])
  (λn u=>by simp only[xQ,b,WP (Xm _),Wb]) ()
 have d:∀(l:List Y_Root) (j:Nat),cY (λ(j:Int) (x:Y_Root) (v:Unit) (k:Unit->Option Kq)=>bif (x.1 !=8)then some ((),(false,()))else k v) (λ_ v=>some ((),(true,()))) l j ()=some ((),(l.all λx=>x.1==8,())):=λl=>by
  induction l with
  |nil=>intro j;rfl
  |cons x l ih=>
   intro j;rw[cY,dG];cases hx:x.1==8 with
   |true=>
    have:(x.1 !=8)=false:=by rw[bne,hx];rfl
    simp only[this,Wb,d3];exact ih (j+1)
   |false=>
    have:(x.1 !=8)=true:=by rw[bne,hx];rfl
    simp only[this,Wa,pY]
 refine c.trans ((d (w.η.map Rt.e) 0).trans ?_);have:((w.η.map Rt.e).all λx=>x.1==8)=mu w:=by
  unfold mu;rw[List.all_map];congr 1
 rw[this]
theorem Wtk{R:Type}{K0:Int->Bool->Int->Int->Int->Int->List Kb->List Int->List Kb->List Y_Root->List Ko->Option R}(j:1048576<N)(l:s.2.1.length<=4):
  ∀(d r g:Nat) (n:Int) (w:Wo),r+d=6000->d<g->WOk s.2.1 n w->n+16*d<=99999->
  ti N s K0 g (r:Int) w.now w.ω w.mem.1 w.π.2 w.mem.2 w.π.1 w.holds (w.η.map Rt.e) w.Ck=
  (λv:Wo×Nat=>K0 ((r+v.2:Nat):Int) false v.1.now v.1.ω v.1.mem.1 v.1.π.2 v.1.mem.2 v.1.π.1 v.1.holds (v.1.η.map Rt.e) v.1.Ck) (cz s d w):=by
 intro d
 induction d with
 |zero=>
  intro r g n w q o h p;obtain⟨f,rfl⟩:∃f,g=f+1:=⟨g-1,by omega⟩;have k:w.η.length<=4:=by rw[h.len];exact l
  simp only[ti];rw[show((w.now,(w.ω,((w.mem.1,w.mem.2),((w.π.1,w.π.2),(w.holds,(w.η.map Rt.e,w.Ck)))))):Y_World)=w.e from rfl,SV k j];have i:decide ((r:Int)<6000)=false:=Wi (by omega);simp only[ret,Xd,i,Wb,cz,c5];cases mu w<;>rfl
 |succ d ih=>
  intro r g n w q o h p;obtain⟨f,rfl⟩:∃f,g=f+1:=⟨g-1,by omega⟩;have k:w.η.length<=4:=by rw[h.len];exact l
  simp only[ti];rw[show((w.now,(w.ω,((w.mem.1,w.mem.2),((w.π.1,w.π.2),(w.holds,(w.η.map Rt.e,w.Ck)))))):Y_World)=w.e from rfl,SV k j];have i:decide ((r:Int)<6000)=true:=Wc (by omega);simp only[ret,Xd,i,Wa,cz];cases ho:mu w with
  |true=>rfl
  |false=>
   simp only[bS,Wa,dq,W4];obtain⟨E,a,b,c⟩:=FO s.2.1.length 0 n w (by omega) h;have m:=WrZ (s:=s) (R:=R) (rounds:=(r:Int)) (b1:=0) (b2:=0) (b3:=0) (b4:=0)
    (K0:=λF G y z A B C D u x t=>(ti N s K0 f (Wj .i64 (r:Int) (1:Int)) y z A B C D u x t)) j l s.2.1.length 0 N n w (by omega) (by omega) h (by omega)
   refine m.trans ?_;simp only[Wk (show r<4611686018427387904 by omega)];rw[ih (r+1) f E _ (by omega) (by omega) c (by omega)];simp only[show r+1+(cz s d (ca s s.2.1.length 0 w)).2=r+((cz s d (ca s s.2.1.length 0 w)).2+1) by omega]
noncomputable def dr(s:Sc):Y_World×Int:=if cI s=true then((cz s 6000 (dI s)).1.e,((cz s 6000 (dI s)).2:Int))else(d_World,0)
theorem tS(b:SB s)(a:1048576<N):ib N s=some ((),((dr s).1,((dr s).2,()))):=by
 unfold ib;rw[WS b a,yP b a];unfold dr;simp only[ret,Xd];cases aY:cI s with
 |false=>rfl
 |true=>
  obtain⟨n,o,p,q⟩:=qQ aY;have d:=F0 aY;simp only[Xn,Wb,WN];have:=WvD (s:=s) (N:=N) (K0:=λc r e f g h i j k l m=>(some ((),((e,(f,((g,i),((j,h),(k,(l,m)))))),(c,()))):Option (Unit×(Y_World×Kj)))) a (by omega) 6000 0 N _ (dI s) (by omega) (by omega) d (by omega);refine this.trans ?_;simp only[bX];rfl
theorem tQ(d:SB s)(a:1048576<N):Cg N s=some ((),((dr s).1,((dr s).2,()))):=by
 unfold Cg;rw[o5 d a];unfold dr;simp only[ret,Xd];cases aY:cI s with
 |false=>
  simp only[dq,W4];obtain⟨N,rfl⟩:∃m,N=m+1:=⟨N-1,by omega⟩;rfl
 |true=>
  obtain⟨o,p,q,r⟩:=qQ aY;have c:=F0 aY;simp only[WN];have:=Wtk (s:=s) (N:=N) (K0:=λb t e f g h i j k l n=>(some ((),((e,(f,((g,i),((j,h),(k,(l,n)))))),(b,()))):Option (Unit×(Y_World×Kj)))) a (by omega) 6000 0 N _ (dI s) (by omega) (by omega) c (by omega);refine this.trans ?_;simp only[bX];rfl
theorem Ub:∀(d j:Nat) (n:Int) (w:Wo),WOk s.2.1 n w->WZ w->WZ (cW s k d j w)
 |0,_,_,_,_,h=>h
 |d+1,j,n,w,h,hz=>Ub d (j+1) (n+1) _ (ip h) (MU h hz)
theorem TL:∀(d i:Nat) (n:Int) (w:Wo),i+d=s.2.1.length->WOk s.2.1 n w->WZ w->WZ (ca s d i w)
 |0,_,_,_,_,_,h=>h
 |d+1,i,n,w,a,h,hz=>TL d (i+1) _ _ (by omega) (Dn _ _ _ _ (ip h)) (Ub _ _ _ _ (ip h) (MU h hz))
theorem TR(g:s.2.1.length<=4):∀(d:Nat) (n:Int) (w:Wo),WOk s.2.1 n w->WZ w->∃f,f<=n+16*d/\WOk s.2.1 f (cz s d w).1/\WZ (cz s d w).1
 |0,n,w,h,e=>⟨n,by omega,h,e⟩
 |d+1,n,w,h,e=>by
  unfold cz;split
  .exact⟨n,by omega,h,e⟩
  .obtain⟨i,a,b,c⟩:=FO s.2.1.length 0 n w (by omega) h;obtain⟨j,p,q,r⟩:=TR g d i _ c (TL _ _ _ _ (by omega) h e);exact⟨j,by omega,q,r⟩
end
section
section
section
end
section
variable{w:Wo}{a b c k:Nat}
def rw'(w:Wo)(k:Nat):Rt:=w.η.getD k rt0
def noW(x:Rt):Int:=if cN x=x.rv then 1 else 0
def cfR(w:Wo)(a b:Nat):Int:=
 if cN (rw' w a)≠cN (rw' w b)then cN (rw' w a) -cN (rw' w b)else
 if noW (rw' w a)≠noW (rw' w b)then noW (rw' w a) -noW (rw' w b)else
 if(rw' w a).Cu≠(rw' w b).Cu then(rw' w a).Cu-(rw' w b).Cu else(a:Int) -b
theorem qU:cfR w a b<0↔(cN (rw' w a)<cN (rw' w b)\/cN (rw' w a)=cN (rw' w b)/\(noW (rw' w a)<noW (rw' w b)\/noW (rw' w a)=noW (rw' w b)/\((rw' w a).Cu<(rw' w b).Cu\/(rw' w a).Cu=(rw' w b).Cu/\a<b))):=by
 unfold cfR;generalize cN (rw' w a)=s;generalize cN (rw' w b)=d;generalize noW (rw' w a)=n;generalize noW (rw' w b)=c;split
 .omega
 split
 .omega
 split<;>omega
theorem nH:Lin (cfR w):=⟨λx=>by rw[qU];omega,λx y z=>by simp only[qU];omega,λx y z=>by simp only[qU];omega⟩
theorem apR:Ap (cfR w) a b↔a≠b:=by
 unfold Ap;rw[qU,qU];constructor
 .intro h e;subst e;omega
 .intro h;omega
def slR(w:Wo):List Nat:=(cK w.η.length).filter λk=>stl (rw' w k)
def rks(w:Wo):List Nat:=(slR w).foldr (λk l=>cd (cfR w) l k) []
theorem VN:∀{l:List Nat},l.Nodup->Ris (cfR w) (l.foldr (λk l=>cd (cfR w) l k) [])/\∀k,k∈l.foldr (λk l=>cd (cfR w) l k) []↔k∈l
 | [],_=>⟨List.Pairwise.nil,λk=>Iff.rfl⟩
 |a::l,h=>by
  obtain⟨c,d⟩:=List.nodup_cons.1 h;obtain⟨b,f⟩:=VN d;refine⟨oU nH b,λk=>?_⟩;rw[List.foldr_cons,oX nH b,f k,Xr,apR];refine⟨λz=>z.imp id And.left,λz=>z.imp id λy=>⟨y,λe=>c (by rw[←e];exact y)⟩⟩
theorem Dq:k∈slR w↔k<w.η.length/\stl (rw' w k)=true:=by
 unfold slR;rw[List.mem_filter,List.mem_range]
theorem zo:Ris (cfR w) (rks w)/\∀k,k∈rks w↔k<w.η.length/\stl (rw' w k)=true:=by
 have:=VN (w:=w) (l:=slR w) (List.nodup_range.filter _);exact⟨this.1,λk=>(this.2 k).trans Dq⟩
theorem Wt6:(rks w).Nodup:=zo.1.imp λ{a b} h e=>by subst e;exact nH.irr _ h
end
end
section
section
variable{w:Wo}{k:Nat}
theorem WyG(a:k<w.η.length):rw' w k=w.η[k]:=WA a _
end
end
section
variable{N:Nat}{s t:Sc}{w v:Wo}{a:Ac}{n:Int}{x y:Rt}
theorem QI:EX N x.e=ret (stl x):=by
 obtain⟨l,A,B,C,D,E,F,m,G,y,r,n,o,p,q,s,t,j,z,u,v,w⟩:=rtP x;unfold EX stl;simp only[Wp,l,m,j,show x.cm.e.2.2.1=x.cm.ζ from rfl,Wu,WqZ];have k:∀a b:Int,(a==b)=decide (a=b):=λa b=>by by_cases h:a=b<;>simp[h]
 rw[k];by_cases i:x.ζ=8
 .rw[Wf i,Wc i];rfl
 .rw[We i,Wi i];by_cases c:x.ζ=6
  .rw[Wf c,Wf c,Wc c,Wi (show¬x.ζ=5 by omega)];simp
  .rw[We c,Wi c];by_cases g:x.ζ=7
   .rw[Wf g,Wc g,Wi (show¬x.ζ=5 by omega)];simp
   .rw[We g,Wi g];by_cases f:x.ζ=5
    .rw[Wf f,Wc f];by_cases d:x.cm.ζ=4
     .rw[Wf d,Wc d];simp
     .rw[We d,Wi d];simp
    .rw[We f,Wi f];simp
theorem Wmj:oh N x.e=ret (cN x):=by
 unfold oh cN;rw[QI];simp only[ret,Xd,Wu,show x.e.1=x.ζ from rfl];cases stl x with
 |false=>rfl
 |true=>
  simp only[Xn,Wb,WN];split<;>rfl
end
section
section
variable{N:Nat}{w:Wo}{a b k:Nat}{x:Rt}{m:Mm}{l:List Int}
theorem zx(a:k<w.η.length):Xc (w.η.map Rt.e) (Xa (k:Int)) d_Root=Rt.e (rw' w k):=by
 rw[Xj,WA (show k<(w.η.map Rt.e).length by simpa using a),nU,WyG a]
theorem G9(a:k<w.η.length):inb (k:Int) (w.η.map Rt.e).length=true:=Ws (by simpa using a)
theorem Wst(l:a<w.η.length)(m:b<w.η.length):IS N w.e (a:Int) (b:Int)=ret (decide (cfR w a b<0)):=by
 unfold IS;have u:P5 w.e=w.η.map Rt.e:=rfl;have t:∀x:Rt,P4 x.e=x.rv:=λ_=>rfl;have A:∀x:Rt,P10 x.e=x.Cu:=λ_=>rfl;simp only[Wp,u,G9 l,G9 m,Wa,zx l,zx m,Wmj,ret,Xd,t,A];have o:∀x:Rt,(cN x==x.rv)=decide (noW x=1):=λx=>by
  unfold noW;by_cases h:cN x=x.rv
  .rw[Wf h,h];simp
  .rw[We h,show(cN x==x.rv)=false by simpa using h];rfl
 have r:∀x:Rt,noW x=0\/noW x=1:=λx=>by unfold noW;split<;>simp
 rw[o,o];have c:=qU (w:=w) (a:=a) (b:=b);have v:=r (rw' w a);have y:=r (rw' w b);generalize cN (rw' w a)=s at*;generalize cN (rw' w b)=g at*;generalize noW (rw' w a)=n at*;generalize noW (rw' w b)=d at*;generalize (rw' w a).Cu=e at*;generalize (rw' w b).Cu=f at*;have fin:∀p:Bool,(p=true↔cfR w a b<0)->(some ((),p,()):Option Kq)=some ((),(decide (cfR w a b<0),())):=λp q=>by
  have:p=decide (cfR w a b<0):=by
   cases p
   .symm;rw[Wm];intro z;exact Wz (q.2 z) (by simp)
   .symm;rw[Wg];exact q.1 rfl
  rw[this]
 by_cases i:s=g
 .rw[show(s !=g)=false by simpa using i,Wb];by_cases j:n=d
  .rw[show(!beq (decide (n=1)) (decide (d=1)))=false by rw[j];cases decide (d=1)<;>rfl,Wb];by_cases k:e=f
   .rw[show(e !=f)=false by simpa using k,Wb];exact fin _ (by rw[Wg,c];omega)
   .rw[show(e !=f)=true by simpa using k,Wa];exact fin _ (by rw[Wg,c];omega)
  .rw[show(!beq (decide (n=1)) (decide (d=1)))=true by
    rcases v with rfl|rfl<;>rcases y with rfl|rfl<;>first|rfl|exact Wz rfl j,Wa]
   exact fin _ (by rw[Wg,c];omega)
 .rw[show(s !=g)=true by simpa using i,Wa];exact fin _ (by rw[Wg,c];omega)
end
end
section
section
variable{N:Nat}{w:Wo}{a b k:Nat}{R:Type}
def kS(w:Wo)(a:Nat):Nat:=(slR w).countP λb=>decide (cfR w b a<0)
theorem WtD:(slR w).Nodup:=List.nodup_range.filter _
theorem Dh:(slR w).Perm (rks w):=(List.perm_ext_iff_of_nodup WtD Wt6).2 λk=>Dq.trans (zo.2 k).symm
theorem Gp:(rks w).length=(slR w).length:=Dh.length_eq.symm
theorem MF{m:Nat}(h:m<(rks w).length):kS w (rks w)[m]=m:=by
 unfold kS;rw[Dh.countP_eq];have c:=List.pairwise_iff_getElem.1 (zo (w:=w)).1;have g:∀u,(rks w).countP (λb=>decide (cfR w b u<0))=((rks w).take m++(rks w).drop m).countP (λb=>decide (cfR w b u<0)):=λu=>by rw[List.take_append_drop]
 rw[g];rw[Ys,List.countP_eq_length.2 λb a=>?_,List.countP_eq_zero.2 λb a=>?_,dA]
 .omega
 .obtain⟨i,f,e⟩:=List.mem_drop_iff_getElem.1 a;rw[←e,Wg];intro z;by_cases d:i=0
  .subst d;exact nH.irr _ z
  .exact nH.irr _ (nH.tr _ _ _ (c m (m+i) h (by omega) (by omega)) z)
 .obtain⟨i,f,e⟩:=List.mem_take_iff_getElem.1 a;rw[←e,Wg];exact c i m (by omega) h (by omega)
theorem UV{c:Nat->Nat}:∀(l:List Nat) (o:List Int),(∀a∈l,∀b∈l,c a=c b->a=b)->(∀a∈l,c a<o.length)->(l.foldl (λo a=>o.set (c a) (a:Int)) o).length=o.length/\∀a∈l,(l.foldl (λo a=>o.set (c a) (a:Int)) o)[c a]?=some (a:Int)
 | [],o,_,_=>⟨rfl,λa d=>by cases d⟩
 |x::l,o,h,hl=>by
  have g:∀(m:List Nat) (o:List Int) (p:Nat),(∀b∈m,c b≠p)->(m.foldl (λo a=>o.set (c a) (a:Int)) o)[p]?=o[p]?:=λm=>by
   induction m with
   |nil=>intro o p _;rfl
   |cons y m ih=>
    intro o p i;rw[jd,ih _ _ λb f=>i b (Xg _ f),List.getElem?_set_ne (i y (Xl ..))]
  obtain⟨j,k⟩:=UV l (o.set (c x) (x:Int)) (λa d b f=>h a (Xg _ d) b (Xg _ f)) λa d=>by rw[cZ];exact hl a (Xg _ d)
  refine⟨by rw[jd,j,cZ],λa d=>?_⟩;rw[jd];by_cases e:a∈l
  .exact k a e
  .rcases Xr.1 d with rfl|d
   .rw[g l _ _ λb f z=>e (by rw[←h b (Xg _ f) a (Xl ..) z];exact f)];rw[List.getElem?_set_self (hl a (Xl ..))]
   .exact Wz d e
theorem WuR:(slR w).foldl (λo a=>o.set (kS w a) (a:Int)) (Xk (slR w).length 0)=(rks w).map λk:Nat=>(k:Int):=by
 have g:∀a,a∈slR w->∃m,∃h:m<(rks w).length,(rks w)[m]=a/\kS w a=m:=λa d=>by
  obtain⟨m,f,e⟩:=ln ((Dh (w:=w)).mem_iff.1 d);exact⟨m,f,e,by rw[←e,MF f]⟩
 obtain⟨l,q⟩:=UV (c:=kS w) (slR w) (Xk (slR w).length 0) (λa d b s e=>by
  obtain⟨m,f,n,j⟩:=g a d;obtain⟨m',u,p,t⟩:=g b s;have:m=m':=by omega
  subst this;exact n.symm.trans p) λa d=>by
  obtain⟨m,f,_,j⟩:=g a d;rw[AB,j,←Gp];exact f
 rw[AB]at l;refine List.ext_getElem (by rw[l,Xt,Gp]) λm r i=>?_;rw[Xt]at i;have:=q (rks w)[m] ((Dh (w:=w)).mem_iff.2 (Xy i));rw[MF i,List.getElem?_eq_getElem r]at this;rw[nU];exact Option.some.inj this
theorem XC(m:w.η.length<=4){K0:Int->Bool->List Int->Option R}:∀(d j a:Nat),j+d=w.η.length->d<a->td N w.e K0 a (j:Int) (((cK j).filter λk=>stl (rw' w k)).map λk:Nat=>(k:Int))=K0 (w.η.length:Int) false ((slR w).map λk:Nat=>(k:Int))
 |0,j,a,l,hf=>by
  obtain⟨g,rfl⟩:∃g,a=g+1:=⟨a-1,by omega⟩;have:j=w.η.length:=by omega
  subst this;have c:w.e.2.2.2.2.2.1=w.η.map Rt.e:=rfl;have i:w.η.length=(w.η.map Rt.e).length:=by simp
  rw[td,c]
  conv=>lhs;rw[i]
  rw[WP (Xm _),Wb,←i];rfl
 |d+1,j,a,l,hf=>by
  obtain⟨g,rfl⟩:∃g,a=g+1:=⟨a-1,by omega⟩;have f:j<w.η.length:=by omega
  have c:w.e.2.2.2.2.2.1=w.η.map Rt.e:=rfl;have h:j<(w.η.map Rt.e).length:=by simpa using f
  have b:=XC m (K0:=K0) d (j+1) g (by omega) (by omega);rw[NT,pK,Xx]at b;have n:Wx ((Xb (((cK j).filter λk=>stl (rw' w k)).map λk:Nat=>(k:Int)))+(Xb [(j:Int)]))=true:=Wn (by
   have:=Ay (λk=>stl (rw' w k)) (cK j);simp at this⊢;omega)
  rw[td,c,WG h,Ws h,zx f,QI];simp only[Wa,ret,Xd,n,Wk (show j<4611686018427387904 by omega)];cases hs:stl (rw' w j)with
  |true=>
   simp only[en,hs,Ho,WN,bz,eX]at b;exact b
  |false=>
   simp only[en,hs,Ho]at b;rw[We (by simp),eX,hU]at b;exact b
theorem XJ{j:Nat}(h:j<(slR w).length):(slR w)[j]<w.η.length:=(Dq.1 (Xy h)).1
theorem Dv(a:w.η.length<=4):(slR w).length<=4:=by
 have:=Ay (λk=>stl (rw' w k)) (cK w.η.length);unfold slR;simp at this⊢;omega
theorem XO(o:w.η.length<=4){i:Nat}(hi:i<(slR w).length){bT:List Int}{K0:Int->Int->Bool->Option R}:∀(d j a:Nat),j+d=(slR w).length->d<a->qc N (i:Int) w.e ((slR w).map λk:Nat=>(k:Int)) bT K0 a ((((slR w).take j).countP λb=>decide (cfR w b (slR w)[i]<0):Nat):Int) (j:Int)=K0 (kS w (slR w)[i]:Int) ((slR w).length:Int) false
 |0,j,a,s,hf=>by
  obtain⟨g,rfl⟩:∃g,a=g+1:=⟨a-1,by omega⟩;have:j=(slR w).length:=by omega
  subst this;have n:(slR w).length=((slR w).map λk:Nat=>(k:Int)).length:=by simp
  rw[qc,nY]
  conv=>lhs;rw[n]
  rw[WP (Xm _),Wb,←n];rfl
 |d+1,j,a,s,hf=>by
  obtain⟨g,rfl⟩:∃g,a=g+1:=⟨a-1,by omega⟩;have h:j<(slR w).length:=by omega
  have m:j<((slR w).map λk:Nat=>(k:Int)).length:=by simpa using h
  have q:i<((slR w).map λk:Nat=>(k:Int)).length:=by simpa using hi
  have u:=Dv o;have c:=XO o hi (bT:=bT) (K0:=K0) d (j+1) g (by omega) (by omega);rw[Au h,Ys,List.countP_singleton]at c;have r:=NG (p:=λb=>decide (cfR w b (slR w)[i]<0)) (l:=(slR w).take j);rw[dA]at r;rw[qc,WG m,Wa];by_cases t:j=i
  .subst t;rw[show((j:Int) !=(j:Int))=false by simp,Wb,Wk (show j<4611686018427387904 by omega)];rw[We (by rw[Wg];exact nH.irr _)]at c;exact c
  .rw[show((j:Int) !=(i:Int))=true by simp;omega,Wa,Ws m,Ws q,Ww m,Ww q,nU,nU,Wst (XJ h) (XJ hi)];simp only[Wa,ret,Xd,Wk (show j<4611686018427387904 by omega)];by_cases f:cfR w (slR w)[j] (slR w)[i]<0
   .rw[Wf (by rw[Wg];exact f)]at c;rw[Wc f,Wa,Wk (by omega)];exact c
   .rw[We (by rw[Wg];exact f)]at c;rw[Wi f,Wb];exact c
theorem XH(s:1048576<N)(i:w.η.length<=4){K0:Int->Bool->List Int->Option R}:∀(d j b:Nat),j+d=(slR w).length->d<b->qd N w.e ((slR w).map λk:Nat=>(k:Int)) K0 b (j:Int) (((slR w).take j).foldl (λo a=>o.set (kS w a) (a:Int)) (Xk (slR w).length 0))=K0 ((slR w).length:Int) false ((rks w).map λk:Nat=>(k:Int))
 |0,j,b,t,hf=>by
  obtain⟨g,rfl⟩:∃g,b=g+1:=⟨b-1,by omega⟩;have:j=(slR w).length:=by omega
  subst this;have l:(slR w).length=((slR w).map λk:Nat=>(k:Int)).length:=by simp
  rw[qd,nY,WuR]
  conv=>lhs;rw[l]
  rw[WP (Xm _),Wb,←l]
 |d+1,j,b,t,hf=>by
  obtain⟨g,rfl⟩:∃g,b=g+1:=⟨b-1,by omega⟩;have c:j<(slR w).length:=by omega
  have h:j<((slR w).map λk:Nat=>(k:Int)).length:=by simpa using c
  have x:=Dv i;have f:=XH s i (K0:=K0) d (j+1) g (by omega) (by omega);rw[Au c,List.foldl_append,jd,NV]at f;have q:∀(m:List Nat) (o:List Int),(m.foldl (λo a=>o.set (kS w a) (a:Int)) o).length=o.length:=λm=>by
   induction m with
   |nil=>intro o;rfl
   |cons a m f=>intro o;rw[jd,f,cZ]
  have u:kS w (slR w)[j]<(slR w).length:=by
   obtain⟨m,n,e⟩:=ln ((Dh (w:=w)).mem_iff.1 (Xy c));rw[←e,MF n,←Gp];exact n
  have r:=XO (N:=N) i c (bT:=((slR w).take j).foldl (λo a=>o.set (kS w a) (a:Int)) (Xk (slR w).length 0)) (K0:=λp v y=>
  (bif inb (j:Int) (Xb ((slR w).map λk:Nat=>(k:Int)))then
 (bif inb p (Xb (((slR w).take j).foldl (λo a=>o.set (kS w a) (a:Int)) (Xk (slR w).length 0)))then
 (qd N w.e ((slR w).map λk:Nat=>(k:Int)) K0 g (Wj .i64 (j:Int) (1:Int)) (Xe (((slR w).take j).foldl (λo a=>o.set (kS w a) (a:Int)) (Xk (slR w).length 0)) (Xa p) (Xc ((slR w).map λk:Nat=>(k:Int)) (Xa (j:Int)) (0:Int))))else none)else none)) (slR w).length 0 N (by omega) (by omega)
  rw[qd,WG h,Wa];refine Eq.trans r ?_;simp only[Ws h,Wa,WH,q,AB,Wc u,Xj,Wk (show j<4611686018427387904 by omega)];rw[WA h,nU];exact f
theorem Wt2(d:1048576<N)(b:w.η.length<=4):Cd N w.e=ret ((rks w).map λk:Nat=>(k:Int)):=by
 unfold Cd;have c:=XC (N:=N) b (K0:=λh g a=>
  (bif ((decide ((0:Int)<=(Wh a)))&&(decide ((Wh a)<=(Wh a))))&&(Wx (Xa (Wh a)))then
 (qd N w.e a
 (λl j f=>
  (some ((),(f,()))))
 N (0:Int) (Xk (Xa (Wh a)) (0:Int)))else none)) w.η.length 0 N (by omega) (by omega)
 refine Eq.trans c ?_;have i:=Dv b;rw[VJ _ (by simp;omega),Wa,Su,Xt];exact XH d b (slR w).length 0 N (by omega) (by omega)
end
end
end
section
section
variable{N:Nat}{w:Wo}{x y:Rt}{R:Type}
theorem QK:ES N x.e=ret (stl x):=by
 unfold ES stl;have d:P20 x.e=x.cm.e:=rfl;have j:P7 x.e=x.Ct:=rfl;have i:x.e.1=x.ζ:=rfl;have f:∀a b:Int,(a==b)=decide (a=b):=λa b=>by by_cases h:a=b<;>simp[h]
 have g:∀a b:Int,(a !=b)=decide (a≠b):=λa b=>by by_cases h:a=b<;>simp[h]
 simp only[Wp,i,j,d,show x.cm.e.2.2.1=x.cm.ζ from rfl,f,g];by_cases c:x.ζ=8
 .simp[c,ret]
 .by_cases h5:x.ζ=5
  .by_cases c4:x.cm.ζ=4<;>simp[h5,c4,ret]
  .by_cases h6:x.ζ=6
   .simp[h6,ret]
   .by_cases h7:x.ζ=7<;>simp[h5,h6,h7,c,ret]
theorem QZ:EY N x.e=ret (cN x):=by
 unfold EY cN;rw[QK];simp only[ret,Xd,Wu,show x.e.1=x.ζ from rfl];cases stl x with
 |false=>rfl
 |true=>
  simp only[Xn,Wb,WN];split<;>rfl
def vv(x y:Rt):Int:=
 if cN x<cN y then-1 else if cN x>cN y then 1 else
 if cN x≠x.rv/\cN y=y.rv then-1 else if cN x=x.rv/\cN y≠y.rv then 1 else
 if x.Cu<y.Cu then-1 else if x.Cu>y.Cu then 1 else 0
theorem Wvl:JF N x.e y.e=ret (vv x y):=by
 unfold JF;rw[QZ,QZ];have b:∀z:Rt,P10 z.e=z.Cu:=λ_=>rfl;have a:∀z:Rt,P4 z.e=z.rv:=λ_=>rfl;simp only[ret,Xd,Wp,b,a];unfold vv;generalize cN x=s;generalize cN y=t;simp only[Bool.cond_eq_ite,Wg,beq_iff_eq,bne_iff_ne]
 grind
theorem Vq{a b:Nat}(h:b<a):vv (rw' w a) (rw' w b)<0↔cfR w a b<0:=by
 rw[qU];unfold vv noW
 repeat' split
 all_goals(first|omega|(simp_all;omega)|simp_all)
def ed(c:Nat->Nat->Bool)(x:Nat):List Nat->List Nat
 | []=>[x]
 |y::q=>if c x y=true then y::ed c x q else x::y::q
def cR(w:Wo)(a b:Nat):Bool:=decide (vv (rw' w a) (rw' w b)<0)
theorem Mb{c:Nat->Nat->Bool}{x:Nat}:∀{q:List Nat},(ed c x q).length=q.length+1
 | []=>rfl
 |y::q=>by
  rw[ed];split
  .rw[Xs,Mb,Xs]
  .simp
theorem De{c:Nat->Nat->Bool}{x z:Nat}:∀{q:List Nat},z∈ed c x q↔z=x\/z∈q
 | []=>by simp[ed]
 |y::q=>by
  rw[ed];split
  .rw[Xr,De,Xr]
   grind
  .simp
theorem Vh{x:Nat}:∀{q:List Nat},q.Pairwise (λa b=>cfR w b a<0)->(∀y∈q,y<x)->(ed (cR w) x q).Pairwise (λa b=>cfR w b a<0)
 | [],_,_=>by simp[ed]
 |y::q,h,hl=>by
  obtain⟨e,i⟩:=Xu.1 h;have g:=hl y (Xl ..);rw[ed];split
  .rename_i d;have d:cfR w x y<0:=(Vq g).1 (Waf d);refine Xu.2 ⟨λz c=>?_,Vh i λz c=>hl z (Xg _ c)⟩;rcases De.1 c with rfl|c
   .exact d
   .exact e z c
  .rename_i d;have d:¬cfR w x y<0:=λz=>d (Wc ((Vq g).2 z));have f:cfR w y x<0:=by
    rw[qU]at d⊢;omega
   refine Xu.2 ⟨λz c=>?_,h⟩;rcases Xr.1 c with rfl|c
   .exact f
   .exact nH.tr _ _ _ (e z c) f
theorem Us:∀{l q:List Nat},q.Pairwise (λa b=>cfR w b a<0)->(∀y∈q,∀z∈l,y<z)->l.Pairwise (· < ·)->(l.foldl (λq x=>ed (cR w) x q) q).Pairwise (λa b=>cfR w b a<0)/\∀z,z∈l.foldl (λq x=>ed (cR w) x q) q↔z∈q\/z∈l
 | [],q,h,_,_=>⟨h,λz=>by simp⟩
 |x::l,q,h,d,hl=>by
  obtain⟨f,g⟩:=Xu.1 hl;obtain⟨a,b⟩:=Us (l:=l) (Vh h λy c=>d y c x (Xl ..)) (λy c z e=>by
   rcases De.1 c with rfl|c
   .exact f z e
   .exact d y c z (Xg _ e)) g
  refine⟨a,λz=>?_⟩;rw[jd,b z,De,Xr]
  grind
theorem Wt4:((slR w).foldl (λq x=>ed (cR w) x q) []).reverse=rks w:=by
 have e:(slR w).Pairwise (· < ·):=List.Pairwise.filter _ List.pairwise_lt_range;obtain⟨a,b⟩:=Us (w:=w) (l:=slR w) (q:=[]) List.Pairwise.nil (λy i=>by cases i) e;have d:Ris (cfR w) ((slR w).foldl (λq x=>ed (cR w) x q) []).reverse:=List.pairwise_reverse.2 a;have c:((slR w).foldl (λq x=>ed (cR w) x q) []).reverse.Pairwise (Ap (cfR w)):=d.imp λh=>.inl h;have f:=DA nH d c λx=>Iff.rfl;have g:=DA nH (zo (w:=w)).1 c λx=>by
  rw[List.mem_reverse,b x,zo.2 x,←Dq];simp
 exact f.symm.trans g
theorem Wq4{a b:Nat}(c:a<w.η.length)(d:b<w.η.length):JG N (a:Int) (b:Int) w.e=some ((w.e,()),(vv (rw' w a) (rw' w b),())):=by
 have f:w.e.2.2.2.2.2.1=w.η.map Rt.e:=rfl;unfold JG;rw[f,G9 c,G9 d,zx c,zx d,Wvl];rfl
abbrev ci(l:List Nat):List Int:=l.map λk:Nat=>(k:Int)
theorem VR{l:List Nat}{j:Nat}(h:j<l.length):Xc (ci l) j 0=(l[j]:Int):=by
 rw[WA (show j<(ci l).length by simpa using h),nU]
theorem X2{i b:Int}(K0:Int->Bool->List Int->Y_World->Option R):∀(q:List Nat) (x:Nat) (S:List Nat) (a:Nat),q.length<a->q.length+S.length<=1000->x<w.η.length->(∀y∈q,y<w.η.length)->
  ∃j t,Z0 N 0 b i K0 a (q.length:Int) (ci (q.reverse++x::S)) w.e=K0 j t (ci ((ed (cR w) x q).reverse++S)) w.e
 | [],x,S,a,f,h,d,h4=>by
  obtain⟨g,rfl⟩:∃g,a=g+1:=⟨a-1,by omega⟩;exact⟨0,false,rfl⟩
 |y::q,x,S,a,f,h,d,h4=>by
  obtain⟨g,rfl⟩:∃g,a=g+1:=⟨a-1,by omega⟩;simp only[Xs]at f h;have l:(y::q).reverse++x::S=q.reverse++y::x::S:=by simp
  have p:(q.reverse++y::x::S).length=q.length+2+S.length:=by simp;omega
  have u:(ci (q.reverse++y::x::S)).length=q.length+2+S.length:=by rw[Xt,p]
  have n:Xc (ci (q.reverse++y::x::S)) (Xa ((q.length+1:Nat):Int)) 0=(x:Int):=by
   rw[Xj,VR (by omega)];simp[YA]
  have o:Xc (ci (q.reverse++y::x::S)) (Xa (q.length:Int)) 0=(y:Int):=by
   rw[Xj,VR (by omega)];simp[YA]
  have m:Wv .i64 ((q.length+1:Nat):Int) 1=(q.length:Int):=by rw[WM (by unfold I64;omega)];omega
  have s:inb ((q.length+1:Nat):Int) (ci (q.reverse++y::x::S)).length=true:=Ws (by omega);have k:inb (q.length:Int) (ci (q.reverse++y::x::S)).length=true:=Ws (by omega);rw[l,Xs,Z0,Wc (show((q.length+1:Nat):Int)>0 by omega)];simp only[Wp,Wa,s,m,k,n,o,Wq4 d (h4 y (by simp)),Xd];by_cases c:vv (rw' w x) (rw' w y)<0
  .have s1:Xe (Xe (ci (q.reverse++y::x::S)) (Xa ((q.length+1:Nat):Int)) (y:Int)) (Xa (q.length:Int)) (x:Int)=ci (q.reverse++x::y::S):=by
    rw[Xj,Xj];simp[List.set_append_right]
   rw[Wc c,Wa,cZ,k,Wa,s1];obtain⟨j,t,e⟩:=X2 (i:=i) (b:=b) K0 q x (y::S) g (by omega) (by simp;omega) d λz r=>h4 z (by simp[r]);refine⟨j,t,e.trans ?_⟩;rw[ed,Wf (show cR w x y=true from Wc c)];simp
  .rw[Wi c,Wb];refine⟨((q.length+1:Nat):Int),false,?_⟩;rw[ed,We (show¬cR w x y=true fromλz=>c (Waf z))];simp
theorem X4(n:1048576<N)(K0:Int->Bool->List Int->Y_World->Option R):∀(l q:List Nat) (a:Nat),l.length<a->q.length+l.length<=1000->(∀y∈q,y<w.η.length)->(∀y∈l,y<w.η.length)->
  ∃i t,Zk N 0 ((q.length+l.length:Nat):Int) K0 a (q.length:Int) (ci (q.reverse++l)) w.e=K0 i t (ci (l.foldl (λq x=>ed (cR w) x q) q).reverse) w.e
 | [],q,a,h,k,d,h4=>by
  obtain⟨g,rfl⟩:∃g,a=g+1:=⟨a-1,by omega⟩;refine⟨(q.length:Int),false,?_⟩;rw[Zk,Wi (by simp),Wb,hU];rfl
 |x::l,q,a,h,k,d,h4=>by
  obtain⟨g,rfl⟩:∃g,a=g+1:=⟨a-1,by omega⟩;simp only[Xs]at h k;rw[Zk,Wc (by simp;omega),Wa];obtain⟨j,t,e⟩:=X2 (N:=N) (i:=(q.length:Int)) (b:=((q.length+(x::l).length:Nat):Int)) (λs u m p=>
  (Zk N 0 ((q.length+(x::l).length:Nat):Int) K0 g (Wj .i64 (q.length:Int) (1:Int)) m p)) q x l N (by omega) (by omega) (h4 x (by simp)) d
  obtain⟨o,r,f⟩:=X4 n K0 l (ed (cR w) x q) g (by omega) (by rw[Mb];omega) (λy c=>by
   rcases De.1 c with rfl|c
   .exact h4 _ (by simp)
   .exact d y c) λy c=>h4 y (by simp[c])
  refine⟨o,r,e.trans ?_⟩;rw[Mb]at f;rw[Wk (show q.length<4611686018427387904 by omega),Xs,show q.length+(l.length+1)=q.length+1+l.length by omega];exact f
theorem WrO(h:1048576<N){l:List Nat}(f:l.length<=4)(c:∀y∈l,y<w.η.length):HB N (ci l) w.e=some ((ci (l.foldl (λq x=>ed (cR w) x q) []).reverse,(w.e,())),()):=by
 have j:Wh (ci l)=(l.length:Int):=by unfold Wh;rw[Xt]
 have b:Zu N (ci l) 0 (l.length:Int) w.e=some ((ci (l.foldl (λq x=>ed (cR w) x q) []).reverse,(w.e,())),()):=by
  unfold Zu;cases l with
  |nil=>
   obtain⟨g,rfl⟩:∃g,N=g+1:=⟨N-1,by omega⟩;rfl
  |cons x l=>
   simp only[Xs]at f;obtain⟨i,t,e⟩:=X4 (w:=w) h (λn m k d=>(some ((k,(d,())),()):Option ((List Int×(Y_World×Unit))×Unit))) l [x] N (by omega) (by simp;omega) (λy a=>by
    rw[List.mem_singleton.1 a];exact c x (by simp)) λy a=>c y (by simp[a])
   rw[show(([x].length+l.length:Nat):Int)=((x::l).length:Int) by simp;omega]at e;exact e
 unfold HB Ej;obtain⟨g,rfl⟩:∃g,N=g+1:=⟨N-1,by omega⟩;rw[j,Eh,Wi (show¬(20:Int)<=(l.length:Int) by omega),Wb,b];simp only[Xd];rw[Ei,Wi (show¬(20:Int)<(l.length:Int) by omega),Wb];rfl
theorem XV(m:w.η.length<=4){K0:Int->Bool->List Int->Option R}:∀(d j a:Nat),j+d=w.η.length->d<a->s8 N (w.η.map Rt.e) w.e K0 a (j:Int) (ci ((cK j).filter λk=>stl (rw' w k)))=K0 (w.η.length:Int) false (ci (slR w))
 |0,j,a,l,hf=>by
  obtain⟨g,rfl⟩:∃g,a=g+1:=⟨a-1,by omega⟩;have:j=w.η.length:=by omega
  subst this;have c:w.e.2.2.2.2.2.1=w.η.map Rt.e:=rfl;have i:w.η.length=(w.η.map Rt.e).length:=by simp
  rw[s8,c]
  conv=>lhs;rw[i]
  rw[WP (Xm _),Wb,←i];rfl
 |d+1,j,a,l,hf=>by
  obtain⟨g,rfl⟩:∃g,a=g+1:=⟨a-1,by omega⟩;have f:j<w.η.length:=by omega
  have c:w.e.2.2.2.2.2.1=w.η.map Rt.e:=rfl;have h:j<(w.η.map Rt.e).length:=by simpa using f
  have b:=XV m (K0:=K0) d (j+1) g (by omega) (by omega);rw[NT,pK,ci,Xx]at b;have n:Wx ((Xb (ci ((cK j).filter λk=>stl (rw' w k))))+(Xb [(j:Int)]))=true:=Wn (by
   have:=Ay (λk=>stl (rw' w k)) (cK j);simp at this⊢;omega)
  rw[s8,c,WG h,Ws h,zx f,QK];simp only[Wa,ret,Xd,n,Wk (show j<4611686018427387904 by omega)];cases hs:stl (rw' w j)with
  |true=>
   simp only[en,hs,Ho,WN,bz,eX]at b;exact b
  |false=>
   simp only[en,hs,Ho]at b;rw[We (by simp),eX,hU]at b;exact b
theorem Wq3(b:1048576<N)(a:w.η.length<=4):qj N w.e=ret ((rks w).map λk:Nat=>(k:Int)):=by
 unfold qj;refine Eq.trans (XV (N:=N) a w.η.length 0 N (by omega) (by omega)) ?_;rw[WrO b (Dv a) λy c=>(Dq.1 c).1,Wt4];rfl
end
end
section
theorem Nj{α:Type}(a:Option α):ab a a=a:=by unfold ab;simp
theorem wrI(n:Int):I64 (IntKind.wrap .i64 n):=by
 show I64 (if(true&&decide (n%18446744073709551616>=9223372036854775808))=true then n%18446744073709551616-18446744073709551616 else n%18446744073709551616);unfold I64;simp only[d3,Wg];split<;>omega
theorem DS{a b:Int}:I64 (Wj .i64 a b):=wrI _
def tlE(e:Int)(r:Y_Root):Int:=bif decide (1<=r.2.1)&&decide (r.2.1<=400)then Wj .i64 e r.2.1 else e
def tlS(v:Int×Int×Int×Int×Int)(r:Y_Root):Int×Int×Int×Int×Int:=
 bif r.1==0 then(Wj .i64 v.1 1,v.2.1,v.2.2.1,v.2.2.2.1,tlE v.2.2.2.2 r)
 else bif r.1 !=8 then(v.1,Wj .i64 v.2.1 1,v.2.2.1,v.2.2.2.1,tlE v.2.2.2.2 r)
 else bif (P7 r)==1 then(v.1,v.2.1,Wj .i64 v.2.2.1 1,v.2.2.2.1,tlE v.2.2.2.2 r)
 else(v.1,v.2.1,v.2.2.1,Wj .i64 v.2.2.2.1 1,tlE v.2.2.2.2 r)
def tlI(v:Int×Int×Int×Int)(r:Y_Root):Int×Int×Int×Int:=
 bif r.1==0 then(Wj .i64 v.1 1,v.2.1,v.2.2.1,tlE v.2.2.2 r)
 else bif r.1 !=8 then(v.1,v.2.1,v.2.2.1,tlE v.2.2.2 r)
 else bif (P7 r)==1 then(v.1,Wj .i64 v.2.1 1,v.2.2.1,tlE v.2.2.2 r)
 else(v.1,v.2.1,Wj .i64 v.2.2.1 1,tlE v.2.2.2 r)
def mf(r:Y_Root):Bool:=r.1 !=0&&r.1 !=8
theorem DR:∀(f:List Y_Root) (a b c d e:Int),0<=b->b+f.length<=4611686018427387904->
  f.foldl tlS (a,b,c,d,e)=((f.foldl tlI (a,c,d,e)).1,b+f.countP mf,(f.foldl tlI (a,c,d,e)).2.1,(f.foldl tlI (a,c,d,e)).2.2.1,(f.foldl tlI (a,c,d,e)).2.2.2)
 | [],a,b,c,d,e,_,_=>by simp
 |r::f,a,b,c,d,e,g,h1=>by
  simp only[Xs]at h1;rw[jd,jd,YR];unfold tlS tlI mf;cases hz:r.1==0
  .have vE:(r.1 !=0)=true:=by simpa [bne]using hz
   cases h8:r.1 !=8
   .simp only[Wb,vE,Bool.and_false];cases(P7 r)==1
    .simp only[Wb];have:=DR f a b c (Wj .i64 d 1) (tlE e r) g (by omega);unfold tlS tlI mf at this;simpa [-jd]using this
    .simp only[Wa];have:=DR f a b (Wj .i64 c 1) d (tlE e r) g (by omega);unfold tlS tlI mf at this;simpa [-jd]using this
   .simp only[Wb,Wa,vE,Bool.and_true];have h:Wj .i64 b 1=b+1:=WD (by unfold I64;omega);rw[h];have:=DR f a (b+1) c d (tlE e r) (by omega) (by push_cast at h1⊢;omega);unfold tlS tlI mf at this;rw[this];simp only[WN];rw[show b+1+(List.countP (λr:Y_Root=>r.1 !=0&&r.1 !=8) f:Int)=b+((List.countP (λr:Y_Root=>r.1 !=0&&r.1 !=8) f+1:Nat):Int) by push_cast;omega]
  .have vE:(r.1 !=0)=false:=by simpa [bne]using hz
   simp only[Wa,vE,pY];have:=DR f (Wj .i64 a 1) b c d (tlE e r) g (by omega);unfold tlS tlI mf at this;simpa [-jd]using this
theorem GE{N:Nat}{a:List Y_Root}(o:a.length<=1048576):∀(n j:Nat) (l:List Int),j<=a.length->a.length-j<n->l.length<=j->
  ∃c:List Int,c.length=l.length+(a.drop j).countP mf/\∀{R:Type} (K:Int->Bool->List Int->Option R),mF N a (Wh a) K n (j:Int) l=K a.length false c
 |0,j,l,_,h,_=>by omega
 |n+1,j,l,q,r,h3=>by
  by_cases b:j<a.length
  .rw[dY b,YR,show mf a[j]=(a[j].1 !=0&&a[j].1 !=8)from rfl];have p:Wx (l.length+ [(j:Int)].length)=true:=by unfold Wx;simp;omega
   by_cases k:a[j].1=0
   .obtain⟨c,d,f⟩:=GE o n (j+1) l b (by omega) (by omega);refine⟨c,by simpa [k]using d,λK=>?_⟩;have g:(a[j].1 !=0)=false:=by simp[k]
    simp only[mF,WG b,Ws b,Ww b,Wa,g,Wb,Wk (show j<4611686018427387904 by omega)];exact f K
   .have g:(a[j].1 !=0)=true:=by simp[k]
    by_cases m:a[j].1=8
    .obtain⟨c,d,f⟩:=GE o n (j+1) l b (by omega) (by omega);refine⟨c,by simpa [m]using d,λK=>?_⟩;have i:(a[j].1 !=8)=false:=by simp[m]
     simp only[mF,WG b,Ws b,Ww b,Wa,g,i,Wb,Wk (show j<4611686018427387904 by omega)];exact f K
    .have i:(a[j].1 !=8)=true:=by simp[m]
     obtain⟨c,d,f⟩:=GE o n (j+1) (l++ [(j:Int)]) b (by omega) (by simp;omega);refine⟨c,?_,λK=>?_⟩
     .rw[d,g,i];simp;omega
     .simp only[mF,WG b,Ws b,Ww b,Wa,g,i,p,Wk (show j<4611686018427387904 by omega)];exact f K
  .have e:j=a.length:=by omega
   subst e;refine⟨l,by simp,λK=>?_⟩;simp only[mF,WP (Xm a.length),Wb]
theorem Wsh{N:Nat}{w:Y_World}(c:(P5 w).length<=1048576)(d:1048576<N):∃l:List Int,l.length=(P5 w).countP mf/\CB N w=ret l:=by
 obtain⟨l,a,b⟩:=GE (N:=N) c N 0 [] (Nat.zero_le _) (by omega) (Xm _);exact⟨l,by simpa using a,b _⟩
theorem UP{N:Nat}{w:Y_World}{a b c d e b' c' d' e' f' g':Int}{R:Type}{K0:Int->Bool->Int->Option R}:∀n i v,mD N w a b c d e K0 n i v=sZ N w.2.2.1.2 (Wh w.2.2.1.2) b' c' d' e' f' g' K0 n i v
 |0,_,_=>rfl
 |n+1,i,v=>by
  unfold mD sZ;simp only[UP (N:=N) (w:=w) (a:=a) (b:=b) (c:=c) (d:=d) (e:=e) (b':=b') (c':=c') (d':=d') (e':=e') (f':=f') (g':=g') (K0:=K0) n]
theorem WtM{N:Nat}{w:Y_World}(q:w.2.2.1.2.length<=1048576)(p:1048576<N):∃v:Int,I64 v/\∀{a b c d e:Int} {R:Type} (K0:Int->Bool->Int->Option R),mD N w a b c d e K0 N 0 0=K0 w.2.2.1.2.length false v:=by
 have o:∀(l:List Kb) (v:Int),I64 v->I64 (l.foldl (λv x=>bif x.2.2 !=0 then Wj .i64 v 1 else v) v):=λl=>by
  induction l with
  |nil=>intro v h;exact h
  |cons x l ih=>
   intro v h;rw[jd];apply ih;cases x.2.2 !=0 with
   |true=>exact DS
   |false=>exact h
 refine⟨w.2.2.1.2.foldl (λv x=>bif x.2.2 !=0 then Wj .i64 v 1 else v) 0,o _ _ ⟨by decide,by decide⟩,λ{a b c d e R} K0=>?_⟩;have m:=WB (l:=w.2.2.1.2) (V:=Int) (R:=R) (lp:=λn j v=>mD N w a b c d e K0 n j v) (n:=N) (by omega)
  (body:=λj x v k=>k (bif x.2.2 !=0 then Wj .i64 v 1 else v)) (K:=λj v=>K0 j false v)
  (λn i v g=>by
   simp only[mD,WG g,Ws g,Ww g,Wk (show i<4611686018427387904 by omega),Wa];cases w.2.2.1.2[i].2.2 !=0<;>rfl)
  (λn v=>by simp only[mD,WP (Xm w.2.2.1.2.length),Wb]) 0
 refine m.trans ?_;rw[CY (f:=λv x=>bif x.2.2 !=0 then Wj .i64 v 1 else v) _ 0 _ (λj x v k _=>rfl),bX]
theorem Wrn{N:Nat}{w:Y_World}(d:(P5 w).length<=1048576)(c:1048576<N){R:Type}(K0:Int->Bool->Int->Int->Int->Int->Int->Option R):
  hV N w K0 N 0 0 0 0 0 0=(λv=>K0 (P5 w).length false v.1 v.2.1 v.2.2.1 v.2.2.2.1 v.2.2.2.2) ((P5 w).foldl tlS (0,0,0,0,0)):=by
 have b:=WB (l:=(P5 w)) (V:=Int×Int×Int×Int×Int) (R:=R) (lp:=λn j v=>hV N w K0 n j v.1 v.2.1 v.2.2.1 v.2.2.2.1 v.2.2.2.2) (n:=N) (by omega)
  (body:=λj x v k=>k (tlS v x)) (K:=λj v=>K0 j false v.1 v.2.1 v.2.2.1 v.2.2.2.1 v.2.2.2.2)
  (λn i v a=>by
   simp only[hV,Wp,WG a,Ws a,Ww a,Wk (show i<4611686018427387904 by omega),Wa,ct,ret,Xd];unfold tlS tlE;cases(P5 w)[i].1==0<;>cases(P5 w)[i].1 !=8<;>cases P7 (P5 w)[i]==1<;>cases decide (1<=(P5 w)[i].2.1)&&decide ((P5 w)[i].2.1<=400)<;>rfl)
  (λn v=>by simp only[hV,WP (Xm (P5 w).length),Wb]) (0,0,0,0,0)
 refine b.trans ?_;rw[CY (f:=tlS) _ 0 _ (λj x v k _=>rfl),bX]
theorem WqG{N:Nat}{w:Y_World}{b:Int}(e:(P5 w).length<=1048576)(d:1048576<N){R:Type}(K0:Int->Bool->Int->Int->Int->Int->Option R):
  gA N (P5 w) w b K0 N 0 0 0 0 0=(λv=>K0 (P5 w).length false v.1 v.2.1 v.2.2.1 v.2.2.2) ((P5 w).foldl tlI (0,0,0,0)):=by
 have c:=WB (l:=(P5 w)) (V:=Int×Int×Int×Int) (R:=R) (lp:=λn j v=>gA N (P5 w) w b K0 n j v.1 v.2.1 v.2.2.1 v.2.2.2) (n:=N) (by omega)
  (body:=λj x v k=>k (tlI v x)) (K:=λj v=>K0 j false v.1 v.2.1 v.2.2.1 v.2.2.2)
  (λn i v a=>by
   simp only[gA,Wp,WG a,Ws a,Ww a,Wk (show i<4611686018427387904 by omega),Wa,WK,ret,Xd];unfold tlI tlE bne;cases(P5 w)[i].1==0<;>cases(P5 w)[i].1==8<;>cases P7 (P5 w)[i]==1<;>cases decide (1<=(P5 w)[i].2.1)&&decide ((P5 w)[i].2.1<=400)<;>rfl)
  (λn v=>by simp only[gA,WP (Xm (P5 w).length),Wb]) (0,0,0,0)
 refine c.trans ?_;rw[CY (f:=tlI) _ 0 _ (λj x v k _=>rfl),bX]
theorem Wyu{r:Y_Root}{v:Int×Int×Int×Int}(h:I64 v.1/\I64 v.2.1/\I64 v.2.2.1/\I64 v.2.2.2):I64 (tlI v r).1/\I64 (tlI v r).2.1/\I64 (tlI v r).2.2.1/\I64 (tlI v r).2.2.2:=by
 have e:I64 (tlE v.2.2.2 r):=by
  unfold tlE;cases decide (1<=r.2.1)&&decide (r.2.1<=400)with
  |true=>exact DS
  |false=>exact h.2.2.2
 unfold tlI;cases r.1==0<;>cases r.1 !=8<;>cases(P7 r)==1<;>simp only[Wa,Wb]<;>exact⟨by first|exact DS|exact h.1,by first|exact DS|exact h.2.1,by first|exact DS|exact h.2.2.1,e⟩
theorem XM:∀{l:List Y_Root} {v:Int×Int×Int×Int},(I64 v.1/\I64 v.2.1/\I64 v.2.2.1/\I64 v.2.2.2)->I64 (l.foldl tlI v).1/\I64 (l.foldl tlI v).2.1/\I64 (l.foldl tlI v).2.2.1/\I64 (l.foldl tlI v).2.2.2
 | [],v,h=>h
 |r::l,v,h=>XM (l:=l) (Wyu h)
theorem WvF{N:Nat}{w:Y_World}(i:(P5 w).length<=1048576)(r:w.2.2.1.2.length<=1048576)(u:(P4 w).length<=1048576)(h:1048576<N):∃a b c d e f g,(I64 a/\I64 b/\I64 c/\I64 d/\I64 e/\I64 f/\I64 g)/\B1 N w=ret (a,b,c,d,e,f,g)/\qh N w=ret (a,b,c,d,e,f,g):=by
 obtain⟨l,p,q⟩:=Wsh i h;obtain⟨v,j,s⟩:=WtM r h;unfold B1 qh;rw[Nj,q,Wrn i h,DR _ _ _ _ _ _ (by omega) (by omega)];simp only[ret,Xd];rw[WqG i h];simp only[←UP (w:=w) (a:=0) (b:=0) (c:=0) (d:=0) (e:=0),s];have e:Wh l=(0:Int)+((P5 w).countP mf:Int):=by rw[Wh,p];omega
 rw[e];have t:(P5 w).countP mf<=(P5 w).length:=NG;obtain⟨k,m,n,o⟩:=XM (l:=P5 w) (v:=(0,0,0,0)) ⟨⟨by decide,by decide⟩,⟨by decide,by decide⟩,⟨by decide,by decide⟩,⟨by decide,by decide⟩⟩;exact⟨_,_,_,_,_,_,_,⟨k,by unfold I64;omega,m,n,o,j,by show I64 (Wh (P4 w));unfold I64 Wh;omega⟩,rfl,rfl⟩
end
section
def F3(x:Rt):Prop:=0<=x.Ct/\x.Ct<=2
section
variable{w:Wo}{x:Rt}{k j:Nat}{p:Pg}{o:Opn}{s:Sc}{a:Ac}{c:List Opn}
theorem DY(h:x.Ct=0):F3 x:=by unfold F3;omega
theorem it{c:Prop}[Decidable c]{a b:Wo×Rt}(d:F3 a.2)(e:F3 b.2):F3 (if c then a else b).2:=by split<;>assumption
theorem zj(h:F3 x):F3 (gq x):=by first|exact h|exact DY rfl
theorem RL(h:F3 x):F3 (kp x):=by
 unfold kp;split
 .exact zj h
 .exact h
theorem Uq{v:Int}(h:F3 x)(a:0<=v/\v<=2):F3 (iM w x k v).2:=by
 unfold iM;simp only;split<;>split<;>exact a
theorem Wxp(h:F3 x):F3 (mn w x o):=by
 unfold mn;split
 .exact h
 .dsimp only;generalize cS w.mem x.rv _=q;by_cases a:q.2.1=4
  .rw[Wf a];exact RL (x:={x with Co:=true,pb:=q}) h
  .rw[We a];split<;>exact h
theorem WuP(h:F3 x):F3 (q5 w x k c).2:=it (Uq h (by omega)) (it h h)
theorem WuZ(h:F3 x):F3 (iN w x k o).2:=by
 unfold iN;split
 .exact RL h
 .exact h
theorem WxL(h:F3 x):F3 (fL w x k p).2:=
 it (Uq h (by omega)) (it (Wxp h) (it (WuP h) (it h (it (WuZ h) (it h (it h (it h (it h h))))))))
theorem ir{c:Prop}[Decidable c]{a b:Wo×Rt}{r:List Rt}(d:a.1.η=r)(e:b.1.η=r):(if c then a else b).1.η=r:=by split<;>assumption
theorem Uh{v:Int}:(iM w x k v).1.η=w.η:=ir rfl rfl
theorem WvC:(iN w x k o).1.η=w.η:=by
 unfold iN;split<;>rfl
theorem WxH:(fL w x k p).1.η=w.η:=
 ir Uh (ir rfl (ir (ir Uh (ir rfl rfl)) (ir rfl (ir WvC (ir rfl (ir rfl (ir rfl (ir rfl rfl))))))))
theorem iu{c:Prop}[Decidable c]{a b:Rt}(d:F3 a)(e:F3 b):F3 (if c then a else b):=by split<;>assumption
theorem WuI(h:F3 x):F3 (zv x):=iu (zj h) (iu h h)
theorem Wwq(h:F3 x):F3 (hF w x k p).2:=
 it (zj h) (it (it h (it h (it h (DY rfl)))) (it (WxL h) (it (iu (zj h) (iu h h)) (it (it h h) (it (iu (iu (zj h) h) h) (it (it (iu (zj h) h) (WuI h)) (it (it h h) (it (it (DY rfl) h) h))))))))
def gK(w:Wo):Prop:=∀x∈w.η,F3 x
theorem Nt{q:Wo×Rt}(h:gK q.1)(b:F3 q.2):gK (Wo.put q k):=λx a=>by
 rcases NJ a with a|rfl
 .exact h x a
 .exact b
theorem Nk(h:gK w):F3 (w.η.getD k rt0):=by
 by_cases a:k<w.η.length
 .rw[WA a];exact h _ (Xy a)
 .rw[List.getD_eq_getElem?_getD,List.getElem?_eq_none (by omega)];exact DY rfl
theorem Wo7:(hF w x k p).1.η=w.η:=
 ir rfl (ir (ir rfl (ir rfl (ir rfl rfl))) (ir WxH (ir rfl (ir (ir rfl rfl) (ir rfl (ir (ir rfl rfl) (ir (ir rfl rfl) (ir (ir rfl rfl) rfl))))))))
theorem M1(h:gK w):gK (ef s w a):=by
 unfold ef;simp only;split
 .split
  .unfold Ad;exact Nt (λy b=>h y (by rw[Wo7]at b;exact b)) (Wwq (Nk h))
  split
  .split
   .unfold Nx;exact Nt h (Nk (k:=a.2.1.toNat) h)
   .exact h
  split
  .split
   .exact Nt h (Nk (k:=a.2.1.toNat) h)
   .exact h
  .exact h
 .exact h
theorem V1:∀(l:List Ac) (w:Wo),gK w->gK (l.foldl (ef s) w)
 | [],_,h=>h
 |a::l,w,h=>V1 l _ (M1 h)
theorem XI:gK (dI s):=V1 _ _ λx a=>by
 rw[NO (show x∈Xk s.2.1.length {}from a)];exact DY rfl
theorem V4:∀(d j:Nat) (w:Wo),gK w->gK (cW s k d j w)
 |0,_,_,h=>h
 |d+1,j,w,h=>V4 d (j+1) _ (M1 h)
theorem VK:∀(d i:Nat) (w:Wo),gK w->gK (ca s d i w)
 |0,_,_,h=>h
 |d+1,i,w,h=>VK d (i+1) _ (V4 _ _ _ (M1 h))
theorem Vp:∀(d:Nat) (w:Wo),gK w->gK (cz s d w).1
 |0,_,h=>h
 |d+1,w,h=>by
  unfold cz;split
  .exact h
  .exact Vp d _ (VK _ _ _ h)
theorem Uc:∀(d:Nat) (w:Wo),(cz s d w).2<=d
 |0,_=>by simp[cz]
 |d+1,w=>by
  unfold cz;split
  .simp
  .have:=Uc d (ca s s.2.1.length 0 w);simp;omega
end
end
section
variable{l:List Int}{k i v:Int}
theorem Wsw{N:Nat}(h:SlOk l)(e:1048576<N):yk N l=ret ((cK 8).map λi:Nat=>aX l (i:Int)):=by
 unfold yk;rw[CM h e];simp only[ret,Xd,Xn,Wb];have v:∀(a j n:Nat) (o:List Int),j+a=8->a<n->o=(cK j).map (λi:Nat=>aX l (i:Int))->
   tg N l (λy w g=>(some ((),(g,())))) n (j:Int) o=(some ((),((cK 8).map λi:Nat=>aX l (i:Int),())):Option (Unit×(List Int×Unit))):=by
  intro a
  induction a with
  |zero=>
   intro j n o s t c;obtain⟨n,rfl⟩:∃d,n=d+1:=⟨n-1,by omega⟩;have:j=8:=by omega
   subst this;rw[tg,show decide (((8:Nat):Int)<8)=false from rfl,Wb,c]
  |succ a ih=>
   intro j n o s t c;obtain⟨n,rfl⟩:∃d,n=d+1:=⟨n-1,by omega⟩;have p:decide ((j:Int)<8)=true:=Wc (by omega);have r:=Fc (k:=(j:Int)) h (by omega) e;have A:=lQ l (j:Int);have m:∀x:Int,Wx (o.length+ [x].length)=true:=λx=>Wn (by rw[c];simp;omega);simp only[tg,p,Wa,r,Xd,m,Wk (show j<4611686018427387904 by omega),d1];have f:∀x:Int,x=aX l (j:Int)->o++ [x]=(cK (j+1)).map (λi:Nat=>aX l (i:Int)):=λx u=>by
    rw[c,u,NT,Xx];rfl
   by_cases b:aX l (j:Int)=0
   .rw[Wf b,Wi (show¬aX l (j:Int)≠0 fromλz=>z b),Wb];exact ih (j+1) n _ (by omega) (by omega) (f 0 b.symm)
   .rw[We b,Wc (show aX l (j:Int)≠0 from b),Wa];have q:Wj .i64 (aX l (j:Int) -1) 1=aX l (j:Int):=by rw[WD (by unfold I64;omega)];omega
    rw[q];exact ih (j+1) n _ (by omega) (by omega) (f _ rfl)
 exact v 8 0 N [] (by omega) (by omega) rfl
end
end Go.Sx
