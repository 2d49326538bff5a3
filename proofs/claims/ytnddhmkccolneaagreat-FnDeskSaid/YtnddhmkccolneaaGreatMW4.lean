/- Plain laws of the Lean functions. -/
import Derived.Test.YtnddhmkccolneaaGreatMW3
open List renaming mem_cons_self→Xl,mem_cons_of_mem→Xg,pairwise_cons→Xw,drop_length→fo,append→Xe,append_eq→cZ,drop_eq_getElem_cons→d4,getD→Xc,drop_zero→oe,nil_append→dn,getElem_mem→Xt,map_cons→bn,countP_le_length→AY,set_getElem_self→jT,length_map→Xu,set→Xf,replicate→Xp,take_length→kQ,take_succ_eq_append_getElem→qh,map_append→Xy,map_replicate→OY,mem_map→Xx,length_set→cY,getElem_of_mem→md,length→Xa,getElem_map→qn,foldl_nil→O6,foldl_cons→jS,eq_of_mem_replicate→OZ,mem_or_eq_of_mem_set→OU,getElem_set_self→Xha,length_cons→Xs,mem_iff_getElem→EU,all_cons→d6,range→cK,mem_cons→Xq,countP_append→A3,length_take→ca,length_replicate→A4,range_succ→O4,filter_append→qk,length_filter_le→A0,filter_cons→eH,filter_nil→Ig,map_nil→eL,append_nil→iN,getElem_append_right→Xgi,countP_cons→Xhs
open Nat renaming le_refl→Xj,add_zero→c9,zero_add→cb
open Int renaming toNat→Xb,toNat_natCast→Xk
open Bool renaming not_true→Xn,not_false→fx,and_self→c6,and_eq_false_iff→qi,false_eq_true→dL,true_and→eI,false_and→qq
open Option renaming bind_some→Xd
namespace Go.Sx
set_option linter.unusedVariables false
set_option linter.unusedSimpArgs false
section
variable{N:Nat}{m:Mm}{f g:Fm}{x y:Kd}{k:Nat}{n:Int}{μ:List Opn}{codes:List (List Opn)}{e:En}
def goP(e:En):List En->Bool->List En->Bool×List En
 | [],d,o=>(d,o)
 |z::l,d,o=>if d=true then goP e l true (if z.1=e.1 then o else o++ [z])else
  if z.1>=e.1 then goP e l true (if z.1=e.1 then o++ [e]else o++ [e]++ [z])else goP e l false (o++ [z])
theorem HU{z}{l o}:goP e (z::l) false o=if z.1>=e.1 then goP e l true (if z.1=e.1 then o++ [e]else o++ [e]++ [z])else goP e l false (o++ [z]):=by
 exact We (λh=>by cases h)
theorem Vq:∀(l) (o),(∀z∈l,z.1≠e.1)->goP e l true o=(true,o++l)
 | [],o,_=>by simp[goP]
 |z::l,o,h=>by
  rw[goP,Wf rfl,We (h z (Xl ..)),Vq l _ λy a=>h y (Xg _ a)];simp
theorem Yc:∀(l:List En) (o),Ris cfE l->(if(goP e l false o).1=true then(goP e l false o).2 else(goP e l false o).2++ [e])=o++ch cfE l e
 | [],o,_=>by simp[goP,ch]
 |z::l,o,h=>by
  have d:=Xw.1 h;have f:=λy a=>by have:=d.1 y a;unfold cfE at this;omega
  rw[HU,ch];by_cases b:z.1>=e.1
  .rw[Wf b,Vq l _ (λy a=>by have:=f y a;omega)];rw[Wf rfl,We (show¬cfE z e<0 by unfold cfE;omega)];by_cases c:z.1=e.1
   .rw[Wf c,We (show¬cfE e z<0 by unfold cfE;omega)];simp
   .rw[We c,Wf (show cfE e z<0 by unfold cfE;omega)];simp
  .rw[We b,Yc l _ d.2,Wf (show cfE z e<0 by unfold cfE;omega)];simp
theorem WqZ{R}{l:List En}{K0:Bool->Int->Bool->List En->Option R}(v:l.length<=1000):∀(f j n) (d) (o:List En),j+f=l.length->f<n->o.length<=j+d.toNat->
  hV N l e K0 n d (j:Int) o=K0 (goP e (l.drop j) d o).1 (l.length:Int) false (goP e (l.drop j) d o).2:=by
 intro f
 induction f with
 |zero=>
  intro j n d o s t k;obtain⟨n,rfl⟩:∃q,n=q+1:=⟨n-1,by omega⟩;have:j=l.length:=by omega
  subst this;simp[hV,WN (Xj _),Wb,fo,goP]
 |succ f ih=>
  intro j n d o s t k;obtain⟨n,rfl⟩:∃q,n=q+1:=⟨n-1,by omega⟩;have b:j<l.length:=by omega
  have r:d.toNat<=1:=by cases d<;>simp
  have p:∀z:En,Wx (o.length+ [z].length)=true:=λz=>Wp (by simp;omega);have u:∀z:En,Wx ((Xe o [e]).length+ [z].length)=true:=λz=>Wp (by simp[cZ];omega);have c:(l[j].1 !=e.1)=decide (l[j].1≠e.1):=by by_cases z:l[j].1=e.1<;>simp[z]
  have h:∀z:Bool,goP e (l.drop j) z o=goP e (l[j]::l.drop (j+1)) z o:=λz=>by rw[←d4 b]
  have i:Xc l (Xb (j:Int)) ((0:Int),((0:Int),(0:Int)))=l[j]:=Wu b _;by_cases a:l[j].1=e.1
  .have e1:decide (l[j].1≠e.1)=false:=Wg (λz=>z a);have g:decide (l[j].1>=e.1)=true:=Wc (by omega);cases d with
   |true=>
    simp only[hV,WF b,Wq b,i,Wa,c,e1,Wb,Xn,Wl (show j<4611686018427387904 by omega)];rw[ih (j+1) n true o (by omega) (by omega) (by omega),h true,goP,Wf rfl,Wf a]
   |false=>
    simp only[hV,WF b,Wq b,i,Wa,c,e1,g,Wb,fx,p,Wl (show j<4611686018427387904 by omega),cZ];rw[ih (j+1) n true _ (by omega) (by omega) (by simp at k⊢;omega),h false,HU,Wf (by omega),Wf a]
  .have e1:=Wc a;cases d with
   |true=>
    simp only[hV,WF b,Wq b,i,Wa,c,e1,Wb,Xn,p,Wl (show j<4611686018427387904 by omega),cZ];rw[ih (j+1) n true _ (by omega) (by omega) (by simp at k⊢;omega),h true,goP,Wf rfl,We a]
   |false=>
    by_cases m:l[j].1>=e.1
    .have g:decide (l[j].1>=e.1)=true:=Wc m;simp only[hV,WF b,Wq b,i,Wa,c,e1,g,Wb,fx,p,u,Wl (show j<4611686018427387904 by omega)];simp only[cZ];rw[ih (j+1) n true _ (by omega) (by omega) (by simp at k⊢;omega),h false,HU,Wf m,We a]
    .have g:decide (l[j].1>=e.1)=false:=Wg m;simp only[hV,WF b,Wq b,i,Wa,c,e1,g,Wb,fx,p,Wl (show j<4611686018427387904 by omega),cZ];rw[ih (j+1) n false _ (by omega) (by omega) (by simp at k⊢;omega),h false,HU,We m]
theorem WoA{l:List En}(h:Ris cfE l)(b:l.length<=1000)(f:1048576<N):CA N l e=ret (ch cfE l e):=by
 unfold CA;rw[show(0:Int)=((0:Nat):Int)from rfl,WqZ b l.length 0 N false [] (by omega) (by omega) (by simp)];have a:=Yc (e:=e) l [] h;rw[oe];have c:(goP e l false []).2.length<=2000:=by
  have:∀(l:List En) (d:Bool) (o:List En),(goP e l d o).2.length<=o.length+2*l.length:=by
   intro l
   induction l with
   |nil=>simp[goP]
   |cons z l ih=>
    intro d o;rw[goP];split
    .split
     .have:=ih true o;simp;omega
     .have:=ih true (o++ [z]);simp at this⊢;omega
    .split
     .split
      .have:=ih true (o++ [e]);simp at this⊢;omega
      .have:=ih true (o++ [e]++ [z]);simp at this⊢;omega
     .have:=ih false (o++ [z]);simp at this⊢;omega
  have:=this l false [];simp at this;omega
 cases hd:(goP e l false []).1 with
 |true=>
  rw[hd,Wf rfl,dn]at a;rw[a];rfl
 |false=>
  rw[hd,We (by simp),dn]at a;rw[Wp (by simp;omega)];simp only[fx,Wa,cZ,a]
theorem Wrl{R:Type}{ε:List Rw}{c g h i:Int}{k:Bool}{l:List Int}{m:List Rw}{o:List Int}{p:List Rw}{q:Y_KidRun}{r:List Y_KidRun}{K0:Int->Bool->List En->Option R}(y:ε.length<=8)(t:1048576<N):∀(a j n:Nat) (b:List En),j+a=ε.length->a<n->Ris cfE b->b.length<=100+j->
  xe N g h c i k l m o p q ε r K0 n (j:Int) b=K0 (ε.length:Int) false (rI c b (ε.drop j)):=by
 intro a
 induction a with
 |zero=>
  intro j n b u v e w;obtain⟨n,rfl⟩:∃f,n=f+1:=⟨n-1,by omega⟩;have:j=ε.length:=by omega
  subst this;simp only[xe,WN (Xj _),Wb,fo];rfl
 |succ a ih=>
  intro j n b u v e w;obtain⟨n,rfl⟩:∃f,n=f+1:=⟨n-1,by omega⟩;have d:j<ε.length:=by omega
  have s:Xc ε (Xb (j:Int)) ((0:Int),(0:Int))=ε[j]:=Wu d _;simp only[xe,WF d,Wq d,s,Wa];rw[WoA e (by omega) t];simp only[ret,Xd,Wl (show j<4611686018427387904 by omega)];have x:=Uh (cf:=cfE) b ((ε[j].1,(ε[j].2,c)):En);rw[ih (j+1) n _ (by omega) (by omega) (o9 ss e) (by omega),d4 d];rfl
theorem WoT{R:Type}{z:Kd}{g h i k:Int}{l:Bool}{m:List Int}{p:List Rw}{q:List En}{r:List Int}{s:List Y_KidRun}{K0:Int->Bool->List Rw->Option R}(C:z.δ.length<=100)(A:∀e∈z.δ,-1<=e.2.2):∀(b j n:Nat) (o:List Rw),j+b=z.δ.length->b<n->o.length<=1000+j->
  td N g h i k l m p q r z.e s K0 n (j:Int) o=K0 (z.δ.length:Int) false (o++fZ (z.δ.drop j)):=by
 have d:P7 z.e=z.δ:=rfl;intro b
 induction b with
 |zero=>
  intro j n o v w y;obtain⟨n,rfl⟩:∃c,n=c+1:=⟨n-1,by omega⟩;have:j=z.δ.length:=by omega
  subst this;simp only[td,d,WN (Xj _),Wb,fo];simp[fZ]
 |succ b ih=>
  intro j n o v w y;obtain⟨n,rfl⟩:∃c,n=c+1:=⟨n-1,by omega⟩;have a:j<z.δ.length:=by omega
  have u:Xc z.δ (Xb (j:Int)) ((0:Int),((0:Int),(0:Int)))=z.δ[j]:=Wu a _;have B:=A _ (Xt a);have t:∀x:Rw,Wx (o.length+ [x].length)=true:=λx=>Wp (by simp;omega);simp only[td,Wk,d,WF a,Wq a,u,Wa,t,Wl (show j<4611686018427387904 by omega),cZ];rw[d4 a];by_cases f:z.δ[j].2.2= -1
  .rw[Wc (show z.δ[j].2.2<0 by omega),Wa,ih (j+1) n _ (by omega) (by omega) (by simp;omega)];unfold fZ;rw[List.filter_cons_of_pos (by simpa using f),bn,List.append_assoc];rfl
  .rw[Wg (show¬z.δ[j].2.2<0 by omega),Wb,ih (j+1) n _ (by omega) (by omega) (by omega)];unfold fZ;rw[List.filter_cons_of_neg (by simpa using f)]
theorem WlG(hk)(v:f.π.length<=3)(A:μ.length<=24)(a:FOk codes n f)(h:codes.getD k []=μ)(g:f.π[k]=x)(d:1048576<N):
  Bx N f.e x.e (k:Int)=some ((),((sf f x k).1.e,((sf f x k).2.e,()))):=by
 have b:=a.kid k hk;rw[h,g]at b;have t:=b.pc;have z:=b.wl;have w:=b.sl;have s:=a.buf8;have y:f.EK.length<=3:=by
  have u:=a.done;have:=AY (p:=λx:Kd=>decide (x.ζ=3)) (l:=f.π);omega
 have B:=a.readsL;unfold Bx;have j:P8 x.e=x.ι:=rfl;rw[j,Gq (by omega) d];simp only[ret,Xd];have i:Wj .i64 f.e.2.1 1=f.γ+1:=aw (by have:=a.γ;show 0<=f.γ/\f.γ<=1000000;omega);have c:P6 f.e=f.buf:=rfl;have r:=po x.ι;rw[i,c,show(0:Int)=((0:Nat):Int)from rfl];rw[Wrl (ε:=aA x.ι) r d (aA x.ι).length 0 N _ (by omega) (by omega) a.bufR (by omega)];have o:P8 f.e=f.κ:=rfl;have m:P7 f.e=f.EK:=rfl;rw[o,m,Wp (by simp;omega)];simp only[Wa,oe,cZ,dn];rw[WoT (by omega) (λe q=>(b.δ e q).2.2.1) x.δ.length 0 N _ (by omega) (by omega) (by omega)];rw[gZ (by omega)];simp only[ret,Xd,oe];rw[Wp (by simp;omega)];rfl
theorem Wl3(c:k<f.π.length)(K:f.π.length<=3)(L:W6 m=true)(u:KC μ)(b:FOk codes n f)(i:codes.getD k []=μ)(s9:codes.length<=3)(M:n<=100000)(w:1048576<N):
  Be N m f.e codes (k:Int)=some ((m,()),((jz m f k μ).e,())):=by
 obtain⟨x,a⟩:∃x,f.π[k]=x:=⟨_,rfl⟩;have h:=b.kid k c;rw[i,a]at h;have Z:=b.len;obtain⟨P,k1,k2,k3,R,k5,k6,S,k8,k9,Q⟩:=kdP x;obtain⟨f0,f1,f2,I,f4,f5,f6,f7,f8,J⟩:=fmP f;unfold Be jz;rw[I];by_cases y:f.EP=true
 .rw[y,Wf rfl];rfl
 have V:f.EP=false:=by simpa using y
 rw[V,Wb,We (by simp),show f.π.getD k {}=f.π[k]from WB c _,a];have j:Fm.put (f,x) k=f:=by unfold Fm.put;simp only;rw[←a,jT]
 have C:inb (k:Int) (f.π.map Kd.e).length=true:=by rw[WH,Xu];exact Wc c
 have D:inb (k:Int) codes.length=true:=by rw[WH];exact Wc (by omega)
 have F:Xc (f.π.map Kd.e) (Xb (k:Int)) d_KidRun=x.e:=by
  have:=UE Kd.e f.π k {};rw[WB c,a]at this;exact this
 have v:U9 (f.π.map Kd.e) f.e=f.e:=rfl;have G:Xc codes (Xb (k:Int)) ([]:List Opn)=μ:=by rw[Xk];exact i
 have W:decide ((k:Int)<0)=false:=Wg (by omega);have T:decide ((k:Int)>=Wi (f.π.map Kd.e))=false:=Wg (by unfold Wi;rw[Xu];omega);have fin:∀q:Fm×Kd,q.1.π=f.π->U9 (Xf (Q9 q.1.e) (Xb (k:Int)) q.2.e) q.1.e=(Fm.put q k).e:=λq A=>by
  rw[Xk];exact U9e q.1 k q.2
 have t:∀q:Fm,q.π=f.π->inb (k:Int) (Q9 q.e).length=true:=λq A=>by
  show inb (k:Int) (q.π.map Kd.e).length=true;rw[A];exact C
 have E:Wx (([]:List Y_KidRun).length+(f.π.map Kd.e).length)=true:=Wp (by simp;omega);simp only[Wk,gI,J,W,T,Wb,E,Wa,cZ,dn,C,F,P,Wv];unfold n5;by_cases d:x.ζ=0
 .rw[Wf d,Wf d];simp only[D,Wa,v,G];rw[WoB c L u b i a d M w];have B:(iL m f x μ).1.π=f.π:=by
   unfold iL;split
   .rfl
   .simp only;split
    .exact Ts m f x _
    .repeat' split
     all_goals rfl
  simp only[Xd,t _ B,Wa,fin _ B]
 rw[We d,We d];by_cases l:x.ζ=1
 .rw[Wf l,Wf l];by_cases p:f.EG=0
  .rw[Wf (show f.e.2.2.1=0 from p),Wf p];rw[show Wj .i64 (k:Int) 1=(k:Int)+1 from aw (by omega)];exact Ws (λz=>some ((m,()),(z,()))) (fin ({f with EG:=(k:Int)+1},{x with ζ:=2}) rfl)
  .rw[We (show¬f.e.2.2.1=0 from p),We p,j];have:=fin (f,x) rfl;rw[j]at this;exact Ws (λz=>some ((m,()),(z,()))) this
 rw[We l,We l];by_cases o:x.ζ=2
 .rw[Wf o,Wf o];simp only[R,S];by_cases s:x.pos=x.δ.length
  .rw[Wf (show x.pos=Wi x.δ by unfold Wi;exact s),Wf s,v,WlG c K u.toCC.len b i a w];simp only[Xd,t (sf f x k).1 rfl,Wa,fin (sf f x k) rfl]
  .rw[We (show¬x.pos=Wi x.δ by unfold Wi;exact s),We s];have iG:=h.pos;have X:inb x.pos x.δ.length=true:=by unfold inb;simp;omega
   have g:P6 f.e=f.buf:=rfl;have Y:=b.buf8;simp only[X,Wa,v];rw[SZ (show(P6 f.e).length<=1048576 by rw[g];omega) w,g];have H:Xc x.δ (Xb x.pos) ((0:Int),((0:Int),(0:Int)))=al x.δ x.pos (0,0,0):=rfl;rw[H];have U:E4 N (U9 (f.π.map Kd.e) (S2 (0:Int) f.e)) x.e=some ((Fm.e {f with EG:=0},()),((f.again x).e,())):=
    Sg (f:=Fm.e {f with EG:=0}) (x:=x.e) b.ξ.len (by have:=h.χ;show 0<=x.χ/\x.χ<=100000;omega)
   have O:Wj .i64 x.pos 1=x.pos+1:=aw (by have:=h.sl;have:=h.pc;have:=u.toCC.len;omega);unfold OL;rcases he:ent f.buf (al x.δ x.pos (0,0,0)).1 with _|r
   all_goals
    simp only[ret,Xd,U,Wv,O]
   .by_cases hz:(-1:Int)=(al x.δ x.pos (0,0,0)).2.2
    .rw[Wf hz,Wf hz];exact Ws (λz=>some ((m,()),(z,()))) (fin (f,{x with pos:=x.pos+1}) rfl)
    .rw[We hz,We hz,t {f with EG:=0} rfl,Wa];have:=fin ({f with EG:=0},f.again x) rfl;rw[←this];show _=some ((m,()),((f.rv,(f.γ,((0:Int),(f.EP,(f.ξ,(f.start,(f.buf,(f.EK,(f.κ,Xf (f.π.map Kd.e) (Xb (k:Int)) (f.again x).e))))))))),()));rfl
   .by_cases hz:r.2.2.2=(al x.δ x.pos (0,0,0)).2.2
    .rw[Wf hz,Wf hz];exact Ws (λz=>some ((m,()),(z,()))) (fin (f,{x with pos:=x.pos+1}) rfl)
    .rw[We hz,We hz,t {f with EG:=0} rfl,Wa];have:=fin ({f with EG:=0},f.again x) rfl;rw[←this];show _=some ((m,()),((f.rv,(f.γ,((0:Int),(f.EP,(f.ξ,(f.start,(f.buf,(f.EK,(f.κ,Xf (f.π.map Kd.e) (Xb (k:Int)) (f.again x).e))))))))),()));rfl
 .rw[We o,We o,j];have:=fin (f,x) rfl;rw[j]at this;exact Ws (λz=>some ((m,()),(z,()))) this
end
section
abbrev FSc:=List Int×List Int×List Rw×List (List Opn)×List Int
variable{N:Nat}{s:FSc}{m:Mm}{f:Fm}{n:Int}
theorem Wov{rv}{ξ}{ι:List Rw}{π:Nat}(z:ξ.length<=1000)(A:ι.length<=1000)(w:π<=3)(u:1048576<N):
  Cz N rv ξ ι (π:Int)=ret (iq rv ξ ι π).e:=by
 unfold Cz;rw[gZ (by omega),Gq (by omega) u];have y:=po ι;generalize f:aA ι=nw at*;have v:∀(b:List En) (a j n:Nat) (o:List Y_KidRun),j+a=π->a<n->o=Xp j (Kd.e {ξ:=ξ})->
   qH N ξ (π:Int) rv ξ nw b (λp m g=>(some ((),((rv,((0:Int),((0:Int),(false,(ξ,(nw,(b,(([]:List Int),(([]:List Kc),g))))))))),())))) n (j:Int) o=
   some ((),((rv,((0:Int),((0:Int),(false,(ξ,(nw,(b,(([]:List Int),(([]:List Kc),Xp π (Kd.e {ξ:=ξ})))))))))),())):=by
  intro b a
  induction a with
  |zero=>
   intro j n o i k c;obtain⟨n,rfl⟩:∃d,n=d+1:=⟨n-1,by omega⟩;have:j=π:=by omega
   subst this;rw[qH,Wg (show¬(j:Int)<(j:Int) by omega),Wb,c]
  |succ a ih=>
   intro j n o i k c;obtain⟨n,rfl⟩:∃d,n=d+1:=⟨n-1,by omega⟩;rw[qH,Wc (by omega),Wa,gZ (by omega)];simp only[ret,Xd];rw[Wp (by rw[c];simp;omega),Wa,Wl (by omega),cZ];refine ih (j+1) n _ (by omega) (by omega) ?_;rw[c,List.replicate_succ'];rfl
 have q:∀(a j n:Nat) (o:List En),j+a=nw.length->a<n->o=(nw.take j).map (λr=>((r.1,r.2,0):En))->
   yg N ξ (π:Int) rv nw ξ nw (λC B l=>
  (qH N ξ (π:Int) rv ξ nw l
 (λp m g=>
  (some ((),((rv,((0:Int),((0:Int),(false,(ξ,(nw,(l,(([]:List Int),(([]:List Kc),g))))))))),()))))
 N (0:Int) ([]:List Y_KidRun))) n (j:Int) o=
   (qH N ξ (π:Int) rv ξ nw (nw.map (λr=>((r.1,r.2,0):En)))
 (λp m g=>
  (some ((),((rv,((0:Int),((0:Int),(false,(ξ,(nw,(nw.map (λr=>((r.1,r.2,0):En)),(([]:List Int),(([]:List Kc),g))))))))),()))))
 N (0:Int) ([]:List Y_KidRun)):=by
  intro a
  induction a with
  |zero=>
   intro j n o i k c;obtain⟨n,rfl⟩:∃d,n=d+1:=⟨n-1,by omega⟩;have:j=nw.length:=by omega
   subst this;simp only[yg,WN (Xj _),Wb];rw[c,kQ]
  |succ a ih=>
   intro j n o i k c;obtain⟨n,rfl⟩:∃d,n=d+1:=⟨n-1,by omega⟩;have h:j<nw.length:=by omega
   have t:Xc nw (Xb (j:Int)) ((0:Int),(0:Int))=nw[j]:=Wu h _;have s:∀x:En,Wx (o.length+ [x].length)=true:=λx=>Wp (by rw[c];simp;omega);simp only[yg,WF h,Wq h,t,Wa,s,Wl (show j<4611686018427387904 by omega),cZ];refine ih (j+1) n _ (by omega) (by omega) ?_;rw[c,qh h,Xy];rfl
 refine(q nw.length 0 N [] (by omega) (by omega) (by simp)).trans ?_;have:=v (nw.map (λr=>((r.1,r.2,0):En))) π 0 N [] (by omega) (by omega) rfl;refine this.trans ?_;unfold iq Fm.e;simp[f,OY]
end
section
variable{N:Nat}{w:Wo}{x:Rt}{k:Nat}{p:Pg}{n:Int}{o:Opn}{f:Fm}
theorem WvH(c:f.π.length<=3)(g:1048576<N):Cv N f.e=ret (lx f):=by
 unfold Cv;have m:(f.π.map Kd.e).length=f.π.length:=by simp
 have b:f.e.2.2.2.2.2.2.2.2.2=f.π.map Kd.e:=rfl;have d:=WC (l:=f.π.map Kd.e) (V:=Unit) (R:=Unit×Ke) (lp:=λn j v=>xZ N f.e (some ((),(false,()))) (λo q=>some ((),(true,()))) n j) (n:=N) (by omega)
  (body:=λj x v k=>bif x.1 !=(3:Int)then some ((),(false,()))else k v) (K:=λ_ v=>some ((),(true,())))
  (λn i v a=>by simp only[xZ,b,WF a,Wq a,Wu a,Wl (show i<4611686018427387904 by omega),Wa])
  (λn v=>by simp only[xZ,b,WN (Xj _),Wb]) ()
 refine d.trans ?_;rw[fG (p:=λx:Y_KidRun=>x.1 !=(3:Int)) (E:=λ_=>some ((),(false,()))) _ 0 () (λj x v k _=>rfl)];have c:(f.π.map Kd.e).any (λx=>x.1 !=3)= !lx f:=by
  unfold lx;rw[List.any_map,←gW];have:((λx:Y_KidRun=>x.1 !=3)∘Kd.e)= λx:Kd=>!decide (x.ζ=3):=by
   funext x;show(x.ζ !=3)= !decide (x.ζ=3);by_cases h:x.ζ=3<;>simp[h]
  rw[this]
 rw[c];cases lx f<;>rfl
theorem WvV(h:f.buf.length<=1000)(d:1048576<N):FI N f.e=ret (z7 f):=by
 have e:P6 f.e=f.buf:=rfl;have c:=WC (l:=f.buf) (V:=List Rw) (R:=Unit×(List Rw×Unit)) (lp:=λn j v=>x3 N f.e (λg m b=>(some ((),(b,())))) n j v) (n:=N) (by omega)
  (body:=λj x v k=>bif Wx (v.length+ [(x.1,x.2.1)].length)then k (Xe v [(x.1,x.2.1)])else none) (K:=λ_ v=>ret v)
  (λn i v a=>by simp only[x3,Wk,e,WF a,Wq a,Wu a,Wl (show i<4611686018427387904 by omega),Wa])
  (λn v=>by simp[x3,e,WN (Xj f.buf.length),Wb]) []
 refine c.trans ?_;rw[vg (f:=λx:En=>(x.1,x.2.1)) f.buf 0 [] (by simp;omega) (λj x v k _=>rfl)];rfl
theorem WuN(p:Vals 4 f.ξ)(u:f.π.length<=3)(z:∀x∈f.π,x.ξ.length<=1000)(o:1048576<N):Cw N f.e=ret (vD f):=by
 unfold Cw vD;have e:f.e.2.2.2.2.1=f.ξ:=rfl;have t:f.e.2.2.2.2.2.2.2.2.2=f.π.map Kd.e:=rfl;have g:Q9 f.e=f.π.map Kd.e:=rfl;have b:=nP.2 p;have F:=p.len;have G:(f.π.map Kd.e).length=f.π.length:=by simp
 rw[e,t,Gh (by omega) o,Wf ⟨b,u⟩];simp only[ret,Xd,b,Xn,Wb];rw[Wg (by unfold Wi;omega),gZ (by omega)];have a:=WC (l:=f.π.map Kd.e) (V:=List Int) (R:=Unit×(List Int×Unit)) (lp:=λn j v=>qP N f.e (λE D s=>(some ((),(s,())))) n j v) (n:=N) (by omega)
  (body:=λj x v k=>bif inb j v.length then(bif P5 x==(1:Int)then((nF N (P6 x)).bind λc=>(bif c.2.1 then(bif inb 0 (P6 x).length then(bif inb j (Xf v j.toNat 0).length then k (Xf (Xf v j.toNat 0) j.toNat (Xc (P6 x) (Xb (0:Int)) 0))else none)else none)else k (Xf v j.toNat 0)))else k (Xf v j.toNat 0))else none) (K:=λ_ v=>ret v)
  (λn i v d=>by simp only[qP,Wk,g,WF d,Wq d,Wu d,Wl (show i<4611686018427387904 by omega),Wa])
  (λn v=>by simp only[qP,g,WN (Xj _),Wb]) f.ξ
 refine a.trans ?_;have m:=Mf (β:=Int) (K:=λ_ v=>ret v) (f:=λx:Y_KidRun=>if P5 x=1/\lK (P6 x)=true then al (P6 x) 0 0 else 0) (f.π.map Kd.e) [] f.ξ (by omega) (body:=λj x v k=>bif inb j v.length then(bif P5 x==(1:Int)then((nF N (P6 x)).bind λc=>(bif c.2.1 then(bif inb 0 (P6 x).length then(bif inb j (Xf v j.toNat 0).length then k (Xf (Xf v j.toNat 0) j.toNat (Xc (P6 x) (Xb (0:Int)) 0))else none)else none)else k (Xf v j.toNat 0)))else k (Xf v j.toNat 0))else none)
  (λj x v k q w=>by
   obtain⟨y,A,rfl⟩:=Xx.1 q;have C:=z y A;have r:P5 (Kd.e y)=y.out:=rfl;have B:P6 (Kd.e y)=y.ξ:=rfl;simp only[r,B,WH,Wc w,Wa,Gh (show y.ξ.length<=1048576 by omega) o,ret,Xd,Wv,Xk,cY];by_cases a:y.out=1
   .rw[Wf a];cases b:lK y.ξ
    .rw[We (by simp)];rfl
    .have:=(nP.1 b).len;rw[Wf ⟨a,rfl⟩,show inb (0:Int) y.ξ.length=true by rw[this];rfl];simp only[Wa,List.set_set];rfl
   .rw[We a,We (λh=>a h.1)])
 simp only[List.length_nil,dn,Xu,List.map_map]at m;exact m
theorem Wu8(d:POk p)(f:RLive p n x)(q:x.ζ=2)(c:1048576<N):K5 N x.e=ret (kB x).e:=by
 obtain⟨I,J,K,s,L,M,O,P,Q,G,A,j,B,C,D,E,F,z,o,k,l,m⟩:=rtP x;have g:=d.μ;obtain⟨S,T,U,V,W,X⟩:=f.sz g;obtain⟨v,w,a⟩:=f.fork q;have t:=f.pc;have u:=g.len;have h:x.fam.π.length<=3:=by have:=a.len;have:=d.k3;omega
 have H:=a.len3 d.k3;have R:=a.readsL;unfold K5 kB;simp only[s,j,o,k,l,m,DA,ret,Xd];rw[WvH h c,WuN a.ξ h (λy r=>by
  obtain⟨i,hi,rfl⟩:=md r;rw[(a.kid i hi).ξ.len];omega) c,WvV (by have:=a.buf8;omega) c,Wp (by simp;omega),Wp (by simp;omega),gZ (by omega),aw (by omega),rL]
 by_cases b:x.fam.EP=true
 .rw[Wf b,Wf b]
 .rw[We b,We b];simp only[ret,Xd,Wa];cases ho:lx x.fam
  .rfl
  .rfl
theorem Wrz(h:CC p.1)(g:RLive p n x)(o:x.ζ=3)(t:∀u∈x.υ,UnV u)(s:ShOk w.ο)(r:1048576<N):IX N w.e x.e=some ((),((ij w x).1.e,((ij w x).2.e,()))):=by
 obtain⟨Y,Z,r2,r3,r4,r5,r6,r7,r8,Q,G,I,J,k,l,K,L,F,R,M,O,P⟩:=rtP x;obtain⟨z1,z2,z3,z4,z5,z6⟩:=g.sz h;have i:=g.back (.inl o);obtain⟨m,q,v,y,⟨H,S⟩,z,A,B,C,D,E,T,U,W,X,V⟩:=g.mk24 h i;obtain⟨a,b,c,d⟩:=nK i (by omega) zRM;have j:Xc x.θ (Xb (Wz .i64 (Wi x.θ) 1)) ((0:Int),((0:Int),((0:Int),((0:Int),([]:List Int)))))=x.last:=b;unfold IX ij;rw[k,l,a,j];simp only[Wa,W0];by_cases f:Wi x.υ>x.last.2.2.2.1
 .rw[Wf f,Wf (show(x.υ.length:Int)>x.last.2.2.2.1 from f),M3 (by unfold Wi at f;omega) (by omega) t s r];rfl
 .rw[We f,We (show¬(x.υ.length:Int)>x.last.2.2.2.1 from f)];rfl
theorem Wrt(B:POk p)(f:RLive p n x)(i:x.ζ=4)(A:W6 w.mem=true):
  Is N w.e x.e=some ((w.e,()),((ja w x).e,())):=by
 obtain⟨r0,r1,r2,r3,D,E,F,r7,r8,Z,R,u,v,y,T,U,V,Q,gl,W,X,Y⟩:=rtP x;have h:=B.μ;obtain⟨z1,z2,z3,z4,z5,z6⟩:=f.sz h;have k:=f.back (.inr i);obtain⟨m,q,I,J,⟨S,jD⟩,K,L,M,O,P,t,lC,mJ,oJ,oK,mi⟩:=f.mk24 h k;obtain⟨a,b,c,d⟩:=nK k (by omega) zRM;have l:Xc x.θ (Xb (Wz .i64 (Wi x.θ) 1)) ((0:Int),((0:Int),((0:Int),((0:Int),([]:List Int)))))=x.last:=b;have G:=f.pos i;have H:=h.len;unfold Is ja;simp only[Wk];rw[y,a,l];simp only[Wa,ret,Xd,D,E,F,u,v,W0,DA,show w.e.2.2.1.2=w.mem.2 from rfl];by_cases g:x.pos<x.last.2.1
 .rw[Wf g,Wf g];have j:x.pos.toNat<x.κ.length:=by omega
  have s:inb x.pos x.κ.length=true:=by unfold inb;simp;omega
  have z:Xc x.κ (Xb x.pos) ((0:Int),(0:Int))=al x.κ x.pos (0,0):=rfl;have C:0<=(al x.κ x.pos (0,0)).1/\(al x.κ x.pos (0,0)).1<=7:=by
   unfold al;rw[WB j];exact(f.κ _ (Xt j)).1
  rw[s,z,kb A C,show Xc w.mem.2 (Xb (al x.κ x.pos (0,0)).1) ((0:Int),((0:Int),(0:Int)))=aF w.mem (al x.κ x.pos (0,0)).1 from rfl,aw (by omega)];simp only[Wa,eZ];by_cases a:(aF w.mem (al x.κ x.pos (0,0)).1).2.2=0
  .rw[Wf a];by_cases b:(aF w.mem (al x.κ x.pos (0,0)).1).2.1>x.rv
   .rw[Wf b,Wf (.inr b)]
   .rw[We b,We (by omega)];rfl
  .rw[We a,Wf (.inl a)]
 .rw[We g,We g];have o:(decide ((0:Int)<=x.last.2.1)&&decide (x.last.2.1<=(x.κ.length:Int)))=true:=by simp;omega
  have r:(decide ((0:Int)<=x.last.2.2.1)&&decide (x.last.2.2.1<=(x.ι.length:Int)))=true:=by simp;omega
  rw[o,r,Wp (by simp;omega),Wp (by simp;omega),gZ (by rw[t.len];omega),aw (by omega)];simp only[Wa,ret,Xd];rfl
theorem WrL(L:k<=8)(m:CmOk x.cm)(o:W6 w.mem=true)(K:w.EF.length<=500000)(n:1048576<N):
  IY N w.e x.e (k:Int)=some ((),((gM w x k).1.e,((gM w x k).2.e,()))):=by
 obtain⟨M,O,P,Q,R,S,T,v,U,r,y,A,B,C,D,E,F,q,J,G,H,I⟩:=rtP x;have l:=MN m o;unfold IY gM;simp only[Wk];rw[aw (by omega)];simp only[v,r,q,show w.e.2.2.1=w.mem from rfl,show Q6 w.e=w.EF from rfl];rw[rL];by_cases j:x.EJ=true
 .rw[Wf j,Wf j];obtain⟨b,t⟩:=WnO (N:=N) m n;rw[t];simp only[Xd,Wv,show(gK x.cm).e.2.2.1=(gK x.cm).ζ from rfl];by_cases c:(gK x.cm).ζ=8
  .simp only[Wf c];rfl
  .simp only[We c];rfl
 .rw[We j,We j,WoC m o n];simp only[Xd];obtain⟨p,a,u⟩:∃p a,ko w.mem x.cm=(p,a):=⟨_,_,rfl⟩;rw[u]at l⊢;simp only at l⊢;have s:S20 a.e x.e=Rt.e {x with cm:=a}:=rfl;have z:=l.1.plen;rw[s,DA,Wp (show([]:List Rw).length+(P5 a.e).length<=_ by show 0+a.ψ.length<=1073741824;omega),Wp (by simp;omega)];simp only[ret,Xd,Wa,Wv,W0,show a.e.2.2.1=a.ζ from rfl,show(Cm.e x.cm).2.2.1=x.cm.ζ from rfl,show P4 a.e=a.wv from rfl];unfold Al;simp only;by_cases g:x.cm.ζ<=3
  .rw[Wf g];by_cases i:a.ζ=4
   .rw[Wf i,We (by omega),We (by omega),Wf (show x.cm.ζ<=3/\a.ζ=4 from⟨g,i⟩),We (by omega),We (by omega)];rfl
   .rw[We i,We (show¬(x.cm.ζ<=3/\a.ζ=4)fromλh=>i h.2)];by_cases c:a.ζ=8
    .rw[Wf c,Wf c];rfl
    .rw[We c,We c];by_cases f:a.ζ=6
     .rw[Wf f,Wf f];by_cases d:x.EN=2
      .rw[Wf d,Wf d];rfl
      .rw[We d,We d];rfl
     .rw[We f,We f];rfl
  .rw[We g,We (show¬(x.cm.ζ<=3/\a.ζ=4)fromλh=>g h.1)];by_cases c:a.ζ=8
   .rw[Wf c,Wf c];rfl
   .rw[We c,We c];by_cases f:a.ζ=6
    .rw[Wf f,Wf f];by_cases d:x.EN=2
     .rw[Wf d,Wf d];rfl
     .rw[We d,We d];rfl
    .rw[We f,We f];rfl
end
section
variable{N:Nat}{w:Wo}{x:Rt}{k:Nat}{p:Pg}{n:Int}{o:Opn}{f:Fm}{s:Sc}{a:Ac}
theorem Ww3(S:k<=8)(X:POk p)(g:RLive p n x)(hu:∀u∈x.υ,UnV u)(hm:W6 w.mem=true)(Y:ShOk w.ο)(R:HOk w.holds)(t:1048576<N):
  Lq N w.e x.e (k:Int) p=some ((),((gw w x k p).1.e,((gw w x k p).2.e,()))):=by
 obtain⟨r0,r1,r2,r3,r4,r5,r6,r7,r8,gk,fQ,fe,fq,fu,fz,gQ,gR,fI,gl,gS,gT,gU⟩:=rtP x;have f:=X.μ;obtain⟨z1,z2,z3,z4,z5,z6⟩:=g.sz f;have bV:=g.pc;have dw:=f.len;have L:=g.ξ.len;unfold Lq gw;simp only[Wk,gI];simp only[r3,r4,fQ,fe,fq,fu,fz,W0,Wv];by_cases V:x.pc>=p.1.length
 .rw[Wf (show x.pc=Wi p.1 by unfold Wi;omega),Wf V,UZ S R g.rv z5 z6 t];rfl
 .rw[We (show¬x.pc=Wi p.1 by unfold Wi;omega),We V];obtain⟨j,W,ej,eo⟩:=wa (l:=p.1) bV.1 (by omega);have sH:Xc p.1 (Xb x.pc) ((0,0,0,0):Opn)=opN p.1 x.pc:=rfl;have dT:inb x.pc p.1.length=true:=by grind [WH,decide_eq_true]
  rw[dT];obtain⟨z,F,iw⟩:=f.ok j W;simp only[Wa,sH];rw[←eo]at z F iw;rw[aw (show 0<=x.pc/\x.pc<=1000000 by omega)];have oL:(opN p.1 x.pc).1=9->x.θ.length≠0:=λy v=>by
   have h1:=Ws Xa g.θ.pcs;have h2:=eY f.up j (by omega);have h3:=f.up j W
   grind [fF,p5,Xk]
  generalize opN p.1 x.pc=o at*;by_cases A:o.1=5
  .rw[Wf A,Wf A,WvE f g hm A z t];rfl
  rw[We A,We A];by_cases i:o.1=6
  .rw[Wf i,We (by omega),We (by omega),We (by omega),Wf i,WW (AX z i).2 L,Wp (show(Xe ([]:List Rw) x.ι).length+_<=_ by simp;omega),Wp (by simp;omega)];simp only[Wa,gI];rfl
  rw[We i];by_cases s:o.1=7
  .rw[Wf s];have h:=AJ z s;rw[WW h.1 L,WA (a:=x.pc) (b:=o.2.2.1) (by unfold I64;omega),aw (a:=x.pc+o.2.2.1) (by omega)];have U:¬o.1=10:=by omega
   have T:¬o.1=11:=by omega
   have Z:¬o.1>=12:=by omega
   by_cases H:Xc x.ξ (Xb o.2.1) 0=0
   .rw[Wf H,We U,We T,We Z,We i,Wf s,Wf (show al x.ξ o.2.1 0=0 from H)];rfl
   .rw[We H,We U,We T,We Z,We i,Wf s,We (show¬al x.ξ o.2.1 0=0 from H)];rfl
  rw[We s];by_cases B:o.1=8
  .rw[Wf B,We (by omega),We (by omega),We (by omega),We i,We s,Wf B,gZ (by omega)];simp only[ret,Xd];rw[Wp (show([]:List RM).length+x.θ.length<=_ by simp;omega),Wp (by simp;omega)];rfl
  rw[We B];by_cases y:o.1=9
  .rw[Wf y,We (by omega),We (by omega),We (by omega),We i,We s,We B,Wf y];have v:=oL y;obtain⟨a,b,c,d⟩:=nK v (by omega) zRM;have K:Xc x.θ (Xb (Wz .i64 (Wi x.θ) 1)) ((0:Int),((0:Int),((0:Int),((0:Int),([]:List Int)))))=x.last:=b;obtain⟨m,q,e1,M,⟨r,J⟩,e4,O,e6,e7,e8,P,lC,mJ,oJ,oK,mi⟩:=g.mk24 f v;rw[K,d,c,a,M,WH,Wc r,gZ (by omega)];have F:Xc p.1 (Xb ((m:Nat):Int)) ((0,0,0,0):Opn)=opN p.1 (m:Int):=rfl;have D:=sA (f.ok m r).1 J;rw[←rQ r]at D;simp only[Wa,F,ret,Xd];rw[WW D L,Wp (by simp;omega)];rfl
  rw[We y];by_cases G:o.1=10
  .rw[Wf G,Wf G];unfold sa;by_cases v:x.θ.length=0
   .rw[Wf (show Wi x.θ=0 by unfold Wi;omega),Wf v,UZ S R g.rv z5 z6 t];rfl
   .rw[We (show¬Wi x.θ=0 by unfold Wi;omega),We v];obtain⟨a,b,c,d⟩:=nK v (by omega) zRM;have K:Xc x.θ (Xb (Wz .i64 (Wi x.θ) 1)) ((0:Int),((0:Int),((0:Int),((0:Int),([]:List Int)))))=x.last:=b;obtain⟨m,q,e1,M,⟨r,J⟩,e4,O,e6,e7,e8,P,lC,mJ,oJ,oK,mi⟩:=g.mk24 f v;rw[K,a];simp only[Wa];by_cases E:Wi x.υ>x.last.2.2.2.1
    .rw[Wf E,Wf (show(x.υ.length:Int)>x.last.2.2.2.1 from E),M3 (by unfold Wi at E;omega) (by omega) hu Y t];rfl
    .rw[We E,We (show¬(x.υ.length:Int)>x.last.2.2.2.1 from E)];rw[d,c,gZ (by rw[P.len];omega),M,WH,Wc r];have F:Xc p.1 (Xb ((m:Nat):Int)) ((0,0,0,0):Opn)=opN p.1 (m:Int):=rfl;have D:=sA (f.ok m r).1 J;rw[←rQ r]at D;simp only[Wa,ret,Xd,F];rw[WW D P.len,Wp (by simp;omega)];have b2:(decide ((0:Int)<=x.last.2.2.1)&&decide (x.last.2.2.1<=(x.ι.length:Int)))=true:=by simp;omega
     rw[b2];simp only[Wa];rw[Wp (by simp;omega),Tf (by omega) t ⟨r,J⟩ O];simp only[ret,Xd,Wa];rw[aw (by have:=O.len;omega)];rfl
  rw[We G,We G];by_cases I:o.1=11
  .rw[Wf I,Wf I,show Wi p.2=((p.2.length:Nat):Int)from rfl,Wov (by omega) (by omega) X.k3 t];rfl
  rw[We I,We I];by_cases Q:o.1>=12
  .rw[Wf Q];have C:=Wt8 (w:=w) S f g z Q Y R t;have:o.1=12\/o.1=13\/o.1=14\/o.1=15\/o.1=16:=by omega
   rcases this with h|h|h|h|h
   .rw[Wf h,Wf h,C];rfl
   .rw[We (by omega),Wf h,Wf h,C];rfl
   .rw[We (by omega),We (by omega),Wf h,Wf h,C];rfl
   .rw[We (by omega),We (by omega),We (by omega),Wf h,Wf h,C];rfl
   .rw[We (by omega),We (by omega),We (by omega),We (by omega),Wf h,C];rfl
  .rw[We Q,We (show¬o.1=12 by omega),We (show¬o.1=13 by omega),We (show¬o.1=14 by omega),We (show¬o.1=15 by omega),We (show¬o.1=16 by omega),We i,We s,We B,We y,Sq t z (by omega) (by omega) g.ξ];rfl
end
section
variable{N:Nat}{w:Wo}{x:Rt}{k:Nat}{p:Pg}{n:Int}{o:Opn}{f:Fm}{s:Sc}{a:Ac}
theorem WuV:KY N x.e=ret (!(decide (x.ζ=0)||decide (x.ζ=8))):=by
 unfold KY;simp only[show x.e.1=x.ζ from rfl];by_cases a:x.ζ=0
 .rw[a];rfl
 .rw[show(x.ζ !=0)=true by simpa using a,Wg a];by_cases b:x.ζ=8
  .rfl
  .rfl
theorem Vw{R}{l:List Rt}{b6 b7 b8 b9}{az}{dU:List Kb}{di:List Int}{dG:List Kb}{gO:List Ko}{K0 K1:Option R}(i:k<=1000)(m:l.length<=1000):∀(d j n),j+d=l.length->d<n->
  kT N (k:Int) b6 b7 b8 b9 az dU di dG (l.map Rt.e) gO K0 (λ_ _=>K1) n (j:Int)=if b7=(k:Int)+1/\j8 k (l.drop j) j=false then K0 else K1
 |d,j,0,_,h=>by omega
 |0,j,n+1,g,_=>by
  rw[kT,show(j:Int)=(((l.map Rt.e).length:Nat):Int) by simp;omega,WN (Xj _),Wb,We (λz=>by
   have:=z.2;rw[List.drop_of_length_le (by omega)]at this;cases this)]
 |d+1,j,n+1,g,hn=>by
  have b:j<(l.map Rt.e).length:=by simp;omega
  have f:j<l.length:=by omega
  have o:=Vw (b6:=b6) (b7:=b7) (b8:=b8) (b9:=b9) (az:=az) (dU:=dU) (di:=di) (dG:=dG) (gO:=gO) (K0:=K0) (K1:=K1) i m d (j+1) n (by omega) (by omega);rw[kT];simp only[WF b,Wq b,Wu b,Wl (show j<4611686018427387904 by omega),Wa,qn,WuV,ret,Xd,aw (show 0<=(k:Int)/\(k:Int)<=1000000 by omega),o,Wv,eZ];rw[d4 f,j8];by_cases a:b7=(k:Int)+1
  .rw[Wf a];by_cases c:j=k
   .rw[Wf (by omega),Wc c];simp
   .rw[We (by omega),Wg c];cases(decide (l[j].ζ=0)||decide (l[j].ζ=8))
    .simp[a]
    .simp
  .rw[We a,We (λz=>a z.1),We (λz=>a z.1)]
theorem Wvh(n:k<=8)(o:w.η.length<=8)(m:1048576<N):Cr N w.e x.e (k:Int)=some ((),((gj w x k).1.e,((gj w x k).2.e,()))):=by
 have g:(((decide ((0:Int)<=(4:Int)))&&(decide ((4:Int)<=(4:Int))))&&(Wx (Xb (4:Int))))=true:=rfl;have j:=λ(K0 K1:Option (Unit×(Y_World×(Y_Root×Unit))))=>Vw (N:=N) (l:=w.η) (k:=k) (b6:=w.e.1) (b7:=w.ω) (b8:=w.e.2.2.1.1) (b9:=w.e.2.2.2.1.2) (az:=x.e) (dU:=w.e.2.2.1.2) (di:=w.e.2.2.2.1.1) (dG:=P4 w.e) (gO:=Q6 w.e) (K0:=K0) (K1:=K1) (by omega) (by omega) w.η.length 0 N (by omega) (by omega);unfold Cr gj;simp only[gI,g,Wa,aw (show 0<=(k:Int)/\(k:Int)<=1000000 by omega),Wv,eZ,W0,show w.e.2.1=w.ω from rfl,show x.e.2.1=x.χ from rfl,show P5 w.e=w.η.map Rt.e from rfl];have f:∀(K0 K1:Option (Unit×(Y_World×(Y_Root×Unit)))),kT N (k:Int) w.e.1 w.ω w.e.2.2.1.1 w.e.2.2.2.1.2 x.e w.e.2.2.1.2 w.e.2.2.2.1.1 (P4 w.e) (w.η.map Rt.e) (Q6 w.e) K0 (λ_ _=>K1) N 0=if w.ω=(k:Int)+1/\j8 k w.η 0=false then K0 else K1:=j;simp only[f];by_cases a:w.ω=0
 .rw[Wf a];rw[We (show¬(w.ω≠0/\w.ω≠(k:Int)+1) by omega)];by_cases b:x.χ>=3
  .rw[Wf b,Wf a,Wf ⟨b,a⟩];rfl
  .rw[We b,We (show¬(x.χ>=3/\w.ω=0)fromλh=>b h.1),We (show¬(w.ω=(k:Int)+1/\j8 k w.η 0=false) by omega),We (show¬(w.ω=(k:Int)+1/\j8 k w.η 0=false) by omega)];rfl
 .rw[We a];by_cases c:w.ω=(k:Int)+1
  .rw[Wf c,We (show¬(w.ω≠0/\w.ω≠(k:Int)+1) by omega),We (show¬(x.χ>=3/\w.ω=0) by omega),We a];have i:∀(A:Option (Unit×(Y_World×(Y_Root×Unit)))),(if x.χ>=3 then A else A)=A:=λA=>by split<;>rfl
   rw[i];by_cases d:j8 k w.η 0=false
   .simp only[Wf (show w.ω=(k:Int)+1/\j8 k w.η 0=false from⟨c,d⟩)]
   .simp only[We (show¬(w.ω=(k:Int)+1/\j8 k w.η 0=false)fromλz=>d z.2)];rfl
  .rw[We c,Wf ⟨a,c⟩]
theorem Yj{q}(a:k<w.η.length)(b:q.1.η=w.η):(bif inb (k:Int) (Xa (P5 q.1.e))then some ((),((S5 (Xf (P5 q.1.e) (Xb (k:Int)) q.2.e) q.1.e),()))else none)=ret (Wo.put q k).e:=by
 rw[show P5 q.1.e=q.1.η.map Rt.e from rfl,Wq (by rw[Xu,b];exact a),Xk,S5e];rfl
theorem AE{q}{r:Option (Unit×(Y_World×(Y_Root×Unit)))}(b:k<w.η.length)(c:q.1.η=w.η)(e:r=some ((),(q.1.e,(q.2.e,())))):
  (r.bind λa=>(bif inb (k:Int) (Xa (P5 a.2.1))then some ((),((S5 (Xf (P5 a.2.1) (Xb (k:Int)) a.2.2.1) a.2.1),()))else none))=ret (Wo.put q k).e:=by
 rw[e];exact Yj b c
theorem WpE:(gj w x k).1.η=w.η:=by
 unfold gj
 repeat' split
 all_goals rfl
theorem Wla:(gM w x k).1.η=w.η:=by
 unfold gM;split<;>rfl
theorem Wl9:(ij w x).1.η=w.η:=by
 unfold ij;split<;>rfl
theorem WvF(hk)(C:w.η[k]=x)(Q:w.η.length<=8)(j:POk p)(h:GOk w)(a:ROk p n x)(P:0<=n/\n<=200000)(O:w.EF.length<=500000)(b:1048576<N):
  FK N w.e p (k:Int)=ret (Wo.put (iz w x k p) k).e:=by
 obtain⟨g1,J,g3,K,L⟩:=woG hk C;obtain⟨S,T,r2,r3,r4,r5,r6,U,r8,M,Y,Z,fq,fu,I,gQ,gR,X,gl,gS,gT,gU⟩:=rtP x;have u:k<=8:=by omega
 have W:=a.χ;have V:=a.ul;have s0:=vn h.holds;have v:P5 w.e=w.η.map Rt.e:=rfl;unfold FK iz;simp only[Wk];rw[v,K,J];simp only[S,M,I,Wa,Wv];rw[rL];have R:∀A:Option (Unit×(Y_World×Unit)),A=ret (Wo.put (
   if x.ζ=0 then gj w x k else
   if x.ζ=1 then gw w x k p else
   if x.ζ=2 then(w,kB x)else
   if x.ζ=3 then ij w x else
   if x.ζ=4 then(w,ja w x)else
   if x.ζ=5 then gM w x k else
   if x.ζ=6 then(if x.υ.length>0 then gq w x else(w,{x with ζ:=7}))else
   if x.ζ=7 then
    (if x.EN=0 then({w with holds:=WX w.holds ((k:Int)+1)},{χ:=x.χ+1})
     else fg {w with holds:=WX w.holds ((k:Int)+1)} x k)
   else(w,x)) k).e->(if x.EJ=true then((Zc N x.ζ 1 4).bind λH=>bif H.2.1 then((mw N x.e).bind λG=>some ((),((S5 (Xf (w.η.map Rt.e) (Xb (k:Int)) G.2.1) w.e),())))else A)else A)=ret (Wo.put (
   if x.EJ=true/\1<=x.ζ/\x.ζ<=4 then(w,hF x)else
   if x.ζ=0 then gj w x k else
   if x.ζ=1 then gw w x k p else
   if x.ζ=2 then(w,kB x)else
   if x.ζ=3 then ij w x else
   if x.ζ=4 then(w,ja w x)else
   if x.ζ=5 then gM w x k else
   if x.ζ=6 then(if x.υ.length>0 then gq w x else(w,{x with ζ:=7}))else
   if x.ζ=7 then
    (if x.EN=0 then({w with holds:=WX w.holds ((k:Int)+1)},{χ:=x.χ+1})
     else fg {w with holds:=WX w.holds ((k:Int)+1)} x k)
   else(w,x)) k).e:=λA D=>by
  by_cases r:x.EJ=true
  .rw[Wf r,cC];simp only[ret,Xd];by_cases t:1<=x.ζ/\x.ζ<=4
   .rw[Wc t.1,Wc t.2,Wf ⟨r,t⟩,Xk,DA];simp only[c6,Wa,ret,Xd];rw[S5e];rfl
   .have hb:(decide (1<=x.ζ)&&decide (x.ζ<=4))=false:=by
     rw[qi,Wn,Wn];omega
    rw[hb,We (λz=>t z.2),Wb];exact D
  .rw[We r,We (λz=>r z.1)];exact D
 refine R _ ?_;have F:∀y:Y_Root,(some ((),((S5 (Xf (w.η.map Rt.e) (Xb (k:Int)) y) w.e),())):Option (Unit×(Y_World×Unit)))=ret (S5 (Xf (w.η.map Rt.e) k y) w.e):=λy=>by rw[Xk]
 by_cases l:x.ζ=0
 .rw[Wf l,Wf l];exact AE hk WpE (Wvh u Q b)
 rw[We l,We l];by_cases c:x.ζ=1
 .rw[Wf c,Wf c];exact AE hk (XI j h a c u P.1).η (Ww3 u j (a.EH (by omega)) a.υ h.mem h.ο h.holds b)
 rw[We c,We c];by_cases d:x.ζ=2
 .rw[Wf d,Wf d,Wu8 j (a.EH (by omega)) d b];simp only[ret,Xd];rw[Xk,S5e];rfl
 rw[We d,We d];by_cases f:x.ζ=3
 .rw[Wf f,Wf f];exact AE hk Wl9 (Wrz j.μ (a.EH (by omega)) f a.υ h.ο b)
 rw[We f,We f];by_cases g:x.ζ=4
 .rw[Wf g,Wf g,Wrt j (a.EH (by omega)) g h.mem];exact Yj (q:=(w,ja w x)) hk rfl
 rw[We g,We g];by_cases i:x.ζ=5
 .rw[Wf i,Wf i];exact AE hk Wla (WrL u (a.comm i) h.mem O b)
 rw[We i,We i];by_cases m:x.ζ=6
 .rw[Wf m,Wf m];simp only[W0];by_cases s:Wi x.υ>0
  .have Aw:x.υ.length>0:=by unfold Wi at s;omega
   rw[Wf s,Wf Aw];exact AE hk rfl (M3 (by omega) (by omega) a.υ h.ο b)
  .have Aw:¬x.υ.length>0:=by unfold Wi at s;omega
   rw[We s,We Aw,F];exact Ws ret (S5e w k {x with ζ:=7})
 rw[We m,We m];by_cases o:x.ζ=7
 .rw[Wf o,Wf o];refine AE hk ?_ ?_
  .split<;>rfl
  .unfold RE;have B:S4 (WX w.holds ((k:Int)+1)) w.e=Wo.e {w with holds:=WX w.holds ((k:Int)+1)}:=rfl;rw[show P4 w.e=w.holds from rfl,aw (by omega),WjK h.holds (by omega) b,U,T];simp only[ret,Xd,Wv,B];rw[X6 (by omega),aw (by omega)];by_cases E:x.EN=0
   .simp only[Wf E];rfl
   .simp only[We E];rfl
 .rw[We o,We o,F,L,Ni hk C]
end
section
section
variable{N:Nat}{s:Sc}{p:Pg}{w:Wo}{n:Int}{a:Ac}{k:Nat}
end
def Ag(p:Int):List UInt8:=if 0<=p/\p<=8 then Xc [[105,100,108,101],[114,117,110],[102,111,114,107],[117,110,119,105,110,100],[101,120,116,101,110,100],[99,111,109,109,105,116],[117,110,100,111],[102,114,101,101],[100,111,110,101]] p.toNat []else []
theorem WrG(p):(Ag p).length<=6:=by
 unfold Ag;split
 .have:p.toNat<9:=by omega
  generalize p.toNat=q at this;revert q;decide
 .simp
theorem Wl4{N}{p}:BD N p=ret (Ag p):=by
 unfold BD Zd Ag;by_cases a:0<=p
 .by_cases h2:p<=8
  .have e1:decide (p>=0)=true:=by simpa using a
   have b:decide (p<=8)=true:=by simpa using h2
   have c:inb p 9=true:=by unfold inb;simp;omega
   simp only[e1,b,Wa,Xd,Xn,Wb];rw[show(Xa ([([105,100,108,101]:List UInt8),([114,117,110]:List UInt8),([102,111,114,107]:List UInt8),([117,110,119,105,110,100]:List UInt8),([101,120,116,101,110,100]:List UInt8),([99,111,109,109,105,116]:List UInt8),([117,110,100,111]:List UInt8),([102,114,101,101]:List UInt8),([100,111,110,101]:List UInt8)]))=9 from rfl,c,Wf ⟨a,h2⟩];rfl
  .have e1:decide (p>=0)=true:=by simpa using a
   have b:decide (p<=8)=false:=by simpa using h2
   rw[We (λh=>h2 h.2)];simp[e1,b]
 .have e1:decide (p>=0)=false:=by simpa using a
  rw[We (λh=>a h.1)];simp[e1]
variable{N:Nat}{s:Sc}{w:Wo}{n:Int}{a:Ac}
end
section
variable{N:Nat}{w:Wo}{x:Rt}{k:Nat}{p:Pg}{n:Int}{o:Opn}{f:Fm}{s:Sc}{a:Ac}{m:Mm}
theorem Wtv{codes:List (List Opn)}{j:Int}(b:f.π.length=codes.length)(a:¬(0<=j/\j<codes.length)):Be N m f.e codes j=some ((m,()),(f.e,())):=by
 unfold Be;rw[rL];split
 .rfl
 .by_cases h0:j<0
  .rw[Wc h0];rfl
  .rw[Wg h0,Wb,Wc (show j>=Wi (Q9 f.e) by rw[show Q9 f.e=f.π.map Kd.e from rfl];unfold Wi;rw[Xu];omega)];rfl
theorem NJ(h:WOk s.2.1 n w)(hn:n<=99999)(D:1048576<N):u0 N w.e s a=ret (eD s w a).e:=by
 have V:=h.now;have wy:=h.n0;have jE:w.η.length<=4:=by rw[h.len];exact h.l4
 unfold u0 eD;simp only[Wk];rw[show P5 w.e=w.η.map Rt.e from rfl,show w.e.1=w.now from rfl,aw (by omega)];have H:Wi s.2.1=(w.η.length:Int):=by unfold Wi;rw[h.len]
 rw[H,WJ (by unfold I64;omega)];simp only[cC,ret,Xd];by_cases d:0<=a.2.1/\a.2.1<w.η.length
 .rw[Wf d,Wc d.1,Wc (show a.2.1<=(w.η.length:Int) -1 by omega)];obtain⟨k,F⟩:∃k:Nat,a.2.1=k:=⟨a.2.1.toNat,by omega⟩;have c:k<w.η.length:=by omega
  obtain⟨x,b⟩:∃x,w.η[k]=x:=⟨_,rfl⟩;have B:=h.root k c;rw[b]at B;have E:k<s.2.1.length:=by rw[←h.len];exact c
  have u:=Ak h.progs E;obtain⟨L,g2,g3,M,g5⟩:=woG c b;obtain⟨T,r1,r2,r3,r4,r5,r6,r7,r8,gk,Y,Z,fq,fu,fz,gQ,gR,K,O,gS,gT,gU⟩:=rtP x;have l:∀y:Rt,(w.now+1,S4 (Xf (w.η.map Rt.e) k y.e) w.e.2)=Wo.e (Wo.put ({w with now:=w.now+1},y) k):=λy=>by
   unfold Wo.put Wo.e;simp only[List.map_set];rfl
  have C:Wo.put ({w with now:=w.now+1},x) k={w with now:=w.now+1}:=by unfold Wo.put;simp only;rw[←b,jT]
  simp only[F,Xk,c6,Xn,Wb];rw[L,M,WB c,b];simp only[Wa,T,K,O,l,C,show w.e.2.2.1=w.mem from rfl];rw[WH,Wc E];have G:Xc s.2.1 k (([]:List Ka),([]:List Kae))=s.2.1.getD k pg0:=rfl;rw[G];generalize lG:s.2.1.getD k pg0=p at*;have Q:GOk {w with now:=w.now+1}:=⟨h.mem,h.ο,h.holds⟩;simp only[Wa,Wv];have I:FK N (w.now+1,w.e.2) p (k:Int)=ret (Wo.put (iz {w with now:=w.now+1} x k p) k).e:=
   WvF (w:={w with now:=w.now+1}) c b (by show w.η.length<=8;omega) u Q B (by omega) (by have:=h.EF;show w.EF.length<=500000;omega) D
  rw[I];by_cases m:a.1=1
  .rw[Wf m,Wf m];unfold Ee;rw[WB (show k<({w with now:=w.now+1}:Wo).η.length from c)];simp only[b];rfl
  rw[We m,We m];by_cases o:a.1=2
  .rw[Wf o,Wf o];by_cases f:x.ζ=2
   .rw[Wf f];obtain⟨W,X,i⟩:=(B.EH (by omega)).fork f;by_cases A:0<=a.2.2/\a.2.2<p.2.length
    .rw[Wf (show x.ζ=2/\0<=a.2.2/\a.2.2<p.2.length from⟨f,A⟩)];obtain⟨j,S⟩:∃j:Nat,a.2.2=j:=⟨a.2.2.toNat,by omega⟩;have v:j<p.2.length:=by omega
     simp only[S,Xk];have J:KC (p.2.getD j []):=by rw[WB v];exact u.π _ (Xt v)
     rw[Wl3 (μ:=p.2.getD j []) (by rw[i.len];exact v) (by rw[i.len];exact u.k3) h.mem J i rfl u.k3 (by omega) D];have:U21 (jz w.mem x.fam j (p.2.getD j [])).e x.e=Rt.e {x with fam:=jz w.mem x.fam j (p.2.getD j [])}:=rfl;simp only[Xd,this];exact Ws ret (l _)
    .rw[We (λz=>A z.2),Wtv i.len A];have R:U21 x.fam.e x.e=x.e:=rfl;simp only[Xd,R];have:=l x;rw[C]at this;exact Ws ret this
   .rw[We f,We (λz=>f z.1)]
  rw[We o,We o];by_cases q:a.1=3
  .rw[Wf q,Wf q];have P:S11 true x.e=Rt.e {x with EJ:=true}:=rfl;simp only[P,l,show(Cm.e x.cm).2.2.1=x.cm.ζ from rfl,W0];by_cases g:1<=x.ζ/\x.ζ<=4
   .rw[Wc g.1,Wc g.2,Wf (show(1<=x.ζ/\x.ζ<=4)\/(x.ζ=5/\x.cm.ζ<=3)from .inl g)];rfl
   .have d:(decide (1<=x.ζ)&&decide (x.ζ<=4))=false:=by
     rw[qi,Wn,Wn];omega
    rw[d,Wb];by_cases r:x.ζ=5
    .rw[Wf r];by_cases t:x.cm.ζ<=3
     .rw[Wf t,Wf (show(1<=x.ζ/\x.ζ<=4)\/(x.ζ=5/\x.cm.ζ<=3)from .inr ⟨r,t⟩)]
     .rw[We t,We (show¬((1<=x.ζ/\x.ζ<=4)\/(x.ζ=5/\x.cm.ζ<=3))fromλz=>z.elim g λz=>t z.2)]
    .rw[We r,We (show¬((1<=x.ζ/\x.ζ<=4)\/(x.ζ=5/\x.cm.ζ<=3))fromλz=>z.elim g λz=>r z.1)]
  .rw[We q,We q]
 .rw[We d];have U:(decide (0<=a.2.1)&&decide (a.2.1<=(w.η.length:Int) -1))=false:=by
   rw[qi,Wn,Wn];omega
  rw[U];rfl
theorem Wl1{m}(k:m.length=8)(p:∀x∈m,0<=x/\x<=65536)(h:1048576<N):yA N m=ret (Af m):=by
 unfold yA Af;rw[show(Wi m !=(8:Int))=false by unfold Wi;rw[k];rfl,Wb];have q:∀(d j n:Nat) (l:List Int),j+d=m.length->d<n->SlOk l->s8 N m (some ((),(([]:List Int),()))) (λr s g=>(some ((),(g,())))) n (j:Int) l=ret (pp (m.drop j) j l):=by
  intro d
  induction d with
  |zero=>
   intro j n l i o c;obtain⟨n,rfl⟩:∃e,n=e+1:=⟨n-1,by omega⟩;have:j=m.length:=by omega
   subst this;simp[s8,WN,Xj,Wb,fo,pp]
  |succ d ih=>
   intro j n l i o c;obtain⟨n,rfl⟩:∃e,n=e+1:=⟨n-1,by omega⟩;have a:j<m.length:=by omega
   have f:=p m[j] (Xt a);simp only[s8,WF a,Wq a,Wu a,Wl (show j<4611686018427387904 by omega),Wa,W0,cC,ret,Xd,Wc f.1,Wc f.2,c6,Xn,Wb];rw[d4 a,pp];by_cases b:m[j]>0
   .rw[Wf b,Wf b,WJ (by unfold I64;omega),LV c (by omega) (by omega) h];exact ih _ _ _ (by omega) (by omega) (DE c (by omega) (by omega))
   .rw[We b,We b];exact ih _ _ _ (by omega) (by omega) c
 have:=q m.length 0 N (Xp 16 0) (by omega) (by omega) ME;exact this
theorem Wxo(c:cI s=true)(b:1048576<N):Lo N s=ret (lW s).e:=by
 obtain⟨a,g,h,i⟩:=rS c;have f:=Nj.2 a.ER;have d:(((decide ((0:Int)<=Wi s.2.1))&&(decide (Wi s.2.1<=Wi s.2.1)))&&(Wx (Xb (Wi s.2.1))))=true:=by
  unfold Wi;rw[Wp (by omega)];simp
 unfold Lo;rw[WjX f b,Wl1 a.map.1 a.map.2 b,d];simp only[Xd,ret,Wa,gI];unfold lW Wo.e Wi;simp only[OY];rfl
end
section
variable{N:Nat}{s:Sc}
theorem Wvi{R}{K0:Int->Bool->Int->Int->Int->Int->Ks->Ki->Ks->(List Y_Root)->Kag->Option R}(l:s.2.2.length<=1000)(c:1048576<N):
  ∀(d j n) (m) (w),j+d=s.2.2.length->d<n->WOk s.2.1 m w->m+d<=90000->
  ug N s.2.2 s K0 n (j:Int) w.now w.ω w.mem.1 w.ο.2 w.mem.2 w.ο.1 w.holds (w.η.map Rt.e) w.EF=
   (λv:Wo=>K0 (s.2.2.length:Int) false v.now v.ω v.mem.1 v.ο.2 v.mem.2 v.ο.1 v.holds (v.η.map Rt.e) v.EF) ((s.2.2.drop j).foldl (eD s) w):=by
 intro d
 induction d with
 |zero=>
  intro j n m w f i h g;obtain⟨n,rfl⟩:∃b,n=b+1:=⟨n-1,by omega⟩;have:j=s.2.2.length:=by omega
  subst this;simp[ug,WN (Xj _),Wb,fo,O6]
 |succ d ih=>
  intro j n m w f i h g;obtain⟨n,rfl⟩:∃b,n=b+1:=⟨n-1,by omega⟩;have a:j<s.2.2.length:=by omega
  have k:(w.now,(w.ω,((w.mem.1,w.mem.2),((w.ο.1,w.ο.2),(w.holds,(w.η.map Rt.e,w.EF))))))=w.e:=rfl;simp only[ug,WF a,Wq a,Wu a,Wl (show j<4611686018427387904 by omega),Wa,k];rw[Nr h (by omega) c,d4 a,jS];exact ih (j+1) n (m+1) _ (by omega) (by omega) (jb h) (by omega)
theorem zP(j:SB s)(a:1048576<N):q5 N s=ret (if cI s=true then(ea s).e else d_World):=by
 unfold q5;rw[WR j a];simp only[ret,Xd,Wk];cases hs:cI s with
 |false=>rfl
 |true=>
  obtain⟨b,r,t,u⟩:=rS hs;have i:=Ae hs;have p:=XT s.2.1 (by omega);rw[Whn b.map.1 b.map.2 a,WjQ (Nj.2 b.ER) a];simp only[ret,Xd,p,Wa,gI];have c:=Wvi (s:=s) (N:=N) (K0:=λw v n g l m f d k h q=>(some ((),((n,(g,((l,f),((d,m),(k,(h,q)))))),())):Option (Unit×(Y_World×Unit)))) (by omega) a s.2.2.length 0 N 0 (lW s) (by omega) (by omega) i (by omega);have o:((lW s).η.map Rt.e)=Xp s.2.1.length d_Root:=by
   unfold lW;simp only[OY];rfl
  rw[o]at c;refine c.trans ?_;rfl
theorem WvK{R}{K0:Int->Bool->Int->Int->Int->Int->Ks->Ki->Ks->(List Y_Root)->Kag->Option R}(l:s.2.2.length<=1000)(c:1048576<N):
  ∀(d j n) (m) (w),j+d=s.2.2.length->d<n->WOk s.2.1 m w->m+d<=90000->
  yK N s K0 n (j:Int) w.now w.ω w.mem.1 w.ο.2 w.mem.2 w.ο.1 w.holds (w.η.map Rt.e) w.EF=
   (λv:Wo=>K0 (s.2.2.length:Int) false v.now v.ω v.mem.1 v.ο.2 v.mem.2 v.ο.1 v.holds (v.η.map Rt.e) v.EF) ((s.2.2.drop j).foldl (eD s) w):=by
 intro d
 induction d with
 |zero=>
  intro j n m w f i h g;obtain⟨n,rfl⟩:∃b,n=b+1:=⟨n-1,by omega⟩;have:j=s.2.2.length:=by omega
  subst this;simp[yK,WN (Xj _),Wb,fo,O6]
 |succ d ih=>
  intro j n m w f i h g;obtain⟨n,rfl⟩:∃b,n=b+1:=⟨n-1,by omega⟩;have a:j<s.2.2.length:=by omega
  have k:(w.now,(w.ω,((w.mem.1,w.mem.2),((w.ο.1,w.ο.2),(w.holds,(w.η.map Rt.e,w.EF))))))=w.e:=rfl;simp only[yK,WF a,Wq a,Wu a,Wl (show j<4611686018427387904 by omega),Wa,k];rw[NJ h (by omega) c,d4 a,jS];exact ih (j+1) n (m+1) _ (by omega) (by omega) (jb h) (by omega)
theorem pq(h:SB s)(a:1048576<N):zx N s=ret (if cI s=true then(ea s).e else d_World):=by
 unfold zx;rw[W8 h a];cases hs:cI s with
 |false=>rfl
 |true=>
  obtain⟨n,o,p,q⟩:=rS hs;rw[Wxo hs a];have f:=WvK (s:=s) (N:=N) (K0:=λt r l d j k c b i g m=>(some ((),((l,(d,((j,c),((b,k),(i,(g,m)))))),())):Option (Unit×(Y_World×Unit)))) (by omega) a s.2.2.length 0 N 0 (lW s) (by omega) (by omega) (Ae hs) (by omega);exact f
end
section
variable{n:Int}{w:Wo}{x y:Rt}{k:Nat}{p:Pg}{s:Sc}{a:Ac}
def KZ(y:Kd):Prop:=y.θ.length<=24/\∀q∈y.θ,q.2.2.length<=4
def KP(f:Fm)(x:Kd)(q:Fm×Kd):Prop:=q.1.π=f.π/\q.1.start=f.start/\(q.2.ζ=0\/q.2.θ=x.θ\/q.2.θ= [])
theorem WvQ{m}{f}{x}{o}(h:x.ζ=0):KP f x (jv m f x o):=by
 unfold jv;split
 .exact⟨rfl,rfl,.inl h⟩
 .split
  .split
   .exact⟨rfl,rfl,.inl rfl⟩
   .exact⟨rfl,rfl,.inl h⟩
  .simp only;generalize cL m f.rv (if x.EI=true then x.pb else(o.2.2.1,0,0,0))=q
   (repeat' split)<;>exact⟨rfl,rfl,.inl h⟩
theorem WuK{m}{f}{x}{μ}:KP f x (n5 m f x k μ):=by
 unfold n5;split
 .rename_i h;unfold iL;split
  .exact⟨rfl,rfl,.inr (.inl rfl)⟩
  .simp only;split
   .exact WvQ h
   .split
    .refine⟨rfl,rfl,?_⟩;unfold vS;split
     .exact .inr (.inl rfl)
     .exact .inl h
    ·(repeat' split)<;>exact⟨rfl,rfl,.inl h⟩
 .split
  .split<;>exact⟨rfl,rfl,.inr (.inl rfl)⟩
  .split
   .split
    .exact⟨rfl,rfl,.inr (.inr rfl)⟩
    .simp only;split
     .exact⟨rfl,rfl,.inr (.inl rfl)⟩
     .exact⟨rfl,rfl,.inl rfl⟩
   .exact⟨rfl,rfl,.inr (.inl rfl)⟩
theorem KOk.kz{μ}{c}{x}(a:CC μ)(h:KOk μ c n x)(d:x.ζ=0):KZ x:=by
 have g:=h.pc;have i:=a.len;have b:=h.θ d;have e:=Ws Xa b.pcs;simp only[Xu]at e;have j:=eY a.up x.pc.toNat (by omega);have k:=(gc μ x.pc.toNat).2;exact⟨by omega,λq f=>by have:=(b.each q f).1.len;omega⟩
structure RZ(x:Rt):Prop where
 rd:x.κ.length<=96
 wr:x.ι.length<=32
 ml:x.θ.length<=24
 mr:∀q∈x.θ,q.2.2.2.2.length<=4
 cm:x.ζ≠5->x.cm={}
 fm:x.ζ≠2->x.fam={}
 kd:∀y∈x.fam.π,KZ y
 st:x.fam.start.length<=8
def RQ(x y:Rt):Prop:=((1<=y.ζ/\y.ζ<=4)\/(y.κ=x.κ/\y.ι=x.ι/\y.θ=x.θ)\/(y.κ= []/\y.ι= []/\y.θ= []))/\(y.ζ≠5->y.cm={})/\(y.ζ≠2->y.fam={})/\
 (y.fam=x.fam\/y.fam={}\/∃a ξ ε n,y.fam=iq a ξ ε n)
theorem G6:RQ x (hF x):=by simp[RQ,hF]
theorem SJ{y}(h:y.ζ=1)(a:y.cm={})(b:y.fam={}):RQ x (lr y):=by
 unfold lr;split
 .simp[RQ,hF]
 .simp[RQ,a,b]
theorem MS(a:x.ζ≠5->x.cm={})(b:x.ζ≠2->x.fam={}):RQ x (gq w x).2:=by simp[RQ,gq];exact⟨a,b⟩
theorem Ww8(h:x.ζ≠5)(a:x.ζ≠2)(b:x.ζ≠5->x.cm={})(c:x.ζ≠2->x.fam={}):RQ x (fg w x k).2:=by simp[RQ,fg,b h,c a]
theorem US{out}(h:x.ζ=1)(b:x.cm={})(a:x.fam={}):RQ x (jg w x k out).2:=by
 unfold jg;simp only;generalize (if out=2 then []else x.ι)=ε;split
 .simp[RQ,fg,b,a]
 .simp[RQ,a]
theorem WvO{o}(h:x.ζ=1)(a:x.cm={})(b:x.fam={}):RQ x (m6 w x o):=by
 unfold m6;split
 .simp[RQ,h,a,b]
 .simp only;generalize cL w.mem x.rv (if x.EI=true then x.pb else(o.2.2.1,0,0,0))=q;split
  .exact SJ h a b
  .split
   .simp[RQ,h,a,b]
   .simp[RQ,h,a,b]
theorem Wxt(h:x.ζ=1)(a:x.cm={})(b:x.fam={}):RQ x (gw w x k p).2:=by
 unfold gw;split
 .exact US h a b
 .simp only;split
  .exact WvO h a b
  .split
   .unfold sa;split
    .exact US h a b
    .split
     .exact MS (λ_=>a) (λ_=>b)
     .simp[RQ,h,a,b]
   .split
    .simp[RQ,a];exact .inr (.inr ⟨_,_,_,_,rfl⟩)
    .split
     .unfold jq;split
      .exact SJ h a b
      .simp[RQ,h,a,b]
     ·(repeat' split)<;>simp[RQ,h,a,b]
theorem Wvv(a:x.ζ≠5->x.cm={})(b:x.ζ≠2->x.fam={}):RQ x (iz w x k p).2:=by
 have same:RQ x x:=⟨.inr (.inl ⟨rfl,rfl,rfl⟩),a,b,.inl rfl⟩;unfold iz;by_cases e:x.EJ=true/\1<=x.ζ/\x.ζ<=4
 .rw[Wf e];exact G6
 rw[We e];by_cases h:x.ζ=0
 .rw[Wf h];unfold gj
  (repeat' split)<;>first|exact same|simp[RQ]
 rw[We h];by_cases h:x.ζ=1
 .rw[Wf h];exact Wxt h (a (by omega)) (b (by omega))
 rw[We h];by_cases h:x.ζ=2
 .rw[Wf h];have d:=a (by omega);unfold kB;split
  .exact G6
  .split
   .simp[RQ,d]
   .exact same
 rw[We h];by_cases h:x.ζ=3
 .rw[Wf h];have d:=a (by omega);have c:=b (by omega);unfold ij;split
  .exact MS a b
  .simp[RQ,d,c]
 rw[We h];by_cases h:x.ζ=4
 .rw[Wf h];have d:=a (by omega);have c:=b (by omega);unfold ja;simp only
  (repeat' split)<;>first|exact G6|simp[RQ,h,d,c]
 rw[We h];by_cases h:x.ζ=5
 .rw[Wf h];have c:=b (by omega);unfold gM;split
  .split
   .exact G6
   .simp[RQ,h,c]
  .simp only;unfold Al;split
   .simp[RQ,hF]
   .split
    .refine⟨.inr (.inl ⟨rfl,rfl,rfl⟩),λ_=>rfl,λ_=>c,.inl rfl⟩
    .simp[RQ,h,c]
 rw[We h];by_cases h:x.ζ=6
 .rw[Wf h];have d:=a (by omega);have c:=b (by omega);split
  .exact MS a b
  .simp[RQ,d,c]
 rw[We h];by_cases h:x.ζ=7
 .rw[Wf h];split
  .simp[RQ]
  .exact Ww8 (by omega) (by omega) a b
 rw[We h];exact same
theorem RZ.nx(l:POk p)(g:RZ x)(f:RQ x y)(h:ROk p n y):RZ y:=by
 obtain⟨i,j,k,d⟩:=f;have e:y.κ.length<=96/\y.ι.length<=32/\y.θ.length<=24/\∀q∈y.θ,q.2.2.2.2.length<=4:=by
  rcases i with i|⟨a,b,c⟩|⟨a,b,c⟩
  .have hl:=h.EH i;obtain⟨m,o,s,r,t,u⟩:=hl.sz l.μ;exact⟨m,o,r,λq f=>by have:=(hl.θ.each q f).1.len;omega⟩
  .rw[a,b,c];exact⟨g.rd,g.wr,g.ml,g.mr⟩
  .rw[a,b,c];exact⟨by simp,by simp,by simp,λq f=>by cases f⟩
 refine⟨e.1,e.2.1,e.2.2.1,e.2.2.2,j,k,?_,?_⟩
 .rcases d with d|d|⟨_,_,_,_,d⟩<;>rw[d]
  .exact g.kd
  .intro y h;cases h
  .intro y h;rw[OZ h];exact⟨by simp,λq f=>by cases f⟩
 .rcases d with d|d|⟨_,_,_,_,d⟩<;>rw[d]
  .exact g.st
  .simp
  .exact po _
def WZ(w:Wo):Prop:=∀x∈w.η,RZ x
theorem NH(h:WOk s.2.1 n w)(g:WZ w):WZ (eD s w a):=by
 have c:=jb (a:=a) h;revert c;unfold eD;simp only;split
 .have hk:a.2.1.toNat<w.η.length:=by omega
  have z:=Ak h.progs (by rw[←h.len];exact hk);have H:=h.root a.2.1.toNat hk;have b:=g _ (Xt hk);have fin:∀{v:Wo} {y:Rt},v.η=w.η.set a.2.1.toNat y->WOk s.2.1 (n+1) v->(ROk (s.2.1.getD a.2.1.toNat pg0) (n+1) y->RZ y)->WZ v:=λ{v y} i c e x l=>by
   rw[i]at l;rcases OU l with l|rfl
   .exact g x l
   .refine e ?_;have:=c.root a.2.1.toNat (by rw[i,cY];exact hk);simp only[i,Xha]at this;exact this
  rw[WB hk];split
  .intro c;refine fin (y:=(iz {w with now:=w.now+1} w.η[a.2.1.toNat] a.2.1.toNat (s.2.1.getD a.2.1.toNat pg0)).2) ?_ c λe=>b.nx z (Wvv b.cm b.fm) e;unfold Ee;rw[WB (show a.2.1.toNat<({w with now:=w.now+1}:Wo).η.length from hk)];have i:=WyO h hk;show Xf _ _ _=_;rw[i]
  .split
   .split
    .rename_i hf;intro c;refine fin rfl c λe=>?_;have D:=H.EH (by omega);obtain⟨I,J,u⟩:=D.fork hf.1;have p:a.2.2.toNat<(s.2.1.getD a.2.1.toNat pg0).2.length:=by omega
     have j:a.2.2.toNat<w.η[a.2.1.toNat].fam.π.length:=by rw[u.len];exact p
     have t:KC ((s.2.1.getD a.2.1.toNat pg0).2.getD a.2.2.toNat []):=by rw[WB p];exact z.π _ (Xt p)
     have r:=VC (n:=n) j h.mem t u rfl;have B:(∀y∈(jz w.mem w.η[a.2.1.toNat].fam a.2.2.toNat ((s.2.1.getD a.2.1.toNat pg0).2.getD a.2.2.toNat [])).π,KZ y)/\(jz w.mem w.η[a.2.1.toNat].fam a.2.2.toNat ((s.2.1.getD a.2.1.toNat pg0).2.getD a.2.2.toNat [])).start.length<=8:=by
      revert r;unfold jz;split
      .exactλ_=>⟨b.kd,b.st⟩
      .intro r;obtain⟨A,F,G⟩:=WuK (m:=w.mem) (f:=w.η[a.2.1.toNat].fam) (x:=w.η[a.2.1.toNat].fam.π.getD a.2.2.toNat {}) (k:=a.2.2.toNat) (μ:=(s.2.1.getD a.2.1.toNat pg0).2.getD a.2.2.toNat []);refine⟨λy e=>?_,by show(n5 ..).1.start.length<=8;rw[F];exact b.st⟩;have o:y∈(n5 w.mem w.η[a.2.1.toNat].fam (w.η[a.2.1.toNat].fam.π.getD a.2.2.toNat {}) a.2.2.toNat ((s.2.1.getD a.2.1.toNat pg0).2.getD a.2.2.toNat [])).1.π.set a.2.2.toNat (n5 w.mem w.η[a.2.1.toNat].fam (w.η[a.2.1.toNat].fam.π.getD a.2.2.toNat {}) a.2.2.toNat ((s.2.1.getD a.2.1.toNat pg0).2.getD a.2.2.toNat [])).2:=e;rw[A]at o;rcases OU o with o|rfl
       .exact b.kd y o
       .have sO:=r.kid a.2.2.toNat (by show a.2.2.toNat<((n5 ..).1.π.set _ _).length;rw[cY,A];exact j);simp only[Fm.put,Xha]at sO;rcases G with d|d|d
        .exact sO.kz t.toCC d
        .have:=b.kd _ (Xt j);rw[WB j]at d;unfold KZ;rw[WB j,d];exact this
        .unfold KZ;rw[d];exact⟨by simp,λq E=>by cases E⟩
     exact{b with
      fm:=λC=>Wy hf.1 C
      kd:=B.1
      st:=B.2}
    .exactλ_=>g
   .split
    .split
     .intro c;exact fin rfl c λ_=>{b with}
     .exactλ_=>g
    .exactλ_=>g
 .exactλ_=>g
theorem Nw:∀(l:List Ac) (n) (w),WOk s.2.1 n w->WZ w->WZ (l.foldl (eD s) w)
 | [],_,_,_,h=>h
 |a::l,n,w,h,hz=>Nw l (n+1) _ (jb h) (NH h hz)
theorem XZ:WZ (lW s):=λx b=>by
 obtain rfl:x={}:=OZ b;exact⟨by simp,by simp,by simp,λq a=>by simp at a,λ_=>rfl,λ_=>rfl,λy c=>by simp at c,by simp⟩
end
section
set_option synthInstance.maxSize 20000
set_option synthInstance.maxHeartbeats 4000000
def pW(l:List Int):Nat:=l.length
end
section

end
section
def WxR(l:List Kb):Nat:=l.length
def Wzo(a:Int×List Kb):Nat:=WxR a.2
def Wxl(a:List Int×Int):Nat:=pW a.1
def X8(l:List Kb):Nat:=l.length
def vW(l:List Kc):Nat:=l.length
def VR(l:List Kb):Nat:=l.length
def UX(a:Int×Int×List Int):Nat:=pW a.2.2
def GD(l:List Kl):Nat:=l.length+(l.map UX).sum
def MQ(a:Y_KidRun):Nat:=pW a.2.2.2.2.2.2.1+VR a.2.2.2.2.2.2.2.1+vW a.2.2.2.2.2.2.2.2.1+GD a.2.2.2.2.2.2.2.2.2.1
def Ws7(l:List Y_KidRun):Nat:=l.length+(l.map MQ).sum
def G5(a:Y_Family):Nat:=pW a.2.2.2.2.1+vW a.2.2.2.2.2.1+VR a.2.2.2.2.2.2.1+pW a.2.2.2.2.2.2.2.1+vW a.2.2.2.2.2.2.2.2.1+Ws7 a.2.2.2.2.2.2.2.2.2
def YH(a:Int×Int×Int×Int×List Int):Nat:=pW a.2.2.2.2
def Hz(l:List Kj):Nat:=l.length+(l.map YH).sum
def Wxr(l:List Kb):Nat:=l.length
def Wu5(a:Int×Int×Int×Int×Int×List Kc×List Int):Nat:=vW a.2.2.2.2.2.1+pW a.2.2.2.2.2.2
def HL(a:Y_Root):Nat:=pW a.2.2.2.2.2.2.2.2.2.2.2.2.1+vW a.2.2.2.2.2.2.2.2.2.2.2.2.2.1+vW a.2.2.2.2.2.2.2.2.2.2.2.2.2.2.1+Hz a.2.2.2.2.2.2.2.2.2.2.2.2.2.2.2.1+Wxr a.2.2.2.2.2.2.2.2.2.2.2.2.2.2.2.2.1+pW a.2.2.2.2.2.2.2.2.2.2.2.2.2.2.2.2.2.1+Wu5 a.2.2.2.2.2.2.2.2.2.2.2.2.2.2.2.2.2.2.2.2.1+G5 a.2.2.2.2.2.2.2.2.2.2.2.2.2.2.2.2.2.2.2.2.2
def Wxj(l:List Y_Root):Nat:=l.length+(l.map HL).sum
def Nq(a:Int×Int×List Kc):Nat:=vW a.2.2
def Wvo(l:List Ko):Nat:=l.length+(l.map Nq).sum
def XL(a:Y_World):Nat:=Wzo a.2.2.1+Wxl a.2.2.2.1+X8 a.2.2.2.2.1+Wxj a.2.2.2.2.2.1+Wvo a.2.2.2.2.2.2
end
section

end
section
variable{n:Int}{w:Wo}{x:Rt}{p:Pg}{ps:List Pg}
theorem Ah{α:Type}{z}{c}:∀(l:List α),(∀x∈l,z x<=c)->(l.map z).sum<=c*l.length
 | [],_=>by simp
 |x::l,h=>by
  have b:=h x (Xl ..);have d:=Ah l λy a=>h y (Xg _ a);rw[bn,List.sum_cons,Xs,Nat.mul_add];omega
theorem Wyc(f:POk p)(h:FOk p.2 n x.fam)(a:RZ x):G5 x.fam.e<=3000:=by
 have A:=h.len;have w:=f.k3;have k:∀y∈x.fam.π.map Kd.e,MQ y<=300:=by
  intro y m;obtain⟨o,g,rfl⟩:=Xx.1 m;have d:=a.kd o g;obtain⟨i,j,rfl⟩:=EU.1 g;have b:=h.kid i j;have v:(p.2.getD i []).length<=24:=by
   rw[WB (show i<p.2.length by omega)];exact(f.π _ (Xt _)).len
  generalize x.fam.π[i]=y at*;have B:=b.ξ.len;have C:=b.wl;have D:=b.sl;have E:=b.pc;have:GD y.θ<=24+4*24:=by
   unfold GD;have:=Ah (z:=UX) (c:=4) y.θ λz a=>d.2 z a;have:=d.1;omega
  show y.ξ.length+y.δ.length+y.ι.length+GD y.θ<=300;omega
 have l:=Ah _ k;rw[Xu]at l;have q:=h.ξ.len;have r:=h.buf8;have s:=h.len3 (by omega);have t:=h.readsL;have u:=a.st;show x.fam.ξ.length+x.fam.start.length+x.fam.buf.length+x.fam.EK.length+x.fam.κ.length+((x.fam.π.map Kd.e).length+((x.fam.π.map Kd.e).map MQ).sum)<=3000;rw[Xu];omega
theorem WxJ(j:POk p)(h:ROk p n x)(d:RZ x):HL x.e<=4000:=by
 have c:x.cm.ψ.length+x.cm.κ.length<=16:=by
  by_cases i:x.ζ=5
  .have:=h.comm i;have a:=this.plen;have b:=this.rlen;omega
  .rw[d.cm i];decide
 have f:G5 x.fam.e<=3000:=by
  by_cases g:x.ζ=2
  .exact Wyc j ((h.EH (by omega)).fork g).2.2 d
  .rw[d.fm g];decide
 have m:Hz x.θ<=24+4*24:=by
  unfold Hz;have:=Ah (z:=YH) (c:=4) x.θ λz h=>d.mr z h;have:=d.ml;omega
 have k:=d.rd;have l:=d.wr;have o:=h.ul;have q:=h.rg;have r:=h.ord;show x.ξ.length+x.κ.length+x.ι.length+Hz x.θ+x.υ.length+x.EK.length+(x.cm.ψ.length+x.cm.κ.length)+G5 x.fam.e<=4000;omega
theorem Wvw(h:WOk ps n w)(t:n<=99000)(k:WZ w):XL w.e<=1048576:=by
 have l:=h.l4;have s:=h.len;have g:∀y∈w.η.map Rt.e,HL y<=4000:=by
  intro y a;obtain⟨x,b,rfl⟩:=Xx.1 a;have f:=k x b;obtain⟨i,d,rfl⟩:=EU.1 b;exact WxJ (by rw[WB (show i<ps.length by omega)];exact h.progs _ (Xt _)) (h.root i d) f
 have j:=Ah _ g;rw[Xu]at j;have r:=Ah (z:=Nq) (c:=8) w.EF λy a=>(h.histE y a).1;have m:=h.EF;have o:=(WE h.mem).1;have p:=vn h.holds;have q:=h.ο.slots.len;show w.mem.2.length+w.ο.1.length+w.holds.length+((w.η.map Rt.e).length+((w.η.map Rt.e).map HL).sum)+(w.EF.length+(w.EF.map Nq).sum)<=1048576;rw[Xu];omega
end
section
def da(s:Sc)(k:Nat):Nat->Nat->Wo->Wo
 |0,_,w=>w
 |d+1,j,w=>da s k d (j+1) (eD s w (2,(k:Int),(j:Int)))
def cy(s:Sc):Nat->Nat->Wo->Wo
 |0,_,w=>w
 |d+1,i,w=>cy s d (i+1) (da s i (s.2.1.getD i pg0).2.length 0 (eD s w (1,(i:Int),0)))
def pY(w:Wo):Bool:=w.η.all λx=>decide (x.ζ=8)
def cD(s:Sc):Nat->Wo->Wo×Nat
 |0,w=>(w,0)
 |d+1,w=>if pY w=true then(w,0)else((cD s d (cy s s.2.1.length 0 w)).1,(cD s d (cy s s.2.1.length 0 w)).2+1)
variable{s:Sc}{w v:Wo}{n:Int}{k N:Nat}
theorem DI:∀(d j:Nat) (n) (w),WOk s.2.1 n w->WOk s.2.1 (n+d) (da s k d j w)
 |0,_,n,w,h=>by rw[da];simpa using h
 |d+1,j,n,w,h=>by
  have:=DI d (j+1) (n+1) _ (jb (a:=(2,(k:Int),(j:Int))) h);rw[da,show n+((d+1:Nat):Int)=n+1+(d:Int) by omega];exact this
theorem WxE{R}{rounds}{b1 b2 b3 b4}{mF}{K0:Int->Bool->Int->Int->Int->Int->List Kb->List Int->List Kb->List Y_Root->List Ko->Option R}(h:1048576<N)(hk)(p:s.2.1[k].2.length<=3):
  ∀(d j b) (n) (w),j+d=s.2.1[k].2.length->d<b->WOk s.2.1 n w->n+d<=99999->
  yC N rounds (k:Int) s.2.1 mF s b1 b2 b3 b4 K0 b (j:Int) w.now w.ω w.mem.1 w.ο.2 w.mem.2 w.ο.1 w.holds (w.η.map Rt.e) w.EF=
  K0 (s.2.1[k].2.length:Int) false (da s k d j w).now (da s k d j w).ω (da s k d j w).mem.1 (da s k d j w).ο.2 (da s k d j w).mem.2 (da s k d j w).ο.1 (da s k d j w).holds ((da s k d j w).η.map Rt.e) (da s k d j w).EF:=by
 intro d;have g:Xc s.2.1 (Xb (k:Int)) (([]:List Ka),([]:List Kae))=s.2.1[k]:=Wu hk _
 induction d with
 |zero=>
  intro j b n w l i c m;obtain⟨f,rfl⟩:∃f,b=f+1:=⟨b-1,by omega⟩;have:decide ((j:Int)<Wi s.2.1[k].2)=false:=Wg (by unfold Wi;omega);simp only[yC,Wk,g,this,Wb,da];rw[show(j:Int)=(s.2.1[k].2.length:Int) by omega]
 |succ d ih=>
  intro j b n w l i c m;obtain⟨f,rfl⟩:∃f,b=f+1:=⟨b-1,by omega⟩;have:decide ((j:Int)<Wi s.2.1[k].2)=true:=Wc (by unfold Wi;omega);have o:=Nr (a:=(2,(k:Int),(j:Int))) c (by omega) h;simp only[yC,Wk,g,this,Wa];rw[show((w.now,(w.ω,((w.mem.1,w.mem.2),((w.ο.1,w.ο.2),(w.holds,(w.η.map Rt.e,w.EF)))))):Y_World)=w.e from rfl,o];simp only[Xd,Wl (show j<4611686018427387904 by omega)];exact ih (j+1) f (n+1) _ (by omega) (by omega) (jb c) (by omega)
theorem pk3(h:WOk s.2.1 n w){i}(hi:i<s.2.1.length):(s.2.1.getD i pg0).2.length<=3:=(Ak h.progs hi).k3
theorem GK:∀(d i) (n) (w),i+d=s.2.1.length->WOk s.2.1 n w->∃e,n<=e/\e<=n+4*d/\WOk s.2.1 e (cy s d i w)
 |0,_,n,w,g,h=>⟨n,by omega,by omega,by exact h⟩
 |d+1,i,n,w,g,h=>by
  have f:=DI (k:=i) (s.2.1.getD i pg0).2.length 0 (n+1) _ (jb (a:=(1,(i:Int),0)) h);have j:=pk3 h (i:=i) (by omega);obtain⟨e,a,b,c⟩:=GK d (i+1) _ _ (by omega) f;exact⟨e,by omega,by omega,by exact c⟩
theorem Wvr{R}{rounds}{b1 b2 b3 b4}{K0:Int->Bool->Int->Int->Int->Int->List Kb->List Int->List Kb->List Y_Root->List Ko->Option R}(j:1048576<N)(F:s.2.1.length<=4):
  ∀(d i b) (n) (w),i+d=s.2.1.length->d<b->WOk s.2.1 n w->n+4*d<=99999->
  tJ N rounds s.2.1 s b1 b2 b3 b4 K0 b (i:Int) w.now w.ω w.mem.1 w.ο.2 w.mem.2 w.ο.1 w.holds (w.η.map Rt.e) w.EF=
  K0 (s.2.1.length:Int) false (cy s d i w).now (cy s d i w).ω (cy s d i w).mem.1 (cy s d i w).ο.2 (cy s d i w).mem.2 (cy s d i w).ο.1 (cy s d i w).holds ((cy s d i w).η.map Rt.e) (cy s d i w).EF:=by
 intro d
 induction d with
 |zero=>
  intro i b n w q p g t;obtain⟨f,rfl⟩:∃f,b=f+1:=⟨b-1,by omega⟩;have:i=s.2.1.length:=by omega
  subst this;simp[tJ,WN (Xj _),Wb,cy]
 |succ d ih=>
  intro i b n w q p g t;obtain⟨f,rfl⟩:∃f,b=f+1:=⟨b-1,by omega⟩;have c:i<s.2.1.length:=by omega
  have u:=Nr (a:=(1,(i:Int),0)) g (by omega) j;have l:s.2.1.getD i pg0=s.2.1[i]:=WB c _;have h:=pk3 g c;rw[l]at h;have m:=jb (a:=(1,(i:Int),0)) g;have r:=WxE (R:=R) (rounds:=rounds) (b1:=b1) (b2:=b2) (b3:=b3) (b4:=b4) (mF:=Wi s.2.1)
   (K0:=λH G v x y z A B C D E=>(tJ N rounds s.2.1 s b1 b2 b3 b4 K0 f (Wj .i64 (i:Int) (1:Int)) v x y z A B C D E)) j c h s.2.1[i].2.length 0 N (n+1) _ (by omega) (by omega) m (by omega)
  have o:=DI (k:=i) s.2.1[i].2.length 0 (n+1) _ m;simp only[tJ,WF c,Wq c,Wa];rw[show((w.now,(w.ω,((w.mem.1,w.mem.2),((w.ο.1,w.ο.2),(w.holds,(w.η.map Rt.e,w.EF)))))):Y_World)=w.e from rfl,u];refine r.trans ?_;simp only[Wl (show i<4611686018427387904 by omega)];rw[cy,l];exact ih (i+1) f _ _ (by omega) (by omega) o (by omega)
theorem Vj(m:w.η.length<=4)(q:1048576<N):LP N w.e=ret (pY w):=by
 unfold LP Ph EZ;have f:w.e.2.2.2.2.2.1=w.η.map Rt.e:=rfl;rw[f];have s:(w.η.map Rt.e).length<=4:=by simpa using m
 have g:=WC (l:=w.η.map Rt.e) (V:=Unit) (R:=Unit×Kk) (lp:=λn j _=>Zo N (w.η.map Rt.e) (λd=>(some ((),(d,())))) (λo p=>(some ((),((-1:Int),())))) n j) (n:=N) (by omega)
  (body:=λj x v k=>bif (x.1 !=8)then some ((),(j,()))else k v) (K:=λ_ v=>some ((),((-1:Int),())))
  (λn i u c=>by
   simp only[Zo,RI,WF c,Wq c,Wu c,Wl (show i<4611686018427387904 by omega),Wa,Xd])
  (λn u=>by simp only[Zo,WN (Xj _),Wb]) ()
 have h:∀(l:List Y_Root) (j:Nat),∃r:Int,cX (λ(j:Int) (x:Y_Root) (v:Unit) (k:Unit->Option Kv)=>bif (x.1 !=8)then some ((),(j,()))else k v) (λ_ v=>some ((),((-1:Int),()))) l j ()=some ((),(r,()))/\(decide (r>=0)= !(l.all λx=>x.1==8)):=λl=>by
  induction l with
  |nil=>intro j;exact⟨-1,rfl,rfl⟩
  |cons x l ih=>
   intro j;rw[cX];cases hx:x.1==8 with
   |true=>
    have:(x.1 !=8)=false:=by rw[bne,hx];rfl
    simp only[this,Wb];obtain⟨r,a,b⟩:=ih (j+1);exact⟨r,a,by rw[b,d6,hx];rfl⟩
   |false=>
    have:(x.1 !=8)=true:=by rw[bne,hx];rfl
    simp only[this,Wa];exact⟨j,rfl,by rw[d6,hx];simp⟩
 obtain⟨r,a,b⟩:=h (w.η.map Rt.e) 0;rw[g.trans a];simp only[Xd,b,Bool.not_not];have:((w.η.map Rt.e).all λx=>x.1==8)=pY w:=by
  rw[List.all_map];congr 1
 rw[this]
theorem Wv7{R}{K0:Int->Bool->Int->Int->Int->Int->List Kb->List Int->List Kb->List Y_Root->List Ko->Option R}(j:1048576<N)(l:s.2.1.length<=4):
  ∀(d r g:Nat) (n) (w),r+d=6000->d<g->WOk s.2.1 n w->n+16*d<=99999->
  tQ N s K0 g (r:Int) w.now w.ω w.mem.1 w.ο.2 w.mem.2 w.ο.1 w.holds (w.η.map Rt.e) w.EF=
  (λv:Wo×Nat=>K0 ((r+v.2:Nat):Int) false v.1.now v.1.ω v.1.mem.1 v.1.ο.2 v.1.mem.2 v.1.ο.1 v.1.holds (v.1.η.map Rt.e) v.1.EF) (cD s d w):=by
 intro d
 induction d with
 |zero=>
  intro r g n w q o h p;obtain⟨f,rfl⟩:∃f,g=f+1:=⟨g-1,by omega⟩;have k:w.η.length<=4:=by rw[h.len];exact l
  simp only[tQ];rw[show((w.now,(w.ω,((w.mem.1,w.mem.2),((w.ο.1,w.ο.2),(w.holds,(w.η.map Rt.e,w.EF)))))):Y_World)=w.e from rfl,Vj k j];have i:decide ((r:Int)<6000)=false:=Wg (by omega);simp only[ret,Xd,i,Wb,cD,c9];cases pY w<;>rfl
 |succ d ih=>
  intro r g n w q o h p;obtain⟨f,rfl⟩:∃f,g=f+1:=⟨g-1,by omega⟩;have k:w.η.length<=4:=by rw[h.len];exact l
  simp only[tQ];rw[show((w.now,(w.ω,((w.mem.1,w.mem.2),((w.ο.1,w.ο.2),(w.holds,(w.η.map Rt.e,w.EF)))))):Y_World)=w.e from rfl,Vj k j];have i:decide ((r:Int)<6000)=true:=Wc (by omega);simp only[ret,Xd,i,Wa,cD];cases ho:pY w with
  |true=>rfl
  |false=>
   simp only[fx,Wa,dL,dO];obtain⟨t,a,b,c⟩:=GK s.2.1.length 0 n w (by omega) h;have m:=Wvr (s:=s) (R:=R) (rounds:=Wj .i64 (r:Int) 1) (b1:=0) (b2:=0) (b3:=0) (b4:=0)
    (K0:=λF G u x y z A B C D E=>(tQ N s K0 f (Wj .i64 (r:Int) (1:Int)) u x y z A B C D E)) j l s.2.1.length 0 N n w (by omega) (by omega) h (by omega)
   refine m.trans ?_;simp only[Wl (show r<4611686018427387904 by omega)];rw[ih (r+1) f t _ (by omega) (by omega) c (by omega)];simp[show r+1+(cD s d (cy s s.2.1.length 0 w)).2=r+((cD s d (cy s s.2.1.length 0 w)).2+1) by omega]
theorem Wvx{R}{rounds}{b1 b2 b3 b4}{K0:Int->Bool->Int->Int->Int->Int->List Kb->List Int->List Kb->List Y_Root->List Ko->Option R}(g:1048576<N)(hk)(o:s.2.1[k].2.length<=3):
  ∀(d j a) (n) (w),j+d=s.2.1[k].2.length->d<a->WOk s.2.1 n w->n+d<=99999->
  yB N rounds (k:Int) s b1 b2 b3 b4 K0 a (j:Int) w.now w.ω w.mem.1 w.ο.2 w.mem.2 w.ο.1 w.holds (w.η.map Rt.e) w.EF=
  K0 (s.2.1[k].2.length:Int) false (da s k d j w).now (da s k d j w).ω (da s k d j w).mem.1 (da s k d j w).ο.2 (da s k d j w).mem.2 (da s k d j w).ο.1 (da s k d j w).holds ((da s k d j w).η.map Rt.e) (da s k d j w).EF:=by
 intro d;have c:Xc s.2.1 (Xb (k:Int)) (([]:List Ka),([]:List Kae))=s.2.1[k]:=Wu hk _
 induction d with
 |zero=>
  intro j a n w i h b l;obtain⟨f,rfl⟩:∃f,a=f+1:=⟨a-1,by omega⟩;have:decide ((j:Int)<Wi s.2.1[k].2)=false:=Wg (by unfold Wi;omega);simp only[yB,Wq hk,Wk,c,this,Wa,Wb,da];rw[show(j:Int)=(s.2.1[k].2.length:Int) by omega]
 |succ d ih=>
  intro j a n w i h b l;obtain⟨f,rfl⟩:∃f,a=f+1:=⟨a-1,by omega⟩;have:decide ((j:Int)<Wi s.2.1[k].2)=true:=Wc (by unfold Wi;omega);have m:u0 N w.e s (2,(k:Int),(j:Int))=ret (eD s w (2,(k:Int),(j:Int))).e:=NJ b (by omega) g;simp only[yB,Wq hk,Wk,c,this,Wa];rw[show((w.now,(w.ω,((w.mem.1,w.mem.2),((w.ο.1,w.ο.2),(w.holds,(w.η.map Rt.e,w.EF)))))):Y_World)=w.e from rfl,m];simp only[ret,Xd,Wl (show j<4611686018427387904 by omega)];exact ih (j+1) f (n+1) _ (by omega) (by omega) (jb b) (by omega)
theorem Wsh{R}{rounds}{b1 b2 b3 b4}{K0:Int->Bool->Int->Int->Int->Int->List Kb->List Int->List Kb->List Y_Root->List Ko->Option R}(j:1048576<N)(F:s.2.1.length<=4):
  ∀(d i b) (n) (w),i+d=s.2.1.length->d<b->WOk s.2.1 n w->n+4*d<=99999->
  tH N rounds s b1 b2 b3 b4 K0 b (i:Int) w.now w.ω w.mem.1 w.ο.2 w.mem.2 w.ο.1 w.holds (w.η.map Rt.e) w.EF=
  K0 (s.2.1.length:Int) false (cy s d i w).now (cy s d i w).ω (cy s d i w).mem.1 (cy s d i w).ο.2 (cy s d i w).mem.2 (cy s d i w).ο.1 (cy s d i w).holds ((cy s d i w).η.map Rt.e) (cy s d i w).EF:=by
 intro d
 induction d with
 |zero=>
  intro i b n w q p g t;obtain⟨f,rfl⟩:∃f,b=f+1:=⟨b-1,by omega⟩;have:i=s.2.1.length:=by omega
  subst this;simp[tH,WN (Xj _),Wb,cy]
 |succ d ih=>
  intro i b n w q p g t;obtain⟨f,rfl⟩:∃f,b=f+1:=⟨b-1,by omega⟩;have c:i<s.2.1.length:=by omega
  have u:u0 N w.e s (1,(i:Int),0)=ret (eD s w (1,(i:Int),0)).e:=NJ g (by omega) j;have l:s.2.1.getD i pg0=s.2.1[i]:=WB c _;have h:=pk3 g c;rw[l]at h;have m:=jb (a:=(1,(i:Int),0)) g;have r:=Wvx (R:=R) (rounds:=rounds) (b1:=b1) (b2:=b2) (b3:=b3) (b4:=b4)
   (K0:=λH G v x y z A B C D E=>(tH N rounds s b1 b2 b3 b4 K0 f (Wj .i64 (i:Int) (1:Int)) v x y z A B C D E)) j c h s.2.1[i].2.length 0 N (n+1) _ (by omega) (by omega) m (by omega)
  have o:=DI (k:=i) s.2.1[i].2.length 0 (n+1) _ m;simp only[tH,WF c,Wa];rw[show((w.now,(w.ω,((w.mem.1,w.mem.2),((w.ο.1,w.ο.2),(w.holds,(w.η.map Rt.e,w.EF)))))):Y_World)=w.e from rfl,u];refine r.trans ?_;simp only[Wl (show i<4611686018427387904 by omega)];rw[cy,l];exact ih (i+1) f _ _ (by omega) (by omega) o (by omega)
theorem Um(f:w.η.length<=4)(g:1048576<N):CQ N w.e=ret (pY w):=by
 unfold CQ;have b:w.e.2.2.2.2.2.1=w.η.map Rt.e:=rfl;have h:(w.η.map Rt.e).length<=4:=by simpa using f
 have c:=WC (l:=w.η.map Rt.e) (V:=Unit) (R:=Unit×Ke) (lp:=λn j _=>yI N w.e (some ((),(false,()))) (λm o=>(some ((),(true,())))) n j) (n:=N) (by omega)
  (body:=λj x v k=>bif (x.1 !=8)then some ((),(false,()))else k v) (K:=λ_ v=>some ((),(true,())))
  (λn i u a=>by simp only[yI,b,WF a,Wq a,Wu a,Wl (show i<4611686018427387904 by omega),Wa])
  (λn u=>by simp only[yI,b,WN (Xj _),Wb]) ()
 have d:∀(l:List Y_Root) (j:Nat),cX (λ(j:Int) (x:Y_Root) (v:Unit) (k:Unit->Option Kq)=>bif (x.1 !=8)then some ((),(false,()))else k v) (λ_ v=>some ((),(true,()))) l j ()=some ((),(l.all λx=>x.1==8,())):=λl=>by
  induction l with
  |nil=>intro j;rfl
  |cons x l ih=>
   intro j;rw[cX,d6];cases hx:x.1==8 with
   |true=>
    have:(x.1 !=8)=false:=by rw[bne,hx];rfl
    simp only[this,Wb,eI];exact ih (j+1)
   |false=>
    have:(x.1 !=8)=true:=by rw[bne,hx];rfl
    simp[this,Wa,qq]
 refine c.trans ((d (w.η.map Rt.e) 0).trans ?_);have:((w.η.map Rt.e).all λx=>x.1==8)=pY w:=by
  rw[List.all_map];congr 1
 rw[this]
theorem WtL{R}{K0:Int->Bool->Int->Int->Int->Int->List Kb->List Int->List Kb->List Y_Root->List Ko->Option R}(j:1048576<N)(l:s.2.1.length<=4):
  ∀(d r g:Nat) (n) (w),r+d=6000->d<g->WOk s.2.1 n w->n+16*d<=99999->
  tI N s K0 g (r:Int) w.now w.ω w.mem.1 w.ο.2 w.mem.2 w.ο.1 w.holds (w.η.map Rt.e) w.EF=
  (λv:Wo×Nat=>K0 ((r+v.2:Nat):Int) false v.1.now v.1.ω v.1.mem.1 v.1.ο.2 v.1.mem.2 v.1.ο.1 v.1.holds (v.1.η.map Rt.e) v.1.EF) (cD s d w):=by
 intro d
 induction d with
 |zero=>
  intro r g n w q o h p;obtain⟨f,rfl⟩:∃f,g=f+1:=⟨g-1,by omega⟩;have k:w.η.length<=4:=by rw[h.len];exact l
  simp only[tI];rw[show((w.now,(w.ω,((w.mem.1,w.mem.2),((w.ο.1,w.ο.2),(w.holds,(w.η.map Rt.e,w.EF)))))):Y_World)=w.e from rfl,Um k j];have i:decide ((r:Int)<6000)=false:=Wg (by omega);simp only[ret,Xd,i,Wb,cD,c9];cases pY w<;>rfl
 |succ d ih=>
  intro r g n w q o h p;obtain⟨f,rfl⟩:∃f,g=f+1:=⟨g-1,by omega⟩;have k:w.η.length<=4:=by rw[h.len];exact l
  simp only[tI];rw[show((w.now,(w.ω,((w.mem.1,w.mem.2),((w.ο.1,w.ο.2),(w.holds,(w.η.map Rt.e,w.EF)))))):Y_World)=w.e from rfl,Um k j];have i:decide ((r:Int)<6000)=true:=Wc (by omega);simp only[ret,Xd,i,Wa,cD];cases ho:pY w with
  |true=>rfl
  |false=>
   simp only[fx,Wa,dL,dO];obtain⟨t,a,b,c⟩:=GK s.2.1.length 0 n w (by omega) h;have m:=Wsh (s:=s) (R:=R) (rounds:=(r:Int)) (b1:=0) (b2:=0) (b3:=0) (b4:=0)
    (K0:=λF G u x y z A B C D E=>(tI N s K0 f (Wj .i64 (r:Int) (1:Int)) u x y z A B C D E)) j l s.2.1.length 0 N n w (by omega) (by omega) h (by omega)
   refine m.trans ?_;simp only[Wl (show r<4611686018427387904 by omega)];rw[ih (r+1) f t _ (by omega) (by omega) c (by omega)];simp[show r+1+(cD s d (cy s s.2.1.length 0 w)).2=r+((cD s d (cy s s.2.1.length 0 w)).2+1) by omega]
noncomputable def dr(s:Sc):Y_World×Int:=if cI s=true then((cD s 6000 (ea s)).1.e,((cD s 6000 (ea s)).2:Int))else(d_World,0)
theorem vk(b:SB s)(a:1048576<N):lj N s=some ((),((dr s).1,((dr s).2,()))):=by
 unfold lj;rw[WR b a,zP b a];unfold dr;cases aY:cI s with
 |false=>rfl
 |true=>
  obtain⟨n,o,p,q⟩:=rS aY;have d:=GY aY;have:=Wv7 (s:=s) (N:=N) (K0:=λc r e f g h i j k l m=>(some ((),((e,(f,((g,i),((j,h),(k,(l,m)))))),(c,()))):Option (Unit×(Y_World×Kk)))) a (by omega) 6000 0 N _ (ea s) (by omega) (by omega) d (by omega);refine this.trans ?_;simp only[cb];rfl
theorem vf(d:SB s)(a:1048576<N):CN N s=some ((),((dr s).1,((dr s).2,()))):=by
 unfold CN;rw[pq d a];unfold dr;cases aY:cI s with
 |false=>
  obtain⟨N,rfl⟩:∃m,N=m+1:=⟨N-1,by omega⟩;rfl
 |true=>
  obtain⟨o,p,q,r⟩:=rS aY;have c:=GY aY;have:=WtL (s:=s) (N:=N) (K0:=λb t e f g h i j k l n=>(some ((),((e,(f,((g,i),((j,h),(k,(l,n)))))),(b,()))):Option (Unit×(Y_World×Kk)))) a (by omega) 6000 0 N _ (ea s) (by omega) (by omega) c (by omega);refine this.trans ?_;simp only[cb];rfl
theorem VO:∀(d j) (n) (w),WOk s.2.1 n w->WZ w->WZ (da s k d j w)
 |0,_,_,_,_,h=>h
 |d+1,j,n,w,h,hz=>VO d (j+1) (n+1) _ (jb h) (NH h hz)
theorem UO:∀(d i) (n) (w),i+d=s.2.1.length->WOk s.2.1 n w->WZ w->WZ (cy s d i w)
 |0,_,_,_,_,_,h=>h
 |d+1,i,n,w,a,h,hz=>UO d (i+1) _ _ (by omega) (DI _ _ _ _ (jb h)) (VO _ _ _ _ (jb h) (NH h hz))
theorem UV(g:s.2.1.length<=4):∀(d:Nat) (n) (w),WOk s.2.1 n w->WZ w->∃f,f<=n+16*d/\WOk s.2.1 f (cD s d w).1/\WZ (cD s d w).1
 |0,n,w,h,e=>⟨n,by omega,h,e⟩
 |d+1,n,w,h,e=>by
  unfold cD;split
  .exact⟨n,by omega,h,e⟩
  .obtain⟨i,a,b,c⟩:=GK s.2.1.length 0 n w (by omega) h;obtain⟨j,p,q,r⟩:=UV g d i _ c (UO _ _ _ _ (by omega) h e);exact⟨j,by omega,q,r⟩
end
section
section
section
end
section
variable{w:Wo}{a b c k:Nat}
def rw'(w:Wo)(k:Nat):Rt:=w.η.getD k rt0
def noW(x:Rt):Int:=if c0 x=x.rv then 1 else 0
def cfR(w:Wo)(a b:Nat):Int:=
 if c0 (rw' w a)≠c0 (rw' w b)then c0 (rw' w a) -c0 (rw' w b)else
 if noW (rw' w a)≠noW (rw' w b)then noW (rw' w a) -noW (rw' w b)else
 if(rw' w a).EO≠(rw' w b).EO then(rw' w a).EO-(rw' w b).EO else(a:Int) -b
theorem rP:cfR w a b<0↔(c0 (rw' w a)<c0 (rw' w b)\/c0 (rw' w a)=c0 (rw' w b)/\(noW (rw' w a)<noW (rw' w b)\/noW (rw' w a)=noW (rw' w b)/\((rw' w a).EO<(rw' w b).EO\/(rw' w a).EO=(rw' w b).EO/\a<b))):=by
 unfold cfR;generalize c0 (rw' w a)=s;generalize c0 (rw' w b)=d;generalize noW (rw' w a)=n;generalize noW (rw' w b)=c;split
 .omega
 split
 .omega
 split<;>omega
theorem oa:Lin (cfR w):=⟨λx=>by rw[rP];omega,λx y z=>by simp only[rP];omega,λx y z=>by simp only[rP];omega⟩
theorem apR:Ap (cfR w) a b↔a≠b:=by
 unfold Ap;rw[rP,rP];constructor
 .intro h e;subst e;omega
 .omega
def slR(w:Wo):List Nat:=(cK w.η.length).filter λk=>stl (rw' w k)
def rks(w:Wo):List Nat:=(slR w).foldr (λk l=>ch (cfR w) l k) []
theorem XX:∀{l:List Nat},l.Nodup->Ris (cfR w) (l.foldr (λk l=>ch (cfR w) l k) [])/\∀k,k∈l.foldr (λk l=>ch (cfR w) l k) []↔k∈l
 | [],_=>⟨List.Pairwise.nil,λk=>Iff.rfl⟩
 |a::l,h=>by
  obtain⟨c,d⟩:=List.nodup_cons.1 h;obtain⟨b,f⟩:=XX d;refine⟨o9 oa b,λk=>?_⟩;rw[List.foldr_cons,pk oa b,f k,Xq,apR];refine⟨λz=>z.imp id And.left,λz=>z.imp id λy=>⟨y,λe=>c (by rw[←e];exact y)⟩⟩
theorem DM:k∈slR w↔k<w.η.length/\stl (rw' w k)=true:=by
 unfold slR;rw[List.mem_filter,List.mem_range]
theorem Av:Ris (cfR w) (rks w)/\∀k,k∈rks w↔k<w.η.length/\stl (rw' w k)=true:=by
 have:=XX (w:=w) (l:=slR w) (List.nodup_range.filter _);exact⟨this.1,λk=>(this.2 k).trans DM⟩
theorem WuC:(rks w).Nodup:=Av.1.imp λ{a b} h e=>by subst e;exact oa.irr _ h
end
end
section
section
variable{w:Wo}{k:Nat}
theorem Wzq(hk):rw' w k=w.η[k]:=WB hk _
end
end
section
variable{N:Nat}{s t:Sc}{w v:Wo}{a:Ac}{n:Int}{x y:Rt}
theorem RT:FD N x.e=ret (stl x):=by
 obtain⟨l,A,B,C,D,E,F,m,G,y,n,o,p,q,r,s,t,j,z,u,v,w⟩:=rtP x;unfold FD stl;simp only[Wk,l,m,j,show x.cm.e.2.2.1=x.cm.ζ from rfl,Wv,Wre];have k:∀a b:Int,(a==b)=decide (a=b):=λa b=>by by_cases h:a=b<;>simp[h]
 rw[k];by_cases i:x.ζ=8
 .rw[Wf i,Wc i];rfl
 .rw[We i,Wg i];by_cases c:x.ζ=6
  .rw[Wf c,Wf c,Wc c,Wg (show¬x.ζ=5 by omega)];simp
  .rw[We c,Wg c];by_cases g:x.ζ=7
   .rw[Wf g,Wc g,Wg (show¬x.ζ=5 by omega)];simp
   .rw[We g,Wg g];by_cases f:x.ζ=5
    .rw[Wf f,Wc f];by_cases d:x.cm.ζ=4
     .rw[Wf d,Wc d];simp
     .rw[We d,Wg d];simp
    .rw[We f,Wg f];simp
theorem Wmg:oH N x.e=ret (c0 x):=by
 unfold oH c0;rw[RT];simp only[ret,Xd,Wv,show x.e.1=x.ζ from rfl];cases stl x with
 |false=>rfl
 |true=>
  simp only[Xn,Wb,W1];split<;>rfl
end
section
section
variable{N:Nat}{w:Wo}{a b k:Nat}{x:Rt}{m:Mm}{l:List Int}
theorem Aq(a:k<w.η.length):Xc (w.η.map Rt.e) (Xb (k:Int)) d_Root=Rt.e (rw' w k):=by
 rw[Xk,WB (show k<(w.η.map Rt.e).length by simpa using a),qn,Wzq a]
theorem HY(a:k<w.η.length):inb (k:Int) (w.η.map Rt.e).length=true:=Wq (by simpa using a)
theorem WsO(m:a<w.η.length)(o:b<w.η.length):J3 N w.e (a:Int) (b:Int)=ret (decide (cfR w a b<0)):=by
 unfold J3;have u:P5 w.e=w.η.map Rt.e:=rfl;have t:∀x:Rt,P4 x.e=x.rv:=λ_=>rfl;have A:∀x:Rt,P10 x.e=x.EO:=λ_=>rfl;simp only[Wk,u,HY m,HY o,Wa,Aq m,Aq o,Wmg,ret,Xd,t,A];have q:∀x:Rt,(c0 x==x.rv)=decide (noW x=1):=λx=>by
  unfold noW;by_cases h:c0 x=x.rv
  .rw[Wf h,h];simp
  .rw[We h,show(c0 x==x.rv)=false by simpa using h];rfl
 have i:∀x:Rt,noW x=0\/noW x=1:=λx=>by unfold noW;split<;>simp
 rw[q,q];have c:=rP (w:=w) (a:=a) (b:=b);have v:=i (rw' w a);have y:=i (rw' w b);generalize c0 (rw' w a)=s at*;generalize c0 (rw' w b)=g at*;generalize noW (rw' w a)=n at*;generalize noW (rw' w b)=d at*;generalize (rw' w a).EO=e at*;generalize (rw' w b).EO=f at*;have fin:∀p:Bool,(p=true↔cfR w a b<0)->(some ((),p,()):Option Kq)=some ((),(decide (cfR w a b<0),())):=λp r=>by
  have:p=decide (cfR w a b<0):=by
   cases p
   .symm;rw[Wn];intro z;exact Wy (r.2 z) (by simp)
   .symm;rw[Wh];exact r.1 rfl
  rw[this]
 by_cases j:s=g
 .rw[show(s !=g)=false by simpa using j,Wb];by_cases k:n=d
  .rw[show(!beq (decide (n=1)) (decide (d=1)))=false by rw[k];cases decide (d=1)<;>rfl,Wb];by_cases l:e=f
   .rw[show(e !=f)=false by simpa using l,Wb];exact fin _ (by rw[Wh,c];omega)
   .rw[show(e !=f)=true by simpa using l,Wa];exact fin _ (by rw[Wh,c];omega)
  .rw[show(!beq (decide (n=1)) (decide (d=1)))=true by
    rcases v with rfl|rfl<;>rcases y with rfl|rfl<;>first|rfl|exact Wy rfl k,Wa]
   exact fin _ (by rw[Wh,c];omega)
 .rw[show(s !=g)=true by simpa using j,Wa];exact fin _ (by rw[Wh,c];omega)
end
end
section
section
variable{N:Nat}{w:Wo}{a b k:Nat}{R:Type}
def lU(w:Wo)(a:Nat):Nat:=(slR w).countP λb=>decide (cfR w b a<0)
theorem Wt6:(slR w).Nodup:=List.nodup_range.filter _
theorem DC:(slR w).Perm (rks w):=(List.perm_ext_iff_of_nodup Wt6 WuC).2 λk=>DM.trans (Av.2 k).symm
theorem Hm:(rks w).length=(slR w).length:=DC.length_eq.symm
theorem Nn{m}(h):lU w (rks w)[m]=m:=by
 unfold lU;rw[DC.countP_eq];have c:=List.pairwise_iff_getElem.1 (Av (w:=w)).1;have g:∀u,(rks w).countP (λb=>decide (cfR w b u<0))=((rks w).take m++(rks w).drop m).countP (λb=>decide (cfR w b u<0)):=λu=>by rw[List.take_append_drop]
 rw[g];rw[A3,List.countP_eq_length.2 λb a=>?_,List.countP_eq_zero.2 λb a=>?_,ca]
 .omega
 .obtain⟨i,f,e⟩:=List.mem_drop_iff_getElem.1 a;rw[←e,Wh];intro z;by_cases d:i=0
  .subst d;exact oa.irr _ z
  .exact oa.irr _ (oa.tr _ _ _ (c m (m+i) h (by omega) (by omega)) z)
 .obtain⟨i,f,e⟩:=List.mem_take_iff_getElem.1 a;rw[←e,Wh];exact c i m (by omega) h (by omega)
theorem Vy{c:Nat->Nat}:∀(l:List Nat) (o:List Int),(∀a∈l,∀b∈l,c a=c b->a=b)->(∀a∈l,c a<o.length)->(l.foldl (λo a=>o.set (c a) (a:Int)) o).length=o.length/\∀a∈l,(l.foldl (λo a=>o.set (c a) (a:Int)) o)[c a]?=some (a:Int)
 | [],o,_,_=>⟨rfl,λa d=>by cases d⟩
 |x::l,o,h,hl=>by
  have g:∀(m:List Nat) (o:List Int) (p:Nat),(∀b∈m,c b≠p)->(m.foldl (λo a=>o.set (c a) (a:Int)) o)[p]?=o[p]?:=λm=>by
   induction m with
   |nil=>intro o p _;rfl
   |cons y m ih=>
    intro o p i;rw[jS,ih _ _ λb f=>i b (Xg _ f),List.getElem?_set_ne (i y (Xl ..))]
  obtain⟨j,k⟩:=Vy l (o.set (c x) (x:Int)) (λa d b f=>h a (Xg _ d) b (Xg _ f)) λa d=>by rw[cY];exact hl a (Xg _ d)
  refine⟨by rw[jS,j,cY],λa d=>?_⟩;rw[jS];by_cases e:a∈l
  .exact k a e
  .rcases Xq.1 d with rfl|d
   .rw[g l _ _ λb f z=>e (by rw[←h b (Xg _ f) a (Xl ..) z];exact f)];rw[List.getElem?_set_self (hl a (Xl ..))]
   .exact Wy d e
theorem Wvn:(slR w).foldl (λo a=>o.set (lU w a) (a:Int)) (Xp (slR w).length 0)=(rks w).map λk:Nat=>(k:Int):=by
 have g:∀a,a∈slR w->∃m,∃h:m<(rks w).length,(rks w)[m]=a/\lU w a=m:=λa d=>by
  obtain⟨m,f,e⟩:=md ((DC (w:=w)).mem_iff.1 d);exact⟨m,f,e,by rw[←e,Nn f]⟩
 obtain⟨l,q⟩:=Vy (c:=lU w) (slR w) (Xp (slR w).length 0) (λa d b s e=>by
  obtain⟨m,f,n,j⟩:=g a d;obtain⟨m',u,p,t⟩:=g b s;have:m=m':=by omega
  subst this;exact n.symm.trans p) λa d=>by
  obtain⟨m,f,_,j⟩:=g a d;rw[A4,j,←Hm];exact f
 rw[A4]at l;refine List.ext_getElem (by rw[l,Xu,Hm]) λm r i=>?_;rw[Xu]at i;have:=q (rks w)[m] ((DC (w:=w)).mem_iff.2 (Xt i));rw[Nn i,List.getElem?_eq_getElem r]at this;rw[qn];exact Option.some.inj this
theorem YR(m:w.η.length<=4){K0:Int->Bool->List Int->Option R}:∀(d j a),j+d=w.η.length->d<a->tz N w.e K0 a (j:Int) (((cK j).filter λk=>stl (rw' w k)).map λk:Nat=>(k:Int))=K0 (w.η.length:Int) false ((slR w).map λk:Nat=>(k:Int))
 |0,j,a,l,hf=>by
  obtain⟨g,rfl⟩:∃g,a=g+1:=⟨a-1,by omega⟩;have:j=w.η.length:=by omega
  subst this;have c:w.e.2.2.2.2.2.1=w.η.map Rt.e:=rfl;have i:w.η.length=(w.η.map Rt.e).length:=by simp
  rw[tz,c]
  conv=>lhs;rw[i]
  rw[WN (Xj _),Wb,←i];rfl
 |d+1,j,a,l,hf=>by
  obtain⟨g,rfl⟩:∃g,a=g+1:=⟨a-1,by omega⟩;have f:j<w.η.length:=by omega
  have c:w.e.2.2.2.2.2.1=w.η.map Rt.e:=rfl;have h:j<(w.η.map Rt.e).length:=by simpa using f
  have b:=YR m (K0:=K0) d (j+1) g (by omega) (by omega);rw[O4,qk,Xy]at b;have n:Wx ((Xa (((cK j).filter λk=>stl (rw' w k)).map λk:Nat=>(k:Int)))+(Xa [(j:Int)]))=true:=Wp (by
   have:=A0 (λk=>stl (rw' w k)) (cK j);simp at this⊢;omega)
  rw[tz,c,WF h,Wq h,Aq f,RT];simp only[Wa,ret,Xd,n,Wl (show j<4611686018427387904 by omega)];cases hs:stl (rw' w j)with
  |true=>
   simp only[eH,hs,Ig,W1,bn,eL]at b;exact b
  |false=>
   simp only[eH,hs,Ig]at b;rw[We (by simp),eL,iN]at b;exact b
theorem Yv{j}(h:j<(slR w).length):(slR w)[j]<w.η.length:=(DM.1 (Xt h)).1
theorem DS(a:w.η.length<=4):(slR w).length<=4:=by
 have:=A0 (λk=>stl (rw' w k)) (cK w.η.length);unfold slR;simp at this⊢;omega
theorem YC(o:w.η.length<=4){i}(hi:i<(slR w).length){cp}{K0:Int->Int->Bool->Option R}:∀(d j a),j+d=(slR w).length->d<a->qR N (i:Int) w.e ((slR w).map λk:Nat=>(k:Int)) cp K0 a ((((slR w).take j).countP λb=>decide (cfR w b (slR w)[i]<0):Nat):Int) (j:Int)=K0 (lU w (slR w)[i]:Int) ((slR w).length:Int) false
 |0,j,a,s,hf=>by
  obtain⟨g,rfl⟩:∃g,a=g+1:=⟨a-1,by omega⟩;have:j=(slR w).length:=by omega
  subst this;have n:(slR w).length=((slR w).map λk:Nat=>(k:Int)).length:=by simp
  rw[qR,kQ]
  conv=>lhs;rw[n]
  rw[WN (Xj _),Wb,←n];rfl
 |d+1,j,a,s,hf=>by
  obtain⟨g,rfl⟩:∃g,a=g+1:=⟨a-1,by omega⟩;have h:j<(slR w).length:=by omega
  have m:j<((slR w).map λk:Nat=>(k:Int)).length:=by simpa using h
  have q:i<((slR w).map λk:Nat=>(k:Int)).length:=by simpa using hi
  have u:=DS o;have c:=YC o hi (cp:=cp) (K0:=K0) d (j+1) g (by omega) (by omega);rw[qh h,A3,List.countP_singleton]at c;have r:=AY (p:=λb=>decide (cfR w b (slR w)[i]<0)) (l:=(slR w).take j);rw[ca]at r;rw[qR,WF m,Wa];by_cases t:j=i
  .subst t;rw[show((j:Int) !=(j:Int))=false by simp,Wb,Wl (by omega)];rw[We (by rw[Wh];exact oa.irr _)]at c;exact c
  .rw[show((j:Int) !=(i:Int))=true by simp;omega,Wa,Wq m,Wq q,Wu m,Wu q,qn,qn,WsO (Yv h) (Yv hi)];simp only[Wa,ret,Xd,Wl (show j<4611686018427387904 by omega)];by_cases f:cfR w (slR w)[j] (slR w)[i]<0
   .rw[Wf (by rw[Wh];exact f)]at c;rw[Wc f,Wa,Wl (by omega)];exact c
   .rw[We (by rw[Wh];exact f)]at c;rw[Wg f,Wb];exact c
theorem Yt(t:1048576<N)(i:w.η.length<=4){K0:Int->Bool->List Int->Option R}:∀(d j b),j+d=(slR w).length->d<b->qT N w.e ((slR w).map λk:Nat=>(k:Int)) K0 b (j:Int) (((slR w).take j).foldl (λo a=>o.set (lU w a) (a:Int)) (Xp (slR w).length 0))=K0 ((slR w).length:Int) false ((rks w).map λk:Nat=>(k:Int))
 |0,j,b,u,hf=>by
  obtain⟨g,rfl⟩:∃g,b=g+1:=⟨b-1,by omega⟩;have:j=(slR w).length:=by omega
  subst this;have l:(slR w).length=((slR w).map λk:Nat=>(k:Int)).length:=by simp
  rw[qT,kQ,Wvn]
  conv=>lhs;rw[l]
  rw[WN (Xj _),Wb,←l]
 |d+1,j,b,u,hf=>by
  obtain⟨g,rfl⟩:∃g,b=g+1:=⟨b-1,by omega⟩;have c:j<(slR w).length:=by omega
  have h:j<((slR w).map λk:Nat=>(k:Int)).length:=by simpa using c
  have x:=DS i;have f:=Yt t i (K0:=K0) d (j+1) g (by omega) (by omega);rw[qh c,List.foldl_append,jS,O6]at f;have r:∀(m:List Nat) (o:List Int),(m.foldl (λo a=>o.set (lU w a) (a:Int)) o).length=o.length:=λm=>by
   induction m with
   |nil=>intro o;rfl
   |cons a m f=>intro o;rw[jS,f,cY]
  have q:lU w (slR w)[j]<(slR w).length:=by
   obtain⟨m,n,e⟩:=md ((DC (w:=w)).mem_iff.1 (Xt c));rw[←e,Nn n,←Hm];exact n
  have s:=YC (N:=N) i c (cp:=((slR w).take j).foldl (λo a=>o.set (lU w a) (a:Int)) (Xp (slR w).length 0)) (K0:=λp v y=>
  (bif inb (j:Int) (Xa ((slR w).map λk:Nat=>(k:Int)))then
 (bif inb p (Xa (((slR w).take j).foldl (λo a=>o.set (lU w a) (a:Int)) (Xp (slR w).length 0)))then
 (qT N w.e ((slR w).map λk:Nat=>(k:Int)) K0 g (Wj .i64 (j:Int) (1:Int)) (Xf (((slR w).take j).foldl (λo a=>o.set (lU w a) (a:Int)) (Xp (slR w).length 0)) (Xb p) (Xc ((slR w).map λk:Nat=>(k:Int)) (Xb (j:Int)) (0:Int))))else none)else none)) (slR w).length 0 N (by omega) (by omega)
  rw[qT,WF h,Wa];refine Eq.trans s ?_;simp only[Wq h,Wa,WH,r,A4,Wc q,Xk,Wl (show j<4611686018427387904 by omega)];rw[WB h,qn];exact f
theorem Wux(d:1048576<N)(b:w.η.length<=4):FV N w.e=ret ((rks w).map λk:Nat=>(k:Int)):=by
 have c:=YR (N:=N) b (K0:=λh g a=>
  (bif ((decide ((0:Int)<=(Wi a)))&&(decide ((Wi a)<=(Wi a))))&&(Wx (Xb (Wi a)))then
 (qT N w.e a
 (λl j f=>
  (some ((),(f,()))))
 N (0:Int) (Xp (Xb (Wi a)) (0:Int)))else none)) w.η.length 0 N (by omega) (by omega)
 refine Eq.trans c ?_;have i:=DS b;rw[XT _ (by simp;omega),Wa,TC,Xu];exact Yt d b (slR w).length 0 N (by omega) (by omega)
end
end
end
section
section
variable{N:Nat}{w:Wo}{x y:Rt}{R:Type}
theorem RV:FL N x.e=ret (stl x):=by
 unfold FL stl;have d:P20 x.e=x.cm.e:=rfl;have j:P7 x.e=x.EN:=rfl;have i:x.e.1=x.ζ:=rfl;have f:∀a b:Int,(a==b)=decide (a=b):=λa b=>by by_cases h:a=b<;>simp[h]
 have g:∀a b:Int,(a !=b)=decide (a≠b):=λa b=>by by_cases h:a=b<;>simp[h]
 simp only[Wk,i,j,d,show x.cm.e.2.2.1=x.cm.ζ from rfl,f,g];by_cases c:x.ζ=8
 .simp[c,ret]
 .by_cases h5:x.ζ=5
  .by_cases c4:x.cm.ζ=4<;>simp[h5,c4,ret]
  .by_cases h6:x.ζ=6
   .simp[h6,ret]
   .by_cases h7:x.ζ=7<;>simp[h5,h6,h7,c,ret]
theorem R9:FM N x.e=ret (c0 x):=by
 unfold FM c0;rw[RV];simp only[ret,Xd,Wv,show x.e.1=x.ζ from rfl];cases stl x with
 |false=>rfl
 |true=>
  simp only[Xn,Wb,W1];split<;>rfl
def wq(x y:Rt):Int:=
 if c0 x<c0 y then-1 else if c0 x>c0 y then 1 else
 if c0 x≠x.rv/\c0 y=y.rv then-1 else if c0 x=x.rv/\c0 y≠y.rv then 1 else
 if x.EO<y.EO then-1 else if x.EO>y.EO then 1 else 0
theorem WvR:K7 N x.e y.e=ret (wq x y):=by
 unfold K7;rw[R9,R9];have a:∀z:Rt,P10 z.e=z.EO:=λ_=>rfl;have b:∀z:Rt,P4 z.e=z.rv:=λ_=>rfl;simp only[ret,Xd,Wk,a,b];unfold wq
 grind
theorem XB{a b}(h:b<a):wq (rw' w a) (rw' w b)<0↔cfR w a b<0:=by
 rw[rP];unfold wq noW
 repeat' split
 all_goals(first|omega|(simp_all;omega)|simp_all)
def eE(c:Nat->Nat->Bool)(x:Nat):List Nat->List Nat
 | []=>[x]
 |y::q=>if c x y=true then y::eE c x q else x::y::q
def cR(w:Wo)(a b:Nat):Bool:=decide (wq (rw' w a) (rw' w b)<0)
theorem M7{c}{x}:∀{q},(eE c x q).length=q.length+1
 | []=>rfl
 |y::q=>by
  rw[eE];split
  .rw[Xs,M7,Xs]
  .simp
theorem Dz{c}{x z}:∀{q},z∈eE c x q↔z=x\/z∈q
 | []=>by simp[eE]
 |y::q=>by
  rw[eE];split
  .rw[Xq,Dz,Xq]
   grind
  .simp
theorem V7{x}:∀{q},q.Pairwise (λa b=>cfR w b a<0)->(∀y∈q,y<x)->(eE (cR w) x q).Pairwise (λa b=>cfR w b a<0)
 | [],_,_=>by simp[eE]
 |y::q,h,hl=>by
  obtain⟨f,i⟩:=Xw.1 h;have e:=hl y (Xl ..);rw[eE];split
  .rename_i d;have d:=(XB e).1 (WV d);refine Xw.2 ⟨λz c=>?_,V7 i λz c=>hl z (Xg _ c)⟩;rcases Dz.1 c with rfl|c
   .exact d
   .exact f z c
  .rename_i d;have d:¬cfR w x y<0:=λz=>d (Wc ((XB e).2 z));have g:cfR w y x<0:=by
    rw[rP]at d⊢;omega
   refine Xw.2 ⟨λz c=>?_,h⟩;rcases Xq.1 c with rfl|c
   .exact g
   .exact oa.tr _ _ _ (f z c) g
theorem Ve:∀{l q:List Nat},q.Pairwise (λa b=>cfR w b a<0)->(∀y∈q,∀z∈l,y<z)->l.Pairwise (· < ·)->(l.foldl (λq x=>eE (cR w) x q) q).Pairwise (λa b=>cfR w b a<0)/\∀z,z∈l.foldl (λq x=>eE (cR w) x q) q↔z∈q\/z∈l
 | [],q,h,_,_=>⟨h,λz=>by simp⟩
 |x::l,q,h,d,hl=>by
  obtain⟨f,g⟩:=Xw.1 hl;obtain⟨a,b⟩:=Ve (l:=l) (V7 h λy c=>d y c x (Xl ..)) (λy c z e=>by
   rcases Dz.1 c with rfl|c
   .exact f z e
   .exact d y c z (Xg _ e)) g
  refine⟨a,λz=>?_⟩;rw[jS,b z,Dz,Xq]
  grind
theorem Wuz:((slR w).foldl (λq x=>eE (cR w) x q) []).reverse=rks w:=by
 have e:(slR w).Pairwise (· < ·):=List.Pairwise.filter _ List.pairwise_lt_range;obtain⟨a,b⟩:=Ve (w:=w) (l:=slR w) (q:=[]) List.Pairwise.nil (λy i=>by cases i) e;have d:=List.pairwise_reverse.2 a;have c:((slR w).foldl (λq x=>eE (cR w) x q) []).reverse.Pairwise (Ap (cfR w)):=d.imp λh=>.inl h;have f:=DX oa d c λx=>Iff.rfl;have g:=DX oa (Av (w:=w)).1 c λx=>by
  rw[List.mem_reverse,b x,Av.2 x,←DM];simp
 exact f.symm.trans g
theorem Wrj{a b}(c:a<w.η.length)(d:b<w.η.length):K8 N (a:Int) (b:Int) w.e=some ((w.e,()),(wq (rw' w a) (rw' w b),())):=by
 have f:w.e.2.2.2.2.2.1=w.η.map Rt.e:=rfl;unfold K8;rw[f,HY c,HY d,Aq c,Aq d,WvR];rfl
abbrev ci(l:List Nat):List Int:=l.map λk:Nat=>(k:Int)
theorem ZR{i b}(K0:Int->Bool->List Int->Y_World->Option R):∀(q) (x) (S) (a),q.length<a->q.length+S.length<=1000->x<w.η.length->(∀y∈q,y<w.η.length)->
  ∃j t,Z1 N 0 b i K0 a (q.length:Int) (ci (q.reverse++x::S)) w.e=K0 j t (ci ((eE (cR w) x q).reverse++S)) w.e
 | [],x,S,a,f,h,d,h4=>by
  obtain⟨g,rfl⟩:∃g,a=g+1:=⟨a-1,by omega⟩;exact⟨0,false,rfl⟩
 |y::q,x,S,a,f,h,d,h4=>by
  obtain⟨g,rfl⟩:∃g,a=g+1:=⟨a-1,by omega⟩;simp only[Xs]at f h;have l:(y::q).reverse++x::S=q.reverse++y::x::S:=by simp
  have p:(q.reverse++y::x::S).length=q.length+2+S.length:=by simp;omega
  have u:(ci (q.reverse++y::x::S)).length=q.length+2+S.length:=by rw[Xu,p]
  have n:Xc (ci (q.reverse++y::x::S)) (Xb ((q.length+1:Nat):Int)) 0=(x:Int):=by
   simp[Xgi]
  have o:Xc (ci (q.reverse++y::x::S)) (Xb (q.length:Int)) 0=(y:Int):=by
   simp[Xgi]
  have m:Wz .i64 ((q.length+1:Nat):Int) 1=(q.length:Int):=by rw[WJ (by unfold I64;omega)];omega
  have s:inb ((q.length+1:Nat):Int) (ci (q.reverse++y::x::S)).length=true:=Wq (by omega);have k:inb (q.length:Int) (ci (q.reverse++y::x::S)).length=true:=Wq (by omega);rw[l,Xs,Z1,Wc (by omega)];simp only[Wk,Wa,s,m,k,n,o,Wrj d (h4 y (by simp)),Xd];by_cases c:wq (rw' w x) (rw' w y)<0
  .have s1:Xf (Xf (ci (q.reverse++y::x::S)) (Xb ((q.length+1:Nat):Int)) (y:Int)) (Xb (q.length:Int)) (x:Int)=ci (q.reverse++x::y::S):=by
    simp[List.set_append_right]
   rw[Wc c,Wa,cY,k,Wa,s1];obtain⟨j,t,e⟩:=ZR (i:=i) (b:=b) K0 q x (y::S) g (by omega) (by simp;omega) d λz r=>h4 z (by simp[r]);refine⟨j,t,e.trans ?_⟩;rw[eE,Wf (show cR w x y=true from Wc c)];simp
  .rw[Wg c,Wb];refine⟨((q.length+1:Nat):Int),false,?_⟩;rw[eE,We (show¬cR w x y=true fromλz=>c (WV z))];simp
theorem ZT(m:1048576<N)(K0:Int->Bool->List Int->Y_World->Option R):∀(l q) (a),l.length<a->q.length+l.length<=1000->(∀y∈q,y<w.η.length)->(∀y∈l,y<w.η.length)->
  ∃i t,Zn N 0 ((q.length+l.length:Nat):Int) K0 a (q.length:Int) (ci (q.reverse++l)) w.e=K0 i t (ci (l.foldl (λq x=>eE (cR w) x q) q).reverse) w.e
 | [],q,a,h,k,d,h4=>by
  obtain⟨g,rfl⟩:∃g,a=g+1:=⟨a-1,by omega⟩;refine⟨(q.length:Int),false,?_⟩;rw[Zn,Wg (by simp),Wb,iN];rfl
 |x::l,q,a,h,k,d,h4=>by
  obtain⟨g,rfl⟩:∃g,a=g+1:=⟨a-1,by omega⟩;simp only[Xs]at h k;rw[Zn,Wc (by simp;omega),Wa];obtain⟨j,t,e⟩:=ZR (N:=N) (i:=(q.length:Int)) (b:=((q.length+(x::l).length:Nat):Int)) (λs u o p=>
  (Zn N 0 ((q.length+(x::l).length:Nat):Int) K0 g (Wj .i64 (q.length:Int) (1:Int)) o p)) q x l N (by omega) (by omega) (h4 x (by simp)) d
  obtain⟨n,r,f⟩:=ZT m K0 l (eE (cR w) x q) g (by omega) (by rw[M7];omega) (λy c=>by
   rcases Dz.1 c with rfl|c
   .exact h4 _ (by simp)
   .exact d y c) λy c=>h4 y (by simp[c])
  refine⟨n,r,e.trans ?_⟩;rw[M7]at f;rw[Wl (by omega),Xs,show q.length+(l.length+1)=q.length+1+l.length by omega];exact f
theorem Wr5(h:1048576<N){l}(f:l.length<=4)(c:∀y∈l,y<w.η.length):Ik N (ci l) w.e=some ((ci (l.foldl (λq x=>eE (cR w) x q) []).reverse,(w.e,())),()):=by
 have j:Wi (ci l)=(l.length:Int):=by unfold Wi;rw[Xu]
 have b:Z9 N (ci l) 0 (l.length:Int) w.e=some ((ci (l.foldl (λq x=>eE (cR w) x q) []).reverse,(w.e,())),()):=by
  cases l with
  |nil=>
   obtain⟨g,rfl⟩:∃g,N=g+1:=⟨N-1,by omega⟩;rfl
  |cons x l=>
   simp only[Xs]at f;obtain⟨i,t,e⟩:=ZT (w:=w) h (λn m k d=>(some ((k,(d,())),()):Option ((List Int×(Y_World×Unit))×Unit))) l [x] N (by omega) (by simp;omega) (λy a=>by
    rw[List.mem_singleton.1 a];exact c x (by simp)) λy a=>c y (by simp[a])
   rw[show(([x].length+l.length:Nat):Int)=((x::l).length:Int) by simp;omega]at e;exact e
 unfold Ik E3;obtain⟨g,rfl⟩:∃g,N=g+1:=⟨N-1,by omega⟩;rw[j,E1,Wg (show¬(20:Int)<=(l.length:Int) by omega),Wb,b];simp only[Xd];rw[E2,Wg (show¬(20:Int)<(l.length:Int) by omega),Wb];rfl
theorem ZM(m:w.η.length<=4){K0:Int->Bool->List Int->Option R}:∀(d j a),j+d=w.η.length->d<a->t8 N (w.η.map Rt.e) w.e K0 a (j:Int) (ci ((cK j).filter λk=>stl (rw' w k)))=K0 (w.η.length:Int) false (ci (slR w))
 |0,j,a,l,hf=>by
  obtain⟨g,rfl⟩:∃g,a=g+1:=⟨a-1,by omega⟩;have:j=w.η.length:=by omega
  subst this;have c:w.e.2.2.2.2.2.1=w.η.map Rt.e:=rfl;have i:w.η.length=(w.η.map Rt.e).length:=by simp
  rw[t8,c]
  conv=>lhs;rw[i]
  rw[WN (Xj _),Wb,←i];rfl
 |d+1,j,a,l,hf=>by
  obtain⟨g,rfl⟩:∃g,a=g+1:=⟨a-1,by omega⟩;have f:j<w.η.length:=by omega
  have c:w.e.2.2.2.2.2.1=w.η.map Rt.e:=rfl;have h:j<(w.η.map Rt.e).length:=by simpa using f
  have b:=ZM m (K0:=K0) d (j+1) g (by omega) (by omega);rw[O4,qk,ci,Xy]at b;have n:Wx ((Xa (ci ((cK j).filter λk=>stl (rw' w k))))+(Xa [(j:Int)]))=true:=Wp (by
   have:=A0 (λk=>stl (rw' w k)) (cK j);simp at this⊢;omega)
  rw[t8,c,WF h,Wq h,Aq f,RV];simp only[Wa,ret,Xd,n,Wl (show j<4611686018427387904 by omega)];cases hs:stl (rw' w j)with
  |true=>
   simp only[eH,hs,Ig,W1,bn,eL]at b;exact b
  |false=>
   simp only[eH,hs,Ig]at b;rw[We (by simp),eL,iN]at b;exact b
theorem Wri(b:1048576<N)(a:w.η.length<=4):u6 N w.e=ret ((rks w).map λk:Nat=>(k:Int)):=by
 refine Eq.trans (ZM (N:=N) a w.η.length 0 N (by omega) (by omega)) ?_;rw[Wr5 b (DS a) λy c=>(DM.1 c).1,Wuz];rfl
end
end
section
theorem H4{α}(a:Option α):aa a a=a:=by unfold aa;simp
theorem wrI(n):I64 (IntKind.wrap .i64 n):=by
 show I64 (if(true&&decide (n%18446744073709551616>=9223372036854775808))=true then n%18446744073709551616-18446744073709551616 else n%18446744073709551616);unfold I64;simp only[eI,Wh];split<;>omega
theorem Ea{a b}:I64 (Wj .i64 a b):=wrI _
def tlE(e:Int)(r:Y_Root):Int:=bif decide (1<=r.2.1)&&decide (r.2.1<=400)then Wj .i64 e r.2.1 else e
def tlS(v:Int×Int×Int×Int×Int)(r:Y_Root):Int×Int×Int×Int×Int:=
 bif r.1==0 then(Wj .i64 v.1 1,v.2.1,v.2.2.1,v.2.2.2.1,tlE v.2.2.2.2 r)
 else bif r.1 !=8 then(v.1,Wj .i64 v.2.1 1,v.2.2.1,v.2.2.2.1,tlE v.2.2.2.2 r)
 else bif (P7 r)==1 then(v.1,v.2.1,Wj .i64 v.2.2.1 1,v.2.2.2.1,tlE v.2.2.2.2 r)
 else(v.1,v.2.1,v.2.2.1,Wj .i64 v.2.2.2.1 1,tlE v.2.2.2.2 r)
def tlI(v:Int×Int×Int×Int)(r:Y_Root):Int×Int×Int×Int:=
 bif r.1==0 then(Wj .i64 v.1 1,v.2.1,v.2.2.1,tlE v.2.2.2 r)
 else bif r.1 !=8 then(v.1,v.2.1,v.2.2.1,tlE v.2.2.2 r)
 else bif (P7 r)==1 then(v.1,Wj .i64 v.2.1 1,v.2.2.1,tlE v.2.2.2 r)
 else(v.1,v.2.1,Wj .i64 v.2.2.1 1,tlE v.2.2.2 r)
def mY(r:Y_Root):Bool:=r.1 !=0&&r.1 !=8
theorem Eh:∀(f:List Y_Root) (a b c d e:Int),0<=b->b+f.length<=4611686018427387904->
  f.foldl tlS (a,b,c,d,e)=((f.foldl tlI (a,c,d,e)).1,b+f.countP mY,(f.foldl tlI (a,c,d,e)).2.1,(f.foldl tlI (a,c,d,e)).2.2.1,(f.foldl tlI (a,c,d,e)).2.2.2)
 | [],a,b,c,d,e,_,_=>by simp
 |r::f,a,b,c,d,e,g,h1=>by
  simp only[Xs]at h1;rw[jS,jS,Xhs];unfold tlS tlI mY;cases hz:r.1==0
  .have Ay:(r.1 !=0)=true:=by simpa [bne]using hz
   cases h8:r.1 !=8
   .cases(P7 r)==1
    .have:=Eh f a b c (Wj .i64 d 1) (tlE e r) g (by omega);unfold tlS tlI mY at this;simpa [-jS]using this
    .have:=Eh f a b (Wj .i64 c 1) d (tlE e r) g (by omega);unfold tlS tlI mY at this;simpa [-jS]using this
   .simp only[Wb,Wa,Ay,Bool.and_true];have h:Wj .i64 b 1=b+1:=WA (by unfold I64;omega);rw[h];have:=Eh f a (b+1) c d (tlE e r) (by omega) (by omega);unfold tlS tlI mY at this;rw[this];simp only[W1];rw[show b+1+(List.countP (λr:Y_Root=>r.1 !=0&&r.1 !=8) f:Int)=b+((List.countP (λr:Y_Root=>r.1 !=0&&r.1 !=8) f+1:Nat):Int) by omega]
  .have Ay:(r.1 !=0)=false:=by simpa [bne]using hz
   simp only[Wa,Ay,qq];have:=Eh f (Wj .i64 a 1) b c d (tlE e r) g (by omega);unfold tlS tlI mY at this;simpa [-jS]using this
theorem HA{N}{rs}(m:rs.length<=1048576):∀(n j) (l:List Int),j<=rs.length->rs.length-j<n->l.length<=j->
  ∃b:List Int,b.length=l.length+(rs.drop j).countP mY/\∀{R} (K:Int->Bool->List Int->Option R),nD N rs (Wi rs) K n (j:Int) l=K rs.length false b
 |0,j,l,_,h,_=>by omega
 |n+1,j,l,p,q,h3=>by
  by_cases a:j<rs.length
  .rw[d4 a,Xhs,show mY rs[j]=(rs[j].1 !=0&&rs[j].1 !=8)from rfl];have o:Wx (l.length+ [(j:Int)].length)=true:=by unfold Wx;simp;omega
   by_cases i:rs[j].1=0
   .obtain⟨b,c,d⟩:=HA m n (j+1) l a (by omega) (by omega);refine⟨b,by simpa [i]using c,λK=>?_⟩;have f:(rs[j].1 !=0)=false:=by simp[i]
    simp only[nD,WF a,Wq a,Wu a,Wa,f,Wb,Wl (show j<4611686018427387904 by omega)];exact d K
   .have f:(rs[j].1 !=0)=true:=by simp[i]
    by_cases k:rs[j].1=8
    .obtain⟨b,c,d⟩:=HA m n (j+1) l a (by omega) (by omega);refine⟨b,by simpa [k]using c,λK=>?_⟩;have g:(rs[j].1 !=8)=false:=by simp[k]
     simp only[nD,WF a,Wq a,Wu a,Wa,f,g,Wb,Wl (show j<4611686018427387904 by omega)];exact d K
    .have g:(rs[j].1 !=8)=true:=by simp[k]
     obtain⟨b,c,d⟩:=HA m n (j+1) (l++ [(j:Int)]) a (by omega) (by simp;omega);refine⟨b,?_,λK=>?_⟩
     .rw[c,f,g];simp;omega
     .simp only[nD,WF a,Wq a,Wu a,Wa,f,g,o,Wl (show j<4611686018427387904 by omega)];exact d K
  .have e:j=rs.length:=by omega
   subst e;refine⟨l,by simp,λK=>?_⟩;simp only[nD,WN (Xj rs.length),Wb]
theorem WsB{N}{w}(c:(P5 w).length<=1048576)(d:1048576<N):∃l:List Int,l.length=(P5 w).countP mY/\CR N w=ret l:=by
 obtain⟨l,a,b⟩:=HA (N:=N) c N 0 [] (Nat.zero_le _) (by omega) (Xj _);exact⟨l,by simpa using a,b _⟩
theorem Vt{N}{w}{a b c d e b' c' d' e' f' g'}{R}{K0:Int->Bool->Int->Option R}:∀n i v,nq N w a b c d e K0 n i v=tq N w.2.2.1.2 (Wi w.2.2.1.2) b' c' d' e' f' g' K0 n i v
 |0,_,_=>rfl
 |n+1,i,v=>by
  unfold nq tq;simp[Vt (N:=N) (w:=w) (a:=a) (b:=b) (c:=c) (d:=d) (e:=e) (b':=b') (c':=c') (d':=d') (e':=e') (f':=f') (g':=g') (K0:=K0) n]
theorem Wuf{N}{w}(q:w.2.2.1.2.length<=1048576)(p:1048576<N):∃v:Int,I64 v/\∀{a b c d e} {R} (K0:Int->Bool->Int->Option R),nq N w a b c d e K0 N 0 0=K0 w.2.2.1.2.length false v:=by
 have o:∀(l:List Kb) (v:Int),I64 v->I64 (l.foldl (λv x=>bif x.2.2 !=0 then Wj .i64 v 1 else v) v):=λl=>by
  induction l with
  |nil=>intro v h;exact h
  |cons x l ih=>
   intro v h;rw[jS];apply ih;cases x.2.2 !=0 with
   |true=>exact Ea
   |false=>exact h
 refine⟨w.2.2.1.2.foldl (λv x=>bif x.2.2 !=0 then Wj .i64 v 1 else v) 0,o _ _ ⟨by decide,by decide⟩,λ{a b c d e R} K0=>?_⟩;have m:=WC (l:=w.2.2.1.2) (V:=Int) (R:=R) (lp:=λn j v=>nq N w a b c d e K0 n j v) (n:=N) (by omega)
  (body:=λj x v k=>k (bif x.2.2 !=0 then Wj .i64 v 1 else v)) (K:=λj v=>K0 j false v)
  (λn i v g=>by
   simp only[nq,WF g,Wq g,Wu g,Wl (show i<4611686018427387904 by omega),Wa];cases w.2.2.1.2[i].2.2 !=0<;>rfl)
  (λn v=>by simp[nq,WN (Xj w.2.2.1.2.length),Wb]) 0
 refine m.trans ?_;rw[Dd (f:=λv x=>bif x.2.2 !=0 then Wj .i64 v 1 else v) _ 0 _ (λj x v k _=>rfl),cb]
theorem WrC{N}{w}(d:(P5 w).length<=1048576)(c:1048576<N){R}(K0:Int->Bool->Int->Int->Int->Int->Int->Option R):
  iO N w K0 N 0 0 0 0 0 0=(λv=>K0 (P5 w).length false v.1 v.2.1 v.2.2.1 v.2.2.2.1 v.2.2.2.2) ((P5 w).foldl tlS (0,0,0,0,0)):=by
 have b:=WC (l:=(P5 w)) (V:=Int×Int×Int×Int×Int) (R:=R) (lp:=λn j v=>iO N w K0 n j v.1 v.2.1 v.2.2.1 v.2.2.2.1 v.2.2.2.2) (n:=N) (by omega)
  (body:=λj x v k=>k (tlS v x)) (K:=λj v=>K0 j false v.1 v.2.1 v.2.2.1 v.2.2.2.1 v.2.2.2.2)
  (λn i v a=>by
   simp only[iO,Wk,WF a,Wq a,Wu a,Wl (show i<4611686018427387904 by omega),Wa,cC,ret,Xd];unfold tlS tlE;cases(P5 w)[i].1==0<;>cases(P5 w)[i].1 !=8<;>cases P7 (P5 w)[i]==1<;>cases decide (1<=(P5 w)[i].2.1)&&decide ((P5 w)[i].2.1<=400)<;>rfl)
  (λn v=>by simp[iO,WN (Xj (P5 w).length),Wb]) (0,0,0,0,0)
 refine b.trans ?_;rw[Dd (f:=tlS) _ 0 _ (λj x v k _=>rfl),cb]
theorem WqU{N}{w:Y_World}{b}(e:(P5 w).length<=1048576)(d:1048576<N){R}(K0:Int->Bool->Int->Int->Int->Int->Option R):
  hU N (P5 w) w b K0 N 0 0 0 0 0=(λv=>K0 (P5 w).length false v.1 v.2.1 v.2.2.1 v.2.2.2) ((P5 w).foldl tlI (0,0,0,0)):=by
 have c:=WC (l:=(P5 w)) (V:=Int×Int×Int×Int) (R:=R) (lp:=λn j v=>hU N (P5 w) w b K0 n j v.1 v.2.1 v.2.2.1 v.2.2.2) (n:=N) (by omega)
  (body:=λj x v k=>k (tlI v x)) (K:=λj v=>K0 j false v.1 v.2.1 v.2.2.1 v.2.2.2)
  (λn i v a=>by
   simp only[hU,Wk,WF a,Wq a,Wu a,Wl (show i<4611686018427387904 by omega),Wa,WK,ret,Xd];unfold tlI tlE bne;cases(P5 w)[i].1==0<;>cases(P5 w)[i].1==8<;>cases P7 (P5 w)[i]==1<;>cases decide (1<=(P5 w)[i].2.1)&&decide ((P5 w)[i].2.1<=400)<;>rfl)
  (λn v=>by simp[hU,WN (Xj (P5 w).length),Wb]) (0,0,0,0)
 refine c.trans ?_;rw[Dd (f:=tlI) _ 0 _ (λj x v k _=>rfl),cb]
theorem Wzd{r}{v}(h:I64 v.1/\I64 v.2.1/\I64 v.2.2.1/\I64 v.2.2.2):I64 (tlI v r).1/\I64 (tlI v r).2.1/\I64 (tlI v r).2.2.1/\I64 (tlI v r).2.2.2:=by
 have e:I64 (tlE v.2.2.2 r):=by
  unfold tlE;cases decide (1<=r.2.1)&&decide (r.2.1<=400)with
  |true=>exact Ea
  |false=>exact h.2.2.2
 unfold tlI;cases r.1==0<;>cases r.1 !=8<;>cases(P7 r)==1<;>simp only[Wa,Wb]<;>exact⟨by first|exact Ea|exact h.1,by first|exact Ea|exact h.2.1,by first|exact Ea|exact h.2.2.1,e⟩
theorem Yz:∀{l:List Y_Root} {v},(I64 v.1/\I64 v.2.1/\I64 v.2.2.1/\I64 v.2.2.2)->I64 (l.foldl tlI v).1/\I64 (l.foldl tlI v).2.1/\I64 (l.foldl tlI v).2.2.1/\I64 (l.foldl tlI v).2.2.2
 | [],v,h=>h
 |r::l,v,h=>Yz (l:=l) (Wzd h)
theorem Wv8{N}{w}(i:(P5 w).length<=1048576)(r:w.2.2.1.2.length<=1048576)(u:(P4 w).length<=1048576)(h:1048576<N):∃a b c d e f g,(I64 a/\I64 b/\I64 c/\I64 d/\I64 e/\I64 f/\I64 g)/\Cx N w=ret (a,b,c,d,e,f,g)/\Co N w=ret (a,b,c,d,e,f,g):=by
 obtain⟨l,p,q⟩:=WsB i h;obtain⟨v,j,s⟩:=Wuf r h;unfold Cx Co;rw[H4,q,WrC i h,Eh _ _ _ _ _ _ (by omega) (by omega)];simp only[ret,Xd];rw[WqU i h];simp only[←Vt (w:=w) (a:=0) (b:=0) (c:=0) (d:=0) (e:=0),s];have e:Wi l=(0:Int)+((P5 w).countP mY:Int):=by rw[Wi,p];omega
 rw[e];have t:(P5 w).countP mY<=(P5 w).length:=AY;obtain⟨k,m,n,o⟩:=Yz (l:=P5 w) (v:=(0,0,0,0)) ⟨⟨by decide,by decide⟩,⟨by decide,by decide⟩,⟨by decide,by decide⟩,⟨by decide,by decide⟩⟩;exact⟨_,_,_,_,_,_,_,⟨k,by unfold I64;omega,m,n,o,j,by show I64 (Wi (P4 w));unfold I64 Wi;omega⟩,rfl,rfl⟩
end
section
def F3(x:Rt):Prop:=0<=x.EN/\x.EN<=2
section
variable{w:Wo}{x:Rt}{k j:Nat}{p:Pg}{o:Opn}{s:Sc}{a:Ac}{c:List Opn}
theorem Et(h:x.EN=0):F3 x:=by unfold F3;omega
theorem it{c}[Decidable c]{a b:Wo×Rt}(d:F3 a.2)(e:F3 b.2):F3 (if c then a else b).2:=by split<;>assumption
theorem Ab(h:F3 x):F3 (hF x):=by first|exact h|exact Et rfl
theorem Td(h:F3 x):F3 (lr x):=by
 unfold lr;split
 .exact Ab h
 .exact h
theorem Vb{v}(h:F3 x)(a:0<=v/\v<=2):F3 (jg w x k v).2:=by
 unfold jg;simp only;split<;>split<;>exact a
theorem WxX(h:F3 x):F3 (m6 w x o):=by
 unfold m6;split
 .exact h
 .generalize cL w.mem x.rv _=q;by_cases a:q.2.1=4
  .rw[Wf a];exact Td (x:={x with EI:=true,pb:=q}) h
  .rw[We a];split<;>exact h
theorem Wvl(h:F3 x):F3 (sa w x k c).2:=it (Vb h (by omega)) (it h h)
theorem Wvt(h:F3 x):F3 (jq w x k o).2:=by
 unfold jq;split
 .exact Td h
 .exact h
theorem Wys(h:F3 x):F3 (gw w x k p).2:=
 it (Vb h (by omega)) (it (WxX h) (it (Wvl h) (it h (it (Wvt h) (it h (it h (it h (it h h))))))))
theorem ir{c}[Decidable c]{a b:Wo×Rt}{r}(d:a.1.η=r)(e:b.1.η=r):(if c then a else b).1.η=r:=by split<;>assumption
theorem Vk{v}:(jg w x k v).1.η=w.η:=ir rfl rfl
theorem Wv6:(jq w x k o).1.η=w.η:=by
 unfold jq;split<;>rfl
theorem Wym:(gw w x k p).1.η=w.η:=
 ir Vk (ir rfl (ir (ir Vk (ir rfl rfl)) (ir rfl (ir Wv6 (ir rfl (ir rfl (ir rfl (ir rfl rfl))))))))
theorem iu{c}[Decidable c]{a b}(d:F3 a)(e:F3 b):F3 (if c then a else b):=by split<;>assumption
theorem Wve(h:F3 x):F3 (Al x):=iu (Ab h) (iu h h)
theorem WwX(h:F3 x):F3 (iz w x k p).2:=
 it (Ab h) (it (it h (it h (it h (Et rfl)))) (it (Wys h) (it (iu (Ab h) (iu h h)) (it (it h h) (it (iu (iu (Ab h) h) h) (it (it (iu (Ab h) h) (Wve h)) (it (it h h) (it (it (Et rfl) h) h))))))))
def hY(w:Wo):Prop:=∀x∈w.η,F3 x
theorem Ov{q}(h:hY q.1)(b:F3 q.2):hY (Wo.put q k):=λx a=>by
 rcases OU a with a|rfl
 .exact h x a
 .exact b
theorem Oy(h:hY w):F3 (w.η.getD k rt0):=by
 by_cases a:k<w.η.length
 .rw[WB a];exact h _ (Xt a)
 .rw[List.getD_eq_getElem?_getD,List.getElem?_eq_none (by omega)];exact Et rfl
theorem Wpe:(iz w x k p).1.η=w.η:=
 ir rfl (ir (ir rfl (ir rfl (ir rfl rfl))) (ir Wym (ir rfl (ir (ir rfl rfl) (ir rfl (ir (ir rfl rfl) (ir (ir rfl rfl) (ir (ir rfl rfl) rfl))))))))
theorem Ol(h:hY w):hY (eD s w a):=by
 unfold eD;simp only;split
 .split
  .exact Ov (λy b=>h y (by rw[Wpe]at b;exact b)) (WwX (Oy h))
  split
  .split
   .exact Ov h (Oy (k:=a.2.1.toNat) h)
   .exact h
  split
  .split
   .exact Ov h (Oy (k:=a.2.1.toNat) h)
   .exact h
  .exact h
 .exact h
theorem YE:∀(l:List Ac) (w),hY w->hY (l.foldl (eD s) w)
 | [],_,h=>h
 |a::l,w,h=>YE l _ (Ol h)
theorem Yu:hY (ea s):=YE _ _ λx a=>by
 rw[OZ (show x∈Xp s.2.1.length {}from a)];exact Et rfl
theorem YI:∀(d j) (w),hY w->hY (da s k d j w)
 |0,_,_,h=>h
 |d+1,j,w,h=>YI d (j+1) _ (Ol h)
theorem XU:∀(d i) (w),hY w->hY (cy s d i w)
 |0,_,_,h=>h
 |d+1,i,w,h=>XU d (i+1) _ (YI _ _ _ (Ol h))
theorem XN:∀(d) (w),hY w->hY (cD s d w).1
 |0,_,h=>h
 |d+1,w,h=>by
  unfold cD;split
  .exact h
  .exact XN d _ (XU _ _ _ h)
theorem VP:∀(d) (w),(cD s d w).2<=d
 |0,_=>by simp[cD]
 |d+1,w=>by
  unfold cD;split
  .simp
  .have:=VP d (cy s s.2.1.length 0 w);omega
end
end
section
variable{l:List Int}{k i v:Int}
theorem WsS{N}(h:SlOk l)(e:1048576<N):CM N l=ret ((cK 8).map λi:Nat=>aH l (i:Int)):=by
 unfold CM;rw[C0 h e];simp only[ret,Xd,Xn,Wb];have v:∀(a j n:Nat) (o:List Int),j+a=8->a<n->o=(cK j).map (λi:Nat=>aH l (i:Int))->
   tC N l (λy w m=>(some ((),(m,())))) n (j:Int) o=(some ((),((cK 8).map λi:Nat=>aH l (i:Int),())):Option (Unit×(List Int×Unit))):=by
  intro a
  induction a with
  |zero=>
   intro j n o s t c;obtain⟨n,rfl⟩:∃d,n=d+1:=⟨n-1,by omega⟩;have:j=8:=by omega
   subst this;rw[tC,show decide (((8:Nat):Int)<8)=false from rfl,Wb,c]
  |succ a ih=>
   intro j n o s t c;obtain⟨n,rfl⟩:∃d,n=d+1:=⟨n-1,by omega⟩;have p:decide ((j:Int)<8)=true:=Wc (by omega);have r:=F5 (k:=(j:Int)) h (by omega) e;have A:=mG l (j:Int);have g:∀x:Int,Wx (o.length+ [x].length)=true:=λx=>Wp (by rw[c];simp;omega);simp only[tC,p,Wa,r,Xd,g,Wl (show j<4611686018427387904 by omega),cZ];have f:∀x:Int,x=aH l (j:Int)->o++ [x]=(cK (j+1)).map (λi:Nat=>aH l (i:Int)):=λx u=>by
    rw[c,u,O4,Xy];rfl
   by_cases b:aH l (j:Int)=0
   .rw[Wf b,Wg (show¬aH l (j:Int)≠0 fromλz=>z b),Wb];exact ih (j+1) n _ (by omega) (by omega) (f 0 b.symm)
   .rw[We b,Wc (show aH l (j:Int)≠0 from b),Wa];have q:Wj .i64 (aH l (j:Int) -1) 1=aH l (j:Int):=by rw[WA (by unfold I64;omega)];omega
    rw[q];exact ih (j+1) n _ (by omega) (by omega) (f _ rfl)
 exact v 8 0 N [] (by omega) (by omega) rfl
end
end Go.Sx
