/- Plain laws of the Lean functions. -/
import Derived.Test.YtpfdembammnpcaaGreatMW1
open List renaming getD→Xc,set→Xe,map_set→NU,pairwise_cons→Xu,mem_cons_self→Xl,mem_cons_of_mem→Xg,length→Xb,length_map→Xt,take→aj,set_getElem_self→je,range'→YG,mem_range'_1→Yy,getElem_mem→Xy,map_append→Xx,mem_append→Xp,pairwise_append→d0,mem_singleton→cw,getElem?_eq_getElem→Xq,length_cons→Xs,drop_length→fr,drop_eq_getElem_cons→dY,append_eq→d1,drop_zero→eC,length_set→cZ,countP_set→YT,getElem_set→vH,length_append→Xz,length_singleton→YH,length_nil→j0,mem_map→Xv,getElem_replicate→NL,append_assoc→fq,singleton_append→Yj,append→Xf,set_set→mC,nil_append→df,replicate→Xk,all_eq_true→bA,pairwise_iff_getElem→gu,filter_cons→en,mem_filter→ei,getElem_of_mem→ln,filter_eq_self→AA
open Int renaming toNat→Xa,toNat_natCast→Xj,le_refl→vJ,tdiv_eq_ediv_of_nonneg→D5
open Option renaming bind_some→Xd
open Nat renaming le_refl→Xm,zero_add→bX,sub_zero→rR,lt_trichotomy→Yx
open Bool renaming and_eq_true→Xh,not_true→Xn,and_self→c3,not_false→bS,false_eq_true→dq
namespace Go.Sx
set_option linter.unusedVariables false
set_option linter.unusedSimpArgs false
section
theorem Tz{α β:Type}(g:α->β)(l:List α)(i:Nat)(d:α):Xc (l.map g) i (g d)=g (l.getD i d):=by
 simp_all
theorem kdP(x:Kd):x.e.1=x.ζ/\x.e.2.1=x.pc/\x.e.2.2.1=x.Cs/\x.e.2.2.2.1=x.χ/\P4 x.e=x.pos/\P5 x.e=x.out/\P6 x.e=x.μ/\P7 x.e=x.δ/\P8 x.e=x.ι/\P9 x.e=x.θ/\P10 x.e=x.Co:=⟨rfl,rfl,rfl,rfl,rfl,rfl,rfl,rfl,rfl,rfl,rfl⟩
theorem fmP(f:Fm):f.e.1=f.rv/\f.e.2.1=f.γ/\f.e.2.2.1=f.Cl/\f.e.2.2.2.1=f.Cv/\P4 f.e=f.μ/\P5 f.e=f.start/\P6 f.e=f.buf/\P7 f.e=f.Cq/\P8 f.e=f.κ/\Q9 f.e=f.ο.map Kd.e:=⟨rfl,rfl,rfl,rfl,rfl,rfl,rfl,rfl,rfl,rfl⟩
theorem U9e(f:Fm)(k:Nat)(x:Kd):U9 (Xe (f.ο.map Kd.e) k x.e) f.e=Fm.e {f with ο:=f.ο.set k x}:=by
 unfold U9 Fm.e;rw[NU]<;>rfl
theorem la{f f':Fm}{k:Nat}{x':Kd}{y:Y_KidRun}{g:Y_Family}(c:y=x'.e)(b:g=f'.e)(a:f'.ο=f.ο):
  some ((U9 (Xe (f.ο.map Kd.e) k y) g,()),())=some (((Fm.put (f',x') k).e,()),()):=by
 subst c b;rw[←a,U9e];rfl
theorem TK(m:Mm)(f:Fm)(x:Kd)(o:Opn):qR m f.e x.e o=((iS m f x o).1.e,(iS m f x o).2.e):=by
 unfold qR iS;have d:P8 x.e=x.ι:=rfl;have g:P6 f.e=f.buf:=rfl;rw[d,g];rcases c9 x.ι o.2.2.1 with _|v
 .rcases ent f.buf o.2.2.1 with _|r
  .have h3:ff x.e o.2.2.1=if x.Co then x.pb else(o.2.2.1,0,0,0):=by
    unfold ff;have:P10 x.e=x.Co:=rfl;rw[this];cases x.Co<;>rfl
   simp only[h3];have h:f.e.1=f.rv:=rfl;rw[h];generalize cS m f.rv (if x.Co then x.pb else(o.2.2.1,0,0,0))=p;by_cases c:p.2.1=4
   .have:(p.2.1==4)=true:=by simp_all
    rw[Wf c,this];rfl
   .have:(p.2.1==4)=false:=by simp_all
    rw[We c,this];by_cases b:p.2.1=3
    .have:(p.2.1==3)=true:=by simp_all
     rw[Wf b,this];rfl
    .have:(p.2.1==3)=false:=by simp_all
     rw[We b,this];rfl
  .simp only;have i:x.e.2.2.1=x.Cs:=rfl;rw[i];by_cases a:r.2.2.2>x.Cs
   .rw[Wf a,Wc a];rfl
   .rw[We a,Wi a];rfl
 .rfl
theorem Sk(m:Mm)(f:Fm)(x:Kd)(o:Opn):(iS m f x o).1.ο=f.ο:=by
 grind [iS,c9,ent,cS]
variable{N:Nat}{codes:List (List Opn)}{n:Int}{f:Fm}{k:Nat}{ξ:List Opn}{m:Mm}{x:Kd}
theorem FOk.buf8(h:FOk codes n f):f.buf.length<=8:=by
 have:∀(l:List En) (c:Int),Ris cfE l->(∀e∈l,c<=e.1/\e.1<=7)->(l.length:Int)<=8-c\/l= []:=by
  intro l
  induction l with
  |nil=>simp_all
  |cons a l ih=>
   intro c i d;left;have g:=Xu.1 i;have j:=d a (Xl ..);rcases ih (a.1+1) g.2 (λe b=>⟨by grind [cfE],(d e (Xg _ b)).2⟩)with h|h
   .grind
   grind
 rcases this f.buf 0 h.bufR (λe b=>by have:=(h.bufE e b).1;omega)with h|h
 .omega
 simp_all
theorem TI(c:FOk codes n f)(a:KOk ξ f.γ n x)(b:KC ξ)(h:W2 m=true)(j:n<=100000){o:Opn}(i:am o.2.1=true)(d:bO o.2.2.1=true):ReadOk m f.e x.e o where
 mem:=h
 μ:=a.μ.len
 famr:=c.μ.len
 rA:=by grind [am]
 cB:=d
 δ:=by have:=a.sl;have:=a.pc;have:=b.len;show x.δ.length<=1000;omega
 wr:=by have:=a.wl;have:=a.pc;have:=b.len;show x.ι.length<=1000;omega
 buf:=by have:=c.buf8;show f.buf.length<=1000;omega
 ver:=λe g=>(c.bufE e g).2.2.1
 Cs:=a.Cs.1
 pc:=by have:=a.pc;have:=b.len;show 0<=x.pc/\x.pc<=1000;omega
 χ:=by have:=a.χ;show 0<=x.χ/\x.χ<=100000;omega
 pb:=a.pb
theorem Wu{α:Type}{a b:Int}{x y:α}:(bif a==b then x else y)=if a=b then x else y:=by
 simp_all
theorem WX{α:Type}{p:Prop}[Decidable p]{x y:α}:(bif decide p then x else y)=if p then x else y:=by
 simp_all
theorem WlW(b:KC ξ)(c:KOk ξ f.γ n x)(v:x.ζ=0)(w:1048576<N):HN N x.e ξ=some (((uD x ξ).e,()),()):=by
 unfold HN uD;obtain⟨Q,C,R,S,T,U,V,W,E,F,D⟩:=kdP x;have L:=c.pc;have K:=b.len;have k:=c.θ v;simp only[Wp,F,E,C,Wu];by_cases g:x.θ.length=0
 .rw[Wf (by unfold Wh;omega),Wf g];rfl
 .rw[We (by unfold Wh;omega),We g];obtain⟨j,q,y,p,r,s,⟨a,i⟩,um,h,X,M,t⟩:=u9 (d:=((0,0,[]):KM)) b.toCC (show x.pc.toNat<=ξ.length by omega) k.pcs g;have Z:x.θ.length=q.length+1:=by grind
  have J:q.length<=24:=by
   have:=Wq Xb t;simp only[Xt]at this;have O:=eD b.up j (by omega);have P:=(fE ξ j).2;omega
  have B:Wv .i64 (Wh x.θ) 1=(q.length:Int):=by grind [uZ]
  have A:y∈x.θ:=by grind
  obtain⟨l,y2,y3,y4⟩:=k.each y A;have u:Xc x.θ (Xa (q.length:Int)) ((0,0,[]):KM)=y:=by grind
  have I:aj (Xa (q.length:Int)) x.θ=x.θ.dropLast:=by rw[p];simp
  have Y:=c.wl;rw[B,WH,Wc (show q.length<x.θ.length by omega)];simp only[Wa,u,I,r];have m:((decide ((0:Int)<=(q.length:Int))&&decide ((q.length:Int)<=(x.θ.length:Int)))&&decide ((q.length:Int)<=((Xa (q.length:Int):Nat):Int)))=true:=by
   simp;omega
  rw[m];simp only[Wa];rw[mX (by rw[l.len];omega)];simp only[ret,Xd];rw[s,WH,Wc a];have G:Xc ξ (Xa ((j:Nat):Int)) ((0,0,0,0):Opn)=ξ[j]:=Ww a _;have H:opN ξ ((j:Nat):Int)=ξ[j]:=qM a;have z:=rK (b.ok j a).1 i;simp only[Wa,G,H];rw[WV z l.len];have o:(decide ((0:Int)<=y.2.1)&&decide (y.2.1<=(x.ι.length:Int)))=true:=by simp;omega
  rw[o];simp only[Wa];rw[yY (by grind),RS (by omega) w ⟨a,i⟩ h];simp only[ret,Xd];rw[au (by have:=h.len;omega),Xj];rfl
theorem Wpo(O:k<f.ο.length)(hm:W2 m=true)(c:KC ξ)(L:FOk codes n f)(T:codes.getD k []=ξ)(I:f.ο[k]=x)(w:x.ζ=0)(hn:n<=100000)(D:1048576<N):
  HX N f.e (k:Int) ξ m=some (((Fm.put (hN m f x ξ) k).e,()),()):=by
 have g:=L.kid k O;rw[T,I]at g;obtain⟨k0,k1,k2,k3,k4,k5,k6,k7,k8,k9,k10⟩:=kdP x;obtain⟨f0,f1,f2,f3,f4,f5,f6,f7,f8,f9⟩:=fmP f;have S:=g.pc;have af:=c.len;have oI:=g.wl;have X:Xc (f.ο.map Kd.e) (Xa (k:Int)) d_KidRun=x.e:=by
  simp_all
 have Y:U9 (Xe (f.ο.map Kd.e) (Xa (k:Int)) x.e) f.e=f.e:=by
  rw[Xj,U9e,←I,je]
 unfold HX hN;simp only[Wp,f9,Xt];rw[WH,Wc O];simp only[Wa,X,Y,k1,k6,k8,k9,WX,Wu,show Wh ξ=(ξ.length:Int)from rfl];by_cases v:x.pc>=ξ.length
 .rw[Wf v,Wf v];rw[Xj];exact la rfl rfl rfl
 .rw[We v,We v];obtain⟨j,F,ej,eo⟩:=u7 (l:=ξ) S.1 (by omega);have qP:Xc ξ (Xa x.pc) ((0,0,0,0):Opn)=opN ξ x.pc:=rfl;have V:inb x.pc ξ.length=true:=by grind [WH,decide_eq_true]
  rw[V];obtain⟨t,H,gL⟩:=c.ok j F;have U:=c.k10 j F;simp only[Wa,qP];rw[←eo]at t H U;generalize opN ξ x.pc=o at*;have C:=g.μ.len;rw[Xj];rw[au (show 0<=x.pc/\x.pc<=1000000 by omega)];by_cases p:o.1=5
  .rw[Wf p,Wf p];have:=As t p;have lG:=TI L g c hm hn this.1 this.2;have Z:(Q9 f.e)[k]'(by simp_all)=x.e:=by
    simp_all
   have:=Wn7 (m:=m) (o:=o) (f:=f.e) (k:=k) (by simp_all) (by simp_all) D;rw[this];simp only[Xd,Z,TK];unfold Nz;have Q:=Sk m f x o;rw[show Q9 (iS m f x o).1.e=f.ο.map Kd.e by rw[←Q];rfl];exact la rfl rfl Q
  .rw[We p,We p];by_cases u:o.1=10
   .rw[Wf u,Wf u,WlW c g w D];exact la rfl rfl rfl
   .rw[We u,We u];by_cases r:o.1=6
    .rw[Wf r,Wf r];rw[WV (Aj t r).2 C,Wn (by simp;omega)];exact la rfl rfl rfl
    .rw[We r,We r];by_cases s:o.1=7
     .rw[Wf s,Wf s];have h:=Al t s;rw[WV h.1 C,WD (a:=x.pc) (b:=o.2.2.1) (by unfold I64;omega),au (a:=x.pc+o.2.2.1) (by omega)];by_cases B:Xc x.μ (Xa o.2.1) 0=0
      .rw[Wf B,Wf (show al x.μ o.2.1 0=0 from B)];simp only[Wa];exact la rfl rfl rfl
      .rw[We B,We (show¬al x.μ o.2.1 0=0 from B)];simp only[Wa];exact la rfl rfl rfl
     .rw[We s,We s];by_cases z:o.1=8
      .rw[Wf z,Wf z];rw[mX (by omega)];have nr:x.θ.length<=24:=by
        have:=Wq Xb (g.θ w).pcs;simp only[Xt]at this;have J:=eD c.up x.pc.toNat (by omega);have K:=(fE ξ x.pc.toNat).2;omega
       simp only[ret,Xd];rw[Wn (by simp;omega)];exact la rfl rfl rfl
      .rw[We z,We z];by_cases A:o.1=9
       .rw[Wf A,Wf A];have M:=g.θ w;have G:x.θ.length≠0:=by
         intro G;have h1:=Wq Xb M.pcs;simp only[Xt,G]at h1;have J:=eD c.up j (by omega);have K:=c.up j F
         grind [fa,pt,Xj]
        obtain⟨i,q,y,W,un,uq,⟨E,rJ⟩,um,dJ,kW,e5,e6⟩:=u9 (d:=((0,0,[]):KM)) c.toCC (show x.pc.toNat<=ξ.length by omega) M.pcs G;have qO:x.θ.length=q.length+1:=by grind
        have nr:x.θ.length<=24:=by
         have:=Wq Xb (g.θ w).pcs;simp only[Xt]at this;have J:=eD c.up x.pc.toNat (by omega);have K:=(fE ξ x.pc.toNat).2;omega
        have i1:Wv .i64 (Wh x.θ) 1=(q.length:Int):=by grind [uZ]
        have g1:Xc x.θ (Xa (q.length:Int)) ((0,0,[]):KM)=y:=by grind
        have t1:aj (Xa (q.length:Int)) x.θ=x.θ.dropLast:=by rw[W];simp
        rw[i1,WH,Wc (show q.length<x.θ.length by omega)];have R:(decide ((0:Int)<=(q.length:Int))&&decide ((q.length:Int)<=(x.θ.length:Int)))=true:=by simp;omega
        rw[R];simp only[Wa,g1,t1,un];rw[uq,WH,Wc E];have H:Xc ξ (Xa ((i:Nat):Int)) ((0,0,0,0):Opn)=opN ξ (i:Int):=rfl;have P:=rK (c.ok i E).1 rJ;rw[←qM E]at P;simp only[Wa,H];rw[WV P C];exact la rfl rfl rfl
       .rw[We A,We A];rw[Rx D t (by omega) (by omega) g.μ];exact la rfl rfl rfl
end
section
theorem Sw{l:List Rw}{c v:Int}:∀(i:Nat),i<=l.length->pj l c i=some v->(c,v)∈l
 |0,_,h=>by simp[pj]at h
 |i+1,b,h=>by
  unfold pj at h;rw[WA (show i<l.length by omega)]at h;by_cases a:l[i].1=c
  .grind
  .rw[We a]at h;exact Sw i (by omega) h
theorem Lz{l:List Rw}{c v:Int}(h:c9 l c=some v):cb l=true/\(c,v)∈l:=by
 unfold c9 at h;by_cases a:cb l=true
 .rw[Wf a]at h;exact⟨a,Sw _ (Xm _) h⟩
 simp_all
theorem UL(l:List Rw):∀(j c:Nat) (o:List Rw),mq l j c o=o++(YG c j).filterMap λc:Nat=>(c9 l (c:Int)).map λv=>((c:Int),v)
 |0,c,o=>by simp[mq]
 |j+1,c,o=>by
  rw[mq,UL l j,List.range'_succ,List.filterMap_cons];unfold Ds;cases h:c9 l (c:Int)<;>simp
theorem MT(l:List Rw):aA l=(YG 0 8).filterMap λc:Nat=>(c9 l (c:Int)).map λv=>((c:Int),v):=by simp[aA,UL]
theorem UI{l:List Rw}{r:Rw}:r∈aA l↔(0<=r.1/\r.1<=7)/\c9 l r.1=some r.2:=by
 rw[MT,List.mem_filterMap];constructor
 .rintro⟨c,a,h⟩;rw[Yy]at a;cases hl:c9 l (c:Int)with
  |none=>simp_all
  |some v=>
   grind
 .rintro⟨b,h⟩;refine⟨r.1.toNat,Yy.2 (by omega),?_⟩
  grind
theorem MM(l:List Rw):(aA l).Pairwise λa b=>a.1<b.1:=by
 rw[MT,List.pairwise_filterMap];refine List.Pairwise.imp ?_ (List.pairwise_lt_range' (s:=0) (n:=8));simp_all
theorem o0(l:List Rw):(aA l).length<=8:=by
 grind [MT,Nat.le_trans,List.length_filterMap_le]
theorem FY{l:List Rw}:hG (aA l):=by
 intro r d;obtain⟨e,b⟩:=UI.1 d;obtain⟨a,c⟩:=Lz b;unfold cb at a;simp only[Xh]at a;have:=(F9.1 a.2) _ c;omega
end
section
theorem y1{p:Pb}:dR p=true↔(0<=p.1/\p.1<=7)/\(0<=p.2.1/\p.2.1<=4)/\(0<=p.2.2.1/\p.2.2.1<=1000000)/\0<=p.2.2.2/\p.2.2.2<=65535:=by
 simp[dR,bO,bH,Xh,Wg]
theorem ri{c:Int}{w:Wd}:fg c w=true↔(0<=w.1/\w.1<=65535)/\(0<=w.2.1/\w.2.1<=c)/\0<=w.2.2/\w.2.2<=99:=by
 simp[fg,bH,Xh,Wg]
theorem M7{m:Mm}(h:W2 m=true){c:Int}(a:0<=c/\c<=7):fg m.1 (al m.2 c (0,0,0))=true:=by
 grind [WE,al,WA,Xy]
theorem TQ{m:Mm}{rv:Int}{p:Pb}(a:W2 m=true)(c:dR p=true):dR (cS m rv p)=true/\(cS m rv p).1=p.1:=by
 have b:=y1.1 c;have d:=M7 a b.1;rw[ri]at d;obtain⟨h,f,g,_⟩:=WE a;unfold cS;simp only[Wu,WX];have e:fg m.1 (Xc m.2 (Xa p.1) (0,0,0))=true:=M7 a b.1
 grind [ri,y1]
section
variable{ξ:List Opn}{pc gk wl na:Nat}{ms q:List KM}{y:KM}{c c' n n':Int}{x:Kd}{f:Fm}{m:Mm}{codes:List (List Opn)}{k:Nat}
theorem KMk.mono(h:KMk ξ pc ms wl)(b:stk ξ gk=stk ξ pc)(c:wl<=na):KMk ξ gk ms na:=
 ⟨by rw[b];exact h.pcs,λq a=>by have:=h.each q a;grind,h.up⟩
theorem KMk.begin(h:KMk ξ pc ms wl)(g:pc<ξ.length)(e:ξ[pc].1=8){μ:List Int}(i:Vals 4 μ)(j:wl<=pc):KMk ξ (pc+1) (ms++ [((pc:Int),(wl:Int),μ)]) wl:=by
 refine⟨?_,?_,?_⟩
 .rw[pw g e,Xx,Xx,h.pcs];rfl
 .intro q c;rcases Xp.1 c with c|c
  .exact h.each q c
  simp_all
 .refine d0.2 ⟨h.up,List.pairwise_singleton _ _,λa f b d=>?_⟩;rw[cw]at d;subst d;exact(h.each a f).2.2.2
theorem KMk.drop(h:KMk ξ pc ms wl)(c:ms=q++ [y])(f:stk ξ gk=(stk ξ pc).dropLast)(g:y.2.1<=na):KMk ξ gk q na:=by
 subst c;have d:=h.pcs;refine⟨?_,λa b=>?_,(d0.1 h.up).1⟩
 .grind
 .have h2:=h.each a (List.mem_append_left _ b);have e:=(d0.1 h.up).2.2 a b y (by simp)
  grind
theorem KOk.wk(h:KOk ξ c n x)(a:c<=c')(b:n<=n'):KOk ξ c' n' x:=
 {h with Cs:=by have:=h.Cs;omega,χ:=by have:=h.χ;omega}
theorem Uw(h:KOk ξ c n x)(j:c=f.γ)(b:Vals 4 f.μ)(i:0<=f.γ):KOk ξ c (n+1) (f.again x) where
 pc:=⟨vJ _,by show(0:Int)<=_;omega⟩
 μ:=b
 ε:=λr g=>by cases g
 wl:=vJ _
 sl:=vJ _
 Cs:=by show 0<=f.γ/\f.γ<=c;omega
 χ:=by have:=h.χ;show 0<=x.χ+1/\x.χ+1<=n+1;omega
 δ:=λe a=>by cases a
 θ:=λ_=>⟨by show([]:List KM).map _=(stk ξ 0).map _;rfl,(λq d=>by cases d),List.Pairwise.nil⟩
 pos:=⟨vJ _,vJ _⟩
 pb:=λh=>by cases h
 ζ:=by show(0:Int)<=0/\(0:Int)<=3;omega
 out:=by show(0:Int)<=0/\(0:Int)<=2;omega
theorem KMk.len(a:CC ξ)(h:KMk ξ pc ms wl)(b:pc<=ξ.length):(ms.length:Int)=dep ξ pc:=by
 have:=Wq Xb h.pcs;simp only[Xt]at this;rw[this,eD a.up pc b]
theorem KOk.on(k:CC ξ)(h:KOk ξ c n x)(l:x.ζ=0){i:Nat}(hi:i<ξ.length)(j:x.pc=i){μ:List Int}{δ:List En}{ι:List Rw}{θ:List KM}{Co:Bool}{pb:Pb}{gk:Nat}(o:gk<=ξ.length)(g:i<gk)(d:Vals 4 μ)(a:hG ι)(q:ι.length<=x.ι.length+1)(p:δ.length<=x.δ.length+1)
  (f:∀e∈δ,(0<=e.1/\e.1<=7)/\(0<=e.2.1/\e.2.1<=65535)/\ -1<=e.2.2/\e.2.2<=x.Cs) (r:x.δ.length<=δ.length) (m:KMk ξ gk θ ι.length) (b:Co=true->dR pb=true):
  KOk ξ c n {x with μ:=μ,δ:=δ,ι:=ι,θ:=θ,Co:=Co,pb:=pb,pc:=(gk:Int)}:=
 {h with
  pc:=by simp_all
  μ:=d
  ε:=a
  wl:=by have:=h.wl;grind
  sl:=by have:=h.sl;grind
  δ:=f
  θ:=λ_=>by simp_all
  pos:=by have:=h.pos;grind
  pb:=b}
theorem Wui(c:CC ξ)(o:FOk codes n f)(h:KOk ξ f.γ n x)(d:x.ζ=0){i:Nat}(hi:i<ξ.length)(b:x.pc=i)(s:ξ[i].1=5)(u:W2 m=true):
  KOk ξ f.γ (n+1) (iS m f x ξ[i]).2/\((iS m f x ξ[i]).1=f\/(iS m f x ξ[i]).1={f with Cv:=true}):=by
 have B:=As (c.ok i hi).1 s;have t:0<=ξ[i].2.2.1/\ξ[i].2.2.1<=7:=by grind [bO]
 have g:=h.θ d;rw[b,Xj]at g;have j:stk ξ (i+1)=stk ξ i:=iQ hi (by omega) (by omega);have l:x.pc+1=((i+1:Nat):Int):=by omega
 unfold iS;cases hl:c9 x.ι ξ[i].2.2.1 with
 |some v=>
  have w:=h.ε _ (Lz hl).2;refine⟨?_,.inl rfl⟩;simp only[l];exact(KOk.on c h d hi b (by omega) (by omega) (h.μ.set _ w.2) h.ε (by omega) (by omega) h.δ (by omega) (g.mono j (by omega)) h.pb).wk (by omega) (by omega)
 |none=>
  simp only;cases he:ent f.buf ξ[i].2.2.1 with
  |some r=>
   simp only;have C:=kr he;have A:r.2∈f.buf:=by
    grind
   have z:=o.bufE _ A;split
   .exact⟨Uw h rfl o.μ o.γ.1,.inl rfl⟩
   .refine⟨?_,.inl rfl⟩;simp only[l];refine(KOk.on c h d hi b (by omega) (by omega) (h.μ.set _ z.2.1) h.ε (by omega) (by simp) (λe a=>?_) (by simp) (g.mono j (by omega)) h.pb).wk (by omega) (by omega);rcases Xp.1 a with a|a
    .exact h.δ e a
    grind
  |none=>
   simp only;have y:dR (if x.Co=true then x.pb else(ξ[i].2.2.1,0,0,0))=true:=by
    split
    .exact h.pb ‹_›
    grind [y1]
   have k:=TQ (rv:=f.rv) u y;generalize cS m f.rv (if x.Co=true then x.pb else(ξ[i].2.2.1,0,0,0))=p at*;have q:=y1.1 k.1;split
   .refine⟨?_,.inr rfl⟩;exact KOk.wk (n:=n) {h with pb:=λ_=>k.1} (by omega) (by omega)
   .split
    .refine⟨?_,.inl rfl⟩;simp only[l];refine(KOk.on c h d hi b (by omega) (by omega) (h.μ.set _ q.2.2.2) h.ε (by omega) (by simp) (λe a=>?_) (by simp) (g.mono j (by omega)) (λh=>by cases h)).wk (by omega) (by omega);rcases Xp.1 a with a|a
     .exact h.δ e a
     .rw[cw]at a;subst a;exact⟨t,q.2.2.2,by simp,by have:=h.Cs;grind⟩
    .refine⟨?_,.inl rfl⟩;exact KOk.wk (n:=n) {h with pb:=λ_=>k.1} (by omega) (by omega)
theorem Ww8(s:KC ξ)(V:FOk codes n f)(h:KOk ξ f.γ n x)(k:x.ζ=0)(X:W2 m=true):
  KOk ξ f.γ (n+1) (hN m f x ξ).2/\((hN m f x ξ).1=f\/(hN m f x ξ).1={f with Cv:=true}):=by
 have c:=s.toCC;unfold hN;split
 .refine⟨?_,.inl rfl⟩;exact KOk.wk (n:=n) {h with θ:=λh=>by simp_all,ζ:=by simp_all,out:=by simp_all} (by omega) (by omega)
 .obtain⟨i,a,g,H⟩:=u7 (l:=ξ) h.pc.1 (by omega);simp only[H];obtain⟨v,Z,S⟩:=s.ok i a;have R:=s.k10 i a;have b:=h.θ k;rw[g,Xj]at b;have p:x.pc+1=((i+1:Nat):Int):=by omega
  have K:x.ι.length<=i:=by have:=h.wl;omega
  split
  .grind [Wui]
  .split
   .refine⟨?_,.inl rfl⟩;unfold uD;split
    .refine KOk.wk (n:=n) {h with ε:=(λr e=>by cases e),wl:=by simp_all,θ:=λh=>by simp_all,ζ:=by simp_all,out:=by simp_all} (by omega) (by omega)
    .obtain⟨j,q,y,u,w,z,⟨G,F⟩,N,t,J,A,E⟩:=u9 (d:=((0,0,[]):KM)) c (show i<=ξ.length by omega) b.pcs ‹_›;obtain⟨D,O,P,Q⟩:=b.each y (by grind);simp only[w,z,Xj,←Int.natCast_succ];have W:=t.len;have Y:(aj y.2.1.toNat x.ι).length=y.2.1.toNat:=by simp_all
     refine(KOk.on c h k a g (gk:=ny ξ j+1) (by omega) (by omega) (D.set _ (by omega)) (λr e=>h.ε r (List.mem_of_mem_take e)) (by omega) (by omega) h.δ (by omega) ?_ h.pb).wk (by omega) (by omega);rw[show x.θ.dropLast=q by grind];exact b.drop u (by rw[t.st];exact A) (by omega)
   .split
    .refine⟨?_,.inl rfl⟩;have C:=Aj v ‹_›;have o:stk ξ (i+1)=stk ξ i:=iQ a (by omega) (by omega);simp only[p];refine(KOk.on c h k a g (by omega) (by omega) h.μ (λr e=>?_) (by simp) (by omega) h.δ (by omega) (b.mono o (by simp)) h.pb).wk (by omega) (by omega);rcases Xp.1 e with e|e
     .exact h.ε r e
     .rw[cw]at e;subst e;have:=C.1;unfold bO at this;exact⟨by simp_all,h.μ.get _⟩
    .split
     .refine⟨?_,.inl rfl⟩;obtain⟨M,s2⟩:=s.sk i a ‹_›;have C:=Al v ‹_›;have o:stk ξ (i+1)=stk ξ i:=iQ a (by omega) (by omega);have L:stk ξ (i+1+ξ[i].2.2.1.toNat)=stk ξ i:=by grind [Ug]
      by_cases B:al x.μ ξ[i].2.1 0=0
      .simp only[Wf B,show x.pc+ξ[i].2.2.1+1=((i+1+ξ[i].2.2.1.toNat:Nat):Int) by omega];exact(KOk.on c h k a g M (by omega) h.μ h.ε (by omega) (by omega) h.δ (by omega) (b.mono L (by omega)) h.pb).wk (by omega) (by omega)
      .simp only[We B,p];exact(KOk.on c h k a g (by omega) (by omega) h.μ h.ε (by omega) (by omega) h.δ (by omega) (b.mono o (by omega)) h.pb).wk (by omega) (by omega)
     .split
      .refine⟨?_,.inl rfl⟩;simp only[p];rw[g];exact(KOk.on c h k a g (by omega) (by omega) h.μ h.ε (by omega) (by omega) h.δ (by omega) (b.begin a ‹_› h.μ K) h.pb).wk (by omega) (by omega)
      .split
       .refine⟨?_,.inl rfl⟩;have I:x.θ.length≠0:=by
         have T:=b.len c (by omega);have U:=c.up i a
         grind [fa,pt]
        obtain⟨j,q,y,u,w,z,⟨G,F⟩,N,t,J,A,E⟩:=u9 (d:=((0,0,[]):KM)) c (show i<=ξ.length by omega) b.pcs I;obtain⟨D,O,P,Q⟩:=b.each y (by grind);simp only[p];refine(KOk.on c h k a g (by omega) (by omega) (h.μ.set _ (by omega)) h.ε (by omega) (by omega) h.δ (by omega) ?_ h.pb).wk (by omega) (by omega);rw[show x.θ.dropLast=q by grind];exact b.drop u (rq a ‹_›) (by omega)
       .refine⟨?_,.inl rfl⟩;have o:stk ξ (i+1)=stk ξ i:=iQ a (by omega) (by omega);simp only[p];exact(KOk.on c h k a g (by omega) (by omega) (Mk v (by omega) (by omega) h.μ) h.ε (by omega) (by omega) h.δ (by omega) (b.mono o (by omega)) h.pb).wk (by omega) (by omega)
end
end
section
def hC(c:Int)(v:List En)(r:Rw):List En:=match ent v r.1 with
 |some a=>v.set a.1 (r.1,r.2,c)
 |none=>v++ [(r.1,r.2,c)]
theorem TW(c:Int)(v:List En)(r:Rw):(hC c v r).length<=v.length+1:=by
 unfold hC;split<;>simp
theorem apE{a b:En}:Ap cfE a b↔a.1≠b.1:=by unfold Ap cfE;omega
theorem WrY{c:Int}{L M:List En}{r:Rw}(k:L.Pairwise (Ap cfE))(d:Ris cfE M)(h:∀x,x∈L↔x∈M):
  (hC c L r).Pairwise (Ap cfE)/\Ris cfE (cd cfE M (r.1,r.2,c))/\∀x,x∈hC c L r↔x∈cd cfE M (r.1,r.2,c):=by
 have b:(hC c L r).Pairwise (Ap cfE)/\∀x,x∈hC c L r↔x=(r.1,r.2,c)\/(x∈L/\Ap cfE x (r.1,r.2,c)):=by
  unfold hC ent;cases he:fnd (λe:En=>e.1==r.1) L 0 with
  |some a=>
   obtain⟨i,j,f,g⟩:=kr he;simp only[bX,rR]at f g
   grind [Xq,Td,rG,apE]
  |none=>
   grind [Db,SM,apE]
 refine⟨b.1,oU rG d,λx=>?_⟩;rw[b.2 x,oX rG d,h]
theorem Vj{c:Int}:∀{ε:List Rw} {L M:List En},L.Pairwise (Ap cfE)->Ris cfE M->(∀x,x∈L↔x∈M)->
  (ε.foldl (hC c) L).Pairwise (Ap cfE)/\Ris cfE (qz c M ε)/\∀x,x∈ε.foldl (hC c) L↔x∈qz c M ε
 | [],_,_,e,f,g=>⟨e,f,g⟩
 |r::ε,L,M,e,f,g=>by
  obtain⟨a,b,d⟩:=WrY (c:=c) (r:=r) e f g;exact Vj (ε:=ε) a b d
theorem TF{c:Int}:∀(ε:List Rw) (L:List En),(ε.foldl (hC c) L).length<=L.length+ε.length
 | [],L=>by simp
 |r::ε,L=>by
  have:=TF (c:=c) ε (hC c L r)
  grind [TW,Xs]
theorem KT{c:Int}{P:En->Prop}:∀{ε:List Rw} {M:List En},Ris cfE M->(∀x∈M,P x)->(∀r∈ε,P (r.1,r.2,c))->∀x∈qz c M ε,P x
 | [],_,_,h,_=>h
 |r::ε,M,b,h,hr=>by
  refine KT (ε:=ε) (oU rG b) (λx d=>?_) λe a=>hr e (Xg _ a);rcases(oX rG b).1 d with rfl|a
  .simp_all
  simp_all
theorem Uv{R:Type}{N:Nat}{I b7 b8 b9:Int}{az:Bool}{g k p q i m:Int}{z:Bool}{l B C s:Int}{bT:List Kc}{D:List Int}{u:List Kc}{o:List Int}{x:List Kc}{A:List Y_KidRun}{E:Nat}{w:List Int}{y:List Kb}{t:List Kc}{r:List Kk}{K0:Int->Bool->Ks->Option R}(H:1048576<N)(J:bT.length<=8):
  ∀(d j n:Nat) (v:List En),j+d=bT.length->d<n->v.length<=100+j->
  p3 N I (Wh bT) b7 b8 b9 az g k p q i m z l B C s bT D u o x A E w y t r K0 n (j:Int) v=K0 (bT.length:Int) false ((bT.drop j).foldl (hC b8) v)
 |0,j,n+1,v,L,M,hv=>by
  simp_all [p3,WP,Xm,Wb,fr,List.foldl_nil]
 |d+1,j,n+1,v,L,M,hv=>by
  have e:j<bT.length:=by omega
  have O:=K6 (N:=N) (f:=(b7,(b8,(b9,(az,(D,(u,(v,(o,(x,Xe A E (g,(k,(p,(q,(i,(m,(w,(y,(t,(r,(z,(l,(B,(C,s)))))))))))))))))))))))) (c:=bT[j].1) (by grind) H;have U:=TW b8 v bT[j];have b:∀F,F=hC b8 v bT[j]->p3 N I (Wh bT) b7 b8 b9 az g k p q i m z l B C s bT D u o x A E w y t r K0 n ((j+1:Nat):Int) F=K0 (bT.length:Int) false ((bT.drop j).foldl (hC b8) v):=λF K=>by
   subst K;rw[Uv H J d (j+1) n _ (by omega) (by omega) (by omega),dY e,List.foldl_cons]
  simp only[p3,Wp,WG e,Ws e,Ww e,Wk (show j<4611686018427387904 by omega),Wa,O,ret,Xd];have T:ent v bT[j].1=ent v bT[j].1:=rfl;unfold hC at b;cases he:ent v bT[j].1 with
  |some a=>
   rw[he]at b;obtain⟨P,Q,G,S⟩:=kr he;rw[bX]at G;simp only[Wc (show((a.1:Int)>=0) by omega),Wa];rw[WH,Wc G];simp only[Wa,Xj];exact b _ rfl
  |none=>
   rw[he]at b;simp only[show decide ((-1:Int)>=0)=false from rfl,Wb];rw[Wn (by simp;omega)];simp only[Wa,d1];exact b _ rfl
 |_,_,0,_,_,h,_=>by omega
theorem L2{R:Type}{N:Nat}{u f e g:Int}{i:Bool}{k l m c o w:Int}{r:Bool}{s t A F:Int}{dX:List Kb}{E:List Int}{B:List Kc}{C:List Kb}{G:List Int}{I:List Y_KidRun}{H:Nat}{q:List Int}{p:List Kc}{D:List Kk}{K0:Int->Bool->Kx->Option R}(b:dX.length<=1000):
  ∀(d j n:Nat) (v:List Rw),j+d=dX.length->d<n->v.length<=1000+j->
  sq N u (Wh dX) f e g i k l m c o w r s t A F dX E B C G I H q p D K0 n (j:Int) v=K0 (dX.length:Int) false (v++fw (dX.drop j))
 |0,j,n+1,v,y,z,hv=>by
  have:j=dX.length:=by omega
  subst this;simp only[sq,WP (Xm dX.length),Wb,fr,fw,List.filter_nil,List.map_nil,List.append_nil]
 |d+1,j,n+1,v,y,z,hv=>by
  have a:j<dX.length:=by omega
  have x:fw (dX.drop j)=if dX[j].2.2= -1 then(dX[j].1,dX[j].2.1)::fw (dX.drop (j+1))else fw (dX.drop (j+1)):=by
   rw[dY a];unfold fw
   grind
  simp only[sq,Wp,WG a,Ws a,Ww a,Wk (show j<4611686018427387904 by omega),Wa,Wu];rw[x];by_cases h:dX[j].2.2= -1
  .rw[Wf h,Wf h,Wn (by simp;omega)];simp only[Wa];rw[L2 b d (j+1) n _ (by omega) (by omega) (by simp;omega)];simp
  .rw[We h,We h];rw[L2 b d (j+1) n _ (by omega) (by omega) (by omega)]
 |_,_,0,_,_,h,_=>by omega
variable{N:Nat}{codes:List (List Opn)}{n:Int}{f:Fm}{k:Nat}{ξ:List Opn}{m:Mm}{x:Kd}
theorem WxG{l:List En}(h:Ris cfE l):l.Pairwise (Ap cfE):=h.imp λh=>.inl h
theorem WlZ(l:k<f.ο.length)(Q:f.ο.length<=3)(V:ξ.length<=24)(a:FOk codes n f)(p:codes.getD k []=ξ)(o:f.ο[k]=x)(j:1048576<N):
  AI N f.e (k:Int)=some (((Fm.put (q9 f x k) k).e,()),()):=by
 have b:=a.kid k l;rw[p,o]at b;obtain⟨F,G,H,I,J,K,L,M,O,u⟩:=fmP f;have E:=b.pc;have U:=b.wl;have R:=b.sl;have X:=a.buf8;have T:f.Cq.length<=3:=by
  have i:=a.done
  grind
 have W:=a.readsL;have s:Xc (f.ο.map Kd.e) (Xa (k:Int)) d_KidRun=x.e:=by
  simp_all
 unfold AI;simp only[u,Xt];rw[WH,Wc l];simp only[Wa,s];have t:oK N x.e.2.2.2.2.2.2.2.2.1=ret (aA x.ι):=Fx (show x.ι.length<=1048576 by omega) j;rw[t];simp only[ret,Xd];have D:=o0 x.ι;rw[show(0:Int)=((0:Nat):Int)from rfl];rw[Uv (bT:=aA x.ι) j D (aA x.ι).length 0 N _ (by omega) (by omega) (by grind)];simp only[eC];have d:P6 f.e=f.buf:=rfl;have q:Wj .i64 f.e.2.1 1=f.γ+1:=au (by have:=a.γ;omega);rw[d,q];obtain⟨B,C,m⟩:=Vj (c:=f.γ+1) (ε:=aA x.ι) (WxG a.bufR) a.bufR (λx=>Iff.rfl);unfold Qg;have S:=TF (c:=f.γ+1) (aA x.ι) f.buf;rw[Uy (rng:=D0) (N:=N) rG C B m (λe h=>?_) (by omega)]
 .simp only[Xd];have v:P7 x.e=x.δ:=rfl;rw[show(Kd.e x).2.2.2.2.2.2.2.1=x.δ from rfl];rw[L2 (dX:=x.δ) (by omega) x.δ.length 0 N _ (by omega) (by omega) (by grind)];rw[Wn (by grind)];simp only[Wa,eC];have w:∀(g:Fm) (y:Kd),U6 (Xe (f.ο.map Kd.e) k y.e) (S5 (f.κ++fw x.δ) (S4 (f.Cq++ [(k:Int)]) (S3 (qz (f.γ+1) f.buf (aA x.ι)) f.e.2.2.2)))=(f.Cv,f.μ,f.start,qz (f.γ+1) f.buf (aA x.ι),f.Cq++ [(k:Int)],f.κ++fw x.δ,(f.ο.set k y).map Kd.e):=λg y=>by
   rw[NU];rfl
  rw[Xj];exact Wq (λz=>some (((f.rv,(f.γ+1,((0:Int),z))),()),())) (w f {x with ζ:=3,pos:=0,θ:=[]})
 .have i:=(m e).1 h;have:=KT (P:=λe=>0<=e.1/\e.1<=7) a.bufR (λe h=>(a.bufE e h).1) (λr A=>(UI.1 A).1) e i
  grind [D0,rH]
theorem Wnk(g:k<f.ο.length)(c:FOk codes n f)(d:KOk ξ f.γ n x)(a:f.ο[k]=x)(i:n<=100000)(o:Int):
  sw N (Fm.e {f with Cl:=o}) (k:Int)=some (((Fm.put ({f with Cl:=o},f.again x) k).e,()),()):=by
 have h:=QL (N:=N) (f:=Fm.e {f with Cl:=o}) (k:=k) (x:=x.e) (by show k<(f.ο.map Kd.e).length;simp_all) c.μ.len (by have:=d.χ;show 0<=x.χ/\x.χ<=100000;omega);have b:U9 (Xe (Q9 (Fm.e {f with Cl:=o})) k x.e) (Fm.e {f with Cl:=o})=Fm.e {f with Cl:=o}:=by
  have:=U9e {f with Cl:=o} k x;rw[←a]at this;simp only[je]at this;rw[←a];exact this
 rw[b]at h;rw[h];exact Wq (λz=>some ((z,()),())) (U9e {f with Cl:=o} k (f.again x))
theorem Wlq(h:k<f.ο.length)(G:f.ο.length<=3)(I:W2 m=true)(u:KC ξ)(p:FOk codes n f)(s:codes.getD k []=ξ)(J:n<=100000)(t:1048576<N):
  HK N f.e (k:Int) ξ m=some (((i0 m f k ξ).e,()),()):=by
 obtain⟨x,d⟩:∃x,f.ο[k]=x:=⟨_,rfl⟩;have r:=p.kid k h;rw[s,d]at r;obtain⟨U,V,C,D,W,X,E,Y,Z,F⟩:=fmP f;obtain⟨K,k1,k2,k3,M,k5,k6,O,k8,k9,L⟩:=kdP x;have jY:=r.sl;have R:=r.pc;have P:=u.len;have A:Xc (f.ο.map Kd.e) (Xa (k:Int)) d_KidRun=x.e:=by
  simp_all
 have B:U9 (Xe (f.ο.map Kd.e) (Xa (k:Int)) x.e) f.e=f.e:=by
  rw[Xj,U9e,←d,je]
 have T:Fm.put (f,x) k=f:=by unfold Fm.put;simp only;rw[←d,je]
 unfold HK i0 nB;simp only[Wp,F,D,Xt];rw[qF];by_cases b:f.Cv=true
 .rw[Wf b,Wf b]
 rw[We b,We b];rw[WH,Wc h];simp only[Wa,Wb,A,B,K,M,O,C,Wu,WA h,d];by_cases g:x.ζ=0
 .rw[Wf g,Wf g,Wpo h I u p s d g J t];rfl
 .rw[We g,We g];by_cases o:x.ζ=1
  .rw[Wf o,Wf o];by_cases w:f.Cl=0
   .rw[Wf w,Wf w,au (by omega),Xj];exact la rfl rfl rfl
   simp_all
  .rw[We o,We o];by_cases v:x.ζ=2
   .rw[Wf v,Wf v];unfold Wh;by_cases q:x.pos=(x.δ.length:Int)
    .rw[Wf q,Wf q,WlZ h G P p s d t];rfl
    .rw[We q,We q];have hZ:=r.pos;have z:inb x.pos x.δ.length=true:=by grind [inb]
     rw[z];have H:Xc x.δ (Xa x.pos) ((0,0,0):En)=al x.δ x.pos (0,0,0):=rfl;simp only[Wa,H];have y:=K6 (N:=N) (f:=f.e) (c:=(al x.δ x.pos (0,0,0)).1) (by show f.buf.length<=1048576;have:=p.buf8;omega) t;rw[show f.e.2.2.2.2.2.2.1=f.buf from rfl]at y;rw[y];simp only[ret,Xd,E];have S:S2 (0:Int) f.e=Fm.e {f with Cl:=0}:=rfl;have jq:sw N (U9 (Xe (f.ο.map Kd.e) (Xa (k:Int)) x.e) (S2 0 f.e)) (k:Int)=some (((Fm.put ({f with Cl:=0},f.again x) k).e,()),()):=by
      grind [U9e,Xj,U9,Xe,Kd.e,Fm.e,je,Wnk]
     unfold NC;have Q:Wj .i64 x.pos 1=x.pos+1:=au (by omega);rw[Q];cases he:ent f.buf (al x.δ x.pos (0,0,0)).1 with
     |some a=>
      obtain⟨g1,g2,j,l⟩:=kr he;rw[bX]at j;rw[rR,Xq j]at l;injection l with l;simp only[Wc (show((a.1:Int)>=0) by omega),Wa];rw[WH,Wc j];simp only[Wa,Ww j,l];by_cases i:a.2.2.2=(al x.δ x.pos (0,0,0)).2.2
      .rw[Wf i,Wf i,Xj];exact la rfl rfl rfl
      simp_all
     |none=>
      simp only[show decide ((-1:Int)>=0)=false from rfl,Wb];by_cases i:(-1:Int)=(al x.δ x.pos (0,0,0)).2.2
      .rw[Wf i,Wf i,Xj];exact la rfl rfl rfl
      simp_all
   simp_all
end
section
section
variable{codes:List (List Opn)}{n:Int}{f f':Fm}{k:Nat}{ξ:List Opn}{m:Mm}{x y:Kd}
theorem FOk.len3(h:FOk codes n f)(b:codes.length<=3):f.Cq.length<=3:=by
 have a:=h.done;have:=List.countP_le_length (p:=λx:Kd=>decide (x.ζ=3)) (l:=f.ο);have:=h.len;omega
theorem FOk.put1(h:FOk codes n f)(c:k<f.ο.length)(e:codes.getD k []=ξ){o:Int}{l:Bool}(g:0<=o/\o<=f.ο.length)(m:KOk ξ f.γ (n+1) y)(j:f.ο[k].ζ≠3)(d:y.ζ≠3):
  FOk codes (n+1) (Fm.put ({f with Cl:=o,Cv:=l},y) k) where
 len:=by show(f.ο.set k y).length=_;rw[cZ];exact h.len
 μ:=h.μ
 γ:=h.γ
 done:=by
  show f.Cq.length=(f.ο.set k y).countP _;rw[YT c,We (by simp_all),We (by simp_all)];exact h.done
 bufR:=h.bufR
 bufE:=h.bufE
 readsL:=h.readsL
 readsE:=h.readsE
 Cl:=by show 0<=o/\o<=((f.ο.set k y).length:Int);simp_all
 kid:=λi a=>by
  change i<(f.ο.set k y).length at a;rw[cZ]at a;show KOk (codes.getD i []) f.γ (n+1) (f.ο.set k y)[i];rw[vH];by_cases b:k=i
  .simp_all
  .rw[We b];exact(h.kid i a).wk (by omega) (by omega)
theorem FOk.wk(h:FOk codes n f){n':Int}(b:n<=n'):FOk codes n' f:=
 {h with kid:=λk a=>(h.kid k a).wk (by omega) b}
theorem Wmr(h:∀e∈x.δ,(0<=e.1/\e.1<=7)/\(0<=e.2.1/\e.2.1<=65535)/\ -1<=e.2.2/\e.2.2<=x.Cs):hG (fw x.δ):=by
 intro r a;unfold fw at a
 grind
theorem WnN(l:List En):(fw l).length<=l.length:=by
 simp[fw,Xt,List.length_filter_le]
theorem RB{c:Int}:∀{ε:List Rw} {M:List En},Ris cfE M->Ris cfE (qz c M ε)
 | [],_,h=>h
 |r::ε,M,h=>RB (ε:=ε) (oU rG h)
theorem WsI(a:FOk codes n f)(o:k<f.ο.length)(p:ξ.length<=24)(l:codes.getD k []=ξ)(j:f.ο[k]=x)(m:x.ζ=2):
  FOk codes (n+1) (Fm.put (q9 f x k) k):=by
 have d:=a.kid k o;rw[l,j]at d;have t:=a.γ;unfold q9 Fm.put;refine{len:=?_,μ:=a.μ,γ:=?_,done:=?_,bufR:=RB a.bufR,bufE:=?_,readsL:=?_,readsE:=?_,Cl:=?_,kid:=?_}
 .simp only[cZ];exact a.len
 .grind
 .simp only[Xz,YH];rw[YT o,j,We (by simp[m]),Wf (by simp),←a.done];rfl
 .simp only;refine KT a.bufR (λe g=>?_) λr b=>?_
  .have:=a.bufE e g;omega
  .have:=FY r b;grind
 .have h1:=a.readsL;have m:=WnN x.δ;have q:=d.sl;have s:=d.pc
  grind
 .intro r b;rcases Xp.1 b with b|b
  .exact a.readsE r b
  .exact Wmr d.δ r b
 .simp_all
 .intro i hi;simp only[cZ]at hi;simp only[vH];by_cases g:k=i
  .subst g;rw[Wf rfl,l];refine KOk.wk (c:=f.γ) (n:=n) ?_ (by omega) (by omega);exact{d with θ:=(λh=>by simp_all),pos:=⟨vJ _,by simp_all⟩,ζ:=by simp_all}
  .rw[We g];exact(a.kid i hi).wk (by omega) (by omega)
theorem UY(b:k<f.ο.length)(t:W2 m=true)(p:KC ξ)(a:FOk codes n f)(d:codes.getD k []=ξ):FOk codes (n+1) (i0 m f k ξ):=by
 obtain⟨x,i⟩:∃x,f.ο[k]=x:=⟨_,rfl⟩;have e:=a.kid k b;rw[d,i]at e;have w:Fm.put (f,x) k=f:=by unfold Fm.put;simp only;rw[←i,je]
 have j:=a.wk (show n<=n+1 by omega);unfold i0 nB;split
 .exact j
 rw[WA b,i];split
 .rename_i h0;obtain⟨r,s⟩:=Ww8 p a e h0 t;have u:(hN m f x ξ).2.ζ≠3:=by
   grind [hN,iS,uD,Fm.again]
  have:=r;have v:∀q:Fm×Kd,(q.1=f\/q.1={f with Cv:=true})->KOk ξ f.γ (n+1) q.2->q.2.ζ≠3->FOk codes (n+1) (Fm.put q k):=by
   rintro⟨g,y⟩ hg hy hp;simp only at hg hy hp;rcases hg with rfl|rfl
   .exact FOk.put1 (o:=g.Cl) (l:=g.Cv) a b d a.Cl hy (by simp_all) hp
   .exact FOk.put1 (o:=f.Cl) (l:=true) a b d a.Cl hy (by simp_all) hp
  simp_all
 .split
  .rename_i r;split
   .refine FOk.put1 (o:=(k:Int)+1) (l:=f.Cv) a b d (by omega) ?_ (by simp_all) (by simp_all);refine KOk.wk (c:=f.γ) (n:=n) ?_ (by omega) (by omega);exact{e with θ:=(λh=>by simp_all),ζ:=by simp_all}
   simp_all
  .split
   .rename_i s;split
    .exact WsI a b p.len d i s
    .simp only;split
     .refine FOk.put1 (o:=f.Cl) (l:=f.Cv) a b d a.Cl ?_ (by simp_all) (by simp_all);refine KOk.wk (c:=f.γ) (n:=n) ?_ (by omega) (by omega);exact{e with pos:=by(have:=e.pos;grind)}
     .refine FOk.put1 (o:=0) (l:=f.Cv) a b d (by omega) (Uw e rfl a.μ a.γ.1) (by simp_all) (by show(0:Int)≠3;omega)
   simp_all
theorem Wtc{rv:Int}{μ:List Int}{ι:List Rw}(a:Vals 4 μ)(f:0<=n):FOk codes n (gY rv μ ι codes.length) where
 len:=by simp[gY]
 μ:=a
 γ:=by simp[gY]
 done:=by
  simp only[gY,j0];rw[List.countP_replicate,We (by simp)]
 bufR:=by
  grind [Ris,gY,MM,cfE]
 bufE:=λe b=>by
  obtain⟨r,a,rfl⟩:=Xv.1 b;have:=FY r a
  grind [gY]
 readsL:=by simp[gY]
 readsE:=λr a=>by cases a
 Cl:=by simp[gY]
 kid:=λk d=>by
  simp only[gY,NL];exact{pc:=by simp,μ:=a,ε:=(λr a=>by cases a),wl:=by simp,sl:=by simp,Cs:=by simp,χ:=by simp;omega,δ:=(λe b=>by cases b),θ:=(λ_=>⟨by simp[stk],(λq c=>by cases c),List.Pairwise.nil⟩),pos:=by simp,pb:=(λh=>by cases h),ζ:=by simp,out:=by simp}
end
end
section
theorem Ld{α β R:Type}{body:Int->α->List β->(List β->Option R)->Option R}{K:Int->List β->Option R}{f:α->β}:∀(l:List α) (d r:List β),l.length<=r.length->
  (∀(j:Nat) x (v:List β) k,x∈l->j<v.length->body j x v k=k (v.set j (f x)))->cY body K l d.length (d++r)=K ((d.length+l.length:Nat):Int) (d++(l.map f++r.drop l.length))
 | [],d,r,_,_=>by simp[cY]
 |x::l,d,[],h,_=>by simp at h
 |x::l,d,y::r,h,hb=>by
  rw[cY,hb d.length x _ _ (Xl ..) (by simp),Wj2];have:=Ld (body:=body) (K:=K) (f:=f) l (d++ [f x]) r (by grind) λj z v k a=>hb j z v k (Xg _ a);simp only[Xz,YH,fq,Yj]at this;rw[this];simp only[Xs,List.map_cons,List.drop_succ_cons,List.cons_append];rw[show d.length+1+l.length=d.length+(l.length+1) by omega]
theorem Dy{α R:Type}{l:List α}{p:α->Bool}{lp:Nat->Int->Option R}{N:Nat}{K0:Int->Option R}{K1:Option R}(c:l.length<N)(e:l.length<=1048576)(d:∀n (j:Nat) (h:j<l.length),lp (n+1) (j:Int)=bif p l[j]then K0 j else lp n ((j+1:Nat):Int))(b:∀n,lp (n+1) (l.length:Int)=K1):lp N 0=match fnd p l 0 with|some r=>K0 r.1|none=>K1:=by
 have a:=WB (l:=l) (V:=Unit) (lp:=λn j _=>lp n j) c (body:=λj x v k=>bif p x then K0 j else k v) (K:=λ_ _=>K1) (λn j v h=>d n j h) (λn v=>b n) ();refine(a.trans (yM (p:=p) (E:=λj _=>K0 j) l 0 () λj x v k _=>rfl)).trans ?_;cases fnd p l 0<;>rfl
theorem Gt{α:Type}{p:α->Bool}:∀(l:List α) (j:Nat),(fnd p l j).isSome=l.any p
 | [],_=>rfl
 |x::l,j=>by
  unfold fnd;rw[List.any_cons];cases p x
  .simp[Gt l]
  .rfl
variable{N:Nat}
theorem WnK{f:Fm}(b:f.ο.length<=3)(m:1048576<N):I9 N f.e=ret (kw f):=by
 unfold I9 Qf Zz;have e:f.e.2.2.2.2.2.2.2.2.2=f.ο.map Kd.e:=rfl;rw[e];have o:(f.ο.map Kd.e).length<=3:=by simpa using b
 have g:=Dy (l:=f.ο.map Kd.e) (p:=λx=>x.1 !=3) (N:=N) (lp:=λn j=>Zg N (f.ο.map Kd.e) (λd=>(some ((),(d,())))) (λi k=>(some ((),((-1:Int),())))) n j) (K0:=λj=>some ((),(j,()))) (K1:=some ((),((-1:Int),()))) (by omega) (by omega)
  (λn j c=>by
   simp only[Zg,WG c,Ws c,Ww c,Wk (show j<4611686018427387904 by omega),Wa,Qp,Xd])
  (λn=>by simp only[Zg,WP (Xm _),Wb])
 rw[g];have a:=Gt (p:=λx:Y_KidRun=>x.1 !=3) (f.ο.map Kd.e) 0;have b:(f.ο.map Kd.e).any (λx=>x.1 !=3)= !kw f:=by
  unfold kw;rw[List.any_map,←ge];have:((λx:Y_KidRun=>x.1 !=3)∘Kd.e)= λx:Kd=>!decide (x.ζ=3):=by
   funext x;show(x.ζ !=3)= !decide (x.ζ=3);by_cases h:x.ζ=3<;>simp[h]
  rw[this]
 rw[b]at a;cases hf:fnd (λx:Y_KidRun=>x.1 !=3) (f.ο.map Kd.e) 0 with
 |some r=>
  rw[hf]at a;simp only[Xd,Wc (show((r.1:Int)>=0) by omega),Xn,ret];rw[show kw f=false by simpa using a.symm]
 |none=>
  rw[hf]at a;rw[show kw f=true by simpa using a.symm];rfl
theorem WnE{f:Fm}(h:f.buf.length<=1000)(g:1048576<N):BU N f.e=ret (y9 f):=by
 unfold BU;have e:f.e.2.2.2.2.2.2.1=f.buf:=rfl;rw[e];have c:=WB (l:=f.buf) (V:=List Rw) (R:=Unit×(List Rw×Unit)) (lp:=λn j v=>wQ N f.buf (Wh f.buf) (λm d b=>(some ((),(b,())))) n j v) (n:=N) (by omega)
  (body:=λj x v k=>bif Wx (v.length+ [(x.1,x.2.1)].length)then k (Xf v [(x.1,x.2.1)])else none) (K:=λ_ v=>ret v)
  (λn i v a=>by simp only[wQ,WG a,Ws a,Ww a,Wk (show i<4611686018427387904 by omega),Wa])
  (λn v=>by simp only[wQ,WP (Xm f.buf.length),Wb]) []
 refine c.trans ?_;rw[tM (f:=λx:En=>(x.1,x.2.1)) f.buf 0 [] (by simp;omega) (λj x v k _=>rfl)];rfl
theorem Wl8{f:Fm}(o:Vals 4 f.μ)(r:f.ο.length<=3)(t:∀x∈f.ο,x.μ.length<=1000)(m:1048576<N):BT N f.e=ret (ui f):=by
 unfold BT ui;have e:f.e.2.2.2.2.1=f.μ:=rfl;have q:f.e.2.2.2.2.2.2.2.2.2=f.ο.map Kd.e:=rfl;have b:gl f.μ=true:=m0.2 o;have E:=o.len;have F:(f.ο.map Kd.e).length=f.ο.length:=by simp
 rw[e,q,Fl (by omega) m,Wf ⟨b,r⟩];simp only[ret,Xd,b,Xn,Wb];rw[Wi (by unfold Wh;omega),mX (by omega)];simp only[ret,Xd,Wb];have a:=WB (l:=f.ο.map Kd.e) (V:=List Int) (R:=Unit×(List Int×Unit)) (lp:=λn j v=>p5 N (f.ο.map Kd.e) (Wh (f.ο.map Kd.e)) (λD G p=>(some ((),(p,())))) n j v) (n:=N) (by omega)
  (body:=λj x v k=>bif inb j v.length then(bif x.2.2.2.2.2.1==(1:Int)then((hY N (P6 x) (4:Int)).bind λc=>(bif c.2.1 then(bif inb 0 (P6 x).length then(bif inb j (Xe v j.toNat 0).length then k (Xe (Xe v j.toNat 0) j.toNat (Xc (P6 x) (Xa (0:Int)) 0))else none)else none)else k (Xe v j.toNat 0)))else k (Xe v j.toNat 0))else none) (K:=λ_ v=>ret v)
  (λn i v d=>by simp only[p5,Wp,WG d,Ws d,Ww d,Wk (show i<4611686018427387904 by omega),Wa];rfl)
  (λn v=>by simp only[p5,WP (Xm _),Wb]) f.μ
 refine a.trans ?_;have g:=Ld (β:=Int) (K:=λ_ v=>ret v) (f:=λx:Y_KidRun=>if P5 x=1/\gl (P6 x)=true then al (P6 x) 0 0 else 0) (f.ο.map Kd.e) [] f.μ (by omega) (body:=λj x v k=>bif inb j v.length then(bif x.2.2.2.2.2.1==(1:Int)then((hY N (P6 x) (4:Int)).bind λc=>(bif c.2.1 then(bif inb 0 (P6 x).length then(bif inb j (Xe v j.toNat 0).length then k (Xe (Xe v j.toNat 0) j.toNat (Xc (P6 x) (Xa (0:Int)) 0))else none)else none)else k (Xe v j.toNat 0)))else k (Xe v j.toNat 0))else none)
  (λj x v k A s=>by
   obtain⟨y,u,rfl⟩:=Xv.1 A;have C:=t y u;have w:(Kd.e y).2.2.2.2.2.1=y.out:=rfl;have B:P5 (Kd.e y)=y.out:=rfl;have z:P6 (Kd.e y)=y.μ:=rfl;simp only[w,B,z,WH,Wc s,Wa,Fl (show y.μ.length<=1048576 by omega) m,ret,Xd,Wu,Xj,cZ];by_cases a:y.out=1
   .rw[Wf a];cases b:gl y.μ
    .rw[We (by simp)];rfl
    .have:y.μ.length=4:=(m0.1 b).len;rw[Wf ⟨a,rfl⟩,show inb (0:Int) y.μ.length=true by rw[this];rfl];simp only[Wa,mC];rfl
   .rw[We a,We (λh=>a h.1)])
 simp only[j0,df,Xt,List.map_map]at g;exact g
theorem Wj3{rv:Int}{μ:List Int}{ι:List Rw}{ο:Nat}(z:μ.length<=1000)(A:ι.length<=1000)(y:ο<=3)(t:1048576<N):
  A3 N rv μ ι (ο:Int)=ret (gY rv μ ι ο).e:=by
 unfold A3;rw[mX (by omega),Fx (by omega) t];have p:=o0 ι;simp only[ret,Xd];have s:=WB (l:=aA ι) (V:=List En) (R:=Unit×(Y_Family×Unit)) (lp:=λn j v=>wG N μ ο (Wh (aA ι)) rv (aA ι) μ (λw B a=>
  (p9 N μ ο rv μ (aA ι) a
 (λq g c=>
  (some ((),((rv,((0:Int),((0:Int),(false,(μ,(aA ι,(a,(([]:List Int),(([]:List Kc),c))))))))),()))))
 N (0:Int) ([]:List Y_KidRun))) n j v) (n:=N) (by omega)
  (body:=λj x v k=>bif Wx (v.length+ [(x.1,(x.2,(0:Int)))].length)then k (Xf v [(x.1,(x.2,(0:Int)))])else none) (K:=λ_ a=>(p9 N μ ο rv μ (aA ι) a
 (λq g c=>
  (some ((),((rv,((0:Int),((0:Int),(false,(μ,(aA ι,(a,(([]:List Int),(([]:List Kc),c))))))))),()))))
 N (0:Int) ([]:List Y_KidRun)))
  (λn i v m=>by simp only[wG,WG m,Ws m,Ww m,Wk (show i<4611686018427387904 by omega),Wa])
  (λn v=>by simp only[wG,WP (Xm _),Wb]) []
 refine s.trans ?_;rw[tM (f:=λx:Rw=>(x.1,(x.2,(0:Int)))) (aA ι) 0 [] (by simp;omega) (λj x v k _=>rfl)];simp only[df];obtain⟨b,o⟩:∃b,(aA ι).map (λx:Rw=>(x.1,(x.2,(0:Int))))=b:=⟨_,rfl⟩;rw[o];have lp:∀(d j n:Nat) (v:List Y_KidRun),j+d=ο->d<n->v=Xk j (Kd.e {μ:=μ})->p9 N μ ο rv μ (aA ι) b (λq g c=>(some ((),((rv,((0:Int),((0:Int),(false,(μ,(aA ι,(b,(([]:List Int),(([]:List Kc),c))))))))),())))) n (j:Int) v=some ((),((rv,((0:Int),((0:Int),(false,(μ,(aA ι,(b,(([]:List Int),(([]:List Kc),Xk ο (Kd.e {μ:=μ})))))))))),())):=by
  intro d
  induction d with
  |zero=>
   intro j n v u p h;obtain⟨n,rfl⟩:∃n',n=n'+1:=⟨n-1,by omega⟩;have:j=ο:=by omega
   subst this;simp only[p9,Int.lt_irrefl,decide_false,Wb,h]
  |succ d ih=>
   intro j n v u p h;obtain⟨n,rfl⟩:∃n',n=n'+1:=⟨n-1,by omega⟩;have r:(j:Int)<(ο:Int):=by omega
   have C:v.length=j:=by rw[h];simp
   simp only[p9,Wc r,Wa,mX (show μ.length<=1048576 by omega),ret,Xd];rw[Wn (by simp;omega)];simp only[Wa];rw[Wk (by omega)];refine ih (j+1) n _ (by omega) (by omega) ?_;rw[h,List.replicate_succ'];rfl
 have:=lp ο 0 N [] (by omega) (by omega) rfl;refine this.trans ?_;unfold gY Fm.e;simp only[List.map_replicate,o]
end
section
def cj(s:Int):Int:=(s-1)/65536
def bK(k:Int):Int:=(7*k+3)%4
structure SlOk(l:List Int):Prop where
 len:l.length=16
 each:∀i (h:i<l.length),l[i]=0\/((1<=l[i]/\l[i]<=524288)/\bK (cj l[i])=((i/4:Nat):Int))
 one:∀i j (hi:i<l.length) (hj:j<l.length),i<j->l[i]≠0->l[j]≠0->cj l[i]≠cj l[j]
def pu(k s:Int):Bool:=decide (s>0)&&decide (cj s=k)
def eM(l:List Int)(k:Int):Option (Nat×Int):=fnd (pu k) l 0
def mm(l:List Int)(k:Int):Nat:=if al l (4*bK k) 0=0 then(4*bK k).toNat else(4*bK k).toNat+1
def pn(l:List Int)(k v:Int):List Int:=match eM l k with
 |some r=>l.set r.1 (1+65536*k+v)
 |none=>l.set (mm l k) (1+65536*k+v)
def aX(l:List Int)(k:Int):Int:=match eM l k with
 |some r=>(r.2-1)%65536+1
 |none=>0
def q6(l:List Int)(k:Int):List Int:=match eM l k with
 |some r=>l.set r.1 0
 |none=>l
variable{N:Nat}{l:List Int}{k v:Int}
theorem GY{n:Int}(h:I64 n):IntKind.wrap .i64 n=n:=ua h
theorem Tv{s:Int}(h:1<=s/\s<=524288):yj N s=ret (cj s):=by
 unfold yj;rw[WM (by unfold I64;omega)];have:d9 .i64 (s-1) 65536=cj s:=by
  unfold d9 cj;rw[D5 (by omega),GY (by unfold I64;omega)]
 rw[this];rfl
theorem Gg{s:Int}(h:1<=s/\s<=524288):0<=cj s/\cj s<=7:=by unfold cj;omega
theorem C7:fv N k=ret (decide (0<=k)&&decide (k<=7)):=by simp[fv,WK]
theorem SS(b:0<=k/\k<=7)(c:0<=v/\v<=65535):Ca N k v=ret (1+65536*k+v):=by
 unfold Ca;rw[qK (by unfold I64;omega),WD (a:=1) (by unfold I64;omega),WD (by unfold I64;omega)]
theorem Sf(a:0<=k/\k<=7):EE N k=ret (bK k):=by
 unfold EE;rw[C7,qK (by unfold I64;omega),WD (by unfold I64;omega)];have:aP (7*k+3) 4=bK k:=by grind [aP,bK,Int.tmod_eq_emod_of_nonneg]
 simp only[ret,Xd,Wc a.1,Wc a.2,c3,Xn,Wb,this];rfl
theorem SlOk.val(h:SlOk l){i:Nat}(hi:i<l.length)(b:l[i]≠0):1<=l[i]/\l[i]<=524288:=by
 rcases h.each i hi with a|a
 .omega
 omega
theorem KW(h:SlOk l)(g:1048576<N):qn N l k=ret (match eM l k with|some r=>(r.1:Int)|none=>-1):=by
 unfold qn eM;have i:=h.len;have c:=Dy (l:=l) (p:=pu k) (N:=N) (lp:=λn j=>tm N k l (λb=>(some ((),(b,())))) (λd e=>(some ((),((-1:Int),())))) n j) (K0:=λj=>some ((),(j,()))) (K1:=some ((),((-1:Int),()))) (by omega) (by omega)
  (λn j a=>by
   simp only[tm,WG a,Ws a,Ww a,Wk (show j<4611686018427387904 by omega),Wa];unfold pu;by_cases f:l[j]>0
   .rw[Tv (h.val a (by omega))]
    grind
   grind)
  (λn=>by simp[tm,WP,Xm,Wb])
 rw[c];cases fnd (pu k) l 0<;>rfl
theorem CM(h:SlOk l)(E:1048576<N):og N l=ret true:=by
 have F:=h.len;have z:∀(d j n:Nat) (s:List Bool),j+d=16->d<n->s.length=8->(∀c:Nat,s.getD c false=true->∃i,∃m:i<l.length,i<j/\l[i]≠0/\cj l[i]=c)->
   sN N l (some ((),(false,()))) (λG H B=>(some ((),(true,())))) n (j:Int) s=ret true:=by
  intro d
  induction d with
  |zero=>
   intro j n s u x _ _;obtain⟨n,rfl⟩:∃n',n=n'+1:=⟨n-1,by omega⟩;have:j=l.length:=by omega
   subst this;simp[sN,WP,Xm,Wb]
  |succ d ih=>
   intro j n s u x o r;obtain⟨n,rfl⟩:∃n',n=n'+1:=⟨n-1,by omega⟩;have a:j<l.length:=by omega
   simp only[sN,WG a,Ws a,Ww a,Wk (show j<4611686018427387904 by omega),Wa,Wu];by_cases e:l[j]=0
   .rw[Wf e];exact ih (j+1) n s (by omega) (by omega) o λc b=>by
     grind
   .rw[We e];have f:=h.val a e;have w:=Gg f;have A:bK (cj l[j])=((j/4:Nat):Int):=by
     rcases h.each j a with g|g
     .omega
     omega
    have y:d9 .i64 (j:Int) 4=((j/4:Nat):Int):=by
     unfold d9;rw[D5 (by omega),GY (by unfold I64;omega)];omega
    have p:s.getD (Xa (cj l[j])) false=false:=by
     rw[Bool.eq_false_iff];intro b;obtain⟨i,m,g,q,C⟩:=r _ b;exact h.one i j m a g q e (by omega)
    rw[SS (k:=7) (v:=65535) (by omega) (by omega),Tv f];simp only[ret,Xd,WK,show(1:Int)+65536*7+65535=524288 from rfl,Wc f.1,Wc f.2,c3,Xn,Wb,Sf w,A,y,bne_self_eq_false];rw[show inz (4:Int)=true from rfl];simp only[Wa];rw[show inb (cj l[j]) 8=true by grind [inb],o,Wc rfl,p];simp only[c3,Wa,Wb];refine ih (j+1) n _ (by omega) (by omega) (by simp_all) λc b=>?_;by_cases t:c=(cj l[j]).toNat
    .grind
    .have:s.getD c false=true:=by
      grind
     grind
 unfold og;rw[show((Wh l) !=(16:Int))=false by grind [Wh]];simp only[Wb];refine z 16 0 N _ (by omega) (by omega) (by simp) λc b=>?_;rw[List.getD_eq_getElem?_getD]at b;by_cases D:c<8
 .grind
 simp_all
theorem qu(h:SlOk l){r:Nat×Int}(e:eM l k=some r):∃i:r.1<l.length,l[r.1]=r.2/\1<=r.2/\r.2<=524288/\cj r.2=k/\bK k=((r.1/4:Nat):Int):=by
 obtain⟨c,f,a,b⟩:=kr e;rw[bX]at a;rw[rR,Xq a]at b;injection b with b;unfold pu at c;simp only[Xh,Wg]at c;have g:=h.val a (by omega);rcases h.each r.1 a with d|d
 .omega
 simp_all
theorem LF(h:SlOk l)(b:eM l k=none)(i:Nat)(hi:i<l.length)(a:l[i]≠0):cj l[i]≠k:=by
 have:=Db b l[i] (Xy hi);unfold pu at this;have c:=h.val hi a
 grind
theorem MY(k:Int):0<=bK k/\bK k<=3:=by unfold bK;omega
theorem LN(h:SlOk l)(s:0<=k/\k<=7)(g:eM l k=none):∃r:mm l k<l.length,l[mm l k]=0/\bK k=((mm l k/4:Nat):Int)/\(mm l k=(4*bK k).toNat\/(mm l k=(4*bK k).toNat+1/\al l (4*bK k) 0≠0)):=by
 have t:=h.len;have q:=MY k;unfold mm;have b:(4*bK k).toNat<l.length:=by omega
 have i:al l (4*bK k) 0=l[(4*bK k).toNat]:=WA b _;by_cases a:al l (4*bK k) 0=0
 .grind
 .simp only[We a];have c:(4*bK k).toNat+1<l.length:=by omega
  refine⟨c,?_,by omega,.inr ⟨trivial,a⟩⟩;refine Classical.byContradiction λd=>?_;rw[i]at a;have j:=LF h g _ b a;have m:=LF h g _ c d;have n:=h.one _ _ b c (by omega) a d;have o:=Gg (h.val b a);have p:=Gg (h.val c d);rcases h.each _ b with e|e
  .exact a e
  .rcases h.each _ c with f|f
   .exact d f
   grind [cj,bK]
theorem WuJ(a:0<=k/\k<=7)(b:0<=v/\v<=65535):(1<=1+65536*k+v/\1+65536*k+v<=524288)/\cj (1+65536*k+v)=k:=by unfold cj;omega
theorem Mo(h:SlOk l){i:Nat}(hi:i<l.length){s:Int}(o:s=0\/((1<=s/\s<=524288)/\bK (cj s)=((i/4:Nat):Int)))(n:s≠0->∀j (c:j<l.length),j≠i->l[j]≠0->cj l[j]≠cj s):SlOk (l.set i s) where
 len:=by rw[cZ];exact h.len
 each:=λj c=>by
  rw[cZ]at c;rw[vH];by_cases k:i=j
  .simp_all
  .rw[We k];exact h.each j c
 one:=λa b d e m=>by
  rw[cZ]at d e;rw[vH,vH];by_cases f:i=a
  .grind
  .rw[We f];by_cases g:i=b
   .grind
   .rw[We g];exact h.one a b d e m
theorem Dj(h:SlOk l)(m:0<=k/\k<=7)(n:0<=v/\v<=65535):SlOk (pn l k v):=by
 obtain⟨o,p⟩:=WuJ m n;unfold pn;cases hr:eM l k with
 |some r=>
  obtain⟨b,g,q,s,i,t⟩:=qu h hr;refine Mo h b (.inr ⟨o,by simp_all⟩) λ_ j c f d=>?_;rw[p,←i,←g];rcases Nat.lt_or_gt_of_ne f with a|a
  .exact h.one j r.1 c b a d (by omega)
  .exactλe=>h.one r.1 j b c a (by omega) d e.symm
 |none=>
  grind [LN,Mo,LF]
theorem To(h:SlOk l):SlOk (q6 l k):=by
 unfold q6;cases hr:eM l k with
 |some r=>
  obtain⟨a,b,_⟩:=qu h hr;exact Mo h a (.inl rfl) λh=>Wz rfl h
 |none=>exact h
theorem lQ(l:List Int)(k:Int):0<=aX l k/\aX l k<=65536:=by
 unfold aX;cases eM l k<;>simp only<;>omega
theorem Fc(h:SlOk l)(c:0<=k/\k<=7)(a:1048576<N):xY N l k=some ((),((if aX l k=0 then 0 else aX l k-1),(decide (aX l k≠0),()))):=by
 unfold xY aX;rw[CM h a,C7,KW h a];simp only[ret,Xd,Xn,Wb,Wc c.1,Wc c.2,c3];cases hr:eM l k with
 |none=>rfl
 |some r=>
  obtain⟨b,d,e,f,g,i⟩:=qu h hr;simp only[Wi (show¬((r.1:Int)<0) by omega),Wb,WH,Wc b,Wa,Ww b,d];rw[WM (by unfold I64;omega),gQ (by omega),We (by omega),Wc (by omega)];simp only[Int.add_sub_cancel];rfl
theorem KL(h:SlOk l)(a:0<=k/\k<=7)(i:0<=v/\v<=65535)(e:1048576<N):tq N l k v=some ((),(pn l k v,(aX l k,(true,())))):=by
 have w:=h.len;unfold tq;rw[CV (by omega),CM h e,C7,jy,KW h e,Fc h a e,SS a i,Sf a];simp only[ret,Xd,Xn,Wb,Wc a.1,Wc a.2,c3,fR.2 i];unfold pn aX;cases hr:eM l k with
 |some r=>
  obtain⟨d,f,o,b,g,t⟩:=qu h hr;simp only[Wc (show((r.1:Int)>=0) by omega),Wa,WH,Wc d,Xj];rw[We (by omega),WD (by unfold I64;omega)];simp_all
 |none=>
  simp only[show decide ((-1:Int)>=0)=false from rfl,Wb];have u:=MY k;obtain⟨d,f,o,b⟩:=LN h a hr;rw[qK (by unfold I64;omega)];obtain⟨c,rfl⟩:∃c,N=c+1+1:=⟨N-2,by omega⟩;have q:4*bK k=(((4*bK k).toNat:Nat):Int):=by omega
  have m:∀n,wL (c+1+1) k v l (λj s=>(bif inb j (Xb l)then(some ((),(Xe l (Xa j) (1+65536*k+v),(0,(true,())))))else none)) (n+1) (mm l k:Int)=some ((),(l.set (mm l k) (1+65536*k+v),((0:Int),(true,())))):=λn=>by
   simp only[wL,Ws d,Ww d,f,Wa,bne_self_eq_false,Wb];rw[Xj]
  rcases b with b|⟨b,g⟩
  .grind
  .have ae:(4*bK k).toNat<l.length:=by omega
   have p:al l (4*bK k) 0=l[(4*bK k).toNat]:=WA ae _;rw[p]at g;have x:=m c;rw[q];rw[wL];simp only[Ws ae,Ww ae,Wa];rw[show(l[(4*bK k).toNat] !=0)=true by grind,Wk (by omega),←b]
   grind
theorem QQ(h:SlOk l)(b:0<=k/\k<=7)(a:1048576<N):EF N l k=some ((),(q6 l k,(aX l k,(true,())))):=by
 have j:=h.len;unfold EF;rw[CV (by omega),CM h a,C7,KW h a,Fc h b a];simp only[ret,Xd,Xn,Wb,Wc b.1,Wc b.2,c3];unfold q6 aX;cases hr:eM l k with
 |some r=>
  obtain⟨c,d,e,f,g,i⟩:=qu h hr;simp only[Wi (show¬((r.1:Int)<0) by omega),Wa,Wb,WH,Wc c,Xj];rw[We (by omega),WD (by unfold I64;omega)];simp_all
 |none=>rfl
end
section
abbrev Shf:=List Int×Int
abbrev Un:=Int×Int×Int
structure ShOk(s:Shf):Prop where
 slots:SlOk s.1
 cnt:0<=s.2/\s.2<=65535
def UnV(u:Un):Prop:=(u.1=1/\(0<=u.2.1/\u.2.1<=7)/\0<=u.2.2/\u.2.2<=65535)\/(u.1=2/\(0<=u.2.1/\u.2.1<=7)/\u.2.2=0)\/(u.1=3/\u.2.1=0/\0<=u.2.2/\u.2.2<=65535)
def ux(s:Shf)(u:Un):Shf:=
 if u.1=1 then(pn s.1 u.2.1 u.2.2,s.2)else if u.1=2 then(q6 s.1 u.2.1,s.2)else if u.1=3 then(s.1,(s.2-u.2.2+65536)%65536)else s
def nb(k e:Int):Un:=if e=0 then(2,k,0)else(1,k,e-1)
def eF(s:Shf)(o:Opn)(r:List Int):Shf×List Int×Un:=
 if o.1=12 then((pn s.1 o.2.1 (al r o.2.2.1 0),s.2),hQ r o.2.2.2 (aX s.1 o.2.1%65536),nb o.2.1 (aX s.1 o.2.1))else
 if o.1=13 then(s,hQ r o.2.1 (aX s.1 o.2.2.1%65536),(0,0,0))else
 if o.1=14 then((q6 s.1 o.2.1,s.2),hQ r o.2.2.1 (aX s.1 o.2.1%65536),nb o.2.1 (aX s.1 o.2.1))else
 if o.1=15 then((s.1,(s.2+al r o.2.1 0)%65536),r,(3,0,al r o.2.1 0))else
 (s,hQ r o.2.1 s.2,(0,0,0))
def cV(o:Opn):Int×Int:=
 if o.1=12\/o.1=14 then(o.2.1,2)else if o.1=13 then(o.2.2.1,1)else if o.1=15 then(8,1)else(8,2)
section
variable{o:Opn}
theorem zV(h:bj o=true)(d:o.1=12):dH o.2.1=true/\am o.2.2.1=true/\am o.2.2.2=true:=by
 obtain⟨k,a,b,c⟩:=o;simp only at d;subst d;have:(dH a&&am b&&am c)=true:=h;simp_all
theorem DT(h:bj o=true)(d:o.1=13):am o.2.1=true/\dH o.2.2.1=true:=by
 obtain⟨k,a,b,c⟩:=o;simp only at d;subst d;have:(am a&&dH b&&(c==(0:Int)))=true:=h;simp_all
theorem zD(h:bj o=true)(d:o.1=14):dH o.2.1=true/\am o.2.2.1=true:=by
 obtain⟨k,a,b,c⟩:=o;simp only at d;subst d;have:(dH a&&am b&&(c==(0:Int)))=true:=h;simp_all
theorem XR(h:bj o=true)(d:o.1=15):am o.2.1=true:=by
 obtain⟨k,a,b,c⟩:=o;simp only at d;subst d;have:(am a&&(b==(0:Int))&&(c==(0:Int)))=true:=h;simp_all
theorem XK(h:bj o=true)(d:o.1=16):am o.2.1=true:=by
 obtain⟨k,a,b,c⟩:=o;simp only at d;subst d;have:(am a&&(b==(0:Int))&&(c==(0:Int)))=true:=h;simp_all
end
theorem lU{x:Int}:dH x=true↔0<=x/\x<=7:=by unfold dH;simp
variable{N:Nat}{s:Shf}{u:Un}{o:Opn}{r:List Int}
theorem Tg{k e:Int}(b:0<=k/\k<=7)(a:0<=e/\e<=65536):UnV (nb k e):=by
 unfold nb UnV
 grind
theorem Wrl(h:ShOk s)(d:UnV u):ShOk (ux s u):=by
 unfold ux;rcases d with⟨a,b,c⟩|⟨a,b,c⟩|⟨a,b,c⟩
 .rw[Wf a];exact⟨Dj h.slots b c,h.cnt⟩
 .rw[We (by omega),Wf a];exact⟨To h.slots,h.cnt⟩
 .rw[We (by omega),We (by omega),Wf a];exact⟨h.slots,by omega⟩
theorem Wrc(h:ShOk s)(d:Vals 4 r)(f:bj o=true)(g:12<=o.1):ShOk (eF s o r).1/\Vals 4 (eF s o r).2.1/\((eF s o r).2.2.1≠0->UnV (eF s o r).2.2)/\((eF s o r).2.2.1=0->(eF s o r).1=s):=by
 have i:=nE f;unfold eF;split
 .obtain⟨a,b,c⟩:=zV f ‹_›;rw[lU]at a;have e:=lQ s.1 o.2.1;exact⟨⟨Dj h.slots a (d.get _),h.cnt⟩,d.set _ (by omega),λ_=>Tg a e,λh=>by unfold nb at h;split at h<;>(simp_all)⟩
 .split
  .exact⟨h,d.set _ (by omega),λh=>Wz rfl h,λ_=>rfl⟩
  .split
   .obtain⟨a,b⟩:=zD f ‹_›;rw[lU]at a;have e:=lQ s.1 o.2.1;exact⟨⟨To h.slots,h.cnt⟩,d.set _ (by omega),λ_=>Tg a e,λh=>by unfold nb at h;split at h<;>(simp_all)⟩
   .split
    .have:=d.get o.2.1.toNat;have:=h.cnt;refine⟨⟨h.slots,by grind⟩,d,λ_=>.inr (.inr ⟨rfl,rfl,d.get _⟩),λh=>by simp_all⟩
    .exact⟨h,d.set _ h.cnt,λh=>Wz rfl h,λ_=>rfl⟩
theorem QM(h:ShOk s)(a:1048576<N):EW N s=ret true:=by
 unfold EW;rw[CM h.slots a,jy,fR.2 h.cnt];rfl
theorem Rk(h:ShOk s):Ez N s=ret s:=by
 unfold Ez;rw[CV (by have:=h.slots.len;omega)];rfl
theorem Wj0(d:UnV u):JY N u=ret true:=by
 unfold JY;simp only[Wu,C7,jy,ret,Xd];rcases d with⟨a,b,c⟩|⟨a,b,c⟩|⟨a,b,c⟩
 .simp_all [We,Wf,fR]
 .simp_all
 simp_all [We,Wf,fR]
theorem Wjv(h:ShOk s)(e:UnV u)(d:1048576<N):I7 N s u=some ((),(ux s u,(true,()))):=by
 unfold I7 ux;rw[Rk h,Wj0 e];simp only[ret,Xd];rw[QM h d];simp only[ret,Xd,Xn,Wb,Wu];have f:=h.cnt;rcases e with⟨a,b,c⟩|⟨a,b,c⟩|⟨a,b,c⟩
 .rw[Wf a,Wf a,KL h.slots b c d];rfl
 .rw[We (by omega),Wf a,We (by omega),Wf a,QQ h.slots b d];rfl
 .rw[We (by omega),We (by omega),Wf a,We (by omega),We (by omega),Wf a];rw[WM (by unfold I64;omega),WD (by unfold I64;omega),gQ (by omega)];rfl
theorem QR{k e:Int}(a:0<=e/\e<=65536):E1 N k e=ret (nb k e):=by
 unfold E1 nb;rw[Wu,WM (by unfold I64;omega)];split<;>rfl
theorem Wlz(a:bj o=true)(b:12<=o.1):Ii N o=some ((),((cV o).1,((cV o).2,()))):=by
 have c:=nE a;unfold Ii cV;rw[C2,a];simp only[ret,Xd,Xn,Wb,Wu];have:o.1=12\/o.1=13\/o.1=14\/o.1=15\/o.1=16:=by omega
 rcases this with h|h|h|h|h<;>simp[h]
theorem WiH(h:ShOk s)(m:Vals 4 r)(d:bj o=true)(p:12<=o.1)(k:1048576<N):
  I8 N s o r=some ((),((eF s o r).1,((eF s o r).2.1,((eF s o r).2.2,(true,()))))):=by
 have u:=nE d;have e:=m.len;have q:=h.cnt;unfold I8 eF;rw[Rk h,CV (by omega)];simp only[ret,Xd];rw[QM h k,Fl (by omega) k,m0.2 m,Re,Gu d p];simp only[ret,Xd,Xn,Wb,bne_self_eq_false,Wu,show inz (65536:Int)=true from rfl,Wa,Wp,cZ];by_cases f:o.1=12
 .obtain⟨a,b,c⟩:=zV d f;rw[lU]at a;rw[Wf f,Wf f,WV b e,WV c e];have l:=lQ s.1 o.2.1;rw[KL h.slots a (m.get _) k];simp only[Wa,Xd,QR l,ret];rw[gQ (by omega)];rfl
 .rw[We f,We f];by_cases g:o.1=13
  .obtain⟨a,b⟩:=DT d g;rw[lU]at b;have l:=lQ s.1 o.2.2.1;rw[Wf g,Wf g,WV a e,Fc h.slots b k];simp only[Wa,Xd];by_cases n:aX s.1 o.2.2.1=0
   .rw[n];rfl
   .rw[We n,Wc n,WD (by unfold I64;omega),gQ (by omega),Int.sub_add_cancel];simp only[Wa,mC];rfl
  .rw[We g,We g];by_cases i:o.1=14
   .obtain⟨a,b⟩:=zD d i;rw[lU]at a;have l:=lQ s.1 o.2.1;rw[Wf i,Wf i,WV b e,QQ h.slots a k];simp only[Wa,Xd,QR l,ret];rw[gQ (by omega)];rfl
   .rw[We i,We i];by_cases j:o.1=15
    .have a:=XR d j;have t:=m.get o.2.1.toNat;rw[Wf j,Wf j,WV a e];simp only[Wa];rw[WD (by unfold I64;omega),gQ (by omega)];rfl
    .have a:=XK d (by omega);rw[We j,We j,WV a e];rfl
def rm(l:List Int):Bool:=decide (l.length=8)&&l.all λx=>decide (0<=x)&&decide (x<=65536)
structure ThOk(t:List Int×List Int×Int):Prop where
 Cx:Vals 8 t.1
 map:t.2.1.length=8/\∀x∈t.2.1,0<=x/\x<=65536
 cnt:0<=t.2.2/\t.2.2<=65535
def pB(t:List Int×List Int×Int):Bool:=iL t.1&&(rm t.2.1&&bH t.2.2)
theorem WvA{t:List Int×List Int×Int}:pB t=true↔ThOk t:=by
 unfold pB rm;simp only[Xh,Mn,fR,Wg,bA];exact⟨λh=>⟨h.1,h.2.1,h.2.2⟩,λh=>⟨h.Cx,h.map,h.cnt⟩⟩
theorem RU{l:List Int}(g:l.length<=1048576)(f:1048576<N):yi N l=ret (rm l):=by
 unfold yi rm;have b:=WB (l:=l) (V:=Unit) (R:=Unit×Kf) (lp:=λn j v=>xh N l (some ((),(false,()))) (λd c=>(some ((),((Wh l)==(8:Int),())))) n j) (n:=N) (by omega)
  (body:=λj x v k=>bif !(decide (0<=x)&&decide (x<=65536))then some ((),(false,()))else k v) (K:=λ_ v=>some ((),((Wh l)==(8:Int),())))
  (λn i v a=>by simp only[xh,WG a,Ws a,Ww a,Wk (show i<4611686018427387904 by omega),Wa,WK,ret,Xd])
  (λn v=>by simp[xh,WP,Xm,Wb]) ()
 refine b.trans ?_;rw[fb (p:=λx=>!(decide (0<=x)&&decide (x<=65536))) (E:=λ_=>some ((),(false,()))) l 0 () (λj x v k _=>rfl),ge];have e:((Wh l)==(8:Int))=decide (l.length=8):=by
  grind [Wh]
 rw[e];cases l.all _<;>cases decide (l.length=8)<;>rfl
theorem Wkb{t:List Int×List Int×Int}(b:t.1.length<=1048576)(c:t.2.1.length<=1048576)(a:1048576<N):IQ N t=ret (pB t):=by
 unfold IQ pB;rw[Rr b a,RU c a,jy];cases iL t.1<;>cases rm t.2.1<;>rfl
def o4:List Int->Nat->List Int->List Int
 | [],_,l=>l
 |x::m,k,l=>o4 m (k+1) (if x>0 then pn l k (x-1)else l)
def zA(m:List Int):List Int:=o4 m 0 (Xk 16 0)
theorem LO:SlOk (Xk 16 0) where
 len:=by simp
 each:=λi h=>.inl (NL ..)
 one:=λi j a b _ h=>Wz (NL ..) h
theorem RJ:∀(m:List Int) (k:Nat) (l:List Int),k+m.length<=8->(∀x∈m,0<=x/\x<=65536)->SlOk l->SlOk (o4 m k l)
 | [],_,l,_,_,h=>h
 |x::m,k,l,b,a,h=>by
  have d:=a x (Xl ..);rw[Xs]at b;refine RJ m (k+1) _ (by omega) (λy c=>a y (Xg _ c)) ?_
  grind [Dj]
theorem WtX{m:List Int}(b:m.length=8)(a:∀x∈m,0<=x/\x<=65536):SlOk (zA m):=RJ m 0 _ (by omega) a LO
theorem Whk{m:List Int}(s:m.length=8)(k:∀x∈m,0<=x/\x<=65536)(c:1048576<N):xi N m=ret (zA m):=by
 have h:rm m=true:=by simp_all [rm,Xh,Wg,bA]
 unfold xi zA;rw[RU (by omega) c,h];simp only[ret,Xd,Xn,Wb];rw[show QC N=ret (Xk 16 0)from rfl];simp only[ret,Xd];have o:∀(d j n:Nat) (l:List Int),j+d=m.length->d<n->SlOk l->rS N m (λp q f=>(some ((),(f,())))) n (j:Int) l=ret (o4 (m.drop j) j l):=by
  intro d
  induction d with
  |zero=>
   intro j n l g i e;obtain⟨n,rfl⟩:∃n',n=n'+1:=⟨n-1,by omega⟩;have:j=m.length:=by omega
   subst this;simp[rS,WP,Xm,Wb,fr,o4]
  |succ d ih=>
   intro j n l g i e;obtain⟨n,rfl⟩:∃n',n=n'+1:=⟨n-1,by omega⟩;have a:j<m.length:=by omega
   have r:=k m[j] (Xy a);simp only[rS,WG a,Ws a,Ww a,Wk (show j<4611686018427387904 by omega),Wa,WX];rw[dY a,o4];by_cases b:m[j]>0
   .rw[Wf b,Wf b,WM (by unfold I64;omega),KL e (by omega) (by omega) c]
    grind [Dj]
   grind
 have:=o m.length 0 N (Xk 16 0) (by omega) (by omega) LO;simp_all
end
section
abbrev Hd:=Int×Int×Int
def HdV(h:Hd):Prop:=(1<=h.1/\h.1<=9)/\(0<=h.2.1/\h.2.1<=8)/\1<=h.2.2/\h.2.2<=2
def HdB(a b:Hd):Prop:=cfH a b<0/\(a.2.1=b.2.1->a.2.2≠2/\b.2.2≠2)
structure HOk(l:List Hd):Prop where
 val:∀h∈l,HdV h
 up:l.Pairwise HdB
theorem HOk.ris{l:List Hd}(h:HOk l):Ris cfH l:=h.up.imp λh=>h.1
def o7(l:List Hd)(who:Int):List Int:=(l.filter λh=>decide (h.1=who)).map (·.2.1)
def blk(who what mode:Int)(h:Hd):Bool:=decide (h.2.1=what)&&(decide (h.1≠who)&&(decide (mode=2)||decide (h.2.2=2)))
def m6(l:List Hd)(who what mode:Int):List Int:=(l.filter (blk who what mode)).map (·.1)
def fJ(who what:Int)(h:Hd):Bool:=decide (h.1=who)&&decide (h.2.1=what)
def dK(l:List Hd)(who what:Int):Int:=match fnd (fJ who what) l 0 with
 |some r=>r.2.2.2
 |none=>0
def gt(a b:Int):Int:=if a<=b then b else a
def Gm(l:List Hd)(who what mode:Int):List Hd:=cd cfH l (who,what,gt (dK l who what) mode)
def mb(l:List Hd)(who what mode:Int):Option (List Hd):=if m6 l who what mode= []then some (Gm l who what mode)else none
def WW(l:List Hd)(who:Int):List Hd:=l.filter λh=>!(h.1==who)
theorem eJ{α:Type}{a b:Int}{x y:α}:(bif a !=b then x else y)=if a=b then y else x:=by
 simp_all
theorem WwH{α:Type}{cf:α->α->Int}(b:Lin cf){L M:List α}(a:Ris cf L)(c:Ris cf M)(d:∀x,x∈L↔x∈M):L=M:=by
 rw[←DA b c (a.imp λh=>.inl h) d,DA b a (a.imp λh=>.inl h) λx=>Iff.rfl]
theorem apH{a b:Hd}:Ap cfH a b↔¬(a.1=b.1/\a.2.1=b.2.1):=by grind [Ap,gg]
theorem Lr{a b c d:Hd}(e:a.1=c.1)(f:a.2.1=c.2.1)(g:b.1=d.1)(h:b.2.1=d.2.1):cfH a b<0↔cfH c d<0:=by simp_all [gg]
variable{N:Nat}{l:List Hd}{who what mode:Int}
theorem WvI(h:Ris cfH l){i:Nat}(hi:i<l.length){e:Hd}(d:e.1=l[i].1)(f:e.2.1=l[i].2.1):Ris cfH (l.set i e):=by
 unfold Ris at*;rw[gu]at*;intro a b g j m;rw[cZ]at g j;rw[vH,vH];have:=h a b g j m;by_cases c:i=a
 .subst c;rw[Wf rfl,We (by omega)];exact(Lr d f rfl rfl).2 this
 .rw[We c];by_cases k:i=b
  .subst k;rw[Wf rfl];exact(Lr rfl rfl d f).2 this
  simp_all
theorem Ww1(h:Ris cfH l){i:Nat}(hi:i<l.length){e:Hd}(a:e.1=l[i].1)(b:e.2.1=l[i].2.1):l.set i e=cd cfH l e:=by
 refine WwH jb (WvI h hi a b) (oU jb h) λx=>?_;rw[(Td jb (h.imp λh=>.inl h) hi (by grind [apH])).2 x,oX jb h]
theorem Vv{h:Hd}:(decide (1<=h.1)&&decide (h.1<=9))=true/\(decide (0<=h.2.1)&&decide (h.2.1<=8))=true/\(decide (1<=h.2.2)&&decide (h.2.2<=2))=true↔HdV h:=by
 simp[HdV,Xh,Wg]
theorem QU{h:Hd}(d:HdV h):Cb N h.1 h.2.1 h.2.2=ret true:=by
 obtain⟨a,b,c⟩:=Vv.2 d;simp_all [Cb,WK,ret,Xd,Wa]
theorem Wm0{a b:Hd}(c:HdV a)(d:HdV b):HO N a b=ret (cfH a b):=by
 obtain⟨e,f,g⟩:=c;obtain⟨h,i,j⟩:=d
 grind [HO,cfH,WM,I64]
theorem Fa(h:HOk l)(u:l.length<=1048576)(t:1048576<N):tt N l=ret true:=by
 have p:∀(d j n:Nat),j+d=l.length->d<n->lJ N l (some ((),(false,()))) (λq r=>(some ((),(true,())))) n (j:Int)=ret true:=by
  intro d
  induction d with
  |zero=>
   intro j n k m;obtain⟨n,rfl⟩:∃n',n=n'+1:=⟨n-1,by omega⟩;simp_all [lJ,WP,Xm,Wb]
  |succ d ih=>
   intro j n k m;obtain⟨n,rfl⟩:∃n',n=n'+1:=⟨n-1,by omega⟩;have a:j<l.length:=by omega
   have f:=h.val l[j] (Xy a);have i:=ih (j+1) n (by omega) (by omega);simp only[lJ,WG a,Ws a,Ww a,Wk (show j<4611686018427387904 by omega),Wa,QU f,ret,Xd,Xn,Wb,i];by_cases s:j=0
   .grind
   .have e1:decide ((j:Int)>0)=true:=by simp;omega
    have g:Wv .i64 (j:Int) 1=((j-1:Nat):Int):=by grind [WM,I64]
    have b:j-1<l.length:=by omega
    have o:=h.val l[j-1] (Xy b);have c:=gu.1 h.up (j-1) j b a (by omega);simp only[e1,g,Wa,Ws b,Ww b,Wm0 o f,ret,Xd];rw[Wi (show¬(cfH l[j-1] l[j]>=0) by have:=c.1;omega)];simp only[Wb,Wu];by_cases e:l[j-1].2.1=l[j].2.1
    .rw[Wf e,We (c.2 e).2,We (c.2 e).1]
    simp_all
 exact p l.length 0 N (by omega) (by omega)
theorem yQ{α β R:Type}{body:Int->α->List β->(List β->Option R)->Option R}{K:Int->List β->Option R}{p:α->Bool}{f:α->β}:∀(l:List α) (j:Nat) (o:List β),o.length+l.length<=2000000->
  (∀(j:Nat) x (v:List β) k,x∈l->v.length<=2000000->body j x v k=bif p x then k (v++ [f x])else k v)->cY body K l j o=K ((j+l.length:Nat):Int) (o++(l.filter p).map f)
 | [],j,o,_,_=>by simp[cY]
 |x::l,j,o,h,hb=>by
  rw[Xs]at h;rw[cY,hb j x o _ (Xl ..) (by omega),en];have d:=λc b=>yQ (body:=body) (K:=K) (p:=p) (f:=f) l (j+1) c b λj y v k a=>hb j y v k (Xg _ a)
  grind
theorem Wiy(h:HOk l)(e:l.length<=1048576)(d:1048576<N):xZ N l who=ret (o7 l who):=by
 unfold xZ o7;rw[Fa h e d];simp only[ret,Xd,Xn,Wb];have c:=WB (l:=l) (V:=List Int) (R:=Unit×(List Int×Unit)) (lp:=λn j v=>sP N who l (λg m b=>(some ((),(b,())))) n j v) (n:=N) (by omega)
  (body:=λj x v k=>bif x.1==who then(bif Wx (v.length+ [x.2.1].length)then k (Xf v [x.2.1])else none)else k v) (K:=λ_ v=>ret v)
  (λn i v a=>by simp only[sP,WG a,Ws a,Ww a,Wk (show i<4611686018427387904 by omega),Wa])
  (λn v=>by simp[sP,WP,Xm,Wb]) []
 refine c.trans ?_;rw[yQ (p:=λh=>decide (h.1=who)) (f:=(·.2.1)) l 0 [] (by simp;omega) (λj x v k _ o=>by rw[Wn (by simp;omega)];simp only[Wu,WX,Wa,d1])];rfl
theorem Wkf(h:HOk l)(b:1<=mode/\mode<=2)(r:l.length<=1048576)(q:1048576<N):Cc N l who what mode=ret (m6 l who what mode):=by
 unfold Cc m6;rw[Fa h r q];simp only[ret,Xd,Xn,Wb,WK,Wc b.1,Wc b.2,c3];have o:=WB (l:=l) (V:=List Int) (R:=Unit×(List Int×Unit)) (lp:=λn j v=>mI N who what mode l (λs t c=>(some ((),(c,())))) n j v) (n:=N) (by omega)
  (body:=λj x v k=>bif x.2.1==what then(bif x.1 !=who then(bif mode==2 then(bif Wx (v.length+ [x.1].length)then k (Xf v [x.1])else none)else(bif x.2.2==2 then(bif Wx (v.length+ [x.1].length)then k (Xf v [x.1])else none)else k v))else k v)else k v) (K:=λ_ v=>ret v)
  (λn i v a=>by simp only[mI,WG a,Ws a,Ww a,Wk (show i<4611686018427387904 by omega),Wa])
  (λn v=>by simp[mI,WP,Xm,Wb]) []
 refine o.trans ?_;rw[yQ (p:=blk who what mode) (f:=(·.1)) l 0 [] (by simp;omega) (λj x v k _ u=>by
  rw[Wn (by simp;omega)];unfold blk;simp only[Wu,eJ,Wa,d1];by_cases d:x.2.1=what<;>by_cases e:x.1=who<;>by_cases g:mode=2<;>by_cases m:x.2.2=2<;>simp[d,e,g,m])]
 rfl
theorem Wxg(h:HOk l):0<=dK l who what/\dK l who what<=2:=by
 unfold dK;cases hf:fnd (fJ who what) l 0 with
 |none=>simp
 |some r=>
  have:=kr hf;have:=h.val r.2 (List.mem_of_getElem? this.2.2.2)
  grind [HdV]
theorem WiL(h:HOk l)(w:1<=who/\who<=9)(v:0<=what/\what<=8)(m:1<=mode/\mode<=2)(B:l.length<=1048000)(k:1048576<N):
  BJ N l who what mode=some ((),((mb l who what mode).getD l,((mb l who what mode).isSome,()))):=by
 unfold BJ mb;have y:xk N l=ret l:=by grind [xk,Wn]
 have q:Cb N who what mode=ret true:=QU (h:=(who,what,mode)) ⟨w,v,m⟩;rw[y,Fa h (by omega) k,q,Wkf h m (by omega) k];simp only[ret,Xd,Xn,Wb,WX];by_cases g:m6 l who what mode= []
 .rw[We (by rw[g];simp[Wh]),Wf g];have t:=Dy (l:=l) (p:=fJ who what) (N:=N) (lp:=λn j=>sQ N who what mode (Wh l) l (λs=>(some ((),(s,(true,()))))) (λz D=>
  (bif Wx ((Xb l)+(Xb ([(who,(what,mode))])))then
 ((Z2 N (Xf l ([(who,(what,mode))]))).bind λf=>
 (some ((),(f.1.1,(true,())))))else none)) n j)
   (K0:=λj=>some ((),(l.set j.toNat ((l.getD j.toNat (0,0,0)).1,(l.getD j.toNat (0,0,0)).2.1,mz (l.getD j.toNat (0,0,0)).2.2 mode),(true,())))) (K1:=(bif Wx ((Xb l)+(Xb ([(who,(what,mode))])))then
 ((Z2 N (Xf l ([(who,(what,mode))]))).bind λf=>
 (some ((),(f.1.1,(true,())))))else none)) (by omega) (by omega)
   (λn j i=>by
    simp only[sQ,WG i,Ws i,Ww i,Wk (show j<4611686018427387904 by omega),Wa];simp[fJ,Wu,Wvj,WX])
   (λn=>by simp[sQ,WP,Xm,Wb])
  rw[t];unfold Gm dK;cases hf:fnd (fJ who what) l 0 with
  |some r=>
   obtain⟨b,A,c,d⟩:=kr hf;rw[bX]at c;rw[rR,Xq c]at d;injection d with d;unfold fJ at b;simp only[Xh,Wg]at b;simp only[Ww c,d,Option.getD_some,Option.isSome_some];rw[Xj];have:mz r.2.2.2 mode=gt r.2.2.2 mode:=by grind [mz,gt]
   rw[this,b.1,b.2,Ww1 h.ris c (e:=(who,what,gt r.2.2.2 mode)) (by simp_all) (by simp_all)]
  |none=>
   have C:=Db hf;simp only;rw[Wn (by simp;omega)];have u:gt 0 mode=mode:=by unfold gt;rw[Wf (by omega)]
   have o:=SM (cf:=cfH) (L:=l) (e:=(who,what,mode)) (h.ris.imp λh=>.inl h) (λx a=>by
    grind [apH,fJ,Bool.and_eq_false_iff,decide_eq_false_iff_not])
   unfold Z2;simp only[Wa,d1];rw[Uy (rng:=vu) (N:=N) jb (M:=cd cfH l (who,what,mode)) (oU jb h.ris) o.1 (λx=>by rw[o.2 x,oX jb h.ris]) (λx a=>by
    rcases Xp.1 a with a|a
    .have:=h.val x a
     grind [HdV,vu,rH]
    grind [cw,vu,rH]) (by simp;omega)]
   simp_all
 .rw[Wf (by
   simp_all [m6,List.eq_nil_of_length_eq_zero,Wh]),We g]
  rfl
theorem Wq1(h:HOk l)(F:1<=who/\who<=9)(E:0<=what/\what<=8)(L:1<=mode/\mode<=2)(J:m6 l who what mode= []):HOk (Gm l who what mode):=by
 have M:=Wxg (who:=who) (what:=what) h;have G:∀x∈l,x.2.1=what->x.1≠who->mode≠2/\x.2.2≠2:=λx c f q=>by
  refine Classical.byContradiction λK=>?_;have:x.1∈m6 l who what mode:=Xv.2 ⟨x,ei.2 ⟨c,by grind [blk]⟩,rfl⟩;simp_all
 have H:∀x∈l,x.2.1=what->x.1≠who->dK l who what≠2:=λx c f q=>by
  unfold dK;cases hf:fnd (fJ who what) l 0 with
  |none=>simp
  |some r=>
   obtain⟨k,I,o,p⟩:=kr hf;rw[bX]at o;rw[rR,Xq o]at p;injection p with p;unfold fJ at k;simp only[Xh,Wg]at k;obtain⟨j,g,rfl⟩:=ln c;have m:=gu.1 h.up;simp only;rw[←p]at k⊢;rcases Yx r.1 j with d|B|d
   .exact((m r.1 j o g d).2 (by rw[f,k.2])).1
   .simp_all
   .exact((m j r.1 g o d).2 (by rw[f,k.2])).2
 unfold Gm;refine⟨λx c=>?_,?_⟩
 .rcases(oX jb h.ris).1 c with rfl|c
  .refine⟨F,E,?_⟩;simp only;unfold gt;split<;>omega
  .exact h.val x c.1
 .have hr:=oU (e:=(who,what,gt (dK l who what) mode)) jb h.ris;have v:=λx=>oX (e:=(who,what,gt (dK l who what) mode)) (x:=x) jb h.ris;have C:∀x∈l,x.2.1=what->x.1≠who->gt (dK l who what) mode≠2:=λx c f q=>by
   have:=H x c f q;have:=(G x c f q).1;unfold gt;split<;>omega
  unfold Ris at hr;rw[gu]at hr⊢;intro i j s g A;refine⟨hr i j s g A,λD=>?_⟩;have d:=hr i j s g A;have t:=(v _).1 (Xy s);have u:=(v _).1 (Xy g);generalize (cd cfH l (who,what,gt (dK l who what) mode))[i]=x at*;generalize (cd cfH l (who,what,gt (dK l who what) mode))[j]=y at*;rcases t with rfl|t<;>rcases u with rfl|u
  .exact Wz d (jb.irr _)
  .grind [apH]
  .grind [apH]
  .obtain⟨a,z,rfl⟩:=ln t.1;obtain⟨b,w,rfl⟩:=ln u.1;have m:=gu.1 h.up;rcases Yx a b with n|n|n
   .exact(m a b z w n).2 D
   .subst n;exact Wz d (jb.irr _)
   .exact Wz (jb.tr _ _ _ d (m b a w z n).1) (jb.irr _)
theorem RX(h:HOk l):HOk (WW l who):=⟨λx a=>h.val x (ei.1 a).1,h.up.filter _⟩
theorem tU(h:HOk l):l.length<=81:=by
 have d:∀(l:List Hd) (c:Int),Ris cfH l->(∀e∈l,HdV e/\c<=9*e.2.1+e.1)->1<=c->(l.length:Int)<=82-c\/l= []:=by
  intro l
  induction l with
  |nil=>simp_all
  |cons a l ih=>
   intro c j f k;left;have g:=Xu.1 j;have i:=f a (Xl ..);unfold HdV at i;rcases ih (9*a.2.1+a.1+1) g.2 (λe b=>⟨(f e (Xg _ b)).1,by
    grind [gg,Xg,HdV]⟩) (by omega)with h|h
   .grind
   grind
 rcases d l 1 h.ris (λe b=>⟨h.val e b,by have:=h.val e b;grind [HdV]⟩) (by omega)with h|h
 .omega
 simp_all
theorem R1{α V R:Type}{body:Int->α->V->(V->Option R)->Option R}{K:Int->V->Option R}{p:α->Bool}{E:Int->V->Option R}:∀(l:List α) (j:Nat) (v:V),(∀(j:Nat) x v k,x∈l->body j x v k=bif p x then E j v else k v)->
  (∃a x r,l=a++x::r/\(∀y∈a,p y=false)/\p x=true/\cY body K l j v=E ((j+a.length:Nat):Int) v)\/((∀y∈l,p y=false)/\cY body K l j v=K ((j+l.length:Nat):Int) v)
 | [],j,v,_=>.inr ⟨by simp,rfl⟩
 |x::l,j,v,h=>by
  rw[cY,h j x v _ (Xl ..)];cases e:p x
  .simp only[Wb];rcases R1 (E:=E) l (j+1) v λj y v k i=>h j y v k (Xg _ i)with⟨a,y,r,c,d,f,g⟩|⟨c,d⟩
   .refine .inl ⟨x::a,y,r,by rw[c];rfl,λz b=>?_,f,?_⟩
    .rcases List.mem_cons.1 b with rfl|b
     .exact e
     .exact d z b
    .rw[g,Xs,show j+1+a.length=j+(a.length+1) by omega]
   grind
  .exact .inl ⟨[],x,l,rfl,by simp,e,rfl⟩
theorem M0{N:Nat}(b:Int){R:Type}(K:Int->Int->Bool->List Hd->Int->Option R):
  ∀(r a m:List Hd) (n:Nat),r.length<n->a.length+m.length+r.length<=1048576->∃d,
   Zc N K n (a.length:Int) ((a.length+m.length:Nat):Int) (a++m++r) b=
    K ((a++r.filter λx=>!(x.1==b)).length:Int) ((a.length+m.length+r.length:Nat):Int) false ((a++r.filter λx=>!(x.1==b))++d) b
 | [],a,m,0,h,_=>by simp at h
 | [],a,m,n+1,h,_=>by
  refine⟨m,?_⟩;have j:decide (((a.length+m.length:Nat):Int)<Wh (a++m++ []))=false:=by simp[Wh]
  simp only[Zc,j,Wb];simp
 |x::r,a,m,0,h,_=>by simp at h
 |x::r,a,m,n+1,h,hb=>by
  simp only[Xs]at h hb;have e:a.length+m.length<(a++m++x::r).length:=by simp
  have g:a.length<(a++m++x::r).length:=by simp;omega
  have i:Xc (a++m++x::r) (a.length+m.length) ((0:Int),((0:Int),(0:Int)))=x:=by
   simp_all
  cases hp:x.1==b
  .obtain⟨f,l,o⟩:∃f:List Hd,f.length=m.length/\(a++m++x::r).set a.length x=(a++ [x])++f++r:=by
    cases m with
    |nil=>simp_all
    |cons y m=>grind
   obtain⟨d,c⟩:=M0 (N:=N) b K r (a++ [x]) f n (by omega) (by simp;omega);refine⟨d,?_⟩;simp only[Zc,AS,WG e,Ws e,Ws g,Xj,i,hp,Xd,Wa,bS,Xj,o,
    Wk (show a.length<4611686018427387904 by omega),Wk (show a.length+m.length<4611686018427387904 by omega)]
   have k:(a++ [x]).length=a.length+1:=by simp
   rw[k,l,show a.length+1+m.length=a.length+m.length+1 by omega]at c;rw[c];simp only[en,hp,bS,WN,fq,Yj,Xs];rw[show a.length+m.length+1+r.length=a.length+m.length+(r.length+1) by omega]
  .obtain⟨d,c⟩:=M0 (N:=N) b K r a (m++ [x]) n (by omega) (by simp;omega);refine⟨d,?_⟩;simp only[Zc,AS,WG e,Ws e,Ws g,Xj,i,hp,Xd,Wa,Wb,Xn,
    Wk (show a.length+m.length<4611686018427387904 by omega)]
   simp only[Xz,Xs,j0,bX]at c;rw[show a.length+(m.length+1)=a.length+m.length+1 by omega,show a++(m++ [x])++r=a++m++x::r by simp]at c;rw[c];simp only[en,hp,Xn,W4,dq,Xs];simp only[Xz];rw[show a.length+m.length+1+r.length=a.length+m.length+(r.length+1) by omega]
theorem Wrx{N:Nat}{s:List Hd}{b:Int}(B:1048576<N)(D:s.length<=100000):
  Zq N s b=some ((b,()),(s.filter λx=>!(x.1==b),())):=by
 unfold Zq;have h:=WB (l:=s) (V:={v:Int//v=b}) (R:=Kj×Kj) (lp:=λn j v=>Zh N s (λq o=>some ((o,()),(q,()))) (λt A e=>some ((e,()),((-1:Int),()))) n j v.1) (n:=N) (by omega)
  (body:=λj x v k=>bif x.1==b then some ((v.1,()),(j,()))else k v) (K:=λ_ v=>some ((v.1,()),((-1:Int),())))
  (λn i v g=>by
   obtain⟨v,rfl⟩:=v;simp only[Zh,WG g,Ws g,Ww g,Wk (show i<4611686018427387904 by omega),Wa,AS,Xd])
  (λn v=>by simp[Zh,WP,Xm,Wb]) ⟨b,rfl⟩
 simp only[]at h;unfold Z5;rw[h];rcases R1 (body:=λj x (v:{v:Int//v=b}) k=>bif x.1==b then some ((v.1,()),(j,()))else k v) (K:=λ_ v=>(some ((v.1,()),((-1:Int),())):Option (Kj×Kj))) (p:=λx=>x.1==b)
  (E:=λj v=>some ((v.1,()),(j,()))) s 0 ⟨b,rfl⟩ (λj x v k _=>rfl)with⟨a,x,r,u,z,F,m⟩|⟨z,m⟩
 .rw[m];simp only[Xd,bX];have w:((a.length:Int)== -1)=false:=by simp
  rw[w,Wk (show a.length<4611686018427387904 by grind)];simp only[Wb];obtain⟨H,f⟩:=M0 (N:=N) b (λc I t d e=>
     (bif (decide ((0:Int)<=c))&&(decide (c<=((Xb d):Int)))then
      (bif (decide ((0:Int)<=c))&&(decide (c<=((Xb ((aj (Xa c) d)++Xk ((Xb d) -(Xa c)) ((0:Int),((0:Int),(0:Int)))++(List.drop (Xb d) d))):Int)))then
       (some ((e,()),(aj (Xa c) ((aj (Xa c) d)++Xk ((Xb d) -(Xa c)) ((0:Int),((0:Int),(0:Int)))++(List.drop (Xb d) d)),())))else none)else none)) r a [x] N (by grind) (by grind)
  rw[show a++ [x]++r=s by simp_all]at f;simp only[Xs,j0,bX]at f;rw[f];have C:(s.filter λx=>!(x.1==b))=a++r.filter λx=>!(x.1==b):=by
   rw[u,List.filter_append,en];have:(a.filter λx=>!(x.1==b))=a:=AA.2 λy G=>by grind
   grind
  grind
 grind [AA]
theorem WhV(h:HOk l)(b:l.length<=100000)(a:1048576<N):IR N l who=ret (WW l who):=by
 have c:xk N l=ret l:=by grind [xk,Wn]
 unfold IR;rw[c,Fa h (by omega) a];simp only[ret,Xd,Xn,Wb];rw[Wrx a b];rfl
end
section
def zWd:Wd:=(0,0,0)
def aK(m:Mm)(i:Int):Wd:=al m.2 i zWd
def DX(m:Mm)(i:Int)(w:Wd):Mm:=(m.1,hQ m.2 i w)
variable{m:Mm}
theorem MV(a:W2 m=true){i:Int}{w:Wd}(e:fg m.1 w=true):W2 (DX m i w)=true:=by
 obtain⟨d,b,c,f⟩:=WE a;unfold W2 DX hQ
 grind
theorem Mh(a:W2 m=true){i:Int}(hi:0<=i/\i<=7):fg m.1 (aK m i)=true:=M7 a hi
theorem Wwy(a:W2 m=true):W2 (tick m).1=true/\0<=(tick m).2/\(tick m).2<=1000000/\((tick m).2≠0->(tick m).2=m.1+1/\(tick m).1=(m.1+1,m.2))/\((tick m).2=0->(tick m).1=m):=by
 obtain⟨d,b,c,e⟩:=WE a;unfold tick;split
 .refine⟨?_,by omega,by omega,λ_=>⟨rfl,rfl⟩,λh=>by omega⟩;unfold W2;simp only[Xh,Wg,bA]
  grind [ri]
 simp_all
end
section
structure Cm where
 who:Int:=0
 rv:Int:=0
 ζ:Int:=0
 pos:Int:=0
 wv:Int:=0
 ψ:List Rw:=[]
 κ:List Int:=[]
def Cm.e(c:Cm):Int×Int×Int×Int×Int×List Kc×List Int:=(c.who,c.rv,c.ζ,c.pos,c.wv,c.ψ,c.κ)
def Cm.steps(c:Cm):Int:=
 if c.ζ=1\/c.ζ=4\/c.ζ=5\/c.ζ=7 then c.ψ.length else if c.ζ=3 then c.κ.length else 1
def kJ(c:Cm)(n:Int):Cm:=if n=0 then{c with ζ:=8,pos:=0}else{c with ζ:=7,pos:=n-1}
def pp(c:Cm)(a:Int):Int:=
 if(a=3/\c.κ.length=0\/a=4)/\c.ψ.length=0 then 6 else if a=3/\c.κ.length=0 then 4 else a
def pr(c:Cm)(a:Int):Cm:={c with ζ:=pp c a,pos:=0}
def mj(c:Cm)(a:Int):Cm:=if c.pos+1=c.steps then pr c a else{c with pos:=c.pos+1}
def G7(m:Mm)(i who:Int):Mm:=DX m i ((aK m i).1,(aK m i).2.1,who)
def u6(m:Mm)(i who v:Int):Mm:=if(aK m i).2.2=who then DX m i (v,(aK m i).2)else m
def qT(m:Mm)(i who ver:Int):Mm:=if(aK m i).2.2=who/\(aK m i).2.1<=ver/\ver<=m.1 then DX m i ((aK m i).1,ver,0)else m
def iP(m:Mm)(c:Cm):Mm×Cm:=
 let p:=al c.ψ c.pos (0,0)
 if c.ζ=1 then(if(aK m p.1).2.2=0 then(G7 m p.1 c.who,mj c 2)else(m,kJ c c.pos))else
 if c.ζ=2 then(if(tick m).2=0 then((tick m).1,kJ c c.ψ.length)else((tick m).1,pr {c with wv:=(tick m).2} 3))else
 if c.ζ=3 then
  let w:=aK m (al c.κ c.pos 0)
  if(w.2.2≠0/\w.2.2≠c.who)\/w.2.1>c.rv then(m,kJ c c.ψ.length)else(m,mj c 4)
 else
 if c.ζ=4 then(u6 m p.1 c.who p.2,mj c 5)else
 if c.ζ=5 then(qT m p.1 c.who c.wv,mj c 6)else
 if c.ζ=7 then(qT m p.1 c.who (aK m p.1).2.1,kJ c c.pos)else
 (m,c)
def fY(c:Cm):Cm:=
 if c.ζ=1 then kJ c c.pos else if c.ζ=2\/c.ζ=3 then kJ c c.ψ.length else c
def g0(who rv:Int)(ψ κ:List Rw):Cm:=
 {who:=who,rv:=rv,ζ:=if(aA ψ).length=0 then 2 else 1,ψ:=aA ψ,κ:=(aA κ).map (·.1)}
structure CmOk(c:Cm):Prop where
 who:1<=c.who/\c.who<=99
 rv:0<=c.rv/\c.rv<=1000000
 wv:0<=c.wv/\c.wv<=1000000
 ζ:1<=c.ζ/\c.ζ<=8
 ε:hG c.ψ
 pup:c.ψ.Pairwise λa b=>a.1<b.1
 plen:c.ψ.length<=8
 rd:∀x∈c.κ,0<=x/\x<=7
 rup:c.κ.Pairwise (· < ·)
 rlen:c.κ.length<=8
 pos:0<=c.pos/\c.pos<c.steps
section
variable{N:Nat}{c:Cm}{m:Mm}
theorem CmOk.back(h:CmOk c){n:Int}(a:0<=n/\n<=c.ψ.length):CmOk (kJ c n):=by
 unfold kJ;split
 .exact{h with ζ:=by simp_all,pos:=by simp[Cm.steps]}
 .exact{h with ζ:=by simp_all,pos:=by grind [Cm.steps]}
theorem Wvy(c:Cm){a:Int}(h:2<=a/\a<=6):2<=pp c a/\pp c a<=6:=by unfold pp;split<;>(try split)<;>omega
theorem CmOk.adv(h:CmOk c){a:Int}(b:2<=a/\a<=6)(d:a=5->c.ψ.length≠0):CmOk (pr c a):=by
 unfold pr;have:=Wvy c b;refine{h with ζ:=by grind,pos:=⟨vJ _,?_⟩}
 grind [Cm.steps,pp]
theorem CmOk.next(h:CmOk c){a:Int}(d:2<=a/\a<=6)(b:a=5->c.ψ.length≠0):CmOk (mj c a):=by
 unfold mj;split
 .exact h.adv d b
 .have:=h.pos;exact{h with pos:=⟨by grind,by show c.pos+1<c.steps;omega⟩}
theorem Wuv(a:W2 m=true){i who:Int}(hi:0<=i/\i<=7)(b:0<=who/\who<=99):W2 (G7 m i who)=true:=by
 have:=ri.1 (Mh a hi);exact MV a (by grind [ri])
theorem Wsg(a:W2 m=true){i who v:Int}(hi:0<=i/\i<=7)(b:0<=v/\v<=65535):W2 (u6 m i who v)=true:=by
 grind [ri,Mh,u6,MV]
theorem Si(a:W2 m=true){i who ver:Int}(hi:0<=i/\i<=7):W2 (qT m i who ver)=true:=by
 grind [ri,Mh,qT,MV]
theorem CmOk.put(h:CmOk c)(d:c.ζ=1\/c.ζ=4\/c.ζ=5\/c.ζ=7):∃(j:Nat) (a:j<c.ψ.length),c.pos=j/\al c.ψ c.pos (0,0)=c.ψ[j]/\(0<=c.ψ[j].1/\c.ψ[j].1<=7)/\0<=c.ψ[j].2/\c.ψ[j].2<=65535:=by
 have:=h.pos;unfold Cm.steps at this;rw[Wf d]at this;have a:c.pos.toNat<c.ψ.length:=by omega
 have b:=h.ε _ (Xy a);exact⟨c.pos.toNat,a,by omega,WA a _,b.1,b.2⟩
theorem CmOk.read(h:CmOk c)(b:c.ζ=3):∃(j:Nat) (a:j<c.κ.length),c.pos=j/\al c.κ c.pos 0=c.κ[j]/\0<=c.κ[j]/\c.κ[j]<=7:=by
 have:=h.pos;unfold Cm.steps at this;rw[We (by omega),Wf b]at this;have a:c.pos.toNat<c.κ.length:=by omega
 have d:=h.rd _ (Xy a);exact⟨c.pos.toNat,a,by omega,WA a _,d⟩
theorem LK(h:CmOk c)(a:W2 m=true):CmOk (iP m c).2/\W2 (iP m c).1=true:=by
 have o:=h.pos;have n:c.ζ=1\/c.ζ=4\/c.ζ=5\/c.ζ=7->c.ψ.length≠0:=λi=>by obtain⟨j,f,_⟩:=h.put i;omega
 have k:c.ζ=1\/c.ζ=4\/c.ζ=5\/c.ζ=7->c.pos<c.ψ.length:=λi=>by simp_all [Cm.steps,Wf]
 have p:=h.who;unfold iP;simp only;split
 .obtain⟨j,f,g,b,d,e⟩:=h.put (by omega);rw[b];split
  .exact⟨h.next (by omega) (by omega),Wuv a d (by omega)⟩
  .exact⟨h.back (by omega),a⟩
 .split
  .have ht:=Wwy a;split
   .exact⟨h.back (by omega),ht.1⟩
   .refine⟨?_,ht.1⟩;have l:CmOk {c with wv:=(tick m).2}:={h with wv:=⟨ht.2.1,ht.2.2.1⟩};exact l.adv (by omega) (by omega)
  .split
   .split
    .exact⟨h.back (by omega),a⟩
    .exact⟨h.next (by omega) (by omega),a⟩
   .split
    .obtain⟨j,f,g,b,d,e⟩:=h.put (by omega);rw[b];exact⟨h.next (by omega) (λ_=>n (by omega)),Wsg a d e⟩
    .split
     .obtain⟨j,f,g,b,d,e⟩:=h.put (by omega);rw[b];exact⟨h.next (by omega) (by omega),Si a d⟩
     .split
      .obtain⟨j,f,g,b,d,e⟩:=h.put (by omega);have:=k (by omega);rw[b];exact⟨h.back (by omega),Si a d⟩
      simp_all
theorem Wrm(h:CmOk c):CmOk (fY c):=by
 have a:=h.pos;unfold fY;split
 .have:c.pos<c.ψ.length:=by simp_all [Cm.steps,Wf]
  exact h.back (by omega)
 .split
  .exact h.back (by omega)
  .exact h
theorem Wud{who rv:Int}{ψ κ:List Rw}(b:1<=who/\who<=99)(a:0<=rv/\rv<=1000000):CmOk (g0 who rv ψ κ) where
 who:=b
 rv:=a
 wv:=by simp[g0]
 ζ:=by unfold g0;simp only;split<;>omega
 ε:=FY
 pup:=MM ψ
 plen:=o0 ψ
 rd:=λx c=>by
  obtain⟨r,a,rfl⟩:=Xv.1 c;exact(FY r a).1
 rup:=by
  simp[g0,List.pairwise_map,MM]
 rlen:=by simp[g0,Xt,o0]
 pos:=by
  unfold g0 Cm.steps
  grind
theorem cmP(c:Cm):c.e.1=c.who/\c.e.2.1=c.rv/\c.e.2.2.1=c.ζ/\c.e.2.2.2.1=c.pos/\c.e.2.2.2.2.1=c.wv/\c.e.2.2.2.2.2.1=c.ψ/\c.e.2.2.2.2.2.2=c.κ:=⟨rfl,rfl,rfl,rfl,rfl,rfl,rfl⟩
theorem CG{who:Int}:tu N who=ret (decide (1<=who)&&decide (who<=99)):=by simp[tu,WK]
theorem Fy(a:W2 m=true):oe N m=ret m:=by
 grind [WE,oe,Wn]
theorem SD(h:CmOk c):Ep N c.e=ret c.e:=by
 unfold Ep;have:=h.plen;have:=h.rlen;rw[show mE N c.e.2.2.2.2.2.1=ret c.ψ from yY (show c.ψ.length<=1048576 by omega),show Zx N c.e.2.2.2.2.2.2=ret c.κ from CV (show c.κ.length<=1048576 by omega)];rfl
theorem Ti:AM N c.e=ret c.steps:=by
 unfold AM Cm.steps;obtain⟨f,g,a,h,i,b,d⟩:=cmP c;simp only[Wu,a,b,d,Wh]
 grind
theorem RC(h:CmOk c)(F:1048576<N):xP N c.e=ret true:=by
 obtain⟨x,y,z,A,B,f,m⟩:=cmP c;have M:=h.plen;have L:=h.rlen;have q:=h.who;have s:=h.rv;have u:=h.wv;have r:=h.ζ;have C:=h.pos;have H:cb c.ψ=true:=by unfold cb;rw[F9.2 h.ε,Wc (by omega)];rfl
 unfold xP;simp only[x,y,z,A,B,f,m,CG,WK,CU (show c.ψ.length<=1048576 by omega) F,Ti,ret,Xd,Wc q.1,Wc q.2,Wc s.1,Wc s.2,Wc u.1,Wc u.2,Wc r.1,Wc r.2,H,c3,Xn,Wb];have R:c.steps<=8:=by unfold Cm.steps;split<;>(try split)<;>omega
 have v:Wv .i64 c.steps 1=c.steps-1:=WM (by unfold I64;omega);rw[v,Wc C.1,Wc (show c.pos<=c.steps-1 by omega)];have t:∀(d j n:Nat),j+d=c.κ.length->d<n->qa N c.κ c.e (some ((),(false,()))) (λk D=>(some ((),(true&&true,())))) n (j:Int)=ret true:=by
  intro d
  induction d with
  |zero=>
   intro j n g i;obtain⟨n,rfl⟩:∃n',n=n'+1:=⟨n-1,by omega⟩;simp_all [qa,WP,Xm,Wb]
  |succ d ih=>
   intro j n g i;obtain⟨n,rfl⟩:∃n',n=n'+1:=⟨n-1,by omega⟩;have a:j<c.κ.length:=by omega
   have p:=ih (j+1) n (by omega) (by omega);have P:=h.rd _ (Xy a);have w:bO c.κ[j]=true:=by grind [bO]
   simp only[qa,m,WG a,Ws a,Ww a,Wk (show j<4611686018427387904 by omega),Wa,W0,ret,Xd,w,Xn,Wb,p];by_cases O:j=0
   .grind
   .have e1:decide ((j:Int)>0)=true:=by simp;omega
    have o:Wv .i64 (j:Int) 1=((j-1:Nat):Int):=by grind [WM,I64]
    have b:j-1<c.κ.length:=by omega
    have G:=gu.1 h.rup (j-1) j b a (by omega);simp_all [Wa,Ws,Ww,Wi]
 have I:∀(d j n:Nat),j+d=c.ψ.length->d<n->1<=j->sJ N c.e (some ((),(false,()))) (λK J=>(qa N c.κ c.e (some ((),(false,()))) (λk D=>(some ((),(true&&true,())))) N (0:Int))) n (j:Int)=ret true:=by
  intro d
  induction d with
  |zero=>
   intro j n g i _;obtain⟨n,rfl⟩:∃n',n=n'+1:=⟨n-1,by omega⟩;have:j=c.ψ.length:=by omega
   subst this;simp only[sJ,f,WP (Xm _),Wb];exact t c.κ.length 0 N (by omega) (by omega)
  |succ d ih=>
   intro j n g i E;obtain⟨n,rfl⟩:∃n',n=n'+1:=⟨n-1,by omega⟩;have a:j<c.ψ.length:=by omega
   have p:=ih (j+1) n (by omega) (by omega) (by omega);have o:Wv .i64 (j:Int) 1=((j-1:Nat):Int):=by grind [WM,I64]
   have b:j-1<c.ψ.length:=by omega
   have G:=gu.1 h.pup (j-1) j b a (by omega);simp only[sJ,f,WG a,Ws a,Ww a,Wk (show j<4611686018427387904 by omega),Wa,o,Ws b,Ww b]
   grind
 by_cases Q:c.ψ.length=0
 .obtain⟨l,rfl⟩:∃l,N=l+1:=⟨N-1,by omega⟩;rw[sJ,f,Wi (by unfold Wh;omega)];exact t c.κ.length 0 _ (by omega) (by omega)
 .exact I (c.ψ.length-1) 1 N (by omega) (by omega) (by omega)
theorem F4(h:CmOk c){n:Int}(a:0<=n/\n<=8):ke N c.e n=some (((kJ c n).e,()),()):=by
 unfold ke kJ;rw[Wu,WM (by unfold I64;omega)];split<;>rfl
theorem VA{a:Int}:El N c.e a=some (((pr c a).e,()),()):=by
 obtain⟨i,j,k,l,m,f,g⟩:=cmP c;unfold El pr pp;simp only[Wu,f,g,Wh];by_cases d:a=3
 .subst d;by_cases h:c.κ.length=0<;>by_cases b:c.ψ.length=0<;>simp[h,b]<;>rfl
 .by_cases h4:a=4
  .subst h4;by_cases b:c.ψ.length=0<;>simp[b]<;>rfl
  .simp[d,h4];rfl
theorem Wul(h:CmOk c){a:Int}:p6 N c.e a=some (((mj c a).e,()),()):=by
 obtain⟨f,g,i,d,j,k,l⟩:=cmP c;have m:=h.pos;have n:c.steps<=8:=by have:=h.plen;have:=h.rlen;unfold Cm.steps;split<;>(try split)<;>omega
 have b:AM N (Cm.e {c with pos:=c.pos+1})=ret c.steps:=Ti;unfold p6 mj;rw[d,WD (by unfold I64;omega)];rw[show(c.e.1,(c.e.2.1,(c.e.2.2.1,(c.pos+1,c.e.2.2.2.2))))=Cm.e {c with pos:=c.pos+1}from rfl,b];simp only[ret,Xd,Wu,VA];split<;>rfl
theorem Wto(h:CmOk c)(k:1048576<N):∃b,HM N c.e=some ((),((fY c).e,(b,()))):=by
 obtain⟨l,m,g,i,n,j,o⟩:=cmP c;have p:=h.pos;have q:=h.plen;have r:c.steps<=8:=by have:=h.plen;have:=h.rlen;unfold Cm.steps;split<;>(try split)<;>omega
 unfold HM fY;rw[SD h];simp only[ret,Xd];rw[RC h k];simp only[ret,Xd,Xn,Wb,Wu,g,i,j,F4 h (show 0<=c.pos/\c.pos<=8 by omega),F4 h (show 0<=Wh c.ψ/\Wh c.ψ<=8 by unfold Wh;omega)];by_cases d:c.ζ=1
 .simp_all
 .rw[We d,We d];by_cases a:c.ζ=2
  .rw[Wf a,Wf a,Wf (.inl a)];exact⟨_,rfl⟩
  .rw[We a];by_cases f:c.ζ=3
   .rw[Wf f,Wf (.inr f)];exact⟨_,rfl⟩
   simp_all
theorem Wpc{l:List Rw}(e:l.length<=1048576)(d:1048576<N):BI N l=ret ((aA l).map (·.1)):=by
 unfold BI;rw[Fx e d];have m:=o0 l;simp only[ret,Xd];have c:=WB (l:=aA l) (V:=List Int) (R:=Unit×(List Int×Unit)) (lp:=λn j v=>wP N (Wh (aA l)) (aA l) (λg h b=>(some ((),(b,())))) n j v) (n:=N) (by omega)
  (body:=λj x v k=>bif Wx (v.length+ [x.1].length)then k (Xf v [x.1])else none) (K:=λ_ v=>ret v)
  (λn i v a=>by simp only[wP,WG a,Ws a,Ww a,Wk (show i<4611686018427387904 by omega),Wa])
  (λn v=>by simp[wP,WP,Xm,Wb]) []
 refine c.trans ?_;rw[tM (f:=λx:Rw=>x.1) (aA l) 0 [] (by simp;omega) (λj x v k _=>rfl)];rfl
theorem Ww5{who rv:Int}{ψ κ:List Rw}(c:1<=who/\who<=99)(b:0<=rv/\rv<=1000000)(f:cb ψ=true)(d:cb κ=true)(a:1048576<N):
  xj N who rv ψ κ=some ((),((g0 who rv ψ κ).e,(true,()))):=by
 have h:ψ.length<=300:=by grind [cb]
 have i:κ.length<=300:=by grind [cb]
 unfold xj;simp only[CG,WK,CU (show ψ.length<=1048576 by omega) a,CU (show κ.length<=1048576 by omega) a,Fx (show ψ.length<=1048576 by omega) a,Wpc (show κ.length<=1048576 by omega) a,ret,Xd,Wc c.1,Wc c.2,Wc b.1,Wc b.2,f,d,c3,Xn,Wb,Wu];unfold g0 Cm.e;by_cases g:(aA ψ).length=0
 .simp_all [Wf,Wh]
 simp_all [We,Wh]
theorem qG{m:Mm}{i:Int}:Xc m.2 (Xa i) ((0:Int),((0:Int),(0:Int)))=aK m i:=rfl
theorem jE(a:W2 m=true){i:Int}(hi:0<=i/\i<=7):inb i m.2.length=true:=by
 grind [WE,inb]
theorem yX{i:Int}(hi:0<=i/\i<=7):bO i=true:=by grind [bO]
theorem Wnb(a:W2 m=true){i who:Int}(hi:0<=i/\i<=7)(b:1<=who/\who<=99)(c:1048576<N):
  E7 N m i who=some ((),((if(aK m i).2.2=0 then G7 m i who else m),(decide ((aK m i).2.2=0),()))):=by
 unfold E7;rw[Fy a,yu (by grind [WE]) c,a];simp only[ret,Xd,Xn,Wb,W0,yX hi,CG,Wc b.1,Wc b.2,c3,jE a hi,Wa,qG,eJ];by_cases h:(aK m i).2.2=0
 .rw[Wf h,Wf h,Wc h];rfl
 simp_all
theorem Wls(a:W2 m=true){i who v:Int}(hi:0<=i/\i<=7)(c:1<=who/\who<=99)(e:0<=v/\v<=65535)(d:1048576<N):
  ∃b,JT N m i who v=some ((),(u6 m i who v,(b,()))):=by
 unfold JT u6;rw[Fy a,yu (by grind [WE]) d,a];simp only[ret,Xd,Xn,Wb,W0,yX hi,CG,jy,fR.2 e,Wc c.1,Wc c.2,c3,jE a hi,Wa,qG,eJ];by_cases h:(aK m i).2.2=who
 .rw[Wf h,Wf h];exact⟨_,rfl⟩
 simp_all
theorem QT(c:W2 m=true){i who ver:Int}(hi:0<=i/\i<=7)(d:1<=who/\who<=99)(e:1048576<N):
  ∃b,E2 N m i who ver=some ((),(qT m i who ver,(b,()))):=by
 have f:=(WE c).1;unfold E2 qT;rw[Fy c,yu (by omega) e,c];simp only[ret,Xd,Xn,Wb,W0,yX hi,CG,WK,Wc d.1,Wc d.2,c3,jE c hi,Wa,qG,eJ,cZ,Wp];by_cases h:(aK m i).2.2=who
 .rw[Wf h];by_cases a:(aK m i).2.1<=ver/\ver<=m.1
  .rw[Wf ⟨h,a.1,a.2⟩,Wc a.1,Wc a.2];refine⟨true,?_⟩;have:i.toNat<m.2.length:=by omega
   simp only[c3,Xn,Wb,Ra this,mC];rfl
  .rw[We (by omega)];refine⟨false,?_⟩
   grind
 simp_all
theorem WnU(h:CmOk c)(i:W2 m=true)(l:1048576<N):H0 N m c.e=some ((),((iP m c).1,((iP m c).2.e,()))):=by
 obtain⟨A,B,C,D,E,F,G⟩:=cmP c;have H:=h.pos;have I:=h.plen;have v:=h.who;have J:c.steps<=8:=by have:=h.plen;have:=h.rlen;unfold Cm.steps;split<;>(try split)<;>omega
 have y:=F4 (N:=N) h (show 0<=c.pos/\c.pos<=8 by omega);have z:=F4 (N:=N) h (show 0<=Wh c.ψ/\Wh c.ψ<=8 by unfold Wh;omega);unfold H0 iP;rw[Fy i,SD h];simp only[ret,Xd];rw[yu (by grind [WE]) l,RC h l,i];simp only[ret,Xd,Xn,Wb,Wu,A,B,C,D,E,F,G,fV,y,z,Wul h];by_cases p:c.ζ=1
 .rw[Wf p,Wf p];obtain⟨j,k,f,d,g,n⟩:=h.put (by omega);rw[show Xc c.ψ (Xa c.pos) ((0:Int),(0:Int))=c.ψ[j]from d,d,f,WH,Wc k,Wnb i g v l,←f]
  grind
 .rw[We p,We p];by_cases q:c.ζ=2
  .rw[Wf q,Wf q,Won i l];simp only[Xd];by_cases t:(tick m).2=0
   .rw[Wf t,Wf t];rfl
   .rw[We t,We t];rw[show(c.who,(c.rv,(c.ζ,(c.pos,((tick m).2,c.e.2.2.2.2.2)))))=Cm.e {c with wv:=(tick m).2}from rfl,VA];rfl
  .rw[We q,We q];by_cases o:c.ζ=3
   .rw[Wf o,Wf o];obtain⟨j,k,f,d,g,n⟩:=h.read o;rw[show Xc c.κ (Xa c.pos) (0:Int)=c.κ[j]from d,d,f,WH,Wc k,jE i ⟨g,n⟩];simp only[Wa,eJ,WX];rw[show Xc m.2 (Xa c.κ[j]) ((0:Int),((0:Int),(0:Int)))=aK m c.κ[j]from rfl];by_cases a:(aK m c.κ[j]).2.2=0
    .rw[Wf a];by_cases b:(aK m c.κ[j]).2.1>c.rv
     .rw[Wf b,Wf (.inr b)];rfl
     grind
    .rw[We a];by_cases u:(aK m c.κ[j]).2.2=c.who
     .rw[Wf u];by_cases b:(aK m c.κ[j]).2.1>c.rv
      .rw[Wf b,Wf (.inr b)];rfl
      grind
     .rw[We u,Wf (.inl ⟨a,u⟩)];rfl
   .rw[We o,We o];by_cases r:c.ζ=4
    .rw[Wf r,Wf r];obtain⟨j,k,f,d,g,n⟩:=h.put (by omega)
     grind [Wls,Xc,Xa,WH,decide_eq_true]
    .rw[We r,We r];by_cases s:c.ζ=5
     .rw[Wf s,Wf s];obtain⟨j,k,f,d,g,n⟩:=h.put (by omega);obtain⟨b,x⟩:=QT (ver:=c.wv) i g v l
      grind [Xc,Xa,WH,decide_eq_true]
     .rw[We s,We s];by_cases w:c.ζ=7
      .rw[Wf w,Wf w];obtain⟨j,k,f,d,g,n⟩:=h.put (by omega);obtain⟨b,x⟩:=QT (ver:=(aK m c.ψ[j].1).2.1) i g v l;rw[show Xc c.ψ (Xa c.pos) ((0:Int),(0:Int))=c.ψ[j]from d,d,f,WH,Wc k,jE i g];simp only[Wa,qG,x,←f];rfl
      simp_all
end
end
section
abbrev RM:=Int×Int×Int×Int×List Int
abbrev Wr:=Int×Int×List Rw
abbrev Pg:=List Opn×List (List Opn)
abbrev Ac:=Int×Int×Int
abbrev Sc:=Ke×List Pg×List Ac
structure Rt where
 ζ:Int:=0
 χ:Int:=0
 Cr:Int:=0
 pc:Int:=0
 rv:Int:=0
 Cw:Int:=0
 pos:Int:=0
 Ct:Int:=0
 Cy:Int:=0
 Cz:Int:=0
 Cu:Int:=0
 Cp:Bool:=false
 μ:List Int:=[]
 κ:List Rw:=[]
 ι:List Rw:=[]
 θ:List RM:=[]
 υ:List Un:=[]
 Cq:List Int:=[]
 Co:Bool:=false
 pb:Pb:=(0,0,0,0)
 cm:Cm:={}
 fam:Fm:={}
def Rt.e(r:Rt):Y_Root:=(r.ζ,r.χ,r.Cr,r.pc,r.rv,r.Cw,r.pos,r.Ct,r.Cy,r.Cz,r.Cu,r.Cp,r.μ,r.κ,r.ι,r.θ,r.υ,r.Cq,r.Co,r.pb,r.cm.e,r.fam.e)
structure Wo where
 now:Int:=0
 ω:Int:=0
 mem:Mm:=(0,[])
 π:Shf:=([],0)
 holds:List Hd:=[]
 η:List Rt:=[]
 Ck:List Wr:=[]
def Wo.e(w:Wo):Y_World:=(w.now,w.ω,w.mem,w.π,w.holds,w.η.map Rt.e,w.Ck)
def zRM:RM:=(0,0,0,0,[])
def Rt.last(x:Rt):RM:=iW x.θ zRM
def gq(x:Rt):Rt:={ζ:=6,χ:=x.χ,υ:=x.υ}
def kp(x:Rt):Rt:=
 if x.θ.length=0\/x.Cr=2 then gq x else{x with Cr:=x.Cr+1,Co:=false,pb:=(0,0,0,0),ζ:=3}
def fH(w:Wo)(x:Rt):Wo×Rt:=({w with π:=ux w.π (iW x.υ (0,0,0))},{x with υ:=x.υ.dropLast})
def eA(w:Wo)(x:Rt)(k:Nat):Wo×Rt:=
 ({w with ω:=if w.ω=(k:Int)+1 then 0 else w.ω},{x with ζ:=8,Cu:=w.now,υ:=[],Cp:=false})
def iM(w:Wo)(x:Rt)(k:Nat)(a:Int):Wo×Rt:=
 let ε:=if a=2 then []else x.ι
 if ε.length=0/\(o7 w.holds ((k:Int)+1)).length=0 then eA w {x with Ct:=a,Cy:=x.rv} k
 else(w,{x with Ct:=a,cm:=g0 ((k:Int)+1) x.rv ε x.κ,ζ:=5})
def mn(w:Wo)(x:Rt)(o:Opn):Rt:=
 match c9 x.ι o.2.2.1 with
 |some v=>{x with μ:=hQ x.μ o.2.1 v,pc:=x.pc+1}
 |none=>
  let p:=cS w.mem x.rv (if x.Co then x.pb else(o.2.2.1,0,0,0))
  if p.2.1=4 then kp {x with Co:=true,pb:=p}
  else if p.2.1=3 then{x with μ:=hQ x.μ o.2.1 p.2.2.2,κ:=x.κ++ [(o.2.2.1,p.2.2.2)],Co:=false,pb:=(0,0,0,0),pc:=x.pc+1}
  else{x with Co:=true,pb:=p}
def q5(w:Wo)(x:Rt)(k:Nat)(ξ:List Opn):Wo×Rt:=
 if x.θ.length=0 then iM w x k 2 else
 if(x.υ.length:Int)>x.last.2.2.2.1 then fH w x else
 (w,{x with θ:=x.θ.dropLast,μ:=hQ x.last.2.2.2.2 (opN ξ x.last.1).2.1 0,ι:=x.ι.take x.last.2.2.1.toNat,pc:=ny ξ x.last.1.toNat+1})
def iN(w:Wo)(x:Rt)(k:Nat)(o:Opn):Wo×Rt:=
 match mb w.holds ((k:Int)+1) (cV o).1 (cV o).2 with
 |none=>(w,kp x)
 |some hs=>
  let b:=eF w.π o x.μ
  ({w with holds:=hs,π:=b.1},{x with μ:=b.2.1,υ:=if b.2.2.1=0 then x.υ else x.υ++ [b.2.2],pc:=x.pc+1})
def fL(w:Wo)(x:Rt)(k:Nat)(p:Pg):Wo×Rt:=
 if x.pc>=p.1.length then iM w x k 1 else
 let o:=opN p.1 x.pc
 if o.1=5 then(w,mn w x o)else
 if o.1=10 then q5 w x k p.1 else
 if o.1=11 then(w,{x with ζ:=2,fam:=gY x.rv x.μ x.ι p.2.length})else
 if o.1>=12 then iN w x k o else
 if o.1=6 then(w,{x with ι:=x.ι++ [(o.2.1,al x.μ o.2.2.1 0)],pc:=x.pc+1})else
 if o.1=7 then(w,{x with pc:=(if al x.μ o.2.1 0=0 then x.pc+o.2.2.1 else x.pc)+1})else
 if o.1=8 then(w,{x with θ:=x.θ++ [(x.pc,(x.κ.length:Int),(x.ι.length:Int),(x.υ.length:Int),x.μ)],pc:=x.pc+1})else
 if o.1=9 then(w,{x with θ:=x.θ.dropLast,μ:=hQ x.μ (opN p.1 x.last.1).2.1 1,pc:=x.pc+1})else
 (w,{x with μ:=rn o x.μ,pc:=x.pc+1})
def ii(k:Nat):List Rt->Nat->Bool
 | [],_=>true
 |x::l,i=>(decide (i=k)||(decide (x.ζ=0)||decide (x.ζ=8)))&&ii k l (i+1)
def fI(w:Wo)(x:Rt)(k:Nat):Wo×Rt:=
 if w.ω≠0/\w.ω≠(k:Int)+1 then(w,x)else
 if x.χ>=3/\w.ω=0 then({w with ω:=(k:Int)+1},x)else
 if w.ω=(k:Int)+1/\ii k w.η 0=false then(w,x)else
 (w,{ζ:=1,χ:=x.χ,rv:=w.mem.1,Cz:=w.now,μ:=[0,0,0,0]})
def jP(x:Rt):Rt:=
 if x.fam.Cv then gq x else
 if kw x.fam then{x with μ:=ui x.fam,ι:=y9 x.fam,κ:=x.κ++x.fam.κ,Cq:=x.fam.Cq,fam:={},ζ:=1,pc:=x.pc+1}
 else x
def gU(w:Wo)(x:Rt):Wo×Rt:=
 if(x.υ.length:Int)>x.last.2.2.2.1 then fH w x else(w,{x with Cw:=w.mem.1,pos:=0,ζ:=4})
def io(w:Wo)(x:Rt):Rt:=
 if x.pos<x.last.2.1 then
  let c:=aK w.mem (al x.κ x.pos (0,0)).1
  if c.2.2≠0\/c.2.1>x.rv then gq x else{x with pos:=x.pos+1}
 else{x with rv:=x.Cw,Cw:=0,pos:=0,κ:=x.κ.take x.last.2.1.toNat,ι:=x.ι.take x.last.2.2.1.toNat,μ:=x.last.2.2.2.2,pc:=x.last.1+1,ζ:=1}
def zv(x:Rt):Rt:=
 if x.cm.ζ=8 then gq x else
 if x.cm.ζ=6 then{x with Cy:=x.cm.wv,cm:={},ζ:=if x.Ct=2 then 6 else 7}else x
def gb(w:Wo)(x:Rt)(k:Nat):Wo×Rt:=
 if x.Cp then(w,if(fY x.cm).ζ=8 then gq x else{x with cm:=fY x.cm,Cp:=false})else
 let q:=iP w.mem x.cm
 ({w with mem:=q.1,Ck:=if x.cm.ζ<=3/\q.2.ζ=4 then w.Ck++ [(q.2.wv,(k:Int)+1,q.2.ψ)]else w.Ck},zv {x with cm:=q.2})
def hF(w:Wo)(x:Rt)(k:Nat)(p:Pg):Wo×Rt:=
 if x.Cp=true/\1<=x.ζ/\x.ζ<=4 then(w,gq x)else
 if x.ζ=0 then fI w x k else
 if x.ζ=1 then fL w x k p else
 if x.ζ=2 then(w,jP x)else
 if x.ζ=3 then gU w x else
 if x.ζ=4 then(w,io w x)else
 if x.ζ=5 then gb w x k else
 if x.ζ=6 then(if x.υ.length>0 then fH w x else(w,{x with ζ:=7}))else
 if x.ζ=7 then
  (if x.Ct=0 then({w with holds:=WW w.holds ((k:Int)+1)},{χ:=x.χ+1})
   else eA {w with holds:=WW w.holds ((k:Int)+1)} x k)
 else(w,x)
def Wo.put(q:Wo×Rt)(k:Nat):Wo:={q.1 with η:=q.1.η.set k q.2}
def rt0:Rt:={}
def pg0:Pg:=([],[])
def Ad(w:Wo)(k:Nat)(p:Pg):Wo:=Wo.put (hF w (w.η.getD k rt0) k p) k
def Nx(w:Wo)(x:Rt)(k j:Nat)(p:Pg):Wo:=Wo.put (w,{x with fam:=i0 w.mem x.fam j (p.2.getD j [])}) k
def ef(s:Sc)(w0:Wo)(a:Ac):Wo:=
 let w:={w0 with now:=w0.now+1}
 if 0<=a.2.1/\a.2.1<w.η.length then
  let k:=a.2.1.toNat
  let x:=w.η.getD k rt0
  let p:=s.2.1.getD k pg0
  if a.1=1 then Ad w k p else
  if a.1=2 then(if x.ζ=2/\0<=a.2.2/\a.2.2<p.2.length then Nx w x k a.2.2.toNat p else w)else
  if a.1=3 then(if(1<=x.ζ/\x.ζ<=4)\/(x.ζ=5/\x.cm.ζ<=3)then Wo.put (w,{x with Cp:=true}) k else w)else w
 else w
def kZ(s:Sc):Wo:={mem:=DL s.1.1,π:=(zA s.1.2.1,s.1.2.2),η:=Xk s.2.1.length {}}
def dI(s:Sc):Wo:=s.2.2.foldl (ef s) (kZ s)
structure RMk(ξ:List Opn)(pc:Nat)(θ:List RM)(rl wl ul:Nat):Prop where
 pcs:θ.map (·.1)=(stk ξ pc).map λm:Nat=>(m:Int)
 each:∀q∈θ,Vals 4 q.2.2.2.2/\(0<=q.2.1/\q.2.1<=q.1+72*frk ξ q.1.toNat/\q.2.1<=rl)/\(0<=q.2.2.1/\q.2.2.1<=q.1+8/\q.2.2.1<=wl)/\0<=q.2.2.2.1/\q.2.2.2.1<=q.1/\q.2.2.2.1<=ul
 up:θ.Pairwise λa b=>a.2.1<=b.2.1/\a.2.2.1<=b.2.2.1/\a.2.2.2.1<=b.2.2.2.1
structure RLive(p:Pg)(n:Int)(x:Rt):Prop where
 pc:0<=x.pc/\x.pc<=p.1.length
 Cr:0<=x.Cr/\x.Cr<=2
 rv:0<=x.rv/\x.rv<=1000000
 μ:Vals 4 x.μ
 κ:hG x.κ
 rl:(x.κ.length:Int)<=x.pc+72*frk p.1 x.pc.toNat
 ι:hG x.ι
 wl:(x.ι.length:Int)<=x.pc+8
 ul:(x.υ.length:Int)<=x.pc
 θ:RMk p.1 x.pc.toNat x.θ x.κ.length x.ι.length x.υ.length
 pb:x.Co=true->dR x.pb=true
 fork:x.ζ=2->x.pc<p.1.length/\(opN p.1 x.pc).1=11/\FOk p.2 n x.fam
 back:x.ζ=3\/x.ζ=4->x.θ.length≠0
 Cw:0<=x.Cw/\x.Cw<=1000000
 pos:x.ζ=4->0<=x.pos/\x.pos<=x.last.2.1
 unw:x.ζ=4->(x.υ.length:Int)<=x.last.2.2.2.1
structure ROk(p:Pg)(n:Int)(x:Rt):Prop where
 ζ:0<=x.ζ/\x.ζ<=8
 χ:0<=x.χ/\x.χ<=n
 Cn:1<=x.ζ/\x.ζ<=4->RLive p n x
 comm:x.ζ=5->CmOk x.cm
 υ:∀u∈x.υ,UnV u
 ul:x.υ.length<=24
 rg:x.μ.length<=4
 ord:x.Cq.length<=3
structure POk(p:Pg):Prop where
 ξ:CC p.1
 ο:∀c∈p.2,KC c
 k3:p.2.length<=3
def HE(h:Wr):Prop:=h.2.2.length<=8/\hG h.2.2/\1<=h.2.1/\h.2.1<=9
structure WOk(ps:List Pg)(n:Int)(w:Wo):Prop where
 len:w.η.length=ps.length
 l4:ps.length<=4
 progs:∀p∈ps,POk p
 now:w.now=n
 n0:0<=n
 mem:W2 w.mem=true
 π:ShOk w.π
 holds:HOk w.holds
 Ck:(w.Ck.length:Int)<=n
 histE:∀h∈w.Ck,HE h
 root:∀(k:Nat) (h:k<w.η.length),ROk (ps.getD k pg0) n w.η[k]
end
section
theorem rtP(x:Rt):x.e.1=x.ζ/\x.e.2.1=x.χ/\x.e.2.2.1=x.Cr/\x.e.2.2.2.1=x.pc/\P4 x.e=x.rv/\P5 x.e=x.Cw/\P6 x.e=x.pos/\P7 x.e=x.Ct/\P8 x.e=x.Cy/\P11 x.e=x.Cp/\P12 x.e=x.μ/\P13 x.e=x.κ/\P14 x.e=x.ι/\P15 x.e=x.θ/\P16 x.e=x.υ/\P18 x.e=x.Co/\P19 x.e=x.pb/\P20 x.e=x.cm.e/\Q21 x.e=x.fam.e/\P24 x.e=x.fam.Cv/\P28 x.e=x.fam.Cq/\P29 x.e=x.fam.κ:=
 ⟨rfl,rfl,rfl,rfl,rfl,rfl,rfl,rfl,rfl,rfl,rfl,rfl,rfl,rfl,rfl,rfl,rfl,rfl,rfl,rfl,rfl,rfl⟩
theorem S5e(w:Wo)(k:Nat)(x:Rt):S5 (Xe (w.η.map Rt.e) k x.e) w.e=Wo.e {w with η:=w.η.set k x}:=by
 unfold S5 Wo.e;rw[NU]
theorem bf{w w':Wo}{k:Nat}{x':Rt}{y:Y_Root}{g:Y_World}(c:y=x'.e)(a:g=w'.e)(b:w'.η=w.η):
  some ((S5 (Xe (w.η.map Rt.e) k y) g,()),())=some (((Wo.put (w',x') k).e,()),()):=by
 subst c a;rw[←b,S5e];rfl
variable{N:Nat}{w:Wo}{k:Nat}{x:Rt}{o:Opn}{p:Pg}{n:Int}{ξ:List Opn}
theorem woG(d:k<w.η.length)(a:w.η[k]=x):Xc (w.η.map Rt.e) k d_Root=x.e/\Xc (w.η.map Rt.e) (Xa (k:Int)) d_Root=x.e/\S5 (Xe (w.η.map Rt.e) (Xa (k:Int)) x.e) w.e=w.e/\inb (k:Int) (w.η.map Rt.e).length=true/\S5 (Xe (w.η.map Rt.e) k x.e) w.e=w.e:=by
 have b:Xc (w.η.map Rt.e) k d_Root=x.e:=by
  have:=Tz Rt.e w.η k {};rw[WA d,a]at this;exact this
 have c:S5 (Xe (w.η.map Rt.e) k x.e) w.e=w.e:=by rw[S5e,←a,je]
 rw[Xj];refine⟨b,b,c,?_,c⟩;rw[WH,Xt];exact Wc d
theorem Ml(b:k<w.η.length)(a:w.η[k]=x):Wo.put (w,x) k=w:=by
 unfold Wo.put;simp only;rw[←a,je]
theorem yZ:mM N x.e=some (((gq x).e,()),()):=rfl
theorem KY(r:0<=x.Cr/\x.Cr<=2):AL N x.e=some (((kp x).e,()),()):=by
 obtain⟨s,t,d,u,v,w,y,z,A,p,j,f,g,b,h,k,l,i,q,m,n,o⟩:=rtP x;unfold AL kp;simp only[Wu,b,d,Wh,yZ,Xd];by_cases c:x.θ.length=0
 .rw[Wf (by omega),Wf (.inl c)]
 .rw[We (by omega)];by_cases a:x.Cr=2
  .rw[Wf a,Wf (.inr a)]
  .rw[We a,We (by omega),WD (by unfold I64;omega)];rfl
theorem mV{α:Type}{l:List α}(h:l.length≠0)(a:l.length<=1000)(d:α):inb (Wv .i64 (Wh l) 1) l.length=true/\Xc l (Xa (Wv .i64 (Wh l) 1)) d=iW l d/\aj (Xa (Wv .i64 (Wh l) 1)) l=l.dropLast/\(decide ((0:Int)<=Wv .i64 (Wh l) 1)&&decide (Wv .i64 (Wh l) 1<=(l.length:Int)))=true:=by
 have e:Wv .i64 (Wh l) 1=((l.length-1:Nat):Int):=by rw[uZ (by omega)];omega
 rw[e];refine⟨by rw[WH];exact Wc (by omega),by rw[Xj];rfl,by rw[Xj,List.dropLast_eq_take],by simp⟩
theorem SW(h:x.θ.length≠0)(f:x.θ.length<=1000):AJ N x.e=some ((),((x.last.1,(x.last.2.1,(x.last.2.2.1,x.last.2.2.2.1))),())):=by
 obtain⟨a,b,c,d⟩:=mV h f zRM;unfold AJ;simp only[Wp];rw[show P15 x.e=x.θ from rfl,a];simp only[Wa];rw[show((0:Int),((0:Int),((0:Int),((0:Int),([]:List Int)))))=zRM from rfl,b];rfl
theorem Md(j:k<w.η.length)(g:w.η[k]=x)(o:x.υ.length≠0)(l:x.υ.length<=1000)(n:∀u∈x.υ,UnV u)(m:ShOk w.π)(i:1048576<N):
  sA N w.e k=some (((Wo.put (fH w x) k).e,()),()):=by
 obtain⟨h,p,q,r,s⟩:=woG j g;obtain⟨a,b,c,d⟩:=mV o l ((0,0,0):Un);have f:iW x.υ ((0,0,0):Un)∈x.υ:=by
  unfold iW;rw[WA (show x.υ.length-1<x.υ.length by omega)];exact Xy _
 unfold sA fH;simp only[Wp];rw[show P5 w.e=w.η.map Rt.e from rfl,h];rw[show x.e.2.2.2.2.2.2.2.2.2.2.2.2.2.2.2.2.1=x.υ from rfl,a,b,show w.e.2.2.2.1=w.π from rfl,Wjv m (n _ f) i,c];simp only[Wa,Xd,d];exact bf rfl rfl rfl
theorem Vk(d:k<w.η.length)(a:w.η[k]=x)(j:k<=1000):AX N w.e (k:Int)=some (((Wo.put (eA w x k) k).e,()),()):=by
 obtain⟨f,b,g,c,i⟩:=woG d a;unfold AX eA;simp only[Wp];rw[show P5 w.e=w.η.map Rt.e from rfl,c,b,au (by omega),Xj];simp only[Wa,Wu];rw[show w.e.2.1=w.ω from rfl];by_cases h:w.ω=(k:Int)+1
 .rw[Wf h];simp only[Wf h];exact bf rfl rfl rfl
 .rw[We h];simp only[We h];exact bf rfl rfl rfl
theorem TD(j:k<w.η.length)(p:w.η[k]=x)(W:k<=8)(i:HOk w.holds)(D:0<=x.rv/\x.rv<=1000000)(A:cb x.κ=true)(B:cb x.ι=true){c:Int}(g:1048576<N):
  Eu N w.e (k:Int) c=some (((Wo.put (iM w x k c) k).e,()),()):=by
 obtain⟨L,u,M,v,O⟩:=woG j p;obtain⟨X,Y,Z,r3,E,r5,r6,r7,r8,U,K,s,t,H,I,P,Q,J,V,R,S,T⟩:=rtP x;have re:=tU i;have F:∀y:Rt,AX N (S5 (Xe (w.η.map Rt.e) (Xa (k:Int)) y.e) w.e) (k:Int)=some (((Wo.put (eA w y k) k).e,()),()):=λy=>by
  rw[Xj,S5e];have z:k<({w with η:=w.η.set k y}:Wo).η.length:=by simpa using j
  rw[Vk (x:=y) z (by simp) (by omega)];unfold eA Wo.put;simp only[mC]
 unfold Eu iM;simp only[Wp];rw[show P5 w.e=w.η.map Rt.e from rfl,v,u,au (by omega),show P4 w.e=w.holds from rfl];have G:∀{α:Type} (a b:α),(bif ((0:Int)==(0:Int))then a else b)=a:=λ_ _=>rfl;have o:∀{α:Type} (a b:α),(bif ((0:Nat)==(0:Nat))then a else b)=a:=λ_ _=>rfl;simp only[G,o];simp only[Wa,Wu,E,s,t,Wiy (who:=(k:Int)+1) i (by omega) g,ret,Xd,Wh];have n:∀ε,cb ε=true->xj N ((k:Int)+1) x.rv ε x.κ=some ((),((g0 ((k:Int)+1) x.rv ε x.κ).e,(true,()))):=λm C=>Ww5 (by omega) D C A g;have r:xj N ((k:Int)+1) x.rv ([]:List Kc) x.κ=some ((),((g0 ((k:Int)+1) x.rv [] x.κ).e,(true,()))):=n [] rfl;have q:(S8 x.rv (S7 c x.e))=Rt.e {x with Ct:=c,Cy:=x.rv}:=rfl;rw[r,n _ B,q,F];simp only[Xd];by_cases f:c=2
 .rw[Wf f,Wf f];by_cases d:(o7 w.holds ((k:Int)+1)).length=0
  .rw[Wf (by omega),Wf ⟨rfl,d⟩]
  .rw[We (by omega),We (λh=>d h.2),Xj];exact bf rfl rfl rfl
 .rw[We f,We f];by_cases l:x.ι.length=0
  .rw[Wf (by omega)];by_cases d:(o7 w.holds ((k:Int)+1)).length=0
   .rw[Wf (by omega),Wf ⟨l,d⟩]
   .rw[We (by omega),We (λh=>d h.2),Xj];exact bf rfl rfl rfl
  .rw[We (by omega),We (λh=>l h.1),Xj];exact bf rfl rfl rfl
theorem TC{l:List Rw}(h:hG l)(a:l.length<=300):cb l=true:=by
 unfold cb;rw[F9.2 h,Wc a];rfl
theorem VF(a:CC ξ):∀j,j<=ξ.length->frk ξ j<=1
 |0,_=>by simp[frk]
 |j+1,h=>by
  have b:j<ξ.length:=by omega
  by_cases c:ξ[j].1=11
  .exact(a.fk j b c).2
  .rw[F1 b,show(ξ[j].1==11)=false by simpa using c];have:=VF a j (by omega);simpa using this
theorem RLive.sz(a:CC p.1)(h:RLive p n x):x.κ.length<=96/\x.ι.length<=32/\x.υ.length<=24/\x.θ.length<=24/\cb x.κ=true/\cb x.ι=true:=by
 have c:=h.pc;have d:=a.len;have e:=VF a x.pc.toNat (by omega);have f:=h.rl;have g:=h.wl;have i:=h.ul;have b:=Wq Xb h.θ.pcs;simp only[Xt]at b;have j:=eD a.up x.pc.toNat (by omega);have k:=(fE p.1 x.pc.toNat).2;exact⟨by omega,by omega,by omega,by omega,TC h.κ (by omega),TC h.ι (by omega)⟩
theorem MN(a:x.Co=true->dR x.pb=true){c:Int}(b:0<=c/\c<=7):dR (if x.Co then x.pb else(c,0,0,0))=true:=by
 split
 .exact a ‹_›
 .rw[y1];simp only;omega
theorem Wve(E:k<w.η.length)(m:w.η[k]=x)(j:CC p.1)(d:RLive p n x)(l:W2 w.mem=true)(C:o.1=5)(F:bj o=true)(h:1048576<N):
  HZ N w.e k o=some (((Wo.put (w,mn w x o) k).e,()),()):=by
 obtain⟨z,S,T,U,V⟩:=woG E m;obtain⟨r0,r1,r2,I,J,r5,r6,r7,r8,Z,y,t,u,P,Q,A,B,R,gd,W,X,Y⟩:=rtP x;obtain⟨z1,z2,z3,z4,z5,z6⟩:=d.sz j;obtain⟨D,f⟩:=As F C;have g:0<=o.2.2.1/\o.2.2.1<=7:=by unfold bO at f;simpa using f
 have s:=d.μ.len;have M:=d.pc;have O:=j.len;have i:=d.Cr;unfold HZ mn;simp only[Wp];rw[show P5 w.e=w.η.map Rt.e from rfl,z,show w.e.2.2.1=w.mem from rfl];simp only[I,J,y,t,u,A,B];rw[KU (by omega) h,WV D s,au (by omega)];cases hl:c9 x.ι o.2.2.1 with
 |some v=>
  simp only[opI,Xd,Wa];exact bf rfl rfl rfl
 |none=>
  have L:Wx (x.κ.length+ [(o.2.2.1,(0:Int))].length)=true:=Wn (by simp;omega);have H:xO N o.2.2.1=some ((),((o.2.2.1,0,0,0),(true,()))):=by
   unfold xO;rw[W0,f];rfl
  have c:=MN d.pb g;have K:S18 true x.e=Rt.e {x with Co:=true}:=rfl;simp only[opI,Xd,Wb,Wu,H,K];have G:∀q:Pb,S19 q (Rt.e {x with Co:=true})=Rt.e {x with Co:=true,pb:=q}:=λq=>rfl;simp only[G,KY (x:={x with Co:=true,pb:=_}) i];cases hb:x.Co with
  |false=>
   rw[hb]at c;simp only[dq,W4]at c;rw[FH l c h];simp only[bS,Wa,ret,Xd,dq,W4];generalize cS w.mem x.rv (o.2.2.1,0,0,0)=q;by_cases b:q.2.1=4
   .rw[Wf b,Wf b];exact bf rfl rfl rfl
   .rw[We b,We b];by_cases a:q.2.1=3
    .rw[Wf a,Wf a,Wn (by simp;omega)];exact bf rfl rfl rfl
    .rw[We a,We a];exact bf rfl rfl rfl
  |true=>
   have r:∀q:Pb,S19 q x.e=Rt.e {x with Co:=true,pb:=q}:=λq=>by
    have:S19 q x.e=Rt.e {x with pb:=q}:=rfl;rw[this]
    conv=>lhs;rw[show({x with pb:=q}:Rt)={x with Co:=x.Co,pb:=q}from rfl,hb]
   rw[hb]at c;simp only[WN]at c;rw[FH l c h];simp only[Xn,Wb,ret,Xd,WN,r,KY (x:={x with Co:=true,pb:=_}) i];generalize cS w.mem x.rv x.pb=q;by_cases b:q.2.1=4
   .rw[Wf b,Wf b];exact bf rfl rfl rfl
   .rw[We b,We b];by_cases a:q.2.1=3
    .rw[Wf a,Wf a,Wn (by simp;omega)];exact bf rfl rfl rfl
    .rw[We a,We a];exact bf rfl rfl rfl
end
end Go.Sx
