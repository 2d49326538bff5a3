/- Plain laws of the Lean functions. -/
import Derived.Test.YtnddhmkccolneaaGreatMW1
open List renaming getD→Xc,set→Xf,range→cK,replicate→Xp,map_append→Xy,map_cons→bn,map_nil→eL,map_set→O5,pairwise_cons→Xw,mem_cons_of_mem→Xg,length→Xa,length_map→Xu,take→ah,set_getElem_self→jT,range'→Xgu,mem_range'_1→Xgf,getElem_mem→Xt,mem_append→Xo,pairwise_append→ef,mem_singleton→cq,getElem?_eq_getElem→Xr,length_cons→Xs,drop_length→fo,drop_eq_getElem_cons→d4,append_eq→cZ,length_set→cY,countP_set→Xic,getElem_set→wW,length_append→Xv,length_singleton→Xgx,length_nil→kN,mem_map→Xx,getElem_replicate→OW,mem_cons_self→Xl,append_assoc→fX,singleton_append→Xfe,append→Xe,set_set→nk,nil_append→dn,all_eq_true→bH,pairwise_iff_getElem→hP,filter_cons→eH,mem_filter→eA,getElem_of_mem→md,filter_eq_self→A1
open Option renaming bind_some→Xd
open Bool renaming not_true→Xn,and_eq_true→Xh,not_eq_true'→c5,eq_false_iff→Xga,or_eq_false_iff→If,not_eq_false'→O7,and_eq_false_iff→qi,and_self→c6,not_false→fx,false_eq_true→dL
open Int renaming toNat→Xb,toNat_natCast→Xk,le_refl→wX,tdiv_eq_ediv_of_nonneg→Ez
open Nat renaming le_refl→Xj,zero_add→cb,sub_zero→wZ,lt_trichotomy→Xgc
namespace Go.Sx
set_option linter.unusedVariables false
set_option linter.unusedSimpArgs false
section
abbrev KM:=Int×Int×List Int
structure Kd where
 ζ:Int:=0
 pc:Int:=0
 EM:Int:=0
 χ:Int:=0
 pos:Int:=0
 out:Int:=0
 ξ:List Int:=[]
 δ:List En:=[]
 ι:List Rw:=[]
 θ:List KM:=[]
 EI:Bool:=false
 pb:Pb:=(0,0,0,0)
def Kd.e(x:Kd):Y_KidRun:=(x.ζ,x.pc,x.EM,x.χ,x.pos,x.out,x.ξ,x.δ,x.ι,x.θ,x.EI,x.pb)
structure Fm where
 rv:Int:=0
 γ:Int:=0
 EG:Int:=0
 EP:Bool:=false
 ξ:List Int:=[]
 start:List Rw:=[]
 buf:List En:=[]
 EK:List Int:=[]
 κ:List Rw:=[]
 π:List Kd:=[]
def Fm.e(f:Fm):Y_Family:=(f.rv,f.γ,f.EG,f.EP,f.ξ,f.start,f.buf,f.EK,f.κ,f.π.map Kd.e)
def zOp:Opn:=(0,0,0,0)
def opN(μ:List Opn)(i:Int):Opn:=Xc μ i.toNat zOp
def al{α:Type}(l:List α)(i:Int)(d:α):α:=Xc l i.toNat d
def iF{α:Type}(l:List α)(i:Int)(x:α):List α:=Xf l i.toNat x
def jx{α:Type}(l:List α)(d:α):α:=Xc l (l.length-1) d
def nY(l:List Opn)(m:Nat):Nat:=((cK l.length).find? λk=>decide (m<=k)&&decide (dep l (k+1)=dep l m)).getD 0
def Fm.again(f:Fm)(x:Kd):Kd:={EM:=f.γ,χ:=x.χ+1,ξ:=f.ξ}
def jv(m:Mm)(f:Fm)(x:Kd)(o:Opn):Fm×Kd:=
 match df x.ι o.2.2.1 with
 |some v=>(f,{x with ξ:=iF x.ξ o.2.1 v,pc:=x.pc+1})
 |none=>match ent f.buf o.2.2.1 with
  |some r=>if r.2.2.2>x.EM then(f,f.again x)else(f,{x with ξ:=iF x.ξ o.2.1 r.2.2.1,δ:=x.δ++ [r.2],pc:=x.pc+1})
  |none=>
   let p:=cL m f.rv (if x.EI then x.pb else(o.2.2.1,0,0,0))
   if p.2.1=4 then({f with EP:=true},{x with EI:=true,pb:=p})
   else if p.2.1=3 then(f,{x with ξ:=iF x.ξ o.2.1 p.2.2.2,δ:=x.δ++ [(o.2.2.1,p.2.2.2,-1)],EI:=false,pb:=(0,0,0,0),pc:=x.pc+1})
   else(f,{x with EI:=true,pb:=p})
def vS(x:Kd)(μ:List Opn):Kd:=
 if x.θ.length=0 then{x with ι:=[],out:=2,ζ:=1}else
 let q:=jx x.θ (0,0,[])
 {x with θ:=x.θ.dropLast,ξ:=iF q.2.2 (opN μ q.1).2.1 0,ι:=x.ι.take q.2.1.toNat,pc:=nY μ q.1.toNat+1}
def iL(m:Mm)(f:Fm)(x:Kd)(μ:List Opn):Fm×Kd:=
 if x.pc>=μ.length then(f,{x with out:=1,ζ:=1})else
 let o:=opN μ x.pc
 if o.1=5 then jv m f x o else
 if o.1=10 then(f,vS x μ)else
 if o.1=6 then(f,{x with ι:=x.ι++ [(o.2.1,al x.ξ o.2.2.1 0)],pc:=x.pc+1})else
 if o.1=7 then(f,{x with pc:=(if al x.ξ o.2.1 0=0 then x.pc+o.2.2.1 else x.pc)+1})else
 if o.1=8 then(f,{x with θ:=x.θ++ [(x.pc,(x.ι.length:Int),x.ξ)],pc:=x.pc+1})else
 if o.1=9 then(f,{x with θ:=x.θ.dropLast,ξ:=iF x.ξ (opN μ (jx x.θ (0,0,[])).1).2.1 1,pc:=x.pc+1})else
 (f,{x with ξ:=sn o x.ξ,pc:=x.pc+1})
def rI(c:Int)(b:List En)(ε:List Rw):List En:=ε.foldl (λb r=>ch cfE b (r.1,r.2,c)) b
def fZ(l:List En):List Rw:=(l.filter λe=>decide (e.2.2= -1)).map λe=>(e.1,e.2.1)
def sf(f:Fm)(x:Kd)(k:Nat):Fm×Kd:=
 ({f with γ:=f.γ+1,buf:=rI (f.γ+1) f.buf (aA x.ι),κ:=f.κ++fZ x.δ,EK:=f.EK++ [(k:Int)],EG:=0},{x with ζ:=3,pos:=0,θ:=[]})
def OL(b:List En)(c:Int):Int:=match ent b c with
 |some r=>r.2.2.2
 |none=>-1
def n5(m:Mm)(f:Fm)(x:Kd)(k:Nat)(μ:List Opn):Fm×Kd:=
 if x.ζ=0 then iL m f x μ else
 if x.ζ=1 then(if f.EG=0 then({f with EG:=(k:Int)+1},{x with ζ:=2})else(f,x))else
 if x.ζ=2 then
  if x.pos=x.δ.length then sf f x k else
  let s:=al x.δ x.pos (0,0,0)
  if OL f.buf s.1=s.2.2 then(f,{x with pos:=x.pos+1})else({f with EG:=0},f.again x)
 else(f,x)
def Fm.put(q:Fm×Kd)(k:Nat):Fm:={q.1 with π:=q.1.π.set k q.2}
def jz(m:Mm)(f:Fm)(k:Nat)(μ:List Opn):Fm:=
 if f.EP then f else Fm.put (n5 m f (f.π.getD k {}) k μ) k
def iq(rv:Int)(ξ:List Int)(ι:List Rw)(π:Nat):Fm:=
 {rv:=rv,ξ:=ξ,start:=aA ι,buf:=(aA ι).map λr=>(r.1,r.2,0),π:=Xp π {ξ:=ξ}}
def lx(f:Fm):Bool:=f.π.all λx=>decide (x.ζ=3)
def z7(f:Fm):List Rw:=f.buf.map λe=>(e.1,e.2.1)
def YW(x:Kd):Int:=if x.out=1/\lK x.ξ=true then al x.ξ 0 0 else 0
def vD(f:Fm):List Int:=
 if lK f.ξ=true/\f.π.length<=3 then f.π.map YW++f.ξ.drop f.π.length else []
structure KMk(μ:List Opn)(pc:Nat)(θ:List KM)(wl:Nat):Prop where
 pcs:θ.map (·.1)=(stk μ pc).map λm:Nat=>(m:Int)
 each:∀q∈θ,Vals 4 q.2.2/\0<=q.2.1/\q.2.1<=q.1/\q.2.1<=wl
 up:θ.Pairwise λa b=>a.2.1<=b.2.1
structure KOk(μ:List Opn)(c n:Int)(x:Kd):Prop where
 pc:0<=x.pc/\x.pc<=μ.length
 ξ:Vals 4 x.ξ
 ε:iD x.ι
 wl:(x.ι.length:Int)<=x.pc
 sl:(x.δ.length:Int)<=x.pc
 EM:0<=x.EM/\x.EM<=c
 χ:0<=x.χ/\x.χ<=n
 δ:∀e∈x.δ,(0<=e.1/\e.1<=7)/\(0<=e.2.1/\e.2.1<=65535)/\ -1<=e.2.2/\e.2.2<=x.EM
 θ:x.ζ=0->KMk μ x.pc.toNat x.θ x.ι.length
 pos:0<=x.pos/\x.pos<=x.δ.length
 pb:x.EI=true->ed x.pb=true
 ζ:0<=x.ζ/\x.ζ<=3
 out:0<=x.out/\x.out<=2
structure FOk(codes:List (List Opn))(n:Int)(f:Fm):Prop where
 len:f.π.length=codes.length
 ξ:Vals 4 f.ξ
 γ:0<=f.γ/\f.γ=f.EK.length
 done:f.EK.length=f.π.countP λx=>decide (x.ζ=3)
 bufR:Ris cfE f.buf
 bufE:∀e∈f.buf,(0<=e.1/\e.1<=7)/\(0<=e.2.1/\e.2.1<=65535)/\0<=e.2.2/\e.2.2<=f.γ
 readsL:f.κ.length<=24*f.EK.length
 readsE:iD f.κ
 EG:0<=f.EG/\f.EG<=f.π.length
 kid:∀(k:Nat) (h:k<f.π.length),KOk (codes.getD k []) f.γ n f.π[k]
end
section
structure CC(l:List Opn):Prop where
 len:l.length<=24
 up:Up l
 z:dep l l.length=0
 ok:∀i (h:i<l.length),aT l[i]=true/\1<=l[i].1/\l[i].1<=16
 sk:∀i (h:i<l.length),l[i].1=7->i+1+l[i].2.2.1.toNat<=l.length/\bal ((l.take (i+1+l[i].2.2.1.toNat)).drop (i+1))=true
 fk:∀i (h:i<l.length),l[i].1=11->dep l i=0/\frk l (i+1)<=1
structure KC(l:List Opn):Prop extends CC l where
 k10:∀i (h:i<l.length),l[i].1<=10
theorem Hr{o}(h:aT o=true)(e:12<=o.1):nZ o=2:=by
 have f:=p6 h;have a:=CW (N:=0) (o:=o);unfold mu at a;rw[vm,h]at a;simp only[ret,Xd,Xn,Wb]at a;have c:(o.1==5)=false:=by simp;omega
 have d:(o.1==6)=false:=by simp;omega
 rw[c,d]at a;simp only[Wb]at a;have:o.1=12\/o.1=13\/o.1=14\/o.1=15\/o.1=16:=by omega
 rcases this with b|b|b|b|b<;> · simp_all
theorem Ow{l}(h:jJ l=true):CC l:=by
 unfold jJ at h;simp only[Xh,Wh,c5]at h;obtain⟨d,e,g⟩:=h;obtain⟨b,c⟩:=NY.1 e;have f:∀i (hi:i<l.length),kL l i l[i]=false:=λi hi=>by
  rw[Xga];intro f;have:iM (kL l) 0 l=true:=DF.2 ⟨i,hi,by simp_all⟩;simp_all
 have a:∀i (hi:i<l.length),aT l[i]=true:=λi hi=>by
  grind [kL,If,O7]
 refine⟨d,b,c,λi hi=>⟨a i hi,p6 (a i hi)⟩,λi hi j=>?_,λi hi k=>?_⟩
 .grind [kL,If,O7,vK]
 grind [kL,If,O7]
theorem Wzm{l}(h:ku l=true):KC l:=by
 unfold ku at h;simp only[Xh,c5]at h;have a:=Ow h.1;refine⟨a,λi d=>?_⟩;have b:pX l[i]=false:=by
  grind
 unfold pX at b;simp only[If]at b;by_cases c:l[i].1<=10
 .exact c
 .exfalso;by_cases e:l[i].1=11
  .simp_all
  .have:=Hr (a.ok i d).1 (by omega);simp_all
theorem Tt{l}{m k}(h:Mate l m k):nY l m=k:=by
 unfold nY;have:(cK l.length).find? (λk=>decide (m<=k)&&decide (dep l (k+1)=dep l m))=some k:=by
  rw[List.find?_range_eq_some];have:=h.lt;refine⟨?_,List.mem_range.2 h.len,λj a=>?_⟩
  .simp[h.eq];omega
  .simp only[c5,qi,Wn];by_cases b:m<=j
   .exact .inr (h.ne j b a)
   omega
 grind
theorem wa{l}{i:Int}(a:0<=i)(h:i<l.length):∃(n:Nat) (b:n<l.length),i=n/\opN l i=l[n]:=by
 grind [opN,WB]
theorem rQ{l}{n:Nat}(h):opN l (n:Int)=l[n]:=by
 grind [opN,WB]
theorem WrH{α}(q)(x d:α):jx (q++ [x]) d=x:=by unfold jx;simp
theorem wc{M}{g}{l}{pc}{θ}{d}(e:CC l)(f:pc<=l.length)(a:θ.map g=(stk l pc).map λm:Nat=>(m:Int))(o:θ.length≠0):
  ∃(m:Nat) (q:List M) (x:M),θ=q++ [x]/\jx θ d=x/\g x=(m:Int)/\(∃a:m<l.length,l[m].1=8)/\m<pc/\Mate l m (nY l m)/\pc<=nY l m/\stk l m=(stk l pc).dropLast/\q.map g=(stk l m).map λm:Nat=>(m:Int):=by
 rcases zz θ with h|⟨q,x,i⟩
 .simp_all
 .rw[i,Xy,bn,eL]at a;rcases zz (stk l pc)with h|⟨t,m,b⟩
  .simp_all
  .rw[b,Xy,bn,eL]at a;obtain⟨p,c⟩:=List.append_inj' a rfl;injection c with c;obtain⟨k,s,j,u⟩:=WxQ e.up e.z f b;have v:=Tt j;obtain⟨n,r,_,_⟩:=MY pc f t [] m b
   grind [WrH,List.dropLast_concat]
end
section
theorem UE{α β:Type}(g:α->β)(l:List α)(i)(d):Xc (l.map g) i (g d)=g (l.getD i d):=by
 simp_all
theorem kdP(x:Kd):x.e.1=x.ζ/\x.e.2.1=x.pc/\x.e.2.2.1=x.EM/\x.e.2.2.2.1=x.χ/\P4 x.e=x.pos/\P5 x.e=x.out/\P6 x.e=x.ξ/\P7 x.e=x.δ/\P8 x.e=x.ι/\P9 x.e=x.θ/\P10 x.e=x.EI:=⟨rfl,rfl,rfl,rfl,rfl,rfl,rfl,rfl,rfl,rfl,rfl⟩
theorem fmP(f:Fm):f.e.1=f.rv/\f.e.2.1=f.γ/\f.e.2.2.1=f.EG/\f.e.2.2.2.1=f.EP/\P4 f.e=f.ξ/\P5 f.e=f.start/\P6 f.e=f.buf/\P7 f.e=f.EK/\P8 f.e=f.κ/\Q9 f.e=f.π.map Kd.e:=⟨rfl,rfl,rfl,rfl,rfl,rfl,rfl,rfl,rfl,rfl⟩
theorem U9e(f:Fm)(k)(x):U9 (Xf (f.π.map Kd.e) k x.e) f.e=Fm.e {f with π:=f.π.set k x}:=by
 unfold U9 Fm.e;rw[O5]<;>rfl
theorem lX{f f':Fm}{k}{x'}{y}{g}(c:y=x'.e)(b:g=f'.e)(a:f'.π=f.π):
  some ((U9 (Xf (f.π.map Kd.e) k y) g,()),())=some (((Fm.put (f',x') k).e,()),()):=by
 subst c b;rw[←a,U9e];rfl
theorem UN(m)(f)(x)(o:Opn):rT m f.e x.e o=((jv m f x o).1.e,(jv m f x o).2.e):=by
 unfold rT jv;have d:P8 x.e=x.ι:=rfl;have g:P6 f.e=f.buf:=rfl;rw[d,g];rcases df x.ι o.2.2.1 with _|v
 .rcases ent f.buf o.2.2.1 with _|r
  .have h3:fS x.e o.2.2.1=if x.EI then x.pb else(o.2.2.1,0,0,0):=by
    unfold fS;have:P10 x.e=x.EI:=rfl;rw[this];cases x.EI<;>rfl
   simp only[h3];have h:f.e.1=f.rv:=rfl;rw[h];generalize cL m f.rv (if x.EI then x.pb else(o.2.2.1,0,0,0))=p;by_cases c:p.2.1=4
   .have:(p.2.1==4)=true:=by simp_all
    rw[Wf c,this];rfl
   .have:(p.2.1==4)=false:=by simp_all
    rw[We c,this];by_cases b:p.2.1=3
    .have:(p.2.1==3)=true:=by simp_all
     rw[Wf b,this];rfl
    .have:(p.2.1==3)=false:=by simp_all
     rw[We b,this];rfl
  .simp only;have i:x.e.2.2.1=x.EM:=rfl;rw[i];by_cases a:r.2.2.2>x.EM
   .rw[Wf a,Wc a];rfl
   .rw[We a,Wg a];rfl
 .rfl
theorem Ts(m)(f)(x)(o):(jv m f x o).1.π=f.π:=by
 grind [jv,df,ent,cL]
variable{N:Nat}{codes:List (List Opn)}{n:Int}{f:Fm}{k:Nat}{μ:List Opn}{m:Mm}{x:Kd}
theorem FOk.buf8(h:FOk codes n f):f.buf.length<=8:=by
 have:∀(l:List En) (c:Int),Ris cfE l->(∀e∈l,c<=e.1/\e.1<=7)->(l.length:Int)<=8-c\/l= []:=by
  intro l
  induction l with
  |nil=>simp_all
  |cons a l ih=>
   intro c i g;have d:=Xw.1 i;rcases ih (a.1+1) d.2 (λe b=>⟨by grind [cfE],(g e (Xg _ b)).2⟩)with h|h
   .grind
   grind
 rcases this f.buf 0 h.bufR (λe b=>by have:=(h.bufE e b).1;omega)with h|h
 .omega
 simp_all
theorem UL(c:FOk codes n f)(a:KOk μ f.γ n x)(b:KC μ)(h:W6 m=true)(j:n<=100000){o:Opn}(i:an o.2.1=true)(d:bU o.2.2.1=true):ReadOk m f.e x.e o where
 mem:=h
 ξ:=a.ξ.len
 famr:=c.ξ.len
 rA:=by grind [an]
 cB:=d
 δ:=by have:=a.sl;have:=a.pc;have:=b.len;show x.δ.length<=1000;omega
 wr:=by have:=a.wl;have:=a.pc;have:=b.len;show x.ι.length<=1000;omega
 buf:=by have:=c.buf8;show f.buf.length<=1000;omega
 ver:=λe g=>(c.bufE e g).2.2.1
 EM:=a.EM.1
 pc:=by have:=a.pc;have:=b.len;show 0<=x.pc/\x.pc<=1000;omega
 χ:=by have:=a.χ;show 0<=x.χ/\x.χ<=100000;omega
 pb:=a.pb
theorem Wv{α:Type}{a b:Int}{x y:α}:(bif a==b then x else y)=if a=b then x else y:=by
 simp_all
theorem W0{α:Type}{p}[Decidable p]{x y:α}:(bif decide p then x else y)=if p then x else y:=by
 simp_all
theorem WlT(b:KC μ)(c:KOk μ f.γ n x)(v:x.ζ=0)(w:1048576<N):Ix N x.e μ=some (((vS x μ).e,()),()):=by
 unfold Ix vS;obtain⟨Q,C,R,S,T,U,V,W,E,F,D⟩:=kdP x;have L:=c.pc;have K:=b.len;have k:=c.θ v;simp only[Wk,F,E,C,Wv];by_cases g:x.θ.length=0
 .rw[Wf (by unfold Wi;omega),Wf g];rfl
 .rw[We (by unfold Wi;omega),We g];obtain⟨j,q,y,p,r,s,⟨a,i⟩,vZ,h,X,M,t⟩:=wc (d:=((0,0,[]):KM)) b.toCC (show x.pc.toNat<=μ.length by omega) k.pcs g;have Z:x.θ.length=q.length+1:=by grind
  have J:q.length<=24:=by
   have:=Ws Xa t;simp only[Xu]at this;have O:=eY b.up j (by omega);have P:=(gc μ j).2;omega
  have B:Wz .i64 (Wi x.θ) 1=(q.length:Int):=by grind [vX]
  have A:y∈x.θ:=by grind
  obtain⟨l,y2,y3,y4⟩:=k.each y A;have u:Xc x.θ (Xb (q.length:Int)) ((0,0,[]):KM)=y:=by grind
  have I:ah (Xb (q.length:Int)) x.θ=x.θ.dropLast:=by rw[p];simp
  have Y:=c.wl;rw[B,WH,Wc (show q.length<x.θ.length by omega)];simp only[Wa,u,I,r];have m:((decide ((0:Int)<=(q.length:Int))&&decide ((q.length:Int)<=(x.θ.length:Int)))&&decide ((q.length:Int)<=((Xb (q.length:Int):Nat):Int)))=true:=by
   simp;omega
  rw[m];simp only[Wa];rw[nM (by rw[l.len];omega)];simp only[ret,Xd];rw[s,WH,Wc a];have G:Xc μ (Xb ((j:Nat):Int)) ((0,0,0,0):Opn)=μ[j]:=Wu a _;have H:opN μ ((j:Nat):Int)=μ[j]:=rQ a;have z:=sA (b.ok j a).1 i;simp only[Wa,G,H];rw[WW z l.len];have o:(decide ((0:Int)<=y.2.1)&&decide (y.2.1<=(x.ι.length:Int)))=true:=by simp;omega
  rw[o];simp only[Wa];rw[zK (by grind),SV (by omega) w ⟨a,i⟩ h];simp only[ret,Xd];rw[aw (by have:=h.len;omega),Xk];rfl
theorem Wpv(hk)(hm:W6 m=true)(c:KC μ)(K:FOk codes n f)(R:codes.getD k []=μ)(H:f.π[k]=x)(w:x.ζ=0)(hn:n<=100000)(D:1048576<N):
  IB N f.e (k:Int) μ m=some (((Fm.put (iL m f x μ) k).e,()),()):=by
 have g:=K.kid k hk;rw[R,H]at g;obtain⟨k0,k1,k2,k3,k4,k5,k6,k7,k8,k9,k10⟩:=kdP x;obtain⟨f0,f1,f2,f3,f4,f5,f6,f7,f8,Z⟩:=fmP f;have Q:=g.pc;have ad:=c.len;have ql:=g.wl;have V:Xc (f.π.map Kd.e) (Xb (k:Int)) d_KidRun=x.e:=by
  simp_all
 have W:U9 (Xf (f.π.map Kd.e) (Xb (k:Int)) x.e) f.e=f.e:=by
  rw[Xk,U9e,←H,jT]
 unfold IB iL;simp only[Wk,Z,Xu];rw[WH,Wc hk];simp only[Wa,V,W,k1,k6,k8,k9,W0,Wv,show Wi μ=(μ.length:Int)from rfl];by_cases v:x.pc>=μ.length
 .rw[Wf v,Wf v];rw[Xk];exact lX rfl rfl rfl
 .rw[We v,We v];obtain⟨j,F,ej,Y⟩:=wa (l:=μ) Q.1 (by omega);have sH:Xc μ (Xb x.pc) ((0,0,0,0):Opn)=opN μ x.pc:=rfl;have T:inb x.pc μ.length=true:=by grind [WH,decide_eq_true]
  rw[T];obtain⟨t,G,iw⟩:=c.ok j F;have S:=c.k10 j F;simp only[Wa,sH];rw[←Y]at t G S;generalize opN μ x.pc=o at*;have C:=g.ξ.len;rw[Xk];rw[aw (show 0<=x.pc/\x.pc<=1000000 by omega)];by_cases p:o.1=5
  .rw[Wf p,Wf p];have:=AQ t p;have mo:=UL K g c hm hn this.1 this.2;have X:(Q9 f.e)[k]'(by simp_all)=x.e:=by
    simp_all
   have:=Wn9 (m:=m) (o:=o) (f:=f.e) (k:=k) (by simp_all) (by simp_all) D;rw[this];simp only[Xd,X,UN];unfold OI;have O:=Ts m f x o;rw[show Q9 (jv m f x o).1.e=f.π.map Kd.e by rw[←O];rfl];exact lX rfl rfl O
  .rw[We p,We p];by_cases u:o.1=10
   .rw[Wf u,Wf u,WlT c g w D];exact lX rfl rfl rfl
   .rw[We u,We u];by_cases r:o.1=6
    .rw[Wf r,Wf r];rw[WW (AX t r).2 C,Wp (by simp;omega)];exact lX rfl rfl rfl
    .rw[We r,We r];by_cases s:o.1=7
     .rw[Wf s,Wf s];have h:=AJ t s;rw[WW h.1 C,WA (a:=x.pc) (b:=o.2.2.1) (by unfold I64;omega),aw (a:=x.pc+o.2.2.1) (by omega)];by_cases B:Xc x.ξ (Xb o.2.1) 0=0
      .rw[Wf B,Wf (show al x.ξ o.2.1 0=0 from B)];simp only[Wa];exact lX rfl rfl rfl
      .rw[We B,We (show¬al x.ξ o.2.1 0=0 from B)];simp only[Wa];exact lX rfl rfl rfl
     .rw[We s,We s];by_cases z:o.1=8
      .rw[Wf z,Wf z];rw[nM (by omega)];have oW:x.θ.length<=24:=by
        have:=Ws Xa (g.θ w).pcs;simp only[Xu]at this;have I:=eY c.up x.pc.toNat (by omega);have J:=(gc μ x.pc.toNat).2;omega
       simp only[ret,Xd];rw[Wp (by simp;omega)];exact lX rfl rfl rfl
      .rw[We z,We z];by_cases A:o.1=9
       .rw[Wf A,Wf A];have L:=g.θ w;have hz:x.θ.length≠0:=by
         have h1:=Ws Xa L.pcs;have I:=eY c.up j (by omega);have J:=c.up j F
         grind [fF,p5,Xk]
        obtain⟨i,q,y,U,v6,v7,⟨E,tB⟩,vZ,dP,lG,e5,e6⟩:=wc (d:=((0,0,[]):KM)) c.toCC (show x.pc.toNat<=μ.length by omega) L.pcs hz;have sG:x.θ.length=q.length+1:=by grind
        have oW:x.θ.length<=24:=by
         have:=Ws Xa (g.θ w).pcs;simp only[Xu]at this;have I:=eY c.up x.pc.toNat (by omega);have J:=(gc μ x.pc.toNat).2;omega
        have i1:Wz .i64 (Wi x.θ) 1=(q.length:Int):=by grind [vX]
        have g1:Xc x.θ (Xb (q.length:Int)) ((0,0,[]):KM)=y:=by grind
        have t1:ah (Xb (q.length:Int)) x.θ=x.θ.dropLast:=by rw[U];simp
        rw[i1,WH,Wc (show q.length<x.θ.length by omega)];have P:(decide ((0:Int)<=(q.length:Int))&&decide ((q.length:Int)<=(x.θ.length:Int)))=true:=by simp;omega
        rw[P];simp only[Wa,g1,t1,v6];rw[v7,WH,Wc E];have G:Xc μ (Xb ((i:Nat):Int)) ((0,0,0,0):Opn)=opN μ (i:Int):=rfl;have M:=sA (c.ok i E).1 tB;rw[←rQ E]at M;simp only[Wa,G];rw[WW M C];exact lX rfl rfl rfl
       .rw[We A,We A];rw[SA D t (by omega) (by omega) g.ξ];exact lX rfl rfl rfl
end
section
theorem TF{l}{c v}:∀(i),i<=l.length->pU l c i=some v->(c,v)∈l
 |0,_,h=>by simp[pU]at h
 |i+1,b,h=>by
  unfold pU at h;rw[WB (by omega)]at h;by_cases a:l[i].1=c
  .grind
  .rw[We a]at h;exact TF i (by omega) h
theorem Ms{l}{c v}(h:df l c=some v):cd l=true/\(c,v)∈l:=by
 unfold df at h;by_cases a:cd l=true
 .rw[Wf a]at h;exact⟨a,TF _ (Xj _) h⟩
 simp_all
theorem V3(l):∀(j c) (o),m9 l j c o=o++(Xgu c j).filterMap λc:Nat=>(df l (c:Int)).map λv=>((c:Int),v)
 |0,c,o=>by simp[m9]
 |j+1,c,o=>by
  rw[m9,V3 l j,List.range'_succ,List.filterMap_cons];unfold DP;cases h:df l (c:Int)<;>simp
theorem NZ(l):aA l=(Xgu 0 8).filterMap λc:Nat=>(df l (c:Int)).map λv=>((c:Int),v):=by simp[aA,V3]
theorem V0{l}{r}:r∈aA l↔(0<=r.1/\r.1<=7)/\df l r.1=some r.2:=by
 rw[NZ,List.mem_filterMap];constructor
 .rintro⟨c,a,h⟩;rw[Xgf]at a;cases hl:df l (c:Int)with
  |none=>simp_all
  |some v=>
   grind
 .rintro⟨b,h⟩;refine⟨r.1.toNat,Xgf.2 (by omega),?_⟩
  grind
theorem NO(l):(aA l).Pairwise λa b=>a.1<b.1:=by
 rw[NZ,List.pairwise_filterMap];refine List.Pairwise.imp ?_ (List.pairwise_lt_range' (s:=0) (n:=8));simp_all
theorem po(l):(aA l).length<=8:=by
 grind [NZ,Nat.le_trans,List.length_filterMap_le]
theorem GV{l}:iD (aA l):=by
 intro r d;obtain⟨e,b⟩:=V0.1 d;obtain⟨a,c⟩:=Ms b;unfold cd at a;simp only[Xh]at a;have:=(G9.1 a.2) _ c;omega
end
section
theorem zV{p}:ed p=true↔(0<=p.1/\p.1<=7)/\(0<=p.2.1/\p.2.1<=4)/\(0<=p.2.2.1/\p.2.2.1<=1000000)/\0<=p.2.2.2/\p.2.2.2<=65535:=by
 simp[ed,bU,bR,Xh,Wh]
theorem vM{c}{w}:fV c w=true↔(0<=w.1/\w.1<=65535)/\(0<=w.2.1/\w.2.1<=c)/\0<=w.2.2/\w.2.2<=99:=by
 simp[fV,bR,Xh,Wh]
theorem YK{m}(h:W6 m=true){c}(a:0<=c/\c<=7):fV m.1 (al m.2 c (0,0,0))=true:=by
 grind [WE,al,WB,Xt]
theorem UU{m}{rv}{p}(a:W6 m=true)(c:ed p=true):ed (cL m rv p)=true/\(cL m rv p).1=p.1:=by
 have b:=zV.1 c;obtain⟨g,e,f,_⟩:=WE a;unfold cL;have d:fV m.1 (Xc m.2 (Xb p.1) (0,0,0))=true:=YK a b.1
 grind [vM,zV]
section
variable{μ:List Opn}{pc gv wl oG:Nat}{ms q:List KM}{y:KM}{c c' n n':Int}{x:Kd}{f:Fm}{m:Mm}{codes:List (List Opn)}{k:Nat}
theorem KMk.mono(h:KMk μ pc ms wl)(b:stk μ gv=stk μ pc)(c:wl<=oG):KMk μ gv ms oG:=
 ⟨by rw[b];exact h.pcs,λq a=>by have:=h.each q a;grind,h.up⟩
theorem KMk.begin(h:KMk μ pc ms wl)(hp)(e:μ[pc].1=8){ξ}(g:Vals 4 ξ)(i:wl<=pc):KMk μ (pc+1) (ms++ [((pc:Int),(wl:Int),ξ)]) wl:=by
 refine⟨?_,?_,?_⟩
 .rw[qa hp e,Xy,Xy,h.pcs];rfl
 .intro q c;rcases Xo.1 c with c|c
  .exact h.each q c
  simp_all
 .refine ef.2 ⟨h.up,List.pairwise_singleton _ _,λa f b d=>?_⟩;rw[cq]at d;subst d;exact(h.each a f).2.2.2
theorem KMk.drop(h:KMk μ pc ms wl)(c:ms=q++ [y])(f:stk μ gv=(stk μ pc).dropLast)(g:y.2.1<=oG):KMk μ gv q oG:=by
 subst c;have d:=h.pcs;refine⟨?_,λa b=>?_,(ef.1 h.up).1⟩
 .grind
 .have h2:=h.each a (List.mem_append_left _ b);have e:=(ef.1 h.up).2.2 a b y (by simp)
  grind
theorem KOk.wk(h:KOk μ c n x)(a:c<=c')(b:n<=n'):KOk μ c' n' x:=
 {h with EM:=by have:=h.EM;omega,χ:=by have:=h.χ;omega}
theorem Vi(h:KOk μ c n x)(j:c=f.γ)(b:Vals 4 f.ξ)(i:0<=f.γ):KOk μ c (n+1) (f.again x) where
 pc:=⟨wX _,by show(0:Int)<=_;omega⟩
 ξ:=b
 ε:=λr g=>by cases g
 wl:=wX _
 sl:=wX _
 EM:=by show 0<=f.γ/\f.γ<=c;omega
 χ:=by have:=h.χ;show 0<=x.χ+1/\x.χ+1<=n+1;omega
 δ:=λe a=>by cases a
 θ:=λ_=>⟨by show([]:List KM).map _=(stk μ 0).map _;rfl,(λq d=>by cases d),List.Pairwise.nil⟩
 pos:=⟨wX _,wX _⟩
 pb:=λh=>by cases h
 ζ:=by show(0:Int)<=0/\(0:Int)<=3;omega
 out:=by show(0:Int)<=0/\(0:Int)<=2;omega
theorem KMk.len(a:CC μ)(h:KMk μ pc ms wl)(b:pc<=μ.length):(ms.length:Int)=dep μ pc:=by
 have:=Ws Xa h.pcs;simp only[Xu]at this;rw[this,eY a.up pc b]
theorem KOk.on(l:CC μ)(h:KOk μ c n x)(m:x.ζ=0){i}(hi:i<μ.length)(k:x.pc=i){ξ}{δ}{ι}{θ}{EI}{pb}{gv}(p:gv<=μ.length)(j:i<gv)(d:Vals 4 ξ)(a:iD ι)(r:ι.length<=x.ι.length+1)(q:δ.length<=x.δ.length+1)
  (f:∀e∈δ,(0<=e.1/\e.1<=7)/\(0<=e.2.1/\e.2.1<=65535)/\ -1<=e.2.2/\e.2.2<=x.EM) (g:x.δ.length<=δ.length) (o:KMk μ gv θ ι.length) (b:EI=true->ed pb=true):
  KOk μ c n {x with ξ:=ξ,δ:=δ,ι:=ι,θ:=θ,EI:=EI,pb:=pb,pc:=(gv:Int)}:=
 {h with
  pc:=by simp_all
  ξ:=d
  ε:=a
  wl:=by have:=h.wl;grind
  sl:=by have:=h.sl;grind
  δ:=f
  θ:=λ_=>by simp_all
  pos:=by have:=h.pos;grind
  pb:=b}
theorem WuO(c:CC μ)(o:FOk codes n f)(h:KOk μ f.γ n x)(d:x.ζ=0){i}(hi:i<μ.length)(b:x.pc=i)(s:μ[i].1=5)(u:W6 m=true):
  KOk μ f.γ (n+1) (jv m f x μ[i]).2/\((jv m f x μ[i]).1=f\/(jv m f x μ[i]).1={f with EP:=true}):=by
 have B:=AQ (c.ok i hi).1 s;have t:0<=μ[i].2.2.1/\μ[i].2.2.1<=7:=by grind [bU]
 have g:=h.θ d;rw[b,Xk]at g;have j:=ju hi (by omega) (by omega);have l:x.pc+1=((i+1:Nat):Int):=by omega
 unfold jv;cases hl:df x.ι μ[i].2.2.1 with
 |some v=>
  have w:=h.ε _ (Ms hl).2;refine⟨?_,.inl rfl⟩;simp only[l];exact(KOk.on c h d hi b (by omega) (by omega) (h.ξ.set _ w.2) h.ε (by omega) (by omega) h.δ (by omega) (g.mono j (by omega)) h.pb).wk (by omega) (by omega)
 |none=>
  simp only;cases he:ent f.buf μ[i].2.2.1 with
  |some r=>
   simp only;have C:=lu he;have A:r.2∈f.buf:=by
    grind
   have z:=o.bufE _ A;split
   .exact⟨Vi h rfl o.ξ o.γ.1,.inl rfl⟩
   .refine⟨?_,.inl rfl⟩;simp only[l];refine(KOk.on c h d hi b (by omega) (by omega) (h.ξ.set _ z.2.1) h.ε (by omega) (by simp) (λe a=>?_) (by simp) (g.mono j (by omega)) h.pb).wk (by omega) (by omega);rcases Xo.1 a with a|a
    .exact h.δ e a
    grind
  |none=>
   simp only;have y:ed (if x.EI=true then x.pb else(μ[i].2.2.1,0,0,0))=true:=by
    split
    .exact h.pb ‹_›
    grind [zV]
   have k:=UU (rv:=f.rv) u y;generalize cL m f.rv (if x.EI=true then x.pb else(μ[i].2.2.1,0,0,0))=p at*;have q:=zV.1 k.1;split
   .refine⟨?_,.inr rfl⟩;exact KOk.wk (n:=n) {h with pb:=λ_=>k.1} (by omega) (by omega)
   .split
    .refine⟨?_,.inl rfl⟩;simp only[l];refine(KOk.on c h d hi b (by omega) (by omega) (h.ξ.set _ q.2.2.2) h.ε (by omega) (by simp) (λe a=>?_) (by simp) (g.mono j (by omega)) (λh=>by cases h)).wk (by omega) (by omega);rcases Xo.1 a with a|a
     .exact h.δ e a
     .rw[cq]at a;subst a;exact⟨t,q.2.2.2,by simp,by have:=h.EM;grind⟩
    .refine⟨?_,.inl rfl⟩;exact KOk.wk (n:=n) {h with pb:=λ_=>k.1} (by omega) (by omega)
theorem WxG(s:KC μ)(U:FOk codes n f)(h:KOk μ f.γ n x)(k:x.ζ=0)(W:W6 m=true):
  KOk μ f.γ (n+1) (iL m f x μ).2/\((iL m f x μ).1=f\/(iL m f x μ).1={f with EP:=true}):=by
 have c:=s.toCC;unfold iL;split
 .refine⟨?_,.inl rfl⟩;exact KOk.wk (n:=n) {h with θ:=λh=>by simp_all,ζ:=by simp_all,out:=by simp_all} (by omega) (by omega)
 .obtain⟨i,a,g,H⟩:=wa (l:=μ) h.pc.1 (by omega);simp only[H];obtain⟨v,Z,Y⟩:=s.ok i a;have R:=s.k10 i a;have b:=h.θ k;rw[g,Xk]at b;have p:x.pc+1=((i+1:Nat):Int):=by omega
  have K:x.ι.length<=i:=by have:=h.wl;omega
  split
  .grind [WuO]
  .split
   .refine⟨?_,.inl rfl⟩;unfold vS;split
    .refine KOk.wk (n:=n) {h with ε:=(λr e=>by cases e),wl:=by simp_all,θ:=λh=>by simp_all,ζ:=by simp_all,out:=by simp_all} (by omega) (by omega)
    .obtain⟨j,q,y,u,w,z,⟨G,F⟩,N,t,J,A,E⟩:=wc (d:=((0,0,[]):KM)) c (by omega) b.pcs ‹_›;obtain⟨D,O,P,Q⟩:=b.each y (by grind);simp only[w,z,Xk,←Int.natCast_succ];have V:=t.len;have X:(ah y.2.1.toNat x.ι).length=y.2.1.toNat:=by simp_all
     refine(KOk.on c h k a g (gv:=nY μ j+1) (by omega) (by omega) (D.set _ (by omega)) (λr e=>h.ε r (List.mem_of_mem_take e)) (by omega) (by omega) h.δ (by omega) ?_ h.pb).wk (by omega) (by omega);rw[show x.θ.dropLast=q by grind];exact b.drop u (by rw[t.st];exact A) (by omega)
   .split
    .refine⟨?_,.inl rfl⟩;have C:=AX v ‹_›;have o:=ju a (by omega) (by omega);simp only[p];refine(KOk.on c h k a g (by omega) (by omega) h.ξ (λr e=>?_) (by simp) (by omega) h.δ (by omega) (b.mono o (by simp)) h.pb).wk (by omega) (by omega);rcases Xo.1 e with e|e
     .exact h.ε r e
     .rw[cq]at e;subst e;have:=C.1;unfold bU at this;exact⟨by simp_all,h.ξ.get _⟩
    .split
     .refine⟨?_,.inl rfl⟩;obtain⟨L,s2⟩:=s.sk i a ‹_›;have C:=AJ v ‹_›;have o:=ju a (by omega) (by omega);have M:stk μ (i+1+μ[i].2.2.1.toNat)=stk μ i:=by grind [VT]
      by_cases B:al x.ξ μ[i].2.1 0=0
      .simp only[Wf B,show x.pc+μ[i].2.2.1+1=((i+1+μ[i].2.2.1.toNat:Nat):Int) by omega];exact(KOk.on c h k a g L (by omega) h.ξ h.ε (by omega) (by omega) h.δ (by omega) (b.mono M (by omega)) h.pb).wk (by omega) (by omega)
      .simp only[We B,p];exact(KOk.on c h k a g (by omega) (by omega) h.ξ h.ε (by omega) (by omega) h.δ (by omega) (b.mono o (by omega)) h.pb).wk (by omega) (by omega)
     .split
      .refine⟨?_,.inl rfl⟩;simp only[p];rw[g];exact(KOk.on c h k a g (by omega) (by omega) h.ξ h.ε (by omega) (by omega) h.δ (by omega) (b.begin a ‹_› h.ξ K) h.pb).wk (by omega) (by omega)
      .split
       .refine⟨?_,.inl rfl⟩;have I:x.θ.length≠0:=by
         have S:=b.len c (by omega);have T:=c.up i a
         grind [fF,p5]
        obtain⟨j,q,y,u,w,z,⟨G,F⟩,N,t,J,A,E⟩:=wc (d:=((0,0,[]):KM)) c (by omega) b.pcs I;obtain⟨D,O,P,Q⟩:=b.each y (by grind);simp only[p];refine(KOk.on c h k a g (by omega) (by omega) (h.ξ.set _ (by omega)) h.ε (by omega) (by omega) h.δ (by omega) ?_ h.pb).wk (by omega) (by omega);rw[show x.θ.dropLast=q by grind];exact b.drop u (so a ‹_›) (by omega)
       .refine⟨?_,.inl rfl⟩;have o:=ju a (by omega) (by omega);simp only[p];exact(KOk.on c h k a g (by omega) (by omega) (Nh v (by omega) (by omega) h.ξ) h.ε (by omega) (by omega) h.δ (by omega) (b.mono o (by omega)) h.pb).wk (by omega) (by omega)
end
end
section
def iB(c:Int)(v:List En)(r:Rw):List En:=match ent v r.1 with
 |some a=>v.set a.1 (r.1,r.2,c)
 |none=>v++ [(r.1,r.2,c)]
theorem Va(c)(v)(r):(iB c v r).length<=v.length+1:=by
 unfold iB;split<;>simp
theorem apE{a b:En}:Ap cfE a b↔a.1≠b.1:=by unfold Ap cfE;omega
theorem Wsg{c}{L M:List En}{r}(k:L.Pairwise (Ap cfE))(d:Ris cfE M)(f:∀x,x∈L↔x∈M):
  (iB c L r).Pairwise (Ap cfE)/\Ris cfE (ch cfE M (r.1,r.2,c))/\∀x,x∈iB c L r↔x∈ch cfE M (r.1,r.2,c):=by
 have b:(iB c L r).Pairwise (Ap cfE)/\∀x,x∈iB c L r↔x=(r.1,r.2,c)\/(x∈L/\Ap cfE x (r.1,r.2,c)):=by
  unfold iB ent;cases he:fnd (λe:En=>e.1==r.1) L 0 with
  |some a=>
   obtain⟨g,h,i,j⟩:=lu he
   grind [Xr,Ug,ss,apE]
  |none=>
   grind [Dw,TU,apE]
 refine⟨b.1,o9 ss d,λx=>?_⟩;rw[b.2 x,pk ss d,f]
theorem V9{c}:∀{ε} {L M:List En},L.Pairwise (Ap cfE)->Ris cfE M->(∀x,x∈L↔x∈M)->
  (ε.foldl (iB c) L).Pairwise (Ap cfE)/\Ris cfE (rI c M ε)/\∀x,x∈ε.foldl (iB c) L↔x∈rI c M ε
 | [],_,_,e,f,g=>⟨e,f,g⟩
 |r::ε,L,M,e,f,g=>by
  obtain⟨a,b,d⟩:=Wsg (c:=c) (r:=r) e f g;exact V9 (ε:=ε) a b d
theorem Uo{c}:∀(ε:List Rw) (L),(ε.foldl (iB c) L).length<=L.length+ε.length
 | [],L=>by simp
 |r::ε,L=>by
  have:=Uo (c:=c) ε (iB c L r)
  grind [Va,Xs]
theorem Ma{c}{P:En->Prop}:∀{ε} {M:List En},Ris cfE M->(∀x∈M,P x)->(∀r∈ε,P (r.1,r.2,c))->∀x∈rI c M ε,P x
 | [],_,_,h,_=>h
 |r::ε,M,b,h,hr=>by
  refine Ma (ε:=ε) (o9 ss b) (λx d=>?_) λe a=>hr e (Xg _ a);rcases(pk ss b).1 d with rfl|a
  .simp_all
  simp_all
theorem Vh{R}{N}{k4}{b7 b8 b9}{az}{aM bB bA bF aW bz}{eQ}{bN gg gL dV}{cp}{jU}{ew}{bm}{dY}{hC}{lT}{fD}{gh}{dc}{dp}{K0:Int->Bool->Ks->Option R}(k:1048576<N)(l:cp.length<=8):
  ∀(d j n) (v:List En),j+d=cp.length->d<n->v.length<=100+j->
  qD N k4 (Wi cp) b7 b8 b9 az aM bB bA bF aW bz eQ bN gg gL dV cp jU ew bm dY hC lT fD gh dc dp K0 n (j:Int) v=K0 (cp.length:Int) false ((cp.drop j).foldl (iB b8) v)
 |0,j,n+1,v,o,p,hv=>by
  simp_all [qD,WN,Xj,Wb,fo,List.foldl_nil]
 |d+1,j,n+1,v,o,p,hv=>by
  have e:j<cp.length:=by omega
  have q:=L6 (N:=N) (f:=(b7,(b8,(b9,(az,(jU,(ew,(v,(bm,(dY,Xf hC lT (aM,(bB,(bA,(bF,(aW,(bz,(fD,(gh,(dc,(dp,(eQ,(bN,(gg,(gL,dV)))))))))))))))))))))))) (c:=cp[j].1) (by grind) k;have w:=Va b8 v cp[j];have b:∀g,g=iB b8 v cp[j]->qD N k4 (Wi cp) b7 b8 b9 az aM bB bA bF aW bz eQ bN gg gL dV cp jU ew bm dY hC lT fD gh dc dp K0 n ((j+1:Nat):Int) g=K0 (cp.length:Int) false ((cp.drop j).foldl (iB b8) v):=λg m=>by
   subst m;rw[Vh k l d (j+1) n _ (by omega) (by omega) (by omega),d4 e,List.foldl_cons]
  simp only[qD,Wk,WF e,Wq e,Wu e,Wl (show j<4611686018427387904 by omega),Wa,q,ret,Xd];have u:ent v cp[j].1=ent v cp[j].1:=rfl;unfold iB at b;cases he:ent v cp[j].1 with
  |some a=>
   rw[he]at b;obtain⟨r,s,i,t⟩:=lu he;rw[cb]at i;simp only[Wc (show((a.1:Int)>=0) by omega),Wa];rw[WH,Wc i];simp only[Wa,Xk];exact b _ rfl
  |none=>
   rw[he]at b;simp only[show decide ((-1:Int)>=0)=false from rfl,Wb];rw[Wp (by simp;omega)];simp only[Wa,cZ];exact b _ rfl
 |_,_,0,_,_,h,_=>by omega
theorem M0{R}{N}{jp dj du eK}{eM}{eN fM eV dq fN jr}{iJ}{eW iy mx pe}{fy}{my}{mz}{mA}{pf}{pi}{pj}{gE}{hJ}{lv}{K0:Int->Bool->Ky->Option R}(b:fy.length<=1000):
  ∀(d j n) (v:List Rw),j+d=fy.length->d<n->v.length<=1000+j->
  sN N jp (Wi fy) dj du eK eM eN fM eV dq fN jr iJ eW iy mx pe fy my mz mA pf pi pj gE hJ lv K0 n (j:Int) v=K0 (fy.length:Int) false (v++fZ (fy.drop j))
 |0,j,n+1,v,e,f,hv=>by
  have:j=fy.length:=by omega
  subst this;simp[sN,WN (Xj fy.length),Wb,fo,fZ,List.filter_nil,eL,List.append_nil]
 |d+1,j,n+1,v,e,f,hv=>by
  have a:j<fy.length:=by omega
  have c:fZ (fy.drop j)=if fy[j].2.2= -1 then(fy[j].1,fy[j].2.1)::fZ (fy.drop (j+1))else fZ (fy.drop (j+1)):=by
   rw[d4 a];unfold fZ
   grind
  simp only[sN,Wk,WF a,Wq a,Wu a,Wl (show j<4611686018427387904 by omega),Wa,Wv];rw[c];by_cases h:fy[j].2.2= -1
  .rw[Wf h,Wf h,Wp (by simp;omega)];simp only[Wa];rw[M0 b d (j+1) n _ (by omega) (by omega) (by simp;omega)];simp
  .rw[We h,We h];rw[M0 b d (j+1) n _ (by omega) (by omega) (by omega)]
 |_,_,0,_,_,h,_=>by omega
variable{N:Nat}{codes:List (List Opn)}{n:Int}{f:Fm}{k:Nat}{μ:List Opn}{m:Mm}{x:Kd}
theorem Wyh{l:List En}(h:Ris cfE l):l.Pairwise (Ap cfE):=h.imp λh=>.inl h
theorem WlW(hk)(O:f.π.length<=3)(U:μ.length<=24)(a:FOk codes n f)(o:codes.getD k []=μ)(m:f.π[k]=x)(j:1048576<N):
  Bh N f.e (k:Int)=some (((Fm.put (sf f x k) k).e,()),()):=by
 have b:=a.kid k hk;rw[o,m]at b;obtain⟨E,F,G,H,I,J,K,L,M,t⟩:=fmP f;have D:=b.pc;have T:=b.wl;have R:=b.sl;have C:=a.buf8;have S:f.EK.length<=3:=by
  have i:=a.done
  grind
 have V:=a.readsL;have q:Xc (f.π.map Kd.e) (Xb (k:Int)) d_KidRun=x.e:=by
  simp_all
 unfold Bh;simp only[t,Xu];rw[WH,Wc hk];simp only[Wa,q];have s:o4 N x.e.2.2.2.2.2.2.2.2.1=ret (aA x.ι):=Gn (show x.ι.length<=1048576 by omega) j;rw[s];simp only[ret,Xd];have B:=po x.ι;rw[show(0:Int)=((0:Nat):Int)from rfl];rw[Vh (cp:=aA x.ι) j B (aA x.ι).length 0 N _ (by omega) (by omega) (by grind)];simp only[List.drop_zero];have d:P6 f.e=f.buf:=rfl;have p:Wj .i64 f.e.2.1 1=f.γ+1:=aw (by have:=a.γ;omega);rw[d,p];obtain⟨w,A,l⟩:=V9 (c:=f.γ+1) (ε:=aA x.ι) (Wyh a.bufR) a.bufR (λx=>Iff.rfl);unfold Rj;have Q:=Uo (c:=f.γ+1) (aA x.ι) f.buf;rw[VJ (rng:=Ek) (N:=N) ss A w l (λe h=>?_) (by omega)]
 .simp only[Xd];rw[show(Kd.e x).2.2.2.2.2.2.2.1=x.δ from rfl];rw[M0 (fy:=x.δ) (by omega) x.δ.length 0 N _ (by omega) (by omega) (by grind)];rw[Wp (by grind)];have u:∀(g:Fm) (y:Kd),U6 (Xf (f.π.map Kd.e) k y.e) (S5 (f.κ++fZ x.δ) (S4 (f.EK++ [(k:Int)]) (S3 (rI (f.γ+1) f.buf (aA x.ι)) f.e.2.2.2)))=(f.EP,f.ξ,f.start,rI (f.γ+1) f.buf (aA x.ι),f.EK++ [(k:Int)],f.κ++fZ x.δ,(f.π.set k y).map Kd.e):=λg y=>by
   rw[O5];rfl
  exact Ws (λz=>some (((f.rv,(f.γ+1,((0:Int),z))),()),())) (u f {x with ζ:=3,pos:=0,θ:=[]})
 .have i:=(l e).1 h;have:=Ma (P:=λe=>0<=e.1/\e.1<=7) a.bufR (λe h=>(a.bufE e h).1) (λr v=>(V0.1 v).1) e i
  grind [Ek,su]
theorem Wnk(hk)(c:FOk codes n f)(d:KOk μ f.γ n x)(a:f.π[k]=x)(g:n<=100000)(o):
  sM N (Fm.e {f with EG:=o}) (k:Int)=some (((Fm.put ({f with EG:=o},f.again x) k).e,()),()):=by
 have h:=RW (N:=N) (f:=Fm.e {f with EG:=o}) (k:=k) (x:=x.e) (by show k<(f.π.map Kd.e).length;simp_all) c.ξ.len (by have:=d.χ;show 0<=x.χ/\x.χ<=100000;omega);have b:U9 (Xf (Q9 (Fm.e {f with EG:=o})) k x.e) (Fm.e {f with EG:=o})=Fm.e {f with EG:=o}:=by
  have:=U9e {f with EG:=o} k x;rw[←a]at this;simp only[jT]at this;rw[←a];exact this
 rw[b]at h;rw[h];exact Ws (λz=>some ((z,()),())) (U9e {f with EG:=o} k (f.again x))
theorem Wln(h:k<f.π.length)(G:f.π.length<=3)(I:W6 m=true)(u:KC μ)(p:FOk codes n f)(s:codes.getD k []=μ)(J:n<=100000)(t:1048576<N):
  IL N f.e (k:Int) μ m=some (((jz m f k μ).e,()),()):=by
 obtain⟨x,d⟩:∃x,f.π[k]=x:=⟨_,rfl⟩;have r:=p.kid k h;rw[s,d]at r;obtain⟨U,V,C,D,W,X,E,Y,Z,F⟩:=fmP f;obtain⟨K,k1,k2,k3,M,k5,k6,O,k8,k9,L⟩:=kdP x;have kx:=r.sl;have R:=r.pc;have P:=u.len;have A:Xc (f.π.map Kd.e) (Xb (k:Int)) d_KidRun=x.e:=by
  simp_all
 have B:U9 (Xf (f.π.map Kd.e) (Xb (k:Int)) x.e) f.e=f.e:=by
  rw[Xk,U9e,←d,jT]
 have T:Fm.put (f,x) k=f:=by unfold Fm.put;simp only;rw[←d,jT]
 unfold IL jz n5;simp only[Wk,F,D,Xu];rw[rL];by_cases b:f.EP=true
 .rw[Wf b,Wf b]
 rw[We b,We b];rw[WH,Wc h];simp only[Wa,Wb,A,B,K,M,O,C,Wv,WB h,d];by_cases g:x.ζ=0
 .rw[Wf g,Wf g,Wpv h I u p s d g J t];rfl
 .rw[We g,We g];by_cases o:x.ζ=1
  .rw[Wf o,Wf o];by_cases w:f.EG=0
   .rw[Wf w,Wf w,aw (by omega),Xk];exact lX rfl rfl rfl
   simp_all
  .rw[We o,We o];by_cases v:x.ζ=2
   .rw[Wf v,Wf v];unfold Wi;by_cases q:x.pos=(x.δ.length:Int)
    .rw[Wf q,Wf q,WlW h G P p s d t];rfl
    .rw[We q,We q];have iG:=r.pos;have z:inb x.pos x.δ.length=true:=by grind [inb]
     rw[z];have H:Xc x.δ (Xb x.pos) ((0,0,0):En)=al x.δ x.pos (0,0,0):=rfl;simp only[Wa,H];have y:=L6 (N:=N) (f:=f.e) (c:=(al x.δ x.pos (0,0,0)).1) (by show f.buf.length<=1048576;have:=p.buf8;omega) t;rw[show f.e.2.2.2.2.2.2.1=f.buf from rfl]at y;rw[y];simp only[ret,Xd,E];have S:S2 (0:Int) f.e=Fm.e {f with EG:=0}:=rfl;have jO:sM N (U9 (Xf (f.π.map Kd.e) (Xb (k:Int)) x.e) (S2 0 f.e)) (k:Int)=some (((Fm.put ({f with EG:=0},f.again x) k).e,()),()):=by
      grind [U9e,Xk,U9,Xf,Kd.e,Fm.e,jT,Wnk]
     unfold OL;have Q:Wj .i64 x.pos 1=x.pos+1:=aw (by omega);rw[Q];cases he:ent f.buf (al x.δ x.pos (0,0,0)).1 with
     |some a=>
      obtain⟨g1,g2,j,l⟩:=lu he;rw[cb]at j;rw[wZ,Xr j]at l;injection l with l;rw[WH,Wc j];simp only[Wa,Wu j,l];by_cases i:a.2.2.2=(al x.δ x.pos (0,0,0)).2.2
      .rw[Wf i,Wf i,Xk];exact lX rfl rfl rfl
      simp_all
     |none=>
      by_cases i:(-1:Int)=(al x.δ x.pos (0,0,0)).2.2
      .rw[Wf i,Wf i,Xk];exact lX rfl rfl rfl
      simp_all
   simp_all
end
section
section
variable{codes:List (List Opn)}{n:Int}{f f':Fm}{k:Nat}{μ:List Opn}{m:Mm}{x y:Kd}
theorem FOk.len3(h:FOk codes n f)(b:codes.length<=3):f.EK.length<=3:=by
 have a:=h.done;have:=List.countP_le_length (p:=λx:Kd=>decide (x.ζ=3)) (l:=f.π);have:=h.len;omega
theorem FOk.put1(h:FOk codes n f)(hk)(d:codes.getD k []=μ){o:Int}{l}(e:0<=o/\o<=f.π.length)(j:KOk μ f.γ (n+1) y)(g:f.π[k].ζ≠3)(c:y.ζ≠3):
  FOk codes (n+1) (Fm.put ({f with EG:=o,EP:=l},y) k) where
 len:=by show(f.π.set k y).length=_;rw[cY];exact h.len
 ξ:=h.ξ
 γ:=h.γ
 done:=by
  show f.EK.length=(f.π.set k y).countP _;rw[Xic hk,We (by simp_all),We (by simp_all)];exact h.done
 bufR:=h.bufR
 bufE:=h.bufE
 readsL:=h.readsL
 readsE:=h.readsE
 EG:=by show 0<=o/\o<=((f.π.set k y).length:Int);simp_all
 kid:=λi a=>by
  change i<(f.π.set k y).length at a;rw[cY]at a;show KOk (codes.getD i []) f.γ (n+1) (f.π.set k y)[i];rw[wW];by_cases b:k=i
  .simp_all
  .rw[We b];exact(h.kid i a).wk (by omega) (by omega)
theorem FOk.wk(h:FOk codes n f){n'}(b:n<=n'):FOk codes n' f:=
 {h with kid:=λk a=>(h.kid k a).wk (by omega) b}
theorem Wmo(h:∀e∈x.δ,(0<=e.1/\e.1<=7)/\(0<=e.2.1/\e.2.1<=65535)/\ -1<=e.2.2/\e.2.2<=x.EM):iD (fZ x.δ):=by
 intro r a;unfold fZ at a
 grind
theorem WnP(l):(fZ l).length<=l.length:=by
 simp[fZ,Xu,List.length_filter_le]
theorem SF{c}:∀{ε} {M:List En},Ris cfE M->Ris cfE (rI c M ε)
 | [],_,h=>h
 |r::ε,M,h=>SF (ε:=ε) (o9 ss h)
theorem Ws5(a:FOk codes n f)(hk)(o:μ.length<=24)(l:codes.getD k []=μ)(j:f.π[k]=x)(m:x.ζ=2):
  FOk codes (n+1) (Fm.put (sf f x k) k):=by
 have d:=a.kid k hk;rw[l,j]at d;have s:=a.γ;unfold sf Fm.put;refine{len:=?_,ξ:=a.ξ,γ:=?_,done:=?_,bufR:=SF a.bufR,bufE:=?_,readsL:=?_,readsE:=?_,EG:=?_,kid:=?_}
 .simp only[cY];exact a.len
 .grind
 .simp only[Xv,Xgx];rw[Xic hk,j,We (by simp[m]),Wf (by simp),←a.done];rfl
 .simp only;refine Ma a.bufR (λe g=>?_) λr b=>?_
  .have:=a.bufE e g;omega
  .have:=GV r b;grind
 .have h1:=a.readsL;have m:=WnP x.δ;have p:=d.sl;have q:=d.pc
  grind
 .intro r b;rcases Xo.1 b with b|b
  .exact a.readsE r b
  .exact Wmo d.δ r b
 .simp_all
 .intro i hi;simp only[cY]at hi;simp only[wW];by_cases g:k=i
  .subst g;rw[Wf rfl,l];refine KOk.wk (c:=f.γ) (n:=n) ?_ (by omega) (by omega);exact{d with θ:=(λh=>by simp_all),pos:=⟨wX _,by simp_all⟩,ζ:=by simp_all}
  .rw[We g];exact(a.kid i hi).wk (by omega) (by omega)
theorem VC(b:k<f.π.length)(t:W6 m=true)(p:KC μ)(a:FOk codes n f)(d:codes.getD k []=μ):FOk codes (n+1) (jz m f k μ):=by
 obtain⟨x,i⟩:∃x,f.π[k]=x:=⟨_,rfl⟩;have e:=a.kid k b;rw[d,i]at e;have w:Fm.put (f,x) k=f:=by unfold Fm.put;simp only;rw[←i,jT]
 have j:=a.wk (show n<=n+1 by omega);unfold jz n5;split
 .exact j
 rw[WB b,i];split
 .rename_i h0;obtain⟨r,s⟩:=WxG p a e h0 t;have u:(iL m f x μ).2.ζ≠3:=by
   grind [iL,jv,vS,Fm.again]
  have:=r;have v:∀q:Fm×Kd,(q.1=f\/q.1={f with EP:=true})->KOk μ f.γ (n+1) q.2->q.2.ζ≠3->FOk codes (n+1) (Fm.put q k):=by
   rintro⟨g,y⟩ hg hy hp;simp only at hg hy hp;rcases hg with rfl|rfl
   .exact FOk.put1 (o:=g.EG) (l:=g.EP) a b d a.EG hy (by simp_all) hp
   .exact FOk.put1 (o:=f.EG) (l:=true) a b d a.EG hy (by simp_all) hp
  simp_all
 .split
  .rename_i r;split
   .refine FOk.put1 (o:=(k:Int)+1) (l:=f.EP) a b d (by omega) ?_ (by simp_all) (by simp_all);refine KOk.wk (c:=f.γ) (n:=n) ?_ (by omega) (by omega);exact{e with θ:=(λh=>by simp_all),ζ:=by simp_all}
   simp_all
  .split
   .rename_i s;split
    .exact Ws5 a b p.len d i s
    .simp only;split
     .refine FOk.put1 (o:=f.EG) (l:=f.EP) a b d a.EG ?_ (by simp_all) (by simp_all);refine KOk.wk (c:=f.γ) (n:=n) ?_ (by omega) (by omega);exact{e with pos:=by(have:=e.pos;grind)}
     .refine FOk.put1 (o:=0) (l:=f.EP) a b d (by omega) (Vi e rfl a.ξ a.γ.1) (by simp_all) (by show(0:Int)≠3;omega)
   simp_all
theorem WtD{rv}{ξ}{ι}(a:Vals 4 ξ)(f:0<=n):FOk codes n (iq rv ξ ι codes.length) where
 len:=by simp[iq]
 ξ:=a
 γ:=by simp[iq]
 done:=by
  simp only[iq,kN];rw[List.countP_replicate,We (by simp)]
 bufR:=by
  grind [Ris,iq,NO,cfE]
 bufE:=λe b=>by
  obtain⟨r,a,rfl⟩:=Xx.1 b;have:=GV r a
  grind [iq]
 readsL:=by simp[iq]
 readsE:=λr a=>by cases a
 EG:=by simp[iq]
 kid:=λk d=>by
  simp only[iq,OW];exact{pc:=by simp,ξ:=a,ε:=(λr a=>by cases a),wl:=by simp,sl:=by simp,EM:=by simp,χ:=by simp;omega,δ:=(λe b=>by cases b),θ:=(λ_=>⟨by simp[stk],(λq c=>by cases c),List.Pairwise.nil⟩),pos:=by simp,pb:=(λh=>by cases h),ζ:=by simp,out:=by simp}
end
end
section
theorem Mf{α β R}{body}{K:Int->List β->Option R}{f}:∀(l:List α) (d r),l.length<=r.length->
  (∀(j) x (v:List β) k,x∈l->j<v.length->body j x v k=k (v.set j (f x)))->cX body K l d.length (d++r)=K ((d.length+l.length:Nat):Int) (d++(l.map f++r.drop l.length))
 | [],d,r,_,_=>by simp[cX]
 |x::l,d,[],h,_=>by simp at h
 |x::l,d,y::r,h,hb=>by
  rw[cX,hb d.length x _ _ (Xl ..) (by simp),Wj1];have:=Mf (body:=body) (K:=K) (f:=f) l (d++ [f x]) r (by grind) λj z v k a=>hb j z v k (Xg _ a);simp only[Xv,Xgx,fX,Xfe]at this;rw[this];simp only[Xs,bn,List.drop_succ_cons,List.cons_append];rw[show d.length+1+l.length=d.length+(l.length+1) by omega]
theorem DV{α}{R:Type}{l:List α}{p:α->Bool}{lp:Nat->Int->Option R}{N}{K0:Int->Option R}{K1:Option R}(c:l.length<N)(e:l.length<=1048576)(d:∀n (j) (h:j<l.length),lp (n+1) (j:Int)=bif p l[j]then K0 j else lp n ((j+1:Nat):Int))(b:∀n,lp (n+1) (l.length:Int)=K1):lp N 0=match fnd p l 0 with|some r=>K0 r.1|none=>K1:=by
 have a:=WC (l:=l) (V:=Unit) (lp:=λn j _=>lp n j) c (body:=λj x v k=>bif p x then K0 j else k v) (K:=λ_ _=>K1) (λn j v h=>d n j h) (λn v=>b n) ();refine(a.trans (zN (p:=p) (E:=λj _=>K0 j) l 0 () λj x v k _=>rfl)).trans ?_;cases fnd p l 0<;>rfl
theorem Hq{α}{p}:∀(l:List α) (j),(fnd p l j).isSome=l.any p
 | [],_=>rfl
 |x::l,j=>by
  unfold fnd;rw[List.any_cons];cases p x
  .simp[Hq l]
  .rfl
variable{N:Nat}
theorem WnM{f}(b:f.π.length<=3)(m:1048576<N):KX N f.e=ret (lx f):=by
 unfold KX Ri Z0;have e:f.e.2.2.2.2.2.2.2.2.2=f.π.map Kd.e:=rfl;rw[e];have o:(f.π.map Kd.e).length<=3:=by simpa using b
 have g:=DV (l:=f.π.map Kd.e) (p:=λx=>x.1 !=3) (N:=N) (lp:=λn j=>Zi N (f.π.map Kd.e) (λd=>(some ((),(d,())))) (λi k=>(some ((),((-1:Int),())))) n j) (K0:=λj=>some ((),(j,()))) (K1:=some ((),((-1:Int),()))) (by omega) (by omega)
  (λn j c=>by
   simp only[Zi,WF c,Wq c,Wu c,Wl (show j<4611686018427387904 by omega),Wa,Rs,Xd])
  (λn=>by simp only[Zi,WN (Xj _),Wb])
 rw[g];have a:=Hq (p:=λx:Y_KidRun=>x.1 !=3) (f.π.map Kd.e) 0;have b:(f.π.map Kd.e).any (λx=>x.1 !=3)= !lx f:=by
  unfold lx;rw[List.any_map,←gW];have:((λx:Y_KidRun=>x.1 !=3)∘Kd.e)= λx:Kd=>!decide (x.ζ=3):=by
   funext x;show(x.ζ !=3)= !decide (x.ζ=3);by_cases h:x.ζ=3<;>simp[h]
  rw[this]
 rw[b]at a;cases hf:fnd (λx:Y_KidRun=>x.1 !=3) (f.π.map Kd.e) 0 with
 |some r=>
  rw[hf]at a;simp only[Xd,Wc (show((r.1:Int)>=0) by omega),Xn,ret];rw[show lx f=false by simpa using a.symm]
 |none=>
  rw[hf]at a;rw[show lx f=true by simpa using a.symm];rfl
theorem WnF{f}(h:f.buf.length<=1000)(g:1048576<N):Cn N f.e=ret (z7 f):=by
 unfold Cn;have e:f.e.2.2.2.2.2.2.1=f.buf:=rfl;rw[e];have c:=WC (l:=f.buf) (V:=List Rw) (R:=Unit×(List Rw×Unit)) (lp:=λn j v=>xS N f.buf (Wi f.buf) (λm d b=>(some ((),(b,())))) n j v) (n:=N) (by omega)
  (body:=λj x v k=>bif Wx (v.length+ [(x.1,x.2.1)].length)then k (Xe v [(x.1,x.2.1)])else none) (K:=λ_ v=>ret v)
  (λn i v a=>by simp only[xS,WF a,Wq a,Wu a,Wl (show i<4611686018427387904 by omega),Wa])
  (λn v=>by simp[xS,WN (Xj f.buf.length),Wb]) []
 refine c.trans ?_;rw[vg (f:=λx:En=>(x.1,x.2.1)) f.buf 0 [] (by simp;omega) (λj x v k _=>rfl)];rfl
theorem Wl5{f}(o:Vals 4 f.ξ)(t:f.π.length<=3)(w:∀x∈f.π,x.ξ.length<=1000)(m:1048576<N):Cl N f.e=ret (vD f):=by
 unfold Cl vD;have e:f.e.2.2.2.2.1=f.ξ:=rfl;have s:f.e.2.2.2.2.2.2.2.2.2=f.π.map Kd.e:=rfl;have b:=nP.2 o;have E:=o.len;have F:(f.π.map Kd.e).length=f.π.length:=by simp
 rw[e,s,Ge (by omega) m,Wf ⟨b,t⟩];simp only[ret,Xd,b,Xn,Wb];rw[Wg (by unfold Wi;omega),nM (by omega)];simp only[ret,Xd,Wb];have a:=WC (l:=f.π.map Kd.e) (V:=List Int) (R:=Unit×(List Int×Unit)) (lp:=λn j v=>qL N (f.π.map Kd.e) (Wi (f.π.map Kd.e)) (λD G r=>(some ((),(r,())))) n j v) (n:=N) (by omega)
  (body:=λj x v k=>bif inb j v.length then(bif x.2.2.2.2.2.1==(1:Int)then((iQ N (P6 x) (4:Int)).bind λc=>(bif c.2.1 then(bif inb 0 (P6 x).length then(bif inb j (Xf v j.toNat 0).length then k (Xf (Xf v j.toNat 0) j.toNat (Xc (P6 x) (Xb (0:Int)) 0))else none)else none)else k (Xf v j.toNat 0)))else k (Xf v j.toNat 0))else none) (K:=λ_ v=>ret v)
  (λn i v d=>by simp only[qL,Wk,WF d,Wq d,Wu d,Wl (show i<4611686018427387904 by omega),Wa];rfl)
  (λn v=>by simp only[qL,WN (Xj _),Wb]) f.ξ
 refine a.trans ?_;have g:=Mf (β:=Int) (K:=λ_ v=>ret v) (f:=λx:Y_KidRun=>if P5 x=1/\lK (P6 x)=true then al (P6 x) 0 0 else 0) (f.π.map Kd.e) [] f.ξ (by omega) (body:=λj x v k=>bif inb j v.length then(bif x.2.2.2.2.2.1==(1:Int)then((iQ N (P6 x) (4:Int)).bind λc=>(bif c.2.1 then(bif inb 0 (P6 x).length then(bif inb j (Xf v j.toNat 0).length then k (Xf (Xf v j.toNat 0) j.toNat (Xc (P6 x) (Xb (0:Int)) 0))else none)else none)else k (Xf v j.toNat 0)))else k (Xf v j.toNat 0))else none)
  (λj x v k p u=>by
   obtain⟨y,z,rfl⟩:=Xx.1 p;have C:=w y z;have A:(Kd.e y).2.2.2.2.2.1=y.out:=rfl;have q:P5 (Kd.e y)=y.out:=rfl;have B:P6 (Kd.e y)=y.ξ:=rfl;simp only[A,q,B,WH,Wc u,Wa,Ge (show y.ξ.length<=1048576 by omega) m,ret,Xd,Wv,Xk,cY];by_cases a:y.out=1
   .rw[Wf a];cases b:lK y.ξ
    .rw[We (by simp)];rfl
    .have:=(nP.1 b).len;rw[Wf ⟨a,rfl⟩,show inb (0:Int) y.ξ.length=true by rw[this];rfl];simp only[Wa,nk];rfl
   .rw[We a,We (λh=>a h.1)])
 simp only[kN,dn,Xu,List.map_map]at g;exact g
theorem Wj2{rv}{ξ}{ι:List Rw}{π:Nat}(z:ξ.length<=1000)(A:ι.length<=1000)(y:π<=3)(t:1048576<N):
  Bz N rv ξ ι (π:Int)=ret (iq rv ξ ι π).e:=by
 unfold Bz;rw[nM (by omega),Gn (by omega) t];have p:=po ι;simp only[ret,Xd];have s:=WC (l:=aA ι) (V:=List En) (R:=Unit×(Y_Family×Unit)) (lp:=λn j v=>w7 N ξ π (Wi (aA ι)) rv (aA ι) ξ (λw B a=>
  (qE N ξ π rv ξ (aA ι) a
 (λq g c=>
  (some ((),((rv,((0:Int),((0:Int),(false,(ξ,(aA ι,(a,(([]:List Int),(([]:List Kc),c))))))))),()))))
 N (0:Int) ([]:List Y_KidRun))) n j v) (n:=N) (by omega)
  (body:=λj x v k=>bif Wx (v.length+ [(x.1,(x.2,(0:Int)))].length)then k (Xe v [(x.1,(x.2,(0:Int)))])else none) (K:=λ_ a=>(qE N ξ π rv ξ (aA ι) a
 (λq g c=>
  (some ((),((rv,((0:Int),((0:Int),(false,(ξ,(aA ι,(a,(([]:List Int),(([]:List Kc),c))))))))),()))))
 N (0:Int) ([]:List Y_KidRun)))
  (λn i v m=>by simp only[w7,WF m,Wq m,Wu m,Wl (show i<4611686018427387904 by omega),Wa])
  (λn v=>by simp[w7,WN (Xj _),Wb]) []
 refine s.trans ?_;rw[vg (f:=λx:Rw=>(x.1,(x.2,(0:Int)))) (aA ι) 0 [] (by simp;omega) (λj x v k _=>rfl)];simp only[dn];obtain⟨b,o⟩:∃b,(aA ι).map (λx:Rw=>(x.1,(x.2,(0:Int))))=b:=⟨_,rfl⟩;rw[o];have lp:∀(d j n:Nat) (v:List Y_KidRun),j+d=π->d<n->v=Xp j (Kd.e {ξ:=ξ})->qE N ξ π rv ξ (aA ι) b (λq g c=>(some ((),((rv,((0:Int),((0:Int),(false,(ξ,(aA ι,(b,(([]:List Int),(([]:List Kc),c))))))))),())))) n (j:Int) v=some ((),((rv,((0:Int),((0:Int),(false,(ξ,(aA ι,(b,(([]:List Int),(([]:List Kc),Xp π (Kd.e {ξ:=ξ})))))))))),())):=by
  intro d
  induction d with
  |zero=>
   intro j n v u p h;obtain⟨n,rfl⟩:∃n',n=n'+1:=⟨n-1,by omega⟩;have:j=π:=by omega
   subst this;simp[qE,Int.lt_irrefl,decide_false,Wb,h]
  |succ d ih=>
   intro j n v u p h;obtain⟨n,rfl⟩:∃n',n=n'+1:=⟨n-1,by omega⟩;have r:(j:Int)<(π:Int):=by omega
   have C:v.length=j:=by rw[h];simp
   simp only[qE,Wc r,Wa,nM (show ξ.length<=1048576 by omega),ret,Xd];rw[Wp (by simp;omega)];simp only[Wa];rw[Wl (by omega)];refine ih (j+1) n _ (by omega) (by omega) ?_;rw[h,List.replicate_succ'];rfl
 have:=lp π 0 N [] (by omega) (by omega) rfl;refine this.trans ?_;unfold iq Fm.e;simp[List.map_replicate,o]
end
section
def co(s:Int):Int:=(s-1)/65536
def bS(k:Int):Int:=(7*k+3)%4
structure SlOk(l:List Int):Prop where
 len:l.length=16
 each:∀i (h:i<l.length),l[i]=0\/((1<=l[i]/\l[i]<=524288)/\bS (co l[i])=((i/4:Nat):Int))
 one:∀i j (hi:i<l.length) (hj:j<l.length),i<j->l[i]≠0->l[j]≠0->co l[i]≠co l[j]
def p9(k s:Int):Bool:=decide (s>0)&&decide (co s=k)
def fc(l:List Int)(k:Int):Option (Nat×Int):=fnd (p9 k) l 0
def m4(l:List Int)(k:Int):Nat:=if al l (4*bS k) 0=0 then(4*bS k).toNat else(4*bS k).toNat+1
def p7(l:List Int)(k v:Int):List Int:=match fc l k with
 |some r=>l.set r.1 (1+65536*k+v)
 |none=>l.set (m4 l k) (1+65536*k+v)
def aH(l:List Int)(k:Int):Int:=match fc l k with
 |some r=>(r.2-1)%65536+1
 |none=>0
def sb(l:List Int)(k:Int):List Int:=match fc l k with
 |some r=>l.set r.1 0
 |none=>l
variable{N:Nat}{l:List Int}{k v:Int}
theorem H2{n}(h:I64 n):IntKind.wrap .i64 n=n:=pt h
theorem UB{s}(h:1<=s/\s<=524288):zw N s=ret (co s):=by
 unfold zw;rw[WJ (by unfold I64;omega)];have:ey .i64 (s-1) 65536=co s:=by
  unfold ey co;rw[Ez (by omega),H2 (by unfold I64;omega)]
 rw[this];rfl
theorem VI{s}(h:1<=s/\s<=524288):0<=co s/\co s<=7:=by unfold co;omega
theorem Dt:gD N k=ret (decide (0<=k)&&decide (k<=7)):=by simp[gD,WK]
theorem TY(b:0<=k/\k<=7)(c:0<=v/\v<=65535):CD N k v=ret (1+65536*k+v):=by
 unfold CD;rw[kk (by unfold I64;omega),WA (a:=1) (by unfold I64;omega),WA (by unfold I64;omega)]
theorem Tn(a:0<=k/\k<=7):Fu N k=ret (bS k):=by
 unfold Fu;rw[Dt,kk (by unfold I64;omega),WA (by unfold I64;omega)];have:ak (7*k+3) 4=bS k:=by grind [ak,bS,Int.tmod_eq_emod_of_nonneg]
 simp only[ret,Xd,Wc a.1,Wc a.2,c6,Xn,Wb,this];rfl
theorem SlOk.val(h:SlOk l){i}(hi:i<l.length)(b:l[i]≠0):1<=l[i]/\l[i]<=524288:=by
 rcases h.each i hi with a|a
 .omega
 omega
theorem L1(h:SlOk l)(g:1048576<N):q0 N l k=ret (match fc l k with|some r=>(r.1:Int)|none=>-1):=by
 unfold q0 fc;have i:=h.len;have c:=DV (l:=l) (p:=p9 k) (N:=N) (lp:=λn j=>ub N k l (λb=>(some ((),(b,())))) (λe d=>(some ((),((-1:Int),())))) n j) (K0:=λj=>some ((),(j,()))) (K1:=some ((),((-1:Int),()))) (by omega) (by omega)
  (λn j a=>by
   simp only[ub,WF a,Wq a,Wu a,Wl (show j<4611686018427387904 by omega),Wa];unfold p9;by_cases f:l[j]>0
   .rw[UB (h.val a (by omega))]
    grind
   grind)
  (λn=>by simp[ub,WN,Xj,Wb])
 rw[c];cases fnd (p9 k) l 0<;>rfl
theorem C0(h:SlOk l)(D:1048576<N):oF N l=ret true:=by
 have E:=h.len;have A:∀(d j n:Nat) (s:List Bool),j+d=16->d<n->s.length=8->(∀c:Nat,s.getD c false=true->∃i,∃m:i<l.length,i<j/\l[i]≠0/\co l[i]=c)->
   ti N l (some ((),(false,()))) (λG H F=>(some ((),(true,())))) n (j:Int) s=ret true:=by
  intro d
  induction d with
  |zero=>
   intro j n s w y _ _;obtain⟨n,rfl⟩:∃n',n=n'+1:=⟨n-1,by omega⟩;have:j=l.length:=by omega
   subst this;simp[ti,WN,Xj,Wb]
  |succ d ih=>
   intro j n s w y o t;obtain⟨n,rfl⟩:∃n',n=n'+1:=⟨n-1,by omega⟩;have a:j<l.length:=by omega
   simp only[ti,WF a,Wq a,Wu a,Wl (show j<4611686018427387904 by omega),Wa,Wv];by_cases b:l[j]=0
   .rw[Wf b];exact ih (j+1) n s (by omega) (by omega) o λc e=>by
     grind
   .rw[We b];have f:=h.val a b;have x:=VI f;have p:bS (co l[j])=((j/4:Nat):Int):=by
     rcases h.each j a with g|g
     .omega
     omega
    have z:ey .i64 (j:Int) 4=((j/4:Nat):Int):=by
     unfold ey;rw[Ez (by omega),H2 (by unfold I64;omega)];omega
    have q:s.getD (Xb (co l[j])) false=false:=by
     rw[Xga];intro e;obtain⟨i,m,g,r,B⟩:=t _ e;exact h.one i j m a g r b (by omega)
    rw[TY (k:=7) (v:=65535) (by omega) (by omega),UB f];simp only[ret,Xd,WK,show(1:Int)+65536*7+65535=524288 from rfl,Wc f.1,Wc f.2,c6,Xn,Wb,Tn x,p,z,bne_self_eq_false];rw[show inz (4:Int)=true from rfl];simp only[Wa];rw[show inb (co l[j]) 8=true by grind [inb],o,Wc rfl,q];simp only[c6,Wa,Wb];refine ih (j+1) n _ (by omega) (by omega) (by simp_all) λc e=>?_;by_cases u:c=(co l[j]).toNat
    .grind
    .have:s.getD c false=true:=by
      grind
     grind
 unfold oF;rw[show((Wi l) !=(16:Int))=false by grind [Wi]];refine A 16 0 N _ (by omega) (by omega) (by simp) λc e=>?_;by_cases C:c<8
 .grind
 simp_all
theorem ru(h:SlOk l){r}(e:fc l k=some r):∃g:r.1<l.length,l[r.1]=r.2/\1<=r.2/\r.2<=524288/\co r.2=k/\bS k=((r.1/4:Nat):Int):=by
 obtain⟨c,f,a,b⟩:=lu e;rw[cb]at a;rw[wZ,Xr a]at b;injection b with b;unfold p9 at c;simp only[Xh,Wh]at c;rcases h.each r.1 a with d|d
 .omega
 simp_all
theorem MI(h:SlOk l)(b:fc l k=none)(i)(hi:i<l.length)(a:l[i]≠0):co l[i]≠k:=by
 have:=Dw b l[i] (Xt hi);unfold p9 at this;have c:=h.val hi a
 grind
theorem YF(k):0<=bS k/\bS k<=3:=by unfold bS;omega
theorem MD(h:SlOk l)(q:0<=k/\k<=7)(g:fc l k=none):∃p:m4 l k<l.length,l[m4 l k]=0/\bS k=((m4 l k/4:Nat):Int)/\(m4 l k=(4*bS k).toNat\/(m4 l k=(4*bS k).toNat+1/\al l (4*bS k) 0≠0)):=by
 have r:=h.len;have o:=YF k;unfold m4;have b:(4*bS k).toNat<l.length:=by omega
 have i:al l (4*bS k) 0=l[(4*bS k).toNat]:=WB b _;by_cases a:al l (4*bS k) 0=0
 .grind
 .simp only[We a];have c:(4*bS k).toNat+1<l.length:=by omega
  refine⟨c,?_,by omega,.inr ⟨trivial,a⟩⟩;refine Classical.byContradiction λd=>?_;rw[i]at a;have j:=MI h g _ b a;have m:=MI h g _ c d;have n:=h.one _ _ b c (by omega) a d;rcases h.each _ b with e|e
  .exact a e
  .rcases h.each _ c with f|f
   .exact d f
   grind [co,bS]
theorem Wvf(a:0<=k/\k<=7)(b:0<=v/\v<=65535):(1<=1+65536*k+v/\1+65536*k+v<=524288)/\co (1+65536*k+v)=k:=by unfold co;omega
theorem Nk(h:SlOk l){i}(hi:i<l.length){s}(o:s=0\/((1<=s/\s<=524288)/\bS (co s)=((i/4:Nat):Int)))(n:s≠0->∀j (c),j≠i->l[j]≠0->co l[j]≠co s):SlOk (l.set i s) where
 len:=by rw[cY];exact h.len
 each:=λj c=>by
  rw[cY]at c;rw[wW];by_cases k:i=j
  .simp_all
  .rw[We k];exact h.each j c
 one:=λa b d e m=>by
  rw[cY]at d e;rw[wW,wW];by_cases f:i=a
  .grind
  .rw[We f];by_cases g:i=b
   .grind
   .rw[We g];exact h.one a b d e m
theorem DE(h:SlOk l)(m:0<=k/\k<=7)(n:0<=v/\v<=65535):SlOk (p7 l k v):=by
 obtain⟨o,p⟩:=Wvf m n;unfold p7;cases hr:fc l k with
 |some r=>
  obtain⟨b,g,q,s,i,t⟩:=ru h hr;refine Nk h b (.inr ⟨o,by simp_all⟩) λ_ j c f d=>?_;rw[p,←i,←g];rcases Nat.lt_or_gt_of_ne f with a|a
  .exact h.one j r.1 c b a d (by omega)
  .exactλe=>h.one r.1 j b c a (by omega) d e.symm
 |none=>
  grind [MD,Nk,MI]
theorem Uu(h:SlOk l):SlOk (sb l k):=by
 unfold sb;cases hr:fc l k with
 |some r=>
  obtain⟨a,b,_⟩:=ru h hr;exact Nk h a (.inl rfl) λh=>Wy rfl h
 |none=>exact h
theorem mG(l)(k):0<=aH l k/\aH l k<=65536:=by
 unfold aH;cases fc l k<;>simp only<;>omega
theorem F5(h:SlOk l)(c:0<=k/\k<=7)(a:1048576<N):yH N l k=some ((),((if aH l k=0 then 0 else aH l k-1),(decide (aH l k≠0),()))):=by
 unfold yH aH;rw[C0 h a,Dt,L1 h a];simp only[ret,Xd,Xn,Wb,Wc c.1,Wc c.2,c6];cases hr:fc l k with
 |none=>rfl
 |some r=>
  obtain⟨b,d,e,f,g,i⟩:=ru h hr;simp only[Wg (show¬((r.1:Int)<0) by omega),Wb,WH,Wc b,Wa,Wu b,d];rw[WJ (by unfold I64;omega),ie (by omega),We (by omega),Wc (by omega)];simp only[Int.add_sub_cancel];rfl
theorem LR(h:SlOk l)(a:0<=k/\k<=7)(i:0<=v/\v<=65535)(e:1048576<N):uj N l k v=some ((),(p7 l k v,(aH l k,(true,())))):=by
 have t:=h.len;unfold uj;rw[C7 (by omega),C0 h e,Dt,ka,L1 h e,F5 h a e,TY a i,Tn a];simp only[ret,Xd,Xn,Wb,Wc a.1,Wc a.2,c6,gH.2 i];unfold p7 aH;cases hr:fc l k with
 |some r=>
  obtain⟨d,f,o,b,g,s⟩:=ru h hr;simp only[Wc (by omega),Wa,WH,Wc d,Xk];rw[We (by omega),WA (by unfold I64;omega)];simp_all
 |none=>
  obtain⟨d,f,o,b⟩:=MD h a hr;rw[kk (by unfold I64;omega)];obtain⟨c,rfl⟩:∃c,N=c+1+1:=⟨N-2,by omega⟩;have q:4*bS k=(((4*bS k).toNat:Nat):Int):=by omega
  have m:∀n,xj (c+1+1) k v l (λj u=>(bif inb j (Xa l)then(some ((),(Xf l (Xb j) (1+65536*k+v),(0,(true,())))))else none)) (n+1) (m4 l k:Int)=some ((),(l.set (m4 l k) (1+65536*k+v),((0:Int),(true,())))):=λn=>by
   simp only[xj,Wq d,Wu d,f,Wa,bne_self_eq_false,Wb];rw[Xk]
  rcases b with b|⟨b,g⟩
  .grind
  .have ab:(4*bS k).toNat<l.length:=by omega
   have p:al l (4*bS k) 0=l[(4*bS k).toNat]:=WB ab _;rw[p]at g;have w:=m c;rw[q];rw[xj];simp only[Wq ab,Wu ab,Wa];rw[show(l[(4*bS k).toNat] !=0)=true by grind,Wl (by omega),←b]
   grind
theorem R0(h:SlOk l)(b:0<=k/\k<=7)(a:1048576<N):Fv N l k=some ((),(sb l k,(aH l k,(true,())))):=by
 have j:=h.len;unfold Fv;rw[C7 (by omega),C0 h a,Dt,L1 h a,F5 h b a];simp only[ret,Xd,Xn,Wb,Wc b.1,Wc b.2,c6];unfold sb aH;cases hr:fc l k with
 |some r=>
  obtain⟨c,d,e,f,g,i⟩:=ru h hr;simp only[Wg (show¬((r.1:Int)<0) by omega),Wa,Wb,WH,Wc c,Xk];rw[We (by omega),WA (by unfold I64;omega)];simp_all
 |none=>rfl
end
section
abbrev Shf:=List Int×Int
abbrev Un:=Int×Int×Int
structure ShOk(s:Shf):Prop where
 slots:SlOk s.1
 cnt:0<=s.2/\s.2<=65535
def UnV(u:Un):Prop:=(u.1=1/\(0<=u.2.1/\u.2.1<=7)/\0<=u.2.2/\u.2.2<=65535)\/(u.1=2/\(0<=u.2.1/\u.2.1<=7)/\u.2.2=0)\/(u.1=3/\u.2.1=0/\0<=u.2.2/\u.2.2<=65535)
def vJ(s:Shf)(u:Un):Shf:=
 if u.1=1 then(p7 s.1 u.2.1 u.2.2,s.2)else if u.1=2 then(sb s.1 u.2.1,s.2)else if u.1=3 then(s.1,(s.2-u.2.2+65536)%65536)else s
def nX(k e:Int):Un:=if e=0 then(2,k,0)else(1,k,e-1)
def eX(s:Shf)(o:Opn)(r:List Int):Shf×List Int×Un:=
 if o.1=12 then((p7 s.1 o.2.1 (al r o.2.2.1 0),s.2),iF r o.2.2.2 (aH s.1 o.2.1%65536),nX o.2.1 (aH s.1 o.2.1))else
 if o.1=13 then(s,iF r o.2.1 (aH s.1 o.2.2.1%65536),(0,0,0))else
 if o.1=14 then((sb s.1 o.2.1,s.2),iF r o.2.2.1 (aH s.1 o.2.1%65536),nX o.2.1 (aH s.1 o.2.1))else
 if o.1=15 then((s.1,(s.2+al r o.2.1 0)%65536),r,(3,0,al r o.2.1 0))else
 (s,iF r o.2.1 s.2,(0,0,0))
def cQ(o:Opn):Int×Int:=
 if o.1=12\/o.1=14 then(o.2.1,2)else if o.1=13 then(o.2.2.1,1)else if o.1=15 then(8,1)else(8,2)
section
variable{o:Opn}
theorem Az(h:aT o=true)(d:o.1=12):d9 o.2.1=true/\an o.2.2.1=true/\an o.2.2.2=true:=by
 obtain⟨k,a,b,c⟩:=o;subst d;have:(d9 a&&an b&&an c)=true:=h;simp_all
theorem Eb(h:aT o=true)(d:o.1=13):an o.2.1=true/\d9 o.2.2.1=true:=by
 obtain⟨k,a,b,c⟩:=o;subst d;have:(an a&&d9 b&&(c==(0:Int)))=true:=h;simp_all
theorem AC(h:aT o=true)(d:o.1=14):d9 o.2.1=true/\an o.2.2.1=true:=by
 obtain⟨k,a,b,c⟩:=o;subst d;have:(d9 a&&an b&&(c==(0:Int)))=true:=h;simp_all
theorem ZA(h:aT o=true)(d:o.1=15):an o.2.1=true:=by
 obtain⟨k,a,b,c⟩:=o;subst d;have:(an a&&(b==(0:Int))&&(c==(0:Int)))=true:=h;simp_all
theorem Yw(h:aT o=true)(d:o.1=16):an o.2.1=true:=by
 obtain⟨k,a,b,c⟩:=o;subst d;have:(an a&&(b==(0:Int))&&(c==(0:Int)))=true:=h;simp_all
end
theorem mK{x}:d9 x=true↔0<=x/\x<=7:=by unfold d9;simp
variable{N:Nat}{s:Shf}{u:Un}{o:Opn}{r:List Int}
theorem Uj{k e}(b:0<=k/\k<=7)(a:0<=e/\e<=65536):UnV (nX k e):=by
 unfold nX UnV
 grind
theorem WrA(h:ShOk s)(d:UnV u):ShOk (vJ s u):=by
 unfold vJ;rcases d with⟨a,b,c⟩|⟨a,b,c⟩|⟨a,b,c⟩
 .rw[Wf a];exact⟨DE h.slots b c,h.cnt⟩
 .rw[We (by omega),Wf a];exact⟨Uu h.slots,h.cnt⟩
 .rw[We (by omega),We (by omega),Wf a];exact⟨h.slots,by omega⟩
theorem Wrr(h:ShOk s)(d:Vals 4 r)(f:aT o=true)(g:12<=o.1):ShOk (eX s o r).1/\Vals 4 (eX s o r).2.1/\((eX s o r).2.2.1≠0->UnV (eX s o r).2.2)/\((eX s o r).2.2.1=0->(eX s o r).1=s):=by
 unfold eX;split
 .obtain⟨a,b,c⟩:=Az f ‹_›;rw[mK]at a;have e:=mG s.1 o.2.1;exact⟨⟨DE h.slots a (d.get _),h.cnt⟩,d.set _ (by omega),λ_=>Uj a e,λh=>by unfold nX at h;split at h<;>(simp_all)⟩
 .split
  .exact⟨h,d.set _ (by omega),λh=>Wy rfl h,λ_=>rfl⟩
  .split
   .obtain⟨a,b⟩:=AC f ‹_›;rw[mK]at a;have e:=mG s.1 o.2.1;exact⟨⟨Uu h.slots,h.cnt⟩,d.set _ (by omega),λ_=>Uj a e,λh=>by unfold nX at h;split at h<;>(simp_all)⟩
   .split
    .refine⟨⟨h.slots,by grind⟩,d,λ_=>.inr (.inr ⟨rfl,rfl,d.get _⟩),λh=>by simp_all⟩
    .exact⟨h,d.set _ h.cnt,λh=>Wy rfl h,λ_=>rfl⟩
theorem RX(h:ShOk s)(a:1048576<N):FC N s=ret true:=by
 unfold FC;rw[C0 h.slots a,ka,gH.2 h.cnt];rfl
theorem Sk(h:ShOk s):Fj N s=ret s:=by
 unfold Fj;rw[C7 (by have:=h.slots.len;omega)];rfl
theorem WjZ(d:UnV u):Ln N u=ret true:=by
 unfold Ln;simp only[Wv,Dt,ka,ret,Xd];rcases d with⟨a,b,c⟩|⟨a,b,c⟩|⟨a,b,c⟩
 .simp_all [We,Wf,gH]
 .simp_all
 simp_all [We,Wf,gH]
theorem Wjz(h:ShOk s)(e:UnV u)(d:1048576<N):J2 N s u=some ((),(vJ s u,(true,()))):=by
 unfold J2 vJ;rw[Sk h,WjZ e];simp only[ret,Xd];rw[RX h d];simp only[ret,Xd,Xn,Wb,Wv];have f:=h.cnt;rcases e with⟨a,b,c⟩|⟨a,b,c⟩|⟨a,b,c⟩
 .rw[Wf a,Wf a,LR h.slots b c d];rfl
 .rw[We (by omega),Wf a,We (by omega),Wf a,R0 h.slots b d];rfl
 .rw[We (by omega),We (by omega),Wf a,We (by omega),We (by omega),Wf a];rw[WJ (by unfold I64;omega),WA (by unfold I64;omega),ie (by omega)];rfl
theorem R3{k e}(a:0<=e/\e<=65536):FO N k e=ret (nX k e):=by
 unfold FO nX;rw[Wv,WJ (by unfold I64;omega)];split<;>rfl
theorem Wlw(a:aT o=true)(b:12<=o.1):I9 N o=some ((),((cQ o).1,((cQ o).2,()))):=by
 have c:=p6 a;unfold I9 cQ;rw[Da,a];simp only[ret,Xd,Xn,Wb,Wv];have:o.1=12\/o.1=13\/o.1=14\/o.1=15\/o.1=16:=by omega
 rcases this with h|h|h|h|h<;>simp[h]
theorem WiN(h:ShOk s)(m:Vals 4 r)(d:aT o=true)(p:12<=o.1)(k:1048576<N):
  KW N s o r=some ((),((eX s o r).1,((eX s o r).2.1,((eX s o r).2.2,(true,()))))):=by
 have u:=p6 d;have e:=m.len;have q:=h.cnt;unfold KW eX;rw[Sk h,C7 (by omega)];simp only[ret,Xd];rw[RX h k,Ge (by omega) k,nP.2 m,Se,Hr d p];simp only[ret,Xd,Xn,Wb,bne_self_eq_false,Wv,show inz (65536:Int)=true from rfl,Wa,Wk,cY];by_cases f:o.1=12
 .obtain⟨a,b,c⟩:=Az d f;rw[mK]at a;rw[Wf f,Wf f,WW b e,WW c e];have l:=mG s.1 o.2.1;rw[LR h.slots a (m.get _) k];simp only[Wa,Xd,R3 l,ret];rw[ie (by omega)];rfl
 .rw[We f,We f];by_cases g:o.1=13
  .obtain⟨a,b⟩:=Eb d g;rw[mK]at b;have l:=mG s.1 o.2.2.1;rw[Wf g,Wf g,WW a e,F5 h.slots b k];simp only[Wa,Xd];by_cases n:aH s.1 o.2.2.1=0
   .rw[n];rfl
   .rw[We n,Wc n,WA (by unfold I64;omega),ie (by omega),Int.sub_add_cancel];simp only[Wa,nk];rfl
  .rw[We g,We g];by_cases i:o.1=14
   .obtain⟨a,b⟩:=AC d i;rw[mK]at a;have l:=mG s.1 o.2.1;rw[Wf i,Wf i,WW b e,R0 h.slots a k];simp only[Wa,Xd,R3 l,ret];rw[ie (by omega)];rfl
   .rw[We i,We i];by_cases j:o.1=15
    .have a:=ZA d j;have t:=m.get o.2.1.toNat;rw[Wf j,Wf j,WW a e];rw[WA (by unfold I64;omega),ie (by omega)];rfl
    .have a:=Yw d (by omega);rw[We j,We j,WW a e];rfl
def sm(l:List Int):Bool:=decide (l.length=8)&&l.all λx=>decide (0<=x)&&decide (x<=65536)
structure ThOk(t:List Int×List Int×Int):Prop where
 ER:Vals 8 t.1
 map:t.2.1.length=8/\∀x∈t.2.1,0<=x/\x<=65536
 cnt:0<=t.2.2/\t.2.2<=65535
def qg(t:List Int×List Int×Int):Bool:=kp t.1&&(sm t.2.1&&bR t.2.2)
theorem Wv4{t}:qg t=true↔ThOk t:=by
 unfold qg sm;simp only[Xh,Nj,gH,Wh,bH];exact⟨λh=>⟨h.1,h.2.1,h.2.2⟩,λh=>⟨h.ER,h.map,h.cnt⟩⟩
theorem SN{l}(g:l.length<=1048576)(f:1048576<N):zv N l=ret (sm l):=by
 unfold zv sm;have b:=WC (l:=l) (V:=Unit) (R:=Unit×Ke) (lp:=λn j v=>yw N l (some ((),(false,()))) (λd c=>(some ((),((Wi l)==(8:Int),())))) n j) (n:=N) (by omega)
  (body:=λj x v k=>bif !(decide (0<=x)&&decide (x<=65536))then some ((),(false,()))else k v) (K:=λ_ v=>some ((),((Wi l)==(8:Int),())))
  (λn i v a=>by simp only[yw,WF a,Wq a,Wu a,Wl (show i<4611686018427387904 by omega),Wa,WK,ret,Xd])
  (λn v=>by simp[yw,WN,Xj,Wb]) ()
 refine b.trans ?_;rw[fG (p:=λx=>!(decide (0<=x)&&decide (x<=65536))) (E:=λ_=>some ((),(false,()))) l 0 () (λj x v k _=>rfl),gW];have e:((Wi l)==(8:Int))=decide (l.length=8):=by
  grind [Wi]
 rw[e];cases l.all _<;>cases decide (l.length=8)<;>rfl
theorem Wka{t}(b:t.1.length<=1048576)(c:t.2.1.length<=1048576)(a:1048576<N):JA N t=ret (qg t):=by
 unfold JA qg;rw[Sv b a,SN c a,ka];cases kp t.1<;>cases sm t.2.1<;>rfl
def pp:List Int->Nat->List Int->List Int
 | [],_,l=>l
 |x::m,k,l=>pp m (k+1) (if x>0 then p7 l k (x-1)else l)
def Af(m:List Int):List Int:=pp m 0 (Xp 16 0)
theorem ME:SlOk (Xp 16 0) where
 len:=by simp
 each:=λi h=>.inl (OW ..)
 one:=λi j a b _ h=>Wy (OW ..) h
theorem SO:∀(m) (k) (l),k+m.length<=8->(∀x∈m,0<=x/\x<=65536)->SlOk l->SlOk (pp m k l)
 | [],_,l,_,_,h=>h
 |x::m,k,l,a,b,h=>by
  rw[Xs]at a;refine SO m (k+1) _ (by omega) (λy c=>b y (Xg _ c)) ?_
  grind [DE]
theorem Wus{m}(b:m.length=8)(a:∀x∈m,0<=x/\x<=65536):SlOk (Af m):=SO m 0 _ (by omega) a ME
theorem Whn{m}(s:m.length=8)(k:∀x∈m,0<=x/\x<=65536)(c:1048576<N):yx N m=ret (Af m):=by
 have h:sm m=true:=by simp_all [sm,Xh,Wh,bH]
 unfold yx Af;rw[SN (by omega) c,h];simp only[ret,Xd,Xn,Wb];rw[show RD N=ret (Xp 16 0)from rfl];simp only[ret,Xd];have o:∀(d j n:Nat) (l:List Int),j+d=m.length->d<n->SlOk l->s7 N m (λq p f=>(some ((),(f,())))) n (j:Int) l=ret (pp (m.drop j) j l):=by
  intro d
  induction d with
  |zero=>
   intro j n l g i e;obtain⟨n,rfl⟩:∃n',n=n'+1:=⟨n-1,by omega⟩;have:j=m.length:=by omega
   subst this;simp[s7,WN,Xj,Wb,fo,pp]
  |succ d ih=>
   intro j n l g i e;obtain⟨n,rfl⟩:∃n',n=n'+1:=⟨n-1,by omega⟩;have a:j<m.length:=by omega
   have r:=k m[j] (Xt a);simp only[s7,WF a,Wq a,Wu a,Wl (show j<4611686018427387904 by omega),Wa,W0];rw[d4 a,pp];by_cases b:m[j]>0
   .rw[Wf b,Wf b,WJ (by unfold I64;omega),LR e (by omega) (by omega) c]
    grind [DE]
   grind
 have:=o m.length 0 N (Xp 16 0) (by omega) (by omega) ME;simp_all
end
section
abbrev Hd:=Int×Int×Int
def HdV(h:Hd):Prop:=(1<=h.1/\h.1<=9)/\(0<=h.2.1/\h.2.1<=8)/\1<=h.2.2/\h.2.2<=2
def HdB(a b:Hd):Prop:=cfH a b<0/\(a.2.1=b.2.1->a.2.2≠2/\b.2.2≠2)
structure HOk(l:List Hd):Prop where
 val:∀h∈l,HdV h
 up:l.Pairwise HdB
theorem HOk.ris{l}(h:HOk l):Ris cfH l:=h.up.imp λh=>h.1
def pu(l:List Hd)(who:Int):List Int:=(l.filter λh=>decide (h.1=who)).map (·.2.1)
def blk(who what mode:Int)(h:Hd):Bool:=decide (h.2.1=what)&&(decide (h.1≠who)&&(decide (mode=2)||decide (h.2.2=2)))
def nU(l:List Hd)(who what mode:Int):List Int:=(l.filter (blk who what mode)).map (·.1)
def gu(who what:Int)(h:Hd):Bool:=decide (h.1=who)&&decide (h.2.1=what)
def eb(l:List Hd)(who what:Int):Int:=match fnd (gu who what) l 0 with
 |some r=>r.2.2.2
 |none=>0
def hN(a b:Int):Int:=if a<=b then b else a
def Hk(l:List Hd)(who what mode:Int):List Hd:=ch cfH l (who,what,hN (eb l who what) mode)
def mX(l:List Hd)(who what mode:Int):Option (List Hd):=if nU l who what mode= []then some (Hk l who what mode)else none
def WX(l:List Hd)(who:Int):List Hd:=l.filter λh=>!(h.1==who)
theorem eZ{α:Type}{a b:Int}{x y:α}:(bif a !=b then x else y)=if a=b then y else x:=by
 simp_all
theorem Wxd{α}{cf}(b:Lin cf){L M:List α}(a:Ris cf L)(c:Ris cf M)(d:∀x,x∈L↔x∈M):L=M:=by
 rw[←DX b c (a.imp λh=>.inl h) d,DX b a (a.imp λh=>.inl h) λx=>Iff.rfl]
theorem apH{a b:Hd}:Ap cfH a b↔¬(a.1=b.1/\a.2.1=b.2.1):=by grind [Ap,gY]
theorem Mw{a b c d:Hd}(e:a.1=c.1)(f:a.2.1=c.2.1)(g:b.1=d.1)(h:b.2.1=d.2.1):cfH a b<0↔cfH c d<0:=by simp_all [gY]
variable{N:Nat}{l:List Hd}{who what mode:Int}
theorem Wwb(h:Ris cfH l){i}(hi){e}(d:e.1=l[i].1)(f:e.2.1=l[i].2.1):Ris cfH (l.set i e):=by
 unfold Ris at*;rw[hP]at*;intro a b g j m;rw[cY]at g j;rw[wW,wW];have:=h a b g j m;by_cases c:i=a
 .subst c;rw[Wf rfl,We (by omega)];exact(Mw d f rfl rfl).2 this
 .rw[We c];by_cases k:i=b
  .subst k;rw[Wf rfl];exact(Mw rfl rfl d f).2 this
  simp_all
theorem Wxy(h:Ris cfH l){i}(hi){e}(a:e.1=l[i].1)(b:e.2.1=l[i].2.1):l.set i e=ch cfH l e:=by
 refine Wxd jC (Wwb h hi a b) (o9 jC h) λx=>?_;rw[(Ug jC (h.imp λh=>.inl h) hi (by grind [apH])).2 x,pk jC h]
theorem Ya{h}:(decide (1<=h.1)&&decide (h.1<=9))=true/\(decide (0<=h.2.1)&&decide (h.2.1<=8))=true/\(decide (1<=h.2.2)&&decide (h.2.2<=2))=true↔HdV h:=by
 simp[HdV,Xh,Wh]
theorem R6{h}(d:HdV h):CE N h.1 h.2.1 h.2.2=ret true:=by
 obtain⟨a,b,c⟩:=Ya.2 d;simp_all [CE,WK,ret,Xd,Wa]
theorem WmY{a b}(c:HdV a)(d:HdV b):Iy N a b=ret (cfH a b):=by
 obtain⟨e,f,g⟩:=c;obtain⟨h,i,j⟩:=d
 grind [Iy,cfH,WJ,I64]
theorem F6(h:HOk l)(u:l.length<=1048576)(t:1048576<N):uk N l=ret true:=by
 have p:∀(d j n:Nat),j+d=l.length->d<n->mh N l (some ((),(false,()))) (λr q=>(some ((),(true,())))) n (j:Int)=ret true:=by
  intro d
  induction d with
  |zero=>
   intro j n k m;obtain⟨n,rfl⟩:∃n',n=n'+1:=⟨n-1,by omega⟩;simp_all [mh,WN,Xj,Wb]
  |succ d ih=>
   intro j n k m;obtain⟨n,rfl⟩:∃n',n=n'+1:=⟨n-1,by omega⟩;have a:j<l.length:=by omega
   have f:=h.val l[j] (Xt a);have g:=ih (j+1) n (by omega) (by omega);simp only[mh,WF a,Wq a,Wu a,Wl (show j<4611686018427387904 by omega),Wa,R6 f,ret,Xd,Xn,Wb,g];by_cases s:j=0
   .grind
   .have e1:decide ((j:Int)>0)=true:=by simp;omega
    have i:Wz .i64 (j:Int) 1=((j-1:Nat):Int):=by grind [WJ,I64]
    have b:j-1<l.length:=by omega
    have o:=h.val l[j-1] (Xt b);have c:=hP.1 h.up (j-1) j b a (by omega);simp only[e1,i,Wa,Wq b,Wu b,WmY o f,ret,Xd];rw[Wg (show¬(cfH l[j-1] l[j]>=0) by have:=c.1;omega)];simp only[Wb,Wv];by_cases e:l[j-1].2.1=l[j].2.1
    .rw[Wf e,We (c.2 e).2,We (c.2 e).1]
    simp_all
 exact p l.length 0 N (by omega) (by omega)
theorem zR{α β R}{body}{K:Int->List β->Option R}{p}{f}:∀(l:List α) (j) (o),o.length+l.length<=2000000->
  (∀(j:Nat) x (v) k,x∈l->v.length<=2000000->body j x v k=bif p x then k (v++ [f x])else k v)->cX body K l j o=K ((j+l.length:Nat):Int) (o++(l.filter p).map f)
 | [],j,o,_,_=>by simp[cX]
 |x::l,j,o,h,hb=>by
  rw[cX,hb j x o _ (Xl ..) (by omega),eH];have d:=λc b=>zR (body:=body) (K:=K) (p:=p) (f:=f) l (j+1) c b λj y v k a=>hb j y v k (Xg _ a)
  grind
theorem WiE(h:HOk l)(e:l.length<=1048576)(d:1048576<N):yO N l who=ret (pu l who):=by
 unfold yO pu;rw[F6 h e d];have c:=WC (l:=l) (V:=List Int) (R:=Unit×(List Int×Unit)) (lp:=λn j v=>tj N who l (λg m b=>(some ((),(b,())))) n j v) (n:=N) (by omega)
  (body:=λj x v k=>bif x.1==who then(bif Wx (v.length+ [x.2.1].length)then k (Xe v [x.2.1])else none)else k v) (K:=λ_ v=>ret v)
  (λn i v a=>by simp only[tj,WF a,Wq a,Wu a,Wl (show i<4611686018427387904 by omega),Wa])
  (λn v=>by simp[tj,WN,Xj,Wb]) []
 refine c.trans ?_;rw[zR (p:=λh=>decide (h.1=who)) (f:=(·.2.1)) l 0 [] (by simp;omega) (λj x v k _ o=>by rw[Wp (by simp;omega)];simp only[Wv,W0,Wa,cZ])];rfl
theorem Wkd(h:HOk l)(b:1<=mode/\mode<=2)(r:l.length<=1048576)(q:1048576<N):CG N l who what mode=ret (nU l who what mode):=by
 unfold CG nU;rw[F6 h r q];simp only[ret,Xd,Xn,Wb,WK,Wc b.1,Wc b.2,c6];have o:=WC (l:=l) (V:=List Int) (R:=Unit×(List Int×Unit)) (lp:=λn j v=>ny N who what mode l (λs u c=>(some ((),(c,())))) n j v) (n:=N) (by omega)
  (body:=λj x v k=>bif x.2.1==what then(bif x.1 !=who then(bif mode==2 then(bif Wx (v.length+ [x.1].length)then k (Xe v [x.1])else none)else(bif x.2.2==2 then(bif Wx (v.length+ [x.1].length)then k (Xe v [x.1])else none)else k v))else k v)else k v) (K:=λ_ v=>ret v)
  (λn i v a=>by simp only[ny,WF a,Wq a,Wu a,Wl (show i<4611686018427387904 by omega),Wa])
  (λn v=>by simp[ny,WN,Xj,Wb]) []
 refine o.trans ?_;rw[zR (p:=blk who what mode) (f:=(·.1)) l 0 [] (by simp;omega) (λj x v k _ t=>by
  rw[Wp (by simp;omega)];unfold blk;simp only[Wv,eZ,Wa,cZ];by_cases d:x.2.1=what<;>by_cases e:x.1=who<;>by_cases g:mode=2<;>by_cases m:x.2.2=2<;>simp[d,e,g,m])]
 rfl
theorem WxO(h:HOk l):0<=eb l who what/\eb l who what<=2:=by
 unfold eb;cases hf:fnd (gu who what) l 0 with
 |none=>simp
 |some r=>
  have:=lu hf;have:=h.val r.2 (List.mem_of_getElem? this.2.2.2)
  grind [HdV]
theorem WiR(h:HOk l)(w:1<=who/\who<=9)(v:0<=what/\what<=8)(o:1<=mode/\mode<=2)(A:l.length<=1048000)(m:1048576<N):
  B4 N l who what mode=some ((),((mX l who what mode).getD l,((mX l who what mode).isSome,()))):=by
 unfold B4 mX;have y:yy N l=ret l:=by grind [yy,Wp]
 have q:CE N who what mode=ret true:=R6 (h:=(who,what,mode)) ⟨w,v,o⟩;rw[y,F6 h (by omega) m,q,Wkd h o (by omega) m];simp only[ret,Xd,Xn,Wb,W0];by_cases g:nU l who what mode= []
 .rw[We (by rw[g];simp[Wi]),Wf g];have t:=DV (l:=l) (p:=gu who what) (N:=N) (lp:=λn j=>tl N who what mode (Wi l) l (λs=>(some ((),(s,(true,()))))) (λC D=>
  (bif Wx ((Xa l)+(Xa ([(who,(what,mode))])))then
 ((Z4 N (Xe l ([(who,(what,mode))]))).bind λf=>
 (some ((),(f.1.1,(true,())))))else none)) n j)
   (K0:=λj=>some ((),(l.set j.toNat ((l.getD j.toNat (0,0,0)).1,(l.getD j.toNat (0,0,0)).2.1,nd (l.getD j.toNat (0,0,0)).2.2 mode),(true,())))) (K1:=(bif Wx ((Xa l)+(Xa ([(who,(what,mode))])))then
 ((Z4 N (Xe l ([(who,(what,mode))]))).bind λf=>
 (some ((),(f.1.1,(true,())))))else none)) (by omega) (by omega)
   (λn j i=>by
    simp only[tl,WF i,Wq i,Wu i,Wl (show j<4611686018427387904 by omega),Wa];simp[gu,Wv,WvP,W0])
   (λn=>by simp[tl,WN,Xj,Wb])
  rw[t];unfold Hk eb;cases hf:fnd (gu who what) l 0 with
  |some r=>
   obtain⟨b,z,c,d⟩:=lu hf;rw[cb]at c;rw[wZ,Xr c]at d;injection d with d;unfold gu at b;simp only[Xh,Wh]at b;simp only[Wu c,d,Option.getD_some,Option.isSome_some];rw[Xk];have:nd r.2.2.2 mode=hN r.2.2.2 mode:=by grind [nd,hN]
   rw[this,b.1,b.2,Wxy h.ris c (e:=(who,what,hN r.2.2.2 mode)) (by simp_all) (by simp_all)]
  |none=>
   have B:=Dw hf;rw[Wp (by simp;omega)];have u:hN 0 mode=mode:=by unfold hN;rw[Wf (by omega)]
   have k:=TU (cf:=cfH) (L:=l) (e:=(who,what,mode)) (h.ris.imp λh=>.inl h) (λx a=>by
    grind [apH,gu,qi,decide_eq_false_iff_not])
   unfold Z4;simp only[Wa,cZ];rw[VJ (rng:=wo) (N:=N) jC (M:=ch cfH l (who,what,mode)) (o9 jC h.ris) k.1 (λx=>by rw[k.2 x,pk jC h.ris]) (λx a=>by
    rcases Xo.1 a with a|a
    .have:=h.val x a
     grind [HdV,wo,su]
    grind [cq,wo,su]) (by simp;omega)]
   simp_all
 .rw[Wf (by
   simp_all [nU,List.eq_nil_of_length_eq_zero,Wi]),We g]
  rfl
theorem Wrg(h:HOk l)(F:1<=who/\who<=9)(E:0<=what/\what<=8)(L:1<=mode/\mode<=2)(J:nU l who what mode= []):HOk (Hk l who what mode):=by
 have M:=WxO (who:=who) (what:=what) h;have G:∀x∈l,x.2.1=what->x.1≠who->mode≠2/\x.2.2≠2:=λx c f q=>by
  refine Classical.byContradiction λK=>?_;have:x.1∈nU l who what mode:=Xx.2 ⟨x,eA.2 ⟨c,by grind [blk]⟩,rfl⟩;simp_all
 have H:∀x∈l,x.2.1=what->x.1≠who->eb l who what≠2:=λx c f q=>by
  unfold eb;cases hf:fnd (gu who what) l 0 with
  |none=>simp
  |some r=>
   obtain⟨k,I,o,p⟩:=lu hf;rw[cb]at o;rw[wZ,Xr o]at p;injection p with p;unfold gu at k;simp only[Xh,Wh]at k;obtain⟨j,g,rfl⟩:=md c;have m:=hP.1 h.up;simp only;rw[←p]at k⊢;rcases Xgc r.1 j with d|B|d
   .exact((m r.1 j o g d).2 (by rw[f,k.2])).1
   .simp_all
   .exact((m j r.1 g o d).2 (by rw[f,k.2])).2
 unfold Hk;refine⟨λx c=>?_,?_⟩
 .rcases(pk jC h.ris).1 c with rfl|c
  .refine⟨F,E,?_⟩;simp only;unfold hN;split<;>omega
  .exact h.val x c.1
 .have hr:=o9 (e:=(who,what,hN (eb l who what) mode)) jC h.ris;have v:=λx=>pk (e:=(who,what,hN (eb l who what) mode)) (x:=x) jC h.ris;have C:∀x∈l,x.2.1=what->x.1≠who->hN (eb l who what) mode≠2:=λx c f q=>by
   have:=H x c f q;have:=(G x c f q).1;unfold hN;split<;>omega
  unfold Ris at hr;rw[hP]at hr⊢;intro i j s g A;refine⟨hr i j s g A,λD=>?_⟩;have d:=hr i j s g A;have t:=(v _).1 (Xt s);have u:=(v _).1 (Xt g);generalize (ch cfH l (who,what,hN (eb l who what) mode))[i]=x at*;generalize (ch cfH l (who,what,hN (eb l who what) mode))[j]=y at*;rcases t with rfl|t<;>rcases u with rfl|u
  .exact Wy d (jC.irr _)
  .grind [apH]
  .grind [apH]
  .obtain⟨a,z,rfl⟩:=md t.1;obtain⟨b,w,rfl⟩:=md u.1;have m:=hP.1 h.up;rcases Xgc a b with n|n|n
   .exact(m a b z w n).2 D
   .subst n;exact Wy d (jC.irr _)
   .exact Wy (jC.tr _ _ _ d (m b a w z n).1) (jC.irr _)
theorem SY(h:HOk l):HOk (WX l who):=⟨λx a=>h.val x (eA.1 a).1,h.up.filter _⟩
theorem vn(h:HOk l):l.length<=81:=by
 have d:∀(l:List Hd) (c:Int),Ris cfH l->(∀e∈l,HdV e/\c<=9*e.2.1+e.1)->1<=c->(l.length:Int)<=82-c\/l= []:=by
  intro l
  induction l with
  |nil=>simp_all
  |cons a l ih=>
   intro c j f k;have g:=Xw.1 j;have i:=f a (Xl ..);unfold HdV at i;rcases ih (9*a.2.1+a.1+1) g.2 (λe b=>⟨(f e (Xg _ b)).1,by
    grind [gY,Xg,HdV]⟩) (by omega)with h|h
   .grind
   grind
 rcases d l 1 h.ris (λe b=>⟨h.val e b,by have:=h.val e b;grind [HdV]⟩) (by omega)with h|h
 .omega
 simp_all
theorem Tb{α V R}{body}{K}{p:α->Bool}{E:Int->V->Option R}:∀(l) (j) (v),(∀(j:Nat) x v k,x∈l->body j x v k=bif p x then E j v else k v)->
  (∃a x r,l=a++x::r/\(∀y∈a,p y=false)/\p x=true/\cX body K l j v=E ((j+a.length:Nat):Int) v)\/((∀y∈l,p y=false)/\cX body K l j v=K ((j+l.length:Nat):Int) v)
 | [],j,v,_=>.inr ⟨by simp,rfl⟩
 |x::l,j,v,h=>by
  rw[cX,h j x v _ (Xl ..)];cases e:p x
  .simp only[Wb];rcases Tb (E:=E) l (j+1) v λj y v k i=>h j y v k (Xg _ i)with⟨a,y,r,c,d,f,g⟩|⟨c,d⟩
   .refine .inl ⟨x::a,y,r,by rw[c];rfl,λz b=>?_,f,?_⟩
    .rcases List.mem_cons.1 b with rfl|b
     .exact e
     .exact d z b
    .rw[g,Xs,show j+1+a.length=j+(a.length+1) by omega]
   grind
  .exact .inl ⟨[],x,l,rfl,by simp,e,rfl⟩
theorem Oa{N}(a0){R}(K:Int->Int->Bool->List Hd->Int->Option R):
  ∀(r a m:List Hd) (n),r.length<n->a.length+m.length+r.length<=1048576->∃c,
   Ze N K n (a.length:Int) ((a.length+m.length:Nat):Int) (a++m++r) a0=
    K ((a++r.filter λx=>!(x.1==a0)).length:Int) ((a.length+m.length+r.length:Nat):Int) false ((a++r.filter λx=>!(x.1==a0))++c) a0
 | [],a,m,0,h,_=>by simp at h
 | [],a,m,n+1,h,_=>by
  refine⟨m,?_⟩;have j:decide (((a.length+m.length:Nat):Int)<Wi (a++m++ []))=false:=by simp[Wi]
  simp only[Ze,j,Wb];simp
 |x::r,a,m,0,h,_=>by simp at h
 |x::r,a,m,n+1,h,hb=>by
  simp only[Xs]at h hb;have d:a.length+m.length<(a++m++x::r).length:=by simp
  have f:a.length<(a++m++x::r).length:=by omega
  have g:Xc (a++m++x::r) (a.length+m.length) ((0:Int),((0:Int),(0:Int)))=x:=by
   simp_all
  cases hp:x.1==a0
  .obtain⟨e,l,i⟩:∃e:List Hd,e.length=m.length/\(a++m++x::r).set a.length x=(a++ [x])++e++r:=by
    cases m with
    |nil=>simp_all
    |cons y m=>grind
   obtain⟨c,b⟩:=Oa (N:=N) a0 K r (a++ [x]) e n (by omega) (by simp;omega);refine⟨c,?_⟩;simp only[Ze,Bs,WF d,Wq d,Wq f,Xk,g,hp,Xd,Wa,fx,Xk,i,
    Wl (show a.length<4611686018427387904 by omega),Wl (show a.length+m.length<4611686018427387904 by omega)]
   have k:(a++ [x]).length=a.length+1:=by simp
   rw[k,l,show a.length+1+m.length=a.length+m.length+1 by omega]at b;rw[b];simp only[eH,hp,fx,W1,fX,Xfe,Xs];rw[show a.length+m.length+1+r.length=a.length+m.length+(r.length+1) by omega]
  .obtain⟨c,b⟩:=Oa (N:=N) a0 K r a (m++ [x]) n (by omega) (by simp;omega);refine⟨c,?_⟩;simp only[Ze,Bs,WF d,Wq d,Wq f,Xk,g,hp,Xd,Wa,Wb,Xn,
    Wl (show a.length+m.length<4611686018427387904 by omega)]
   simp only[Xv,Xs,kN,cb]at b;rw[show a.length+(m.length+1)=a.length+m.length+1 by omega,show a++(m++ [x])++r=a++m++x::r by simp]at b;rw[b];simp only[eH,hp,Xn,dO,dL,Xs];simp only[Xv];rw[show a.length+m.length+1+r.length=a.length+m.length+(r.length+1) by omega]
theorem WrK{N}{s:List Hd}{b}(A:1048576<N)(C:s.length<=100000):
  Zu N s b=some ((b,()),(s.filter λx=>!(x.1==b),())):=by
 unfold Zu;have u:=WC (l:=s) (V:={v:Int//v=b}) (R:=Kk×Kk) (lp:=λn j v=>Zk N s (λo m=>some ((m,()),(o,()))) (λt G e=>some ((e,()),((-1:Int),()))) n j v.1) (n:=N) (by omega)
  (body:=λj x v k=>bif x.1==b then some ((v.1,()),(j,()))else k v) (K:=λ_ v=>some ((v.1,()),((-1:Int),())))
  (λn i v g=>by
   obtain⟨v,rfl⟩:=v;simp only[Zk,WF g,Wq g,Wu g,Wl (show i<4611686018427387904 by omega),Wa,Bs,Xd])
  (λn v=>by simp[Zk,WN,Xj,Wb]) ⟨b,rfl⟩
 unfold Z7;rw[u];rcases Tb (body:=λj x (v:{v:Int//v=b}) k=>bif x.1==b then some ((v.1,()),(j,()))else k v) (K:=λ_ v=>(some ((v.1,()),((-1:Int),())):Option (Kk×Kk))) (p:=λx=>x.1==b)
  (E:=λj v=>some ((v.1,()),(j,()))) s 0 ⟨b,rfl⟩ (λj x v k _=>rfl)with⟨a,x,r,z,w,D,h⟩|⟨w,h⟩
 .rw[h];simp only[Xd,cb];have q:((a.length:Int)== -1)=false:=by simp
  rw[q,Wl (show a.length<4611686018427387904 by grind)];simp only[Wb];obtain⟨H,f⟩:=Oa (N:=N) b (λd I t c e=>
     (bif (decide ((0:Int)<=d))&&(decide (d<=((Xa c):Int)))then
      (bif (decide ((0:Int)<=d))&&(decide (d<=((Xa ((ah (Xb d) c)++Xp ((Xa c) -(Xb d)) ((0:Int),((0:Int),(0:Int)))++(List.drop (Xa c) c))):Int)))then
       (some ((e,()),(ah (Xb d) ((ah (Xb d) c)++Xp ((Xa c) -(Xb d)) ((0:Int),((0:Int),(0:Int)))++(List.drop (Xa c) c)),())))else none)else none)) r a [x] N (by grind) (by grind)
  rw[show a++ [x]++r=s by simp_all]at f;simp only[Xs,kN,cb]at f;rw[f];have B:(s.filter λx=>!(x.1==b))=a++r.filter λx=>!(x.1==b):=by
   have:(a.filter λx=>!(x.1==b))=a:=A1.2 λy F=>by grind
   grind
  grind
 grind [A1]
theorem Wh0(h:HOk l)(b:l.length<=100000)(a:1048576<N):JB N l who=ret (WX l who):=by
 have c:yy N l=ret l:=by grind [yy,Wp]
 unfold JB;rw[c,F6 h (by omega) a];simp only[ret,Xd,Xn,Wb];rw[WrK a b];rfl
end
section
def zWd:Wd:=(0,0,0)
def aF(m:Mm)(i:Int):Wd:=al m.2 i zWd
def Es(m:Mm)(i:Int)(w:Wd):Mm:=(m.1,iF m.2 i w)
variable{m:Mm}
theorem NI(a:W6 m=true){i}{w}(f:fV m.1 w=true):W6 (Es m i w)=true:=by
 obtain⟨e,c,d,b⟩:=WE a;unfold W6 Es iF
 grind
theorem Nd(a:W6 m=true){i}(hi:0<=i/\i<=7):fV m.1 (aF m i)=true:=YK a hi
theorem Ww4(a:W6 m=true):W6 (tick m).1=true/\0<=(tick m).2/\(tick m).2<=1000000/\((tick m).2≠0->(tick m).2=m.1+1/\(tick m).1=(m.1+1,m.2))/\((tick m).2=0->(tick m).1=m):=by
 obtain⟨e,c,d,b⟩:=WE a;unfold tick;split
 .refine⟨?_,by omega,by omega,λ_=>⟨rfl,rfl⟩,λh=>by omega⟩;unfold W6;simp only[Xh,Wh,bH]
  grind [vM]
 simp_all
end
section
structure Cm where
 who:Int:=0
 rv:Int:=0
 ζ:Int:=0
 pos:Int:=0
 wv:Int:=0
 ψ:List Rw:=[]
 κ:List Int:=[]
def Cm.e(c:Cm):Int×Int×Int×Int×Int×List Kc×List Int:=(c.who,c.rv,c.ζ,c.pos,c.wv,c.ψ,c.κ)
def Cm.steps(c:Cm):Int:=
 if c.ζ=1\/c.ζ=4\/c.ζ=5\/c.ζ=7 then c.ψ.length else if c.ζ=3 then c.κ.length else 1
def lJ(c:Cm)(n:Int):Cm:=if n=0 then{c with ζ:=8,pos:=0}else{c with ζ:=7,pos:=n-1}
def pZ(c:Cm)(a:Int):Int:=
 if(a=3/\c.κ.length=0\/a=4)/\c.ψ.length=0 then 6 else if a=3/\c.κ.length=0 then 4 else a
def p3(c:Cm)(a:Int):Cm:={c with ζ:=pZ c a,pos:=0}
def m0(c:Cm)(a:Int):Cm:=if c.pos+1=c.steps then p3 c a else{c with pos:=c.pos+1}
def HW(m:Mm)(i who:Int):Mm:=Es m i ((aF m i).1,(aF m i).2.1,who)
def v8(m:Mm)(i who v:Int):Mm:=if(aF m i).2.2=who then Es m i (v,(aF m i).2)else m
def rU(m:Mm)(i who ver:Int):Mm:=if(aF m i).2.2=who/\(aF m i).2.1<=ver/\ver<=m.1 then Es m i ((aF m i).1,ver,0)else m
def ko(m:Mm)(c:Cm):Mm×Cm:=
 let p:=al c.ψ c.pos (0,0)
 if c.ζ=1 then(if(aF m p.1).2.2=0 then(HW m p.1 c.who,m0 c 2)else(m,lJ c c.pos))else
 if c.ζ=2 then(if(tick m).2=0 then((tick m).1,lJ c c.ψ.length)else((tick m).1,p3 {c with wv:=(tick m).2} 3))else
 if c.ζ=3 then
  let w:=aF m (al c.κ c.pos 0)
  if(w.2.2≠0/\w.2.2≠c.who)\/w.2.1>c.rv then(m,lJ c c.ψ.length)else(m,m0 c 4)
 else
 if c.ζ=4 then(v8 m p.1 c.who p.2,m0 c 5)else
 if c.ζ=5 then(rU m p.1 c.who c.wv,m0 c 6)else
 if c.ζ=7 then(rU m p.1 c.who (aF m p.1).2.1,lJ c c.pos)else
 (m,c)
def gK(c:Cm):Cm:=
 if c.ζ=1 then lJ c c.pos else if c.ζ=2\/c.ζ=3 then lJ c c.ψ.length else c
def kt(who rv:Int)(ψ κ:List Rw):Cm:=
 {who:=who,rv:=rv,ζ:=if(aA ψ).length=0 then 2 else 1,ψ:=aA ψ,κ:=(aA κ).map (·.1)}
structure CmOk(c:Cm):Prop where
 who:1<=c.who/\c.who<=99
 rv:0<=c.rv/\c.rv<=1000000
 wv:0<=c.wv/\c.wv<=1000000
 ζ:1<=c.ζ/\c.ζ<=8
 ε:iD c.ψ
 pup:c.ψ.Pairwise λa b=>a.1<b.1
 plen:c.ψ.length<=8
 rd:∀x∈c.κ,0<=x/\x<=7
 rup:c.κ.Pairwise (· < ·)
 rlen:c.κ.length<=8
 pos:0<=c.pos/\c.pos<c.steps
section
variable{N:Nat}{c:Cm}{m:Mm}
theorem CmOk.back(h:CmOk c){n:Int}(a:0<=n/\n<=c.ψ.length):CmOk (lJ c n):=by
 unfold lJ;split
 .exact{h with ζ:=by simp_all,pos:=by simp[Cm.steps]}
 .exact{h with ζ:=by simp_all,pos:=by grind [Cm.steps]}
theorem Wv3(c){ph}(h:2<=ph/\ph<=6):2<=pZ c ph/\pZ c ph<=6:=by unfold pZ;split<;>(try split)<;>omega
theorem CmOk.adv(h:CmOk c){ph}(a:2<=ph/\ph<=6)(b:ph=5->c.ψ.length≠0):CmOk (p3 c ph):=by
 unfold p3;have:=Wv3 c a;refine{h with ζ:=by grind,pos:=⟨wX _,?_⟩}
 grind [Cm.steps,pZ]
theorem CmOk.next(h:CmOk c){ph}(b:2<=ph/\ph<=6)(a:ph=5->c.ψ.length≠0):CmOk (m0 c ph):=by
 unfold m0;split
 .exact h.adv b a
 .have:=h.pos;exact{h with pos:=⟨by grind,by show c.pos+1<c.steps;omega⟩}
theorem Wu1(a:W6 m=true){i who}(hi:0<=i/\i<=7)(b:0<=who/\who<=99):W6 (HW m i who)=true:=by
 have:=vM.1 (Nd a hi);exact NI a (by grind [vM])
theorem WsA(a:W6 m=true){i who v}(hi:0<=i/\i<=7)(b:0<=v/\v<=65535):W6 (v8 m i who v)=true:=by
 grind [vM,Nd,v8,NI]
theorem TZ(a:W6 m=true){i who ver}(hi:0<=i/\i<=7):W6 (rU m i who ver)=true:=by
 grind [vM,Nd,rU,NI]
theorem CmOk.put(h:CmOk c)(d:c.ζ=1\/c.ζ=4\/c.ζ=5\/c.ζ=7):∃(j:Nat) (a:j<c.ψ.length),c.pos=j/\al c.ψ c.pos (0,0)=c.ψ[j]/\(0<=c.ψ[j].1/\c.ψ[j].1<=7)/\0<=c.ψ[j].2/\c.ψ[j].2<=65535:=by
 have:=h.pos;unfold Cm.steps at this;have a:c.pos.toNat<c.ψ.length:=by omega
 have b:=h.ε _ (Xt a);exact⟨c.pos.toNat,a,by omega,WB a _,b.1,b.2⟩
theorem CmOk.read(h:CmOk c)(d:c.ζ=3):∃(j:Nat) (a:j<c.κ.length),c.pos=j/\al c.κ c.pos 0=c.κ[j]/\0<=c.κ[j]/\c.κ[j]<=7:=by
 have:=h.pos;unfold Cm.steps at this;have a:c.pos.toNat<c.κ.length:=by omega
 have b:=h.rd _ (Xt a);exact⟨c.pos.toNat,a,by omega,WB a _,b⟩
theorem MN(h:CmOk c)(a:W6 m=true):CmOk (ko m c).2/\W6 (ko m c).1=true:=by
 have o:=h.pos;have l:c.ζ=1\/c.ζ=4\/c.ζ=5\/c.ζ=7->c.ψ.length≠0:=λi=>by obtain⟨j,f,_⟩:=h.put i;omega
 have n:c.ζ=1\/c.ζ=4\/c.ζ=5\/c.ζ=7->c.pos<c.ψ.length:=λi=>by simp_all [Cm.steps,Wf]
 have p:=h.who;unfold ko;simp only;split
 .obtain⟨j,f,g,b,d,e⟩:=h.put (by omega);rw[b];split
  .exact⟨h.next (by omega) (by omega),Wu1 a d (by omega)⟩
  .exact⟨h.back (by omega),a⟩
 .split
  .have ht:=Ww4 a;split
   .exact⟨h.back (by omega),ht.1⟩
   .refine⟨?_,ht.1⟩;have k:CmOk {c with wv:=(tick m).2}:={h with wv:=⟨ht.2.1,ht.2.2.1⟩};exact k.adv (by omega) (by omega)
  .split
   .split
    .exact⟨h.back (by omega),a⟩
    .exact⟨h.next (by omega) (by omega),a⟩
   .split
    .obtain⟨j,f,g,b,d,e⟩:=h.put (by omega);rw[b];exact⟨h.next (by omega) (λ_=>l (by omega)),WsA a d e⟩
    .split
     .obtain⟨j,f,g,b,d,e⟩:=h.put (by omega);rw[b];exact⟨h.next (by omega) (by omega),TZ a d⟩
     .split
      .obtain⟨j,f,g,b,d,e⟩:=h.put (by omega);rw[b];exact⟨h.back (by omega),TZ a d⟩
      simp_all
theorem WrB(h:CmOk c):CmOk (gK c):=by
 have a:=h.pos;unfold gK;split
 .have:c.pos<c.ψ.length:=by simp_all [Cm.steps,Wf]
  exact h.back (by omega)
 .split
  .exact h.back (by omega)
  .exact h
theorem WuJ{who rv}{ψ κ}(b:1<=who/\who<=99)(a:0<=rv/\rv<=1000000):CmOk (kt who rv ψ κ) where
 who:=b
 rv:=a
 wv:=by simp[kt]
 ζ:=by unfold kt;simp only;split<;>omega
 ε:=GV
 pup:=NO ψ
 plen:=po ψ
 rd:=λx c=>by
  obtain⟨r,a,rfl⟩:=Xx.1 c;exact(GV r a).1
 rup:=by
  simp[kt,List.pairwise_map,NO]
 rlen:=by simp[kt,Xu,po]
 pos:=by
  unfold kt Cm.steps
  grind
theorem cmP(c:Cm):c.e.1=c.who/\c.e.2.1=c.rv/\c.e.2.2.1=c.ζ/\c.e.2.2.2.1=c.pos/\c.e.2.2.2.2.1=c.wv/\c.e.2.2.2.2.2.1=c.ψ/\c.e.2.2.2.2.2.2=c.κ:=⟨rfl,rfl,rfl,rfl,rfl,rfl,rfl⟩
theorem CU{who}:um N who=ret (decide (1<=who)&&decide (who<=99)):=by simp[um,WK]
theorem Gp(a:W6 m=true):oE N m=ret m:=by
 grind [WE,oE,Wp]
theorem TK(h:CmOk c):Fc N c.e=ret c.e:=by
 unfold Fc;have:=h.plen;have:=h.rlen;rw[show nC N c.e.2.2.2.2.2.1=ret c.ψ from zK (show c.ψ.length<=1048576 by omega),show Zy N c.e.2.2.2.2.2.2=ret c.κ from C7 (show c.κ.length<=1048576 by omega)];rfl
theorem Ul:Bg N c.e=ret c.steps:=by
 unfold Bg Cm.steps;obtain⟨f,g,a,h,i,b,d⟩:=cmP c;simp only[Wv,a,b,d,Wi]
 grind
theorem SG(h:CmOk c)(G:1048576<N):yv N c.e=ret true:=by
 obtain⟨x,y,z,A,B,f,o⟩:=cmP c;have M:=h.plen;have K:=h.rlen;have r:=h.who;have t:=h.rv;have l:=h.wv;have s:=h.ζ;have D:=h.pos;have I:cd c.ψ=true:=by unfold cd;rw[G9.2 h.ε,Wc (by omega)];rfl
 unfold yv;simp only[x,y,z,A,B,f,o,CU,WK,C6 (show c.ψ.length<=1048576 by omega) G,Ul,ret,Xd,Wc r.1,Wc r.2,Wc t.1,Wc t.2,Wc l.1,Wc l.2,Wc s.1,Wc s.2,I,c6,Xn,Wb];have R:c.steps<=8:=by unfold Cm.steps;split<;>(try split)<;>omega
 have w:Wz .i64 c.steps 1=c.steps-1:=WJ (by unfold I64;omega);rw[w,Wc D.1,Wc (by omega)];have u:∀(d j n:Nat),j+d=c.κ.length->d<n->qF N c.κ c.e (some ((),(false,()))) (λk E=>(some ((),(true&&true,())))) n (j:Int)=ret true:=by
  intro d
  induction d with
  |zero=>
   intro j n g i;obtain⟨n,rfl⟩:∃n',n=n'+1:=⟨n-1,by omega⟩;simp_all [qF,WN,Xj,Wb]
  |succ d ih=>
   intro j n g i;obtain⟨n,rfl⟩:∃n',n=n'+1:=⟨n-1,by omega⟩;have a:j<c.κ.length:=by omega
   have p:=ih (j+1) n (by omega) (by omega);have P:=h.rd _ (Xt a);have C:bU c.κ[j]=true:=by grind [bU]
   simp only[qF,o,WF a,Wq a,Wu a,Wl (show j<4611686018427387904 by omega),Wa,W2,ret,Xd,C,Xn,Wb,p];by_cases O:j=0
   .grind
   .have e1:decide ((j:Int)>0)=true:=by simp;omega
    have q:Wz .i64 (j:Int) 1=((j-1:Nat):Int):=by grind [WJ,I64]
    have b:j-1<c.κ.length:=by omega
    have H:=hP.1 h.rup (j-1) j b a (by omega);simp_all [Wa,Wq,Wu,Wg]
 have v:∀(d j n:Nat),j+d=c.ψ.length->d<n->1<=j->sS N c.e (some ((),(false,()))) (λL J=>(qF N c.κ c.e (some ((),(false,()))) (λk E=>(some ((),(true&&true,())))) N (0:Int))) n (j:Int)=ret true:=by
  intro d
  induction d with
  |zero=>
   intro j n g i _;obtain⟨n,rfl⟩:∃n',n=n'+1:=⟨n-1,by omega⟩;have:j=c.ψ.length:=by omega
   subst this;simp only[sS,f,WN (Xj _),Wb];exact u c.κ.length 0 N (by omega) (by omega)
  |succ d ih=>
   intro j n g i F;obtain⟨n,rfl⟩:∃n',n=n'+1:=⟨n-1,by omega⟩;have a:j<c.ψ.length:=by omega
   have p:=ih (j+1) n (by omega) (by omega) (by omega);have q:Wz .i64 (j:Int) 1=((j-1:Nat):Int):=by grind [WJ,I64]
   have b:j-1<c.ψ.length:=by omega
   have H:=hP.1 h.pup (j-1) j b a (by omega);simp only[sS,f,WF a,Wq a,Wu a,Wl (show j<4611686018427387904 by omega),Wa,q,Wq b,Wu b]
   grind
 by_cases Q:c.ψ.length=0
 .obtain⟨m,rfl⟩:∃m,N=m+1:=⟨N-1,by omega⟩;rw[sS,f,Wg (by unfold Wi;omega)];exact u c.κ.length 0 _ (by omega) (by omega)
 .exact v (c.ψ.length-1) 1 N (by omega) (by omega) (by omega)
theorem G4(h:CmOk c){n}(a:0<=n/\n<=8):kS N c.e n=some (((lJ c n).e,()),()):=by
 unfold kS lJ;rw[Wv,WJ (by unfold I64;omega)];split<;>rfl
theorem Yd{ph}:E5 N c.e ph=some (((p3 c ph).e,()),()):=by
 obtain⟨h,i,j,k,l,d,f⟩:=cmP c;unfold E5 p3 pZ;simp only[Wv,d,f,Wi];by_cases b:ph=3
 .subst b;by_cases g:c.κ.length=0<;>by_cases a:c.ψ.length=0<;>simp[g,a]<;>rfl
 .by_cases h4:ph=4
  .subst h4;by_cases a:c.ψ.length=0<;>simp[a]<;>rfl
  .simp[b,h4];rfl
theorem WuR(h:CmOk c){ph}:qM N c.e ph=some (((m0 c ph).e,()),()):=by
 obtain⟨d,f,g,b,i,j,k⟩:=cmP c;have l:=h.pos;have m:c.steps<=8:=by have:=h.plen;have:=h.rlen;unfold Cm.steps;split<;>(try split)<;>omega
 have a:Bg N (Cm.e {c with pos:=c.pos+1})=ret c.steps:=Ul;unfold qM m0;rw[b,WA (by unfold I64;omega)];rw[show(c.e.1,(c.e.2.1,(c.e.2.2.1,(c.pos+1,c.e.2.2.2.2))))=Cm.e {c with pos:=c.pos+1}from rfl,a];simp only[ret,Xd,Wv,Yd];split<;>rfl
theorem WtO(h:CmOk c)(k:1048576<N):∃b,IN N c.e=some ((),((gK c).e,(b,()))):=by
 obtain⟨l,m,g,i,n,j,o⟩:=cmP c;have p:=h.pos;have q:=h.plen;have r:c.steps<=8:=by have:=h.plen;have:=h.rlen;unfold Cm.steps;split<;>(try split)<;>omega
 unfold IN gK;rw[TK h];simp only[ret,Xd];rw[SG h k];simp only[ret,Xd,Xn,Wb,Wv,g,i,j,G4 h (show 0<=c.pos/\c.pos<=8 by omega),G4 h (show 0<=Wi c.ψ/\Wi c.ψ<=8 by unfold Wi;omega)];by_cases d:c.ζ=1
 .simp_all
 .rw[We d,We d];by_cases a:c.ζ=2
  .rw[Wf a,Wf a,Wf (.inl a)];exact⟨_,rfl⟩
  .rw[We a];by_cases f:c.ζ=3
   .rw[Wf f,Wf (.inr f)];exact⟨_,rfl⟩
   simp_all
theorem Wpi{l:List Rw}(e:l.length<=1048576)(d:1048576<N):B3 N l=ret ((aA l).map (·.1)):=by
 unfold B3;rw[Gn e d];have m:=po l;have c:=WC (l:=aA l) (V:=List Int) (R:=Unit×(List Int×Unit)) (lp:=λn j v=>xQ N (Wi (aA l)) (aA l) (λg h b=>(some ((),(b,())))) n j v) (n:=N) (by omega)
  (body:=λj x v k=>bif Wx (v.length+ [x.1].length)then k (Xe v [x.1])else none) (K:=λ_ v=>ret v)
  (λn i v a=>by simp only[xQ,WF a,Wq a,Wu a,Wl (show i<4611686018427387904 by omega),Wa])
  (λn v=>by simp[xQ,WN,Xj,Wb]) []
 refine c.trans ?_;rw[vg (f:=λx:Rw=>x.1) (aA l) 0 [] (by simp;omega) (λj x v k _=>rfl)];rfl
theorem WxD{who rv}{ψ κ}(c:1<=who/\who<=99)(b:0<=rv/\rv<=1000000)(f:cd ψ=true)(d:cd κ=true)(a:1048576<N):
  BB N who rv ψ κ=some ((),((kt who rv ψ κ).e,(true,()))):=by
 have h:ψ.length<=300:=by grind [cd]
 have i:κ.length<=300:=by grind [cd]
 unfold BB;simp only[CU,WK,C6 (show ψ.length<=1048576 by omega) a,C6 (show κ.length<=1048576 by omega) a,Gn (show ψ.length<=1048576 by omega) a,Wpi (show κ.length<=1048576 by omega) a,ret,Xd,Wc c.1,Wc c.2,Wc b.1,Wc b.2,f,d,c6,Xn,Wb,Wv];unfold kt Cm.e;by_cases g:(aA ψ).length=0
 .simp_all [Wf,Wi]
 simp_all [We,Wi]
theorem rM{m:Mm}{i}:Xc m.2 (Xb i) ((0:Int),((0:Int),(0:Int)))=aF m i:=rfl
theorem kb(a:W6 m=true){i}(hi:0<=i/\i<=7):inb i m.2.length=true:=by
 grind [WE,inb]
theorem zT{i}(hi:0<=i/\i<=7):bU i=true:=by grind [bU]
theorem Wnb(a:W6 m=true){i who}(hi:0<=i/\i<=7)(b:1<=who/\who<=99)(c:1048576<N):
  F1 N m i who=some ((),((if(aF m i).2.2=0 then HW m i who else m),(decide ((aF m i).2.2=0),()))):=by
 unfold F1;rw[Gp a,zA (by grind [WE]) c,a];simp only[ret,Xd,Xn,Wb,W2,zT hi,CU,Wc b.1,Wc b.2,c6,kb a hi,Wa,rM,eZ];by_cases h:(aF m i).2.2=0
 .rw[Wf h,Wf h,Wc h];rfl
 simp_all
theorem Wlo(a:W6 m=true){i who v}(hi:0<=i/\i<=7)(c:1<=who/\who<=99)(e:0<=v/\v<=65535)(d:1048576<N):
  ∃b,LH N m i who v=some ((),(v8 m i who v,(b,()))):=by
 unfold LH v8;rw[Gp a,zA (by grind [WE]) d,a];simp only[ret,Xd,Xn,Wb,W2,zT hi,CU,ka,gH.2 e,Wc c.1,Wc c.2,c6,kb a hi,Wa,rM,eZ];by_cases h:(aF m i).2.2=who
 .rw[Wf h,Wf h];exact⟨_,rfl⟩
 simp_all
theorem R5(c:W6 m=true){i who ver}(hi:0<=i/\i<=7)(d:1<=who/\who<=99)(e:1048576<N):
  ∃b,FP N m i who ver=some ((),(rU m i who ver,(b,()))):=by
 have f:=(WE c).1;unfold FP rU;rw[Gp c,zA (by omega) e,c];simp only[ret,Xd,Xn,Wb,W2,zT hi,CU,WK,Wc d.1,Wc d.2,c6,kb c hi,Wa,rM,eZ,cY,Wk];by_cases h:(aF m i).2.2=who
 .rw[Wf h];by_cases a:(aF m i).2.1<=ver/\ver<=m.1
  .rw[Wf ⟨h,a.1,a.2⟩,Wc a.1,Wc a.2];refine⟨true,?_⟩;have:i.toNat<m.2.length:=by omega
   simp only[c6,Xn,Wb,Sa this,nk];rfl
  .refine⟨false,?_⟩
   grind
 simp_all
theorem WnW(h:CmOk c)(i:W6 m=true)(l:1048576<N):IF N m c.e=some ((),((ko m c).1,((ko m c).2.e,()))):=by
 obtain⟨A,B,C,D,E,F,G⟩:=cmP c;have H:=h.pos;have I:=h.plen;have s:=h.who;have J:c.steps<=8:=by have:=h.plen;have:=h.rlen;unfold Cm.steps;split<;>(try split)<;>omega
 have y:=G4 (N:=N) h (show 0<=c.pos/\c.pos<=8 by omega);have z:=G4 (N:=N) h (show 0<=Wi c.ψ/\Wi c.ψ<=8 by unfold Wi;omega);unfold IF ko;rw[Gp i,TK h];simp only[ret,Xd];rw[zA (by grind [WE]) l,SG h l,i];simp only[ret,Xd,Xn,Wb,Wv,A,B,C,D,E,F,G,gI,y,z,WuR h];by_cases t:c.ζ=1
 .obtain⟨j,k,f,d,g,n⟩:=h.put (by omega);rw[show Xc c.ψ (Xb c.pos) ((0:Int),(0:Int))=c.ψ[j]from d,d,f,WH,Wc k,Wnb i g s l,←f]
  grind
 .rw[We t,We t];by_cases p:c.ζ=2
  .rw[Wf p,Wf p,Wop i l];simp only[Xd];by_cases q:(tick m).2=0
   .rw[Wf q,Wf q];rfl
   .rw[We q,We q];rw[show(c.who,(c.rv,(c.ζ,(c.pos,((tick m).2,c.e.2.2.2.2.2)))))=Cm.e {c with wv:=(tick m).2}from rfl,Yd];rfl
  .rw[We p,We p];by_cases o:c.ζ=3
   .rw[Wf o,Wf o];obtain⟨j,k,f,d,g,n⟩:=h.read o;rw[show Xc c.κ (Xb c.pos) (0:Int)=c.κ[j]from d,d,f,WH,Wc k,kb i ⟨g,n⟩];simp only[Wa,eZ,W0];rw[show Xc m.2 (Xb c.κ[j]) ((0:Int),((0:Int),(0:Int)))=aF m c.κ[j]from rfl];by_cases a:(aF m c.κ[j]).2.2=0
    .rw[Wf a];by_cases b:(aF m c.κ[j]).2.1>c.rv
     .rw[Wf b,Wf (.inr b)];rfl
     grind
    .rw[We a];by_cases r:(aF m c.κ[j]).2.2=c.who
     .rw[Wf r];by_cases b:(aF m c.κ[j]).2.1>c.rv
      .rw[Wf b,Wf (.inr b)];rfl
      grind
     .rw[We r,Wf (.inl ⟨a,r⟩)];rfl
   .rw[We o,We o];by_cases u:c.ζ=4
    .obtain⟨j,k,f,d,g,n⟩:=h.put (by omega)
     grind [Wlo,Xc,Xb,WH,decide_eq_true]
    .rw[We u,We u];by_cases v:c.ζ=5
     .obtain⟨j,k,f,d,g,n⟩:=h.put (by omega);obtain⟨b,x⟩:=R5 (ver:=c.wv) i g s l
      grind [Xc,Xb,WH,decide_eq_true]
     .rw[We v,We v];by_cases w:c.ζ=7
      .rw[Wf w,Wf w];obtain⟨j,k,f,d,g,n⟩:=h.put (by omega);obtain⟨b,x⟩:=R5 (ver:=(aF m c.ψ[j].1).2.1) i g s l;rw[show Xc c.ψ (Xb c.pos) ((0:Int),(0:Int))=c.ψ[j]from d,d,f,WH,Wc k,kb i g];simp only[Wa,rM,x,←f];rfl
      simp_all
end
end
section
abbrev RM:=Int×Int×Int×Int×List Int
abbrev Wr:=Int×Int×List Rw
abbrev Pg:=List Opn×List (List Opn)
abbrev Ac:=Int×Int×Int
abbrev Sc:=Kf×List Pg×List Ac
structure Rt where
 ζ:Int:=0
 χ:Int:=0
 EL:Int:=0
 pc:Int:=0
 rv:Int:=0
 EQ:Int:=0
 pos:Int:=0
 EN:Int:=0
 ES:Int:=0
 ET:Int:=0
 EO:Int:=0
 EJ:Bool:=false
 ξ:List Int:=[]
 κ:List Rw:=[]
 ι:List Rw:=[]
 θ:List RM:=[]
 υ:List Un:=[]
 EK:List Int:=[]
 EI:Bool:=false
 pb:Pb:=(0,0,0,0)
 cm:Cm:={}
 fam:Fm:={}
def Rt.e(r:Rt):Y_Root:=(r.ζ,r.χ,r.EL,r.pc,r.rv,r.EQ,r.pos,r.EN,r.ES,r.ET,r.EO,r.EJ,r.ξ,r.κ,r.ι,r.θ,r.υ,r.EK,r.EI,r.pb,r.cm.e,r.fam.e)
structure Wo where
 now:Int:=0
 ω:Int:=0
 mem:Mm:=(0,[])
 ο:Shf:=([],0)
 holds:List Hd:=[]
 η:List Rt:=[]
 EF:List Wr:=[]
def Wo.e(w:Wo):Y_World:=(w.now,w.ω,w.mem,w.ο,w.holds,w.η.map Rt.e,w.EF)
def zRM:RM:=(0,0,0,0,[])
def Rt.last(x:Rt):RM:=jx x.θ zRM
def hF(x:Rt):Rt:={ζ:=6,χ:=x.χ,υ:=x.υ}
def lr(x:Rt):Rt:=
 if x.θ.length=0\/x.EL=2 then hF x else{x with EL:=x.EL+1,EI:=false,pb:=(0,0,0,0),ζ:=3}
def gq(w:Wo)(x:Rt):Wo×Rt:=({w with ο:=vJ w.ο (jx x.υ (0,0,0))},{x with υ:=x.υ.dropLast})
def fg(w:Wo)(x:Rt)(k:Nat):Wo×Rt:=
 ({w with ω:=if w.ω=(k:Int)+1 then 0 else w.ω},{x with ζ:=8,EO:=w.now,υ:=[],EJ:=false})
def jg(w:Wo)(x:Rt)(k:Nat)(out:Int):Wo×Rt:=
 let ε:=if out=2 then []else x.ι
 if ε.length=0/\(pu w.holds ((k:Int)+1)).length=0 then fg w {x with EN:=out,ES:=x.rv} k
 else(w,{x with EN:=out,cm:=kt ((k:Int)+1) x.rv ε x.κ,ζ:=5})
def m6(w:Wo)(x:Rt)(o:Opn):Rt:=
 match df x.ι o.2.2.1 with
 |some v=>{x with ξ:=iF x.ξ o.2.1 v,pc:=x.pc+1}
 |none=>
  let p:=cL w.mem x.rv (if x.EI then x.pb else(o.2.2.1,0,0,0))
  if p.2.1=4 then lr {x with EI:=true,pb:=p}
  else if p.2.1=3 then{x with ξ:=iF x.ξ o.2.1 p.2.2.2,κ:=x.κ++ [(o.2.2.1,p.2.2.2)],EI:=false,pb:=(0,0,0,0),pc:=x.pc+1}
  else{x with EI:=true,pb:=p}
def sa(w:Wo)(x:Rt)(k:Nat)(μ:List Opn):Wo×Rt:=
 if x.θ.length=0 then jg w x k 2 else
 if(x.υ.length:Int)>x.last.2.2.2.1 then gq w x else
 (w,{x with θ:=x.θ.dropLast,ξ:=iF x.last.2.2.2.2 (opN μ x.last.1).2.1 0,ι:=x.ι.take x.last.2.2.1.toNat,pc:=nY μ x.last.1.toNat+1})
def jq(w:Wo)(x:Rt)(k:Nat)(o:Opn):Wo×Rt:=
 match mX w.holds ((k:Int)+1) (cQ o).1 (cQ o).2 with
 |none=>(w,lr x)
 |some hs=>
  let b:=eX w.ο o x.ξ
  ({w with holds:=hs,ο:=b.1},{x with ξ:=b.2.1,υ:=if b.2.2.1=0 then x.υ else x.υ++ [b.2.2],pc:=x.pc+1})
def gw(w:Wo)(x:Rt)(k:Nat)(p:Pg):Wo×Rt:=
 if x.pc>=p.1.length then jg w x k 1 else
 let o:=opN p.1 x.pc
 if o.1=5 then(w,m6 w x o)else
 if o.1=10 then sa w x k p.1 else
 if o.1=11 then(w,{x with ζ:=2,fam:=iq x.rv x.ξ x.ι p.2.length})else
 if o.1>=12 then jq w x k o else
 if o.1=6 then(w,{x with ι:=x.ι++ [(o.2.1,al x.ξ o.2.2.1 0)],pc:=x.pc+1})else
 if o.1=7 then(w,{x with pc:=(if al x.ξ o.2.1 0=0 then x.pc+o.2.2.1 else x.pc)+1})else
 if o.1=8 then(w,{x with θ:=x.θ++ [(x.pc,(x.κ.length:Int),(x.ι.length:Int),(x.υ.length:Int),x.ξ)],pc:=x.pc+1})else
 if o.1=9 then(w,{x with θ:=x.θ.dropLast,ξ:=iF x.ξ (opN p.1 x.last.1).2.1 1,pc:=x.pc+1})else
 (w,{x with ξ:=sn o x.ξ,pc:=x.pc+1})
def j8(k:Nat):List Rt->Nat->Bool
 | [],_=>true
 |x::l,i=>(decide (i=k)||(decide (x.ζ=0)||decide (x.ζ=8)))&&j8 k l (i+1)
def gj(w:Wo)(x:Rt)(k:Nat):Wo×Rt:=
 if w.ω≠0/\w.ω≠(k:Int)+1 then(w,x)else
 if x.χ>=3/\w.ω=0 then({w with ω:=(k:Int)+1},x)else
 if w.ω=(k:Int)+1/\j8 k w.η 0=false then(w,x)else
 (w,{ζ:=1,χ:=x.χ,rv:=w.mem.1,ET:=w.now,ξ:=[0,0,0,0]})
def kB(x:Rt):Rt:=
 if x.fam.EP then hF x else
 if lx x.fam then{x with ξ:=vD x.fam,ι:=z7 x.fam,κ:=x.κ++x.fam.κ,EK:=x.fam.EK,fam:={},ζ:=1,pc:=x.pc+1}
 else x
def ij(w:Wo)(x:Rt):Wo×Rt:=
 if(x.υ.length:Int)>x.last.2.2.2.1 then gq w x else(w,{x with EQ:=w.mem.1,pos:=0,ζ:=4})
def ja(w:Wo)(x:Rt):Rt:=
 if x.pos<x.last.2.1 then
  let c:=aF w.mem (al x.κ x.pos (0,0)).1
  if c.2.2≠0\/c.2.1>x.rv then hF x else{x with pos:=x.pos+1}
 else{x with rv:=x.EQ,EQ:=0,pos:=0,κ:=x.κ.take x.last.2.1.toNat,ι:=x.ι.take x.last.2.2.1.toNat,ξ:=x.last.2.2.2.2,pc:=x.last.1+1,ζ:=1}
def Al(x:Rt):Rt:=
 if x.cm.ζ=8 then hF x else
 if x.cm.ζ=6 then{x with ES:=x.cm.wv,cm:={},ζ:=if x.EN=2 then 6 else 7}else x
def gM(w:Wo)(x:Rt)(k:Nat):Wo×Rt:=
 if x.EJ then(w,if(gK x.cm).ζ=8 then hF x else{x with cm:=gK x.cm,EJ:=false})else
 let q:=ko w.mem x.cm
 ({w with mem:=q.1,EF:=if x.cm.ζ<=3/\q.2.ζ=4 then w.EF++ [(q.2.wv,(k:Int)+1,q.2.ψ)]else w.EF},Al {x with cm:=q.2})
def iz(w:Wo)(x:Rt)(k:Nat)(p:Pg):Wo×Rt:=
 if x.EJ=true/\1<=x.ζ/\x.ζ<=4 then(w,hF x)else
 if x.ζ=0 then gj w x k else
 if x.ζ=1 then gw w x k p else
 if x.ζ=2 then(w,kB x)else
 if x.ζ=3 then ij w x else
 if x.ζ=4 then(w,ja w x)else
 if x.ζ=5 then gM w x k else
 if x.ζ=6 then(if x.υ.length>0 then gq w x else(w,{x with ζ:=7}))else
 if x.ζ=7 then
  (if x.EN=0 then({w with holds:=WX w.holds ((k:Int)+1)},{χ:=x.χ+1})
   else fg {w with holds:=WX w.holds ((k:Int)+1)} x k)
 else(w,x)
def Wo.put(q:Wo×Rt)(k:Nat):Wo:={q.1 with η:=q.1.η.set k q.2}
def rt0:Rt:={}
def pg0:Pg:=([],[])
def Ee(w:Wo)(k:Nat)(p:Pg):Wo:=Wo.put (iz w (w.η.getD k rt0) k p) k
def ZO(w:Wo)(x:Rt)(k j:Nat)(p:Pg):Wo:=Wo.put (w,{x with fam:=jz w.mem x.fam j (p.2.getD j [])}) k
def eD(s:Sc)(w0:Wo)(a:Ac):Wo:=
 let w:={w0 with now:=w0.now+1}
 if 0<=a.2.1/\a.2.1<w.η.length then
  let k:=a.2.1.toNat
  let x:=w.η.getD k rt0
  let p:=s.2.1.getD k pg0
  if a.1=1 then Ee w k p else
  if a.1=2 then(if x.ζ=2/\0<=a.2.2/\a.2.2<p.2.length then ZO w x k a.2.2.toNat p else w)else
  if a.1=3 then(if(1<=x.ζ/\x.ζ<=4)\/(x.ζ=5/\x.cm.ζ<=3)then Wo.put (w,{x with EJ:=true}) k else w)else w
 else w
def lW(s:Sc):Wo:={mem:=D8 s.1.1,ο:=(Af s.1.2.1,s.1.2.2),η:=Xp s.2.1.length {}}
def ea(s:Sc):Wo:=s.2.2.foldl (eD s) (lW s)
structure RMk(μ:List Opn)(pc:Nat)(θ:List RM)(rl wl ul:Nat):Prop where
 pcs:θ.map (·.1)=(stk μ pc).map λm:Nat=>(m:Int)
 each:∀q∈θ,Vals 4 q.2.2.2.2/\(0<=q.2.1/\q.2.1<=q.1+72*frk μ q.1.toNat/\q.2.1<=rl)/\(0<=q.2.2.1/\q.2.2.1<=q.1+8/\q.2.2.1<=wl)/\0<=q.2.2.2.1/\q.2.2.2.1<=q.1/\q.2.2.2.1<=ul
 up:θ.Pairwise λa b=>a.2.1<=b.2.1/\a.2.2.1<=b.2.2.1/\a.2.2.2.1<=b.2.2.2.1
structure RLive(p:Pg)(n:Int)(x:Rt):Prop where
 pc:0<=x.pc/\x.pc<=p.1.length
 EL:0<=x.EL/\x.EL<=2
 rv:0<=x.rv/\x.rv<=1000000
 ξ:Vals 4 x.ξ
 κ:iD x.κ
 rl:(x.κ.length:Int)<=x.pc+72*frk p.1 x.pc.toNat
 ι:iD x.ι
 wl:(x.ι.length:Int)<=x.pc+8
 ul:(x.υ.length:Int)<=x.pc
 θ:RMk p.1 x.pc.toNat x.θ x.κ.length x.ι.length x.υ.length
 pb:x.EI=true->ed x.pb=true
 fork:x.ζ=2->x.pc<p.1.length/\(opN p.1 x.pc).1=11/\FOk p.2 n x.fam
 back:x.ζ=3\/x.ζ=4->x.θ.length≠0
 EQ:0<=x.EQ/\x.EQ<=1000000
 pos:x.ζ=4->0<=x.pos/\x.pos<=x.last.2.1
 unw:x.ζ=4->(x.υ.length:Int)<=x.last.2.2.2.1
structure ROk(p:Pg)(n:Int)(x:Rt):Prop where
 ζ:0<=x.ζ/\x.ζ<=8
 χ:0<=x.χ/\x.χ<=n
 EH:1<=x.ζ/\x.ζ<=4->RLive p n x
 comm:x.ζ=5->CmOk x.cm
 υ:∀u∈x.υ,UnV u
 ul:x.υ.length<=24
 rg:x.ξ.length<=4
 ord:x.EK.length<=3
structure POk(p:Pg):Prop where
 μ:CC p.1
 π:∀c∈p.2,KC c
 k3:p.2.length<=3
def HE(h:Wr):Prop:=h.2.2.length<=8/\iD h.2.2/\1<=h.2.1/\h.2.1<=9
structure WOk(ps:List Pg)(n:Int)(w:Wo):Prop where
 len:w.η.length=ps.length
 l4:ps.length<=4
 progs:∀p∈ps,POk p
 now:w.now=n
 n0:0<=n
 mem:W6 w.mem=true
 ο:ShOk w.ο
 holds:HOk w.holds
 EF:(w.EF.length:Int)<=n
 histE:∀h∈w.EF,HE h
 root:∀(k:Nat) (h:k<w.η.length),ROk (ps.getD k pg0) n w.η[k]
end
section
theorem rtP(x:Rt):x.e.1=x.ζ/\x.e.2.1=x.χ/\x.e.2.2.1=x.EL/\x.e.2.2.2.1=x.pc/\P4 x.e=x.rv/\P5 x.e=x.EQ/\P6 x.e=x.pos/\P7 x.e=x.EN/\P8 x.e=x.ES/\P11 x.e=x.EJ/\P12 x.e=x.ξ/\P13 x.e=x.κ/\P14 x.e=x.ι/\P15 x.e=x.θ/\P16 x.e=x.υ/\P18 x.e=x.EI/\P19 x.e=x.pb/\P20 x.e=x.cm.e/\Q21 x.e=x.fam.e/\P24 x.e=x.fam.EP/\P28 x.e=x.fam.EK/\P29 x.e=x.fam.κ:=
 ⟨rfl,rfl,rfl,rfl,rfl,rfl,rfl,rfl,rfl,rfl,rfl,rfl,rfl,rfl,rfl,rfl,rfl,rfl,rfl,rfl,rfl,rfl⟩
theorem S5e(w:Wo)(k)(x):S5 (Xf (w.η.map Rt.e) k x.e) w.e=Wo.e {w with η:=w.η.set k x}:=by
 unfold S5 Wo.e;rw[O5]
theorem aN{w w':Wo}{k}{x'}{y}{g}(c:y=x'.e)(a:g=w'.e)(b:w'.η=w.η):
  some ((S5 (Xf (w.η.map Rt.e) k y) g,()),())=some (((Wo.put (w',x') k).e,()),()):=by
 subst c a;rw[←b,S5e];rfl
variable{N:Nat}{w:Wo}{k:Nat}{x:Rt}{o:Opn}{p:Pg}{n:Int}{μ:List Opn}
theorem woG(hk)(a:w.η[k]=x):Xc (w.η.map Rt.e) k d_Root=x.e/\Xc (w.η.map Rt.e) (Xb (k:Int)) d_Root=x.e/\S5 (Xf (w.η.map Rt.e) (Xb (k:Int)) x.e) w.e=w.e/\inb (k:Int) (w.η.map Rt.e).length=true/\S5 (Xf (w.η.map Rt.e) k x.e) w.e=w.e:=by
 have b:Xc (w.η.map Rt.e) k d_Root=x.e:=by
  have:=UE Rt.e w.η k {};rw[WB hk,a]at this;exact this
 have c:S5 (Xf (w.η.map Rt.e) k x.e) w.e=w.e:=by rw[S5e,←a,jT]
 rw[Xk];refine⟨b,b,c,?_,c⟩;rw[WH,Xu];exact Wc hk
theorem Ni(hk)(a:w.η[k]=x):Wo.put (w,x) k=w:=by
 unfold Wo.put;simp only;rw[←a,jT]
theorem zU:nm N x.e=some (((hF x).e,()),()):=rfl
theorem LY(r:0<=x.EL/\x.EL<=2):Bf N x.e=some (((lr x).e,()),()):=by
 obtain⟨s,t,d,u,v,w,y,z,A,p,g,h,i,b,j,k,l,f,q,m,n,o⟩:=rtP x;unfold Bf lr;simp only[Wv,b,d,Wi,zU,Xd];by_cases c:x.θ.length=0
 .rw[Wf (by omega),Wf (.inl c)]
 .rw[We (by omega)];by_cases a:x.EL=2
  .rw[Wf a,Wf (.inr a)]
  .rw[We a,We (by omega),WA (by unfold I64;omega)];rfl
theorem nK{α}{l}(h:l.length≠0)(a:l.length<=1000)(d:α):inb (Wz .i64 (Wi l) 1) l.length=true/\Xc l (Xb (Wz .i64 (Wi l) 1)) d=jx l d/\ah (Xb (Wz .i64 (Wi l) 1)) l=l.dropLast/\(decide ((0:Int)<=Wz .i64 (Wi l) 1)&&decide (Wz .i64 (Wi l) 1<=(l.length:Int)))=true:=by
 have e:Wz .i64 (Wi l) 1=((l.length-1:Nat):Int):=by rw[vX (by omega)];omega
 rw[e];refine⟨by exact Wc (by omega),by rfl,by rw[Xk,List.dropLast_eq_take],by simp⟩
theorem Ua(h:x.θ.length≠0)(f:x.θ.length<=1000):Bi N x.e=some ((),((x.last.1,(x.last.2.1,(x.last.2.2.1,x.last.2.2.2.1))),())):=by
 obtain⟨a,b,c,d⟩:=nK h f zRM;unfold Bi;rw[show P15 x.e=x.θ from rfl,a];rw[show((0:Int),((0:Int),((0:Int),((0:Int),([]:List Int)))))=zRM from rfl,b];rfl
theorem M9(hk)(g:w.η[k]=x)(n:x.υ.length≠0)(j:x.υ.length<=1000)(m:∀u∈x.υ,UnV u)(l:ShOk w.ο)(i:1048576<N):
  tv N w.e k=some (((Wo.put (gq w x) k).e,()),()):=by
 obtain⟨h,o,p,q,r⟩:=woG hk g;obtain⟨a,b,c,d⟩:=nK n j ((0,0,0):Un);have f:jx x.υ ((0,0,0):Un)∈x.υ:=by
  unfold jx;rw[WB (by omega)];exact Xt _
 unfold tv gq;simp only[Wk];rw[show P5 w.e=w.η.map Rt.e from rfl,h];rw[show x.e.2.2.2.2.2.2.2.2.2.2.2.2.2.2.2.2.1=x.υ from rfl,a,b,show w.e.2.2.2.1=w.ο from rfl,Wjz l (m _ f) i,c];simp only[Wa,Xd,d];exact aN rfl rfl rfl
theorem X1(hk)(a:w.η[k]=x)(i:k<=1000):BA N w.e (k:Int)=some (((Wo.put (fg w x k) k).e,()),()):=by
 obtain⟨d,b,f,c,g⟩:=woG hk a;unfold BA fg;rw[show P5 w.e=w.η.map Rt.e from rfl,c,b,aw (by omega),Xk];simp only[Wa,Wv];rw[show w.e.2.1=w.ω from rfl];by_cases h:w.ω=(k:Int)+1
 .simp only[Wf h];exact aN rfl rfl rfl
 .simp only[We h];exact aN rfl rfl rfl
theorem UI(hk)(o:w.η[k]=x)(U:k<=8)(g:HOk w.holds)(C:0<=x.rv/\x.rv<=1000000)(z:cd x.κ=true)(A:cd x.ι=true){out}(f:1048576<N):
  Fb N w.e (k:Int) out=some (((Wo.put (jg w x k out) k).e,()),()):=by
 obtain⟨J,t,K,u,L⟩:=woG hk o;obtain⟨V,W,X,Y,D,Z,r6,r7,r8,S,G,r,s,H,I,M,O,F,T,P,Q,R⟩:=rtP x;have s0:=vn g;have E:∀y:Rt,BA N (S5 (Xf (w.η.map Rt.e) (Xb (k:Int)) y.e) w.e) (k:Int)=some (((Wo.put (fg w y k) k).e,()),()):=λy=>by
  rw[Xk,S5e];have v:k<({w with η:=w.η.set k y}:Wo).η.length:=by simpa using hk
  rw[X1 (x:=y) v (by simp) (by omega)];unfold fg Wo.put;simp only[nk]
 unfold Fb jg;simp only[Wk];rw[show P5 w.e=w.η.map Rt.e from rfl,u,t,aw (by omega),show P4 w.e=w.holds from rfl];have m:∀{α:Type} (a b:α),(bif ((0:Int)==(0:Int))then a else b)=a:=λ_ _=>rfl;have n:∀{α:Type} (a b:α),(bif ((0:Nat)==(0:Nat))then a else b)=a:=λ_ _=>rfl;simp only[m,n];simp only[Wa,Wv,D,r,s,WiE (who:=(k:Int)+1) g (by omega) f,ret,Xd,Wi];have j:∀ε,cd ε=true->BB N ((k:Int)+1) x.rv ε x.κ=some ((),((kt ((k:Int)+1) x.rv ε x.κ).e,(true,()))):=λl B=>WxD (by omega) C B z f;have q:=j [] rfl;have p:(S8 x.rv (S7 out x.e))=Rt.e {x with EN:=out,ES:=x.rv}:=rfl;rw[q,j _ A,p,E];simp only[Xd];by_cases d:out=2
 .rw[Wf d,Wf d];by_cases c:(pu w.holds ((k:Int)+1)).length=0
  .rw[Wf (by omega),Wf ⟨rfl,c⟩]
  .rw[We (by omega),We (λh=>c h.2),Xk];exact aN rfl rfl rfl
 .rw[We d,We d];by_cases i:x.ι.length=0
  .rw[Wf (by omega)];by_cases c:(pu w.holds ((k:Int)+1)).length=0
   .rw[Wf (by omega),Wf ⟨i,c⟩]
   .rw[We (by omega),We (λh=>c h.2),Xk];exact aN rfl rfl rfl
  .rw[We (by omega),We (λh=>i h.1),Xk];exact aN rfl rfl rfl
theorem UH{l}(h:iD l)(a:l.length<=300):cd l=true:=by
 unfold cd;rw[G9.2 h,Wc a];rfl
theorem Yh(a:CC μ):∀j,j<=μ.length->frk μ j<=1
 |0,_=>by simp[frk]
 |j+1,h=>by
  have b:j<μ.length:=by omega
  by_cases c:μ[j].1=11
  .exact(a.fk j b c).2
  .rw[GZ b,show(μ[j].1==11)=false by simpa using c];have:=Yh a j (by omega);simpa using this
theorem RLive.sz(a:CC p.1)(h:RLive p n x):x.κ.length<=96/\x.ι.length<=32/\x.υ.length<=24/\x.θ.length<=24/\cd x.κ=true/\cd x.ι=true:=by
 have c:=h.pc;have d:=a.len;have e:=Yh a x.pc.toNat (by omega);have f:=h.rl;have g:=h.wl;have i:=h.ul;have b:=Ws Xa h.θ.pcs;simp only[Xu]at b;have j:=eY a.up x.pc.toNat (by omega);have k:=(gc p.1 x.pc.toNat).2;exact⟨by omega,by omega,by omega,by omega,UH h.κ (by omega),UH h.ι (by omega)⟩
theorem NP(a:x.EI=true->ed x.pb=true){c}(b:0<=c/\c<=7):ed (if x.EI then x.pb else(c,0,0,0))=true:=by
 split
 .exact a ‹_›
 .rw[zV];simp only;omega
theorem WvJ(hk)(m:w.η[k]=x)(j:CC p.1)(d:RLive p n x)(l:W6 w.mem=true)(C:o.1=5)(E:aT o=true)(h:1048576<N):
  IE N w.e k o=some (((Wo.put (w,m6 w x o) k).e,()),()):=by
 obtain⟨z,Q,R,S,T⟩:=woG hk m;obtain⟨Z,r1,r2,H,I,r5,r6,r7,r8,X,t,u,y,O,P,A,B,M,Y,U,V,W⟩:=rtP x;obtain⟨z1,z2,z3,z4,z5,z6⟩:=d.sz j;obtain⟨D,f⟩:=AQ E C;have g:0<=o.2.2.1/\o.2.2.1<=7:=by unfold bU at f;simpa using f
 have r:=d.ξ.len;have K:=d.pc;have L:=j.len;have i:=d.EL;unfold IE m6;simp only[Wk];rw[show P5 w.e=w.η.map Rt.e from rfl,z,show w.e.2.2.1=w.mem from rfl];simp only[H,I,t,u,y,A,B];rw[L0 (by omega) h,WW D r,aw (by omega)];cases hl:df x.ι o.2.2.1 with
 |some v=>
  exact aN rfl rfl rfl
 |none=>
  have G:yu N o.2.2.1=some ((),((o.2.2.1,0,0,0),(true,()))):=by
   unfold yu;rw[W2,f];rfl
  have c:=NP d.pb g;have J:S18 true x.e=Rt.e {x with EI:=true}:=rfl;simp only[opI,Xd,Wb,Wv,G,J];have F:∀q:Pb,S19 q (Rt.e {x with EI:=true})=Rt.e {x with EI:=true,pb:=q}:=λq=>rfl;simp only[F,LY (x:={x with EI:=true,pb:=_}) i];cases hb:x.EI with
  |false=>
   rw[hb]at c;simp only[dL,dO]at c;rw[Gz l c h];simp only[fx,Wa,ret,Xd,dL,dO];generalize cL w.mem x.rv (o.2.2.1,0,0,0)=q;by_cases b:q.2.1=4
   .rw[Wf b,Wf b];exact aN rfl rfl rfl
   .rw[We b,We b];by_cases a:q.2.1=3
    .rw[Wf a,Wf a,Wp (by simp;omega)];exact aN rfl rfl rfl
    .rw[We a,We a];exact aN rfl rfl rfl
  |true=>
   have s:∀q:Pb,S19 q x.e=Rt.e {x with EI:=true,pb:=q}:=λq=>by
    have:S19 q x.e=Rt.e {x with pb:=q}:=rfl;rw[this]
    conv=>lhs;rw[show({x with pb:=q}:Rt)={x with EI:=x.EI,pb:=q}from rfl,hb]
   rw[hb]at c;simp only[W1]at c;rw[Gz l c h];simp only[Xn,Wb,ret,Xd,W1,s,LY (x:={x with EI:=true,pb:=_}) i];generalize cL w.mem x.rv x.pb=q;by_cases b:q.2.1=4
   .rw[Wf b,Wf b];exact aN rfl rfl rfl
   .rw[We b,We b];by_cases a:q.2.1=3
    .rw[Wf a,Wf a,Wp (by simp;omega)];exact aN rfl rfl rfl
    .rw[We a,We a];exact aN rfl rfl rfl
end
end Go.Sx
