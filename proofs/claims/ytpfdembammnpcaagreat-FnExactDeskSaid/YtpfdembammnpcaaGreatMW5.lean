/- Plain laws of the Lean functions. -/
import Derived.Test.YtpfdembammnpcaaGreatMW4
open List renaming range→cK,length→Xb,getD→Xc,getElem_mem→Xy,length_map→Xt,getElem_map→nU,drop_length→fr,drop_eq_getElem_cons→dY,map_cons→bz,flatMap_cons→pU,append_assoc→fq,cons_append→dO,nil_append→df,drop_zero→eC,all_cons→dG,mem_cons→Xr,not_mem_nil→mB,length_cons→Xs,replicate→Xk
open Option renaming bind_some→Xd
open Bool renaming not_true→Xn,and_eq_true→Xh,not_false→bS,true_and→d3
open Int renaming toNat→Xa,toNat_natCast→Xj
open Nat renaming le_refl→Xm,zero_add→bX,le_trans→fP
namespace Go.Sx
set_option linter.unusedVariables false
set_option linter.unusedSimpArgs false
section
section
variable{N:Nat}{l:List Int}
theorem WwA(h:SlOk l)(f:1048576<N):Cf N l=ret ((cK 8).map λi:Nat=>aX l (i:Int)):=by
 unfold Cf;rw[CK h f];simp only[ret,Xd,Xn,Wb];have m:∀(d j a:Nat),j+d=8->d<a->xA N l (λs q k=>(some ((),(k,())))) a (j:Int) ((cK j).map λi:Nat=>aX l (i:Int))=ret ((cK 8).map λi:Nat=>aX l (i:Int)):=by
  intro d
  induction d with
  |zero=>
   intro j a o n;obtain⟨g,rfl⟩:∃g,a=g+1:=⟨a-1,by omega⟩;have:j=8:=by omega
   subst this;rfl
  |succ d b=>
   intro j a o n;obtain⟨g,rfl⟩:∃g,a=g+1:=⟨a-1,by omega⟩;have b:=b (j+1) g (by omega) (by omega);rw[List.range_succ,List.map_append,List.map_singleton]at b;have r:=lQ l (j:Int);have p:∀z:Int,Wx ((Xb ((cK j).map λi:Nat=>aX l (i:Int)))+(Xb [z]))=true:=λz=>Wn (by simp;omega);rw[xA,Wc (show(j:Int)<8 by omega),Wa,QS h ⟨by omega,by omega⟩ f];simp only[Xd,p,Wa,Wk (show j<4611686018427387904 by omega)];by_cases c:aX l (j:Int)=0
   .rw[Wi (by simp[c]),Wb,Wf c];rw[c]at b;exact b
   .rw[Wc c,Wa,We c];have e:Wj .i64 (aX l (j:Int) -1) 1=aX l (j:Int):=by
     rw[WD (by unfold I64;omega)];omega
    rw[e];exact b
 exact m 8 0 N (by omega) (by omega)
end
section
variable{N:Nat}{d:Sc}{v:Wo}
noncomputable def qS(N:Nat)(d:Sc)(cmd:List UInt8)(n:List Int):Option (Unit×(Sc×(List UInt8×Unit))):=
 (Ze N d).bind λo=>(bif !o.2.1 then some ((),(d,(([110,111]:List UInt8),())))else(Zi N d cmd n).bind λo=>some ((),(d,(o.2.1,()))))
structure VW(d:Sc)(v:Wo):Prop where
 ok:∃n,WOk d.2.1 n v
 ft:gK v
theorem Wxa(a:cI d=true):VW d (dI d):=⟨⟨_,F0 a⟩,XI⟩
theorem Dg(e:cI d=true):VW d (cz d 6000 (dI d)).1:=by
 obtain⟨f,g,h,i⟩:=qQ e;obtain⟨n,a,b,c⟩:=TR (s:=d) (by omega) 6000 _ _ (Mu d.2.2 0 _ (zl e)) (Mx d.2.2 0 _ (zl e) VP);exact⟨⟨n,b⟩,Vp _ _ XI⟩
theorem VQ(h:VW d v){n:Int}(b:0<=n/\n<=Wv .i64 (Wh d.2.1) 1)(g:d.2.1.length<=4):∃x:Rt,F3 x/\inb n (Xb v.e.2.2.2.2.2.1)=true/\Xc v.e.2.2.2.2.2.1 n.toNat d_Root=x.e:=by
 obtain⟨m,f⟩:=h.ok;have a:v.e.2.2.2.2.2.1=v.η.map Rt.e:=rfl;rw[WM (by unfold I64 Wh;omega)]at b;unfold Wh at b;have c:n.toNat<v.η.length:=by rw[f.len];omega
 refine⟨v.η[n.toNat],h.ft _ (Xy c),?_,?_⟩
 .rw[a];unfold inb;rw[Xt];simp only[Xh,Wg];omega
 .rw[a,WA (show n.toNat<(v.η.map Rt.e).length by simpa using c),nU]
theorem Wwu(h:VW d v){n:Int}(b:bO n=true):inb n (Xb v.e.2.2.1.2)=true/\I64 (Xc v.e.2.2.1.2 n.toNat ((0:Int),((0:Int),(0:Int)))).1:=by
 obtain⟨m,i⟩:=h.ok;obtain⟨g,_,_,f⟩:=WE i.mem;have a:v.e.2.2.1.2=v.mem.2:=rfl;unfold bO at b;simp only[Xh,Wg]at b;have c:n.toNat<v.mem.2.length:=by omega
 refine⟨?_,?_⟩
 .rw[a,g];unfold inb;simp only[Xh,Wg];omega
 .rw[a,WA c];have:=f _ (Xy c);unfold fg bH at this;simp only[Xh,Wg]at this;unfold I64;omega
theorem WuE(p:Int):Qq N p=AZ N p:=rfl
theorem jT(n:Int)(a:I64 n)(b:1048576<N):Z6 N n=some ((),(aB n,())):=C4 a (by omega)
theorem jR(n:Int)(a:I64 n)(b:1048576<N):Zv N n=some ((),(aB n,())):=K7 a (by omega)
theorem d300(n:Int):(aB n).length<=300:=by have:=gR n;omega
theorem Aa(a:cI d=true):(dr d).1=(cz d 6000 (dI d)).1.e/\I64 (dr d).2:=by
 unfold dr;rw[Wf a];have:=Uc (s:=d) 6000 (dI d);exact⟨rfl,by unfold I64;simp only;omega⟩
theorem Wx5{a b c e f g i:Int}(h:I64 a/\I64 b/\I64 c/\I64 e/\I64 f/\I64 g/\I64 i)(d:1048576<N):∃s:List UInt8,s.length<=300/\Ij N (a,b,c,e,f,g,i)=ret s/\xB N (a,b,c,e,f,g,i)=ret s:=by
 obtain⟨j,k,l,m,n,o,p⟩:=h;have q:=gR a;have r:=gR b;have t:=gR c;have le:=gR e;have u:=gR f;have v:=gR g;have w:=gR i;unfold Ij xB;simp only[jT a j d,jT b k d,jT c l d,jT e m d,jT f n d,jT g o d,jT i p d,jR a j d,jR b k d,jR c l d,jR e m d,jR f n d,jR g o d,jR i p d,Xd];generalize aB a=x at*;generalize aB b=y at*;generalize aB c=z at*;generalize aB e=A at*;generalize aB f=B at*;generalize aB g=C at*;generalize aB i=D at*
 repeat rw[ku (by simp;omega)]
 exact⟨_,by simp;omega,rfl,rfl⟩
theorem WuY(h:SI d)(j:1048576<N):SmD (qS N d [116,97,108,108,121] []) (Zw N d [116,97,108,108,121]):=by
 unfold qS Zi Zw;have n:seq [116,97,108,108,121] ([116,97,108,108,121]:List UInt8)=true:=rfl;have o:seq [116,97,108,108,121] ([114,111,111,116]:List UInt8)=false:=rfl;have p:seq [116,97,108,108,121] ([107,105,100]:List UInt8)=false:=rfl;simp only[n,o,p,Wa,Wb,W6 (aG h) j,WS (aG h) j,ret,Xd,o5 (aG h) j,yP (aG h) j];cases aY:cI d with
 |false=>exact⟨_,_,rfl,rfl,h,by simp⟩
 |true=>
  simp only[Xn,Wb,WN];have k:=F0 aY;obtain⟨x,y,z,A⟩:=qQ aY;have l:=Wu2 k (by omega) (Mx d.2.2 0 _ (zl aY) VP);obtain⟨B,_⟩:=WE k.mem;obtain⟨a,b,c,e,f,g,i,m,u,v⟩:=WvF (w:=(dI d).e) (N:=N) (by show((dI d).η.map Rt.e).length<=_;rw[Xt,k.len];omega) (by show(dI d).mem.2.length<=_;omega) (by unfold Vn at l;show(dI d).e.2.2.2.2.1.length<=_;unfold Ve at l;omega) j;obtain⟨s,q,r,t⟩:=Wx5 m j;rw[u,v];simp only[ret,Xd];rw[r,t];exact⟨_,_,rfl,rfl,h,q⟩
theorem Ws8(h:SI d)(a:1048576<N):SmD (qS N d [114,111,117,110,100,115] []) (Zw N d [114,111,117,110,100,115]):=by
 unfold qS Zi Zw;have e:seq [114,111,117,110,100,115] ([116,97,108,108,121]:List UInt8)=false:=rfl;have f:seq [114,111,117,110,100,115] ([112,104,97,115,101]:List UInt8)=false:=rfl;have g:seq [114,111,117,110,100,115] ([114,111,117,110,100,115]:List UInt8)=true:=rfl;have i:seq [114,111,117,110,100,115] ([116,111,116,97,108]:List UInt8)=false:=rfl;have j:seq [114,111,117,110,100,115] ([114,97,110,107]:List UInt8)=false:=rfl;have k:seq [114,111,117,110,100,115] ([102,97,116,101]:List UInt8)=false:=rfl;have l:seq [114,111,117,110,100,115] ([118,97,108,117,101]:List UInt8)=false:=rfl;have m:seq [114,111,117,110,100,115] ([114,111,111,116]:List UInt8)=false:=rfl;have n:seq [114,111,117,110,100,115] ([107,105,100]:List UInt8)=false:=rfl;simp only[e,f,g,i,j,k,l,m,n,Wa,Wb,W6 (aG h) a,WS (aG h) a,ret,Xd,o5 (aG h) a,tQ (aG h) a,tS (aG h) a];cases aY:cI d with
 |false=>exact⟨_,_,rfl,rfl,h,by simp⟩
 |true=>
  obtain⟨o,c⟩:=Aa aY;have b:I64 (dr d).2:=by
   exact c
  simp only[Xn,Wb,jT _ b a,jR _ b a,Xd];exact⟨_,_,rfl,rfl,h,d300 _⟩
theorem Wum(h:SI d)(a:1048576<N):SmD (qS N d [116,111,116,97,108] []) (Zw N d [116,111,116,97,108]):=by
 unfold qS Zi Zw;have f:seq [116,111,116,97,108] ([116,97,108,108,121]:List UInt8)=false:=rfl;have g:seq [116,111,116,97,108] ([112,104,97,115,101]:List UInt8)=false:=rfl;have i:seq [116,111,116,97,108] ([114,111,117,110,100,115]:List UInt8)=false:=rfl;have j:seq [116,111,116,97,108] ([116,111,116,97,108]:List UInt8)=true:=rfl;have k:seq [116,111,116,97,108] ([114,97,110,107]:List UInt8)=false:=rfl;have l:seq [116,111,116,97,108] ([102,97,116,101]:List UInt8)=false:=rfl;have m:seq [116,111,116,97,108] ([118,97,108,117,101]:List UInt8)=false:=rfl;have o:seq [116,111,116,97,108] ([114,111,111,116]:List UInt8)=false:=rfl;have p:seq [116,111,116,97,108] ([107,105,100]:List UInt8)=false:=rfl;simp only[f,g,i,j,k,l,m,o,p,Wa,Wb,W6 (aG h) a,WS (aG h) a,ret,Xd,o5 (aG h) a,tQ (aG h) a,tS (aG h) a];cases aY:cI d with
 |false=>exact⟨_,_,rfl,rfl,h,by simp⟩
 |true=>
  obtain⟨c,q⟩:=Aa aY;have b:I64 (dr d).1.2.2.2.1.2:=by
   obtain⟨n,e⟩:=(Dg aY).ok;have:=e.π.cnt;rw[c];show I64 (cz d 6000 (dI d)).1.π.2;unfold I64;omega
  simp only[Xn,Wb,jT _ b a,jR _ b a,Xd];exact⟨_,_,rfl,rfl,h,d300 _⟩
theorem Wuj(h:SI d)(a:1048576<N){n:Int}:SmD (qS N d [112,104,97,115,101] [n]) (Z1 N d [112,104,97,115,101] n):=by
 unfold qS Zi Z1;have f:seq [112,104,97,115,101] ([116,97,108,108,121]:List UInt8)=false:=rfl;have g:seq [112,104,97,115,101] ([112,104,97,115,101]:List UInt8)=true:=rfl;have i:seq [112,104,97,115,101] ([114,111,117,110,100,115]:List UInt8)=false:=rfl;have j:seq [112,104,97,115,101] ([116,111,116,97,108]:List UInt8)=false:=rfl;have k:seq [112,104,97,115,101] ([114,97,110,107]:List UInt8)=false:=rfl;have l:seq [112,104,97,115,101] ([102,97,116,101]:List UInt8)=false:=rfl;have m:seq [112,104,97,115,101] ([118,97,108,117,101]:List UInt8)=false:=rfl;have o:seq [112,104,97,115,101] ([115,116,101,112]:List UInt8)=false:=rfl;have p:seq [112,104,97,115,101] ([100,111,111,109]:List UInt8)=false:=rfl;have q:seq [112,104,97,115,101] ([102,105,110,100]:List UInt8)=false:=rfl;have c:∀n:Int,inb 0 (Xb [n])=true:=λ_=>rfl;have b:∀n:Int,Xc [n] (Xa 0) 0=n:=λ_=>rfl;simp only[f,g,i,j,k,l,m,o,p,q,Wa,Wb,W6 (aG h) a,WS (aG h) a,ct,WK,lO,W0,C0,yz,ret,Xd,o5 (aG h) a,yP (aG h) a,tQ (aG h) a,tS (aG h) a,c,b];cases aY:cI d with
 |false=>exact⟨_,_,rfl,rfl,h,by simp⟩
 |true=>
  simp only[Xn,bS,Wa,Wb,WN,Xd];cases hn:(decide ((0:Int)<=n)&&decide (n<=Wv .i64 (Wh d.2.1) 1))with
  |false=>exact⟨_,_,rfl,rfl,h,by simp⟩
  |true=>
   simp only[Xh,Wg]at hn;obtain⟨x,t,r,s⟩:=VQ (Wxa aY) hn h.p4;simp only[r,s,Xn,Wa,Wb,WuE,Wl7,ret,Xd];exact⟨_,_,rfl,rfl,h,by have:=Wrs x.e.1;omega⟩
theorem Wxo(h:SI d)(a:1048576<N){n:Int}:SmD (qS N d [102,97,116,101] [n]) (Z1 N d [102,97,116,101] n):=by
 unfold qS Zi Z1;have i:seq [102,97,116,101] ([116,97,108,108,121]:List UInt8)=false:=rfl;have j:seq [102,97,116,101] ([112,104,97,115,101]:List UInt8)=false:=rfl;have k:seq [102,97,116,101] ([114,111,117,110,100,115]:List UInt8)=false:=rfl;have l:seq [102,97,116,101] ([116,111,116,97,108]:List UInt8)=false:=rfl;have m:seq [102,97,116,101] ([114,97,110,107]:List UInt8)=false:=rfl;have o:seq [102,97,116,101] ([102,97,116,101]:List UInt8)=true:=rfl;have p:seq [102,97,116,101] ([118,97,108,117,101]:List UInt8)=false:=rfl;have q:seq [102,97,116,101] ([115,116,101,112]:List UInt8)=false:=rfl;have r:seq [102,97,116,101] ([100,111,111,109]:List UInt8)=false:=rfl;have s:seq [102,97,116,101] ([102,105,110,100]:List UInt8)=false:=rfl;have g:∀n:Int,inb 0 (Xb [n])=true:=λ_=>rfl;have c:∀n:Int,Xc [n] (Xa 0) 0=n:=λ_=>rfl;simp only[i,j,k,l,m,o,p,q,r,s,Wa,Wb,W6 (aG h) a,WS (aG h) a,ct,WK,lO,W0,C0,yz,ret,Xd,o5 (aG h) a,yP (aG h) a,tQ (aG h) a,tS (aG h) a,g,c];cases aY:cI d with
 |false=>exact⟨_,_,rfl,rfl,h,by simp⟩
 |true=>
  simp only[Xn,bS,Wa,Wb,WN,Xd];cases hn:(decide ((0:Int)<=n)&&decide (n<=Wv .i64 (Wh d.2.1) 1))with
  |false=>exact⟨_,_,rfl,rfl,h,by simp⟩
  |true=>
   simp only[Xh,Wg]at hn;obtain⟨x,f,t,u⟩:=VQ (Dg aY) hn h.p4;have b:I64 x.e.2.2.2.2.2.2.2.1:=by
    show I64 x.Ct;unfold F3 at f;unfold I64;omega
   simp only[(Aa aY).1,t,u,Xn,Wa,Wb,jT _ b a,jR _ b a,ret,Xd];exact⟨_,_,rfl,rfl,h,d300 _⟩
theorem WvH(h:SI d)(a:1048576<N){n:Int}:SmD (qS N d [118,97,108,117,101] [n]) (Z1 N d [118,97,108,117,101] n):=by
 unfold qS Zi Z1;have f:seq [118,97,108,117,101] ([116,97,108,108,121]:List UInt8)=false:=rfl;have g:seq [118,97,108,117,101] ([112,104,97,115,101]:List UInt8)=false:=rfl;have i:seq [118,97,108,117,101] ([114,111,117,110,100,115]:List UInt8)=false:=rfl;have j:seq [118,97,108,117,101] ([116,111,116,97,108]:List UInt8)=false:=rfl;have k:seq [118,97,108,117,101] ([114,97,110,107]:List UInt8)=false:=rfl;have l:seq [118,97,108,117,101] ([102,97,116,101]:List UInt8)=false:=rfl;have m:seq [118,97,108,117,101] ([118,97,108,117,101]:List UInt8)=true:=rfl;have o:seq [118,97,108,117,101] ([115,116,101,112]:List UInt8)=false:=rfl;have p:seq [118,97,108,117,101] ([100,111,111,109]:List UInt8)=false:=rfl;have q:seq [118,97,108,117,101] ([102,105,110,100]:List UInt8)=false:=rfl;have e:∀n:Int,inb 0 (Xb [n])=true:=λ_=>rfl;have c:∀n:Int,Xc [n] (Xa 0) 0=n:=λ_=>rfl;simp only[f,g,i,j,k,l,m,o,p,q,Wa,Wb,W6 (aG h) a,WS (aG h) a,ct,WK,lO,W0,C0,yz,ret,Xd,o5 (aG h) a,yP (aG h) a,tQ (aG h) a,tS (aG h) a,e,c];cases aY:cI d with
 |false=>exact⟨_,_,rfl,rfl,h,by simp⟩
 |true=>
  simp only[Xn,bS,Wa,Wb,WN,Xd];cases hn:bO n with
  |false=>exact⟨_,_,rfl,rfl,h,by simp⟩
  |true=>
   obtain⟨r,b⟩:=Wwu (Dg aY) hn;simp only[(Aa aY).1,r,Xn,Wa,Wb,jT _ b a,jR _ b a,ret,Xd];exact⟨_,_,rfl,rfl,h,d300 _⟩
theorem Ww0(h:SI d)(a:1048576<N){n:Int}:SmD (qS N d [102,105,110,100] [n]) (Z1 N d [102,105,110,100] n):=by
 unfold qS Zi Z1;have j:seq [102,105,110,100] ([116,97,108,108,121]:List UInt8)=false:=rfl;have k:seq [102,105,110,100] ([112,104,97,115,101]:List UInt8)=false:=rfl;have l:seq [102,105,110,100] ([114,111,117,110,100,115]:List UInt8)=false:=rfl;have o:seq [102,105,110,100] ([116,111,116,97,108]:List UInt8)=false:=rfl;have p:seq [102,105,110,100] ([114,97,110,107]:List UInt8)=false:=rfl;have q:seq [102,105,110,100] ([102,97,116,101]:List UInt8)=false:=rfl;have r:seq [102,105,110,100] ([118,97,108,117,101]:List UInt8)=false:=rfl;have s:seq [102,105,110,100] ([115,116,101,112]:List UInt8)=false:=rfl;have t:seq [102,105,110,100] ([100,111,111,109]:List UInt8)=false:=rfl;have u:seq [102,105,110,100] ([102,105,110,100]:List UInt8)=true:=rfl;have g:∀n:Int,inb 0 (Xb [n])=true:=λ_=>rfl;have f:∀n:Int,Xc [n] (Xa 0) 0=n:=λ_=>rfl;simp only[j,k,l,o,p,q,r,s,t,u,Wa,Wb,W6 (aG h) a,WS (aG h) a,ct,WK,lO,W0,C0,yz,ret,Xd,o5 (aG h) a,yP (aG h) a,tQ (aG h) a,tS (aG h) a,g,f];cases aY:cI d with
 |false=>exact⟨_,_,rfl,rfl,h,by simp⟩
 |true=>
  simp only[Xn,bS,Wa,Wb,WN,Xd];cases hn:dH n with
  |false=>exact⟨_,_,rfl,rfl,h,by simp⟩
  |true=>
   obtain⟨m,c⟩:=(Dg aY).ok;have e:(dr d).1.2.2.2.1.1=(cz d 6000 (dI d)).1.π.1:=by rw[(Aa aY).1];rfl
   rw[e,WwA c.π.slots a,Wsw c.π.slots a];unfold dH at hn;simp only[Xh,Wg]at hn;have v:inb n (Xb ((cK 8).map λi:Nat=>aX (cz d 6000 (dI d)).1.π.1 (i:Int)))=true:=by
    unfold inb;simp only[Xt,List.length_range,Xh,Wg];omega
   have b:I64 (Xc ((cK 8).map λi:Nat=>aX (cz d 6000 (dI d)).1.π.1 (i:Int)) n.toNat 0):=by
    rw[WA (by simp;omega),nU];have:=lQ (cz d 6000 (dI d)).1.π.1 (((cK 8)[n.toNat]'(by simp;omega):Nat):Int);unfold I64;omega
   simp only[ret,v,Xn,Wa,Wb,jT _ b a,jR _ b a,Xd];exact⟨_,_,rfl,rfl,h,d300 _⟩
end
end
section
section
variable{N:Nat}{d:Sc}{R:Type}{l:List Int}
theorem VD{K0:List UInt8->Int->Bool->Option R}(e:1048576<N)(c:∀x∈l,I64 x)(k:l.length<=10):∀(d i a:Nat) (s:List UInt8),i+d=l.length->d<a->s.length+31*d<=1000->
  w8 N l K0 a s (i:Int)=K0 (s++((l.drop i).map aB).flatMap λx=>32::x) (l.length:Int) false
 |0,i,a,s,h,j,h3=>by
  obtain⟨g,rfl⟩:∃g,a=g+1:=⟨a-1,by omega⟩;have:i=l.length:=by omega
  subst this;rw[w8,WP (Xm _),Wb,fr];simp
 |d+1,i,a,s,h,j,h3=>by
  obtain⟨g,rfl⟩:∃g,a=g+1:=⟨a-1,by omega⟩;have b:i<l.length:=by omega
  have f:l.drop i=l[i]::l.drop (i+1):=dY b;have m:=gR l[i];rw[w8,WG b,Wa,Ws b,ku (by simp;omega),Wa,Wa,Ww b,jT _ (c _ (Xy b)) e];simp only[Xd];rw[ku (by simp;omega),Wa,Wk (show i<4611686018427387904 by omega),VD e c k d (i+1) g _ (by omega) (by omega) (by simp;omega),f];simp only[bz,pU,fq,dO,df]
theorem US{b:Int}{l1 l2:List Int}{l3:List Pg}{l4:List Ac}{K0:List UInt8->Int->Bool->Option R}(f:1048576<N)(e:∀x∈l,I64 x)(m:l.length<=10):∀(d i a:Nat) (s:List UInt8),i+d=l.length->d<a->s.length+31*d<=1000->
  n8 N l (Wh l) b l1 l2 l3 l4 K0 a s (i:Int)=K0 (s++((l.drop i).map aB).flatMap λx=>32::x) (l.length:Int) false
 |0,i,a,s,j,k,h3=>by
  obtain⟨g,rfl⟩:∃g,a=g+1:=⟨a-1,by omega⟩;have:i=l.length:=by omega
  subst this;rw[n8,WP (Xm _),Wb,fr];simp
 |d+1,i,a,s,j,k,h3=>by
  obtain⟨g,rfl⟩:∃g,a=g+1:=⟨a-1,by omega⟩;have c:i<l.length:=by omega
  have h:l.drop i=l[i]::l.drop (i+1):=dY c;have n:=gR l[i];rw[n8,WG c,Wa,Ws c,ku (by simp;omega),Wa,Wa,Ww c,jR _ (e _ (Xy c)) f];simp only[Xd];rw[ku (by simp;omega),Wa,Wk (show i<4611686018427387904 by omega),US f e m d (i+1) g _ (by omega) (by omega) (by simp;omega),h];simp only[bz,pU,fq,dO,df]
theorem WwD(h:SI d)(a:1048576<N):SmD (qS N d [114,97,110,107] []) (Zw N d [114,97,110,107]):=by
 unfold qS Zi Zw;have q:seq [114,97,110,107] ([116,97,108,108,121]:List UInt8)=false:=rfl;have r:seq [114,97,110,107] ([112,104,97,115,101]:List UInt8)=false:=rfl;have s:seq [114,97,110,107] ([114,111,117,110,100,115]:List UInt8)=false:=rfl;have t:seq [114,97,110,107] ([116,111,116,97,108]:List UInt8)=false:=rfl;have u:seq [114,97,110,107] ([114,97,110,107]:List UInt8)=true:=rfl;have v:seq [114,97,110,107] ([102,97,116,101]:List UInt8)=false:=rfl;have y:seq [114,97,110,107] ([118,97,108,117,101]:List UInt8)=false:=rfl;have z:seq [114,97,110,107] ([114,111,111,116]:List UInt8)=false:=rfl;have A:seq [114,97,110,107] ([107,105,100]:List UInt8)=false:=rfl;simp only[q,r,s,t,u,v,y,z,A,Wa,Wb,W6 (aG h) a,WS (aG h) a,ret,Xd,o5 (aG h) a,tQ (aG h) a,tS (aG h) a];cases aY:cI d with
 |false=>exact⟨_,_,rfl,rfl,h,by simp⟩
 |true=>
  obtain⟨n,p⟩:=(Dg aY).ok;have c:(cz d 6000 (dI d)).1.η.length<=4:=by rw[p.len];exact h.p4
  simp only[(Aa aY).1,Wt2 a c,Wq3 a c,Xn,Wb,ret,Xd];generalize (cz d 6000 (dI d)).1=w at*;have e:((rks w).map λk:Nat=>(k:Int)).length<=4:=by rw[Xt,Gp];exact Dv c
  have i:∀x∈(rks w).map λk:Nat=>(k:Int),I64 x:=λx m=>by
   obtain⟨k,l,rfl⟩:=List.mem_map.1 m;have:=((zo (w:=w)).2 k).1 l;unfold I64;omega
  have f:=VD (N:=N) (R:=Unit×(List UInt8×Unit)) (K0:=λj B E=>(some ((),(j,())))) a i (by omega) _ 0 N [114,97,110,107] (bX _) (by omega) (by simp at e⊢;omega);have g:=US (N:=N) (R:=(Sc×Unit)×(List UInt8×Unit)) (b:=d.1.2.2) (l1:=d.1.1) (l2:=d.1.2.1) (l3:=d.2.1) (l4:=d.2.2) (K0:=λo C D=>(some ((d,()),(o,())))) a i (by omega) _ 0 N [114,97,110,107] (bX _) (by omega) (by simp at e⊢;omega);rw[show((0:Nat):Int)=0 from rfl]at f g;rw[f,g];refine⟨_,_,rfl,rfl,h,?_⟩;have:=XB ((rks w).map λk:Nat=>(k:Int));rw[eC,List.length_append];simp at e this⊢;omega
end
end
section
section
variable{N:Nat}{d:Sc}{s:List UInt8}{R:Type}{L r:List Kh}{w:List UInt8}
def okR(r:List Kh):Bool:=r.all λx=>(rd x).2
def mA(r:List Kh):List Int:=r.map λx=>(rd x).1
theorem UU{cmd:List UInt8}{b:Int}{l1 l2:List Int}{l3:List Pg}{l4:List Ac}{K0:Option R}{K1:Int->Bool->List Int->Option R}(f:1048576<N)(h:∀x∈L,x.length<=1048576)(m:L.length<=1048576):∀(d i a:Nat) (c:List Int),i+d=L.length->d<a->c.length<=i->
  wy N cmd b L l1 l2 l3 l4 K0 K1 a (i:Int) c=if okR (L.drop i)=true then K1 (L.length:Int) false (c++mA (L.drop i))else K0
 |0,i,a,c,k,l,h3=>by
  obtain⟨g,rfl⟩:∃g,a=g+1:=⟨a-1,by omega⟩;have:i=L.length:=by omega
  subst this;rw[wy,WP (Xm _),Wb,fr];simp[okR,mA]
 |d+1,i,a,c,k,l,h3=>by
  obtain⟨g,rfl⟩:∃g,a=g+1:=⟨a-1,by omega⟩;have e:i<L.length:=by omega
  have j:L.drop i=L[i]::L.drop (i+1):=dY e;rw[wy,WG e,Wa,Ws e,Wa,Ww e,tY (h _ (Xy e)) f,j];simp only[Xd];unfold okR mA;rw[dG];cases hd:(rd L[i]).2 with
  |false=>rfl
  |true=>
   have:=UU (cmd:=cmd) (b:=b) (l1:=l1) (l2:=l2) (l3:=l3) (l4:=l4) (K0:=K0) (K1:=K1) f h m d (i+1) g (c++ [(rd L[i]).1]) (by omega) (by omega) (by simp;omega);rw[Xn,Wb,Wn (by simp;omega),Wa,Wk (show i<4611686018427387904 by omega)];refine this.trans ?_;rw[d3,bz,fq];rfl
theorem Uu{b:Int}{l1 l2:List Int}{l3:List Pg}{l4:List Ac}{K0:Option R}{K1:Int->Bool->List Int->Option R}(f:1048576<N)(h:∀x∈r,x.length<=1048576)(n:r.length<=1048576):∀(d i a:Nat) (c:List Int),i+d=r.length->d<a->c.length<=i->
  wd N 1 (r.length+1) ((r.length:Nat):Int) b (w::r) l1 l2 l3 l4 K0 K1 a (i:Int) c=if okR (r.drop i)=true then K1 (r.length:Int) false (c++mA (r.drop i))else K0
 |0,i,a,c,l,m,h3=>by
  obtain⟨g,rfl⟩:∃g,a=g+1:=⟨a-1,by omega⟩;have:i=r.length:=by omega
  subst this;rw[wd,Wi (by omega),Wb,fr];simp[okR,mA]
 |d+1,i,a,c,l,m,h3=>by
  obtain⟨g,rfl⟩:∃g,a=g+1:=⟨a-1,by omega⟩;have e:i<r.length:=by omega
  have j:r.drop i=r[i]::r.drop (i+1):=dY e;have k:Xc (w::r) (1+Xa (i:Int)) ([]:List UInt8)=r[i]:=by
   rw[Xj,Nat.add_comm,List.getD_cons_succ,WA e]
  rw[wd,Wc (by omega),Wa,show r.length+1-1=r.length from rfl,Ws e,Wa,k,tX (h _ (Xy e)) f,j];simp only[Xd];unfold okR mA;rw[dG];cases hd:(rd r[i]).2 with
  |false=>rfl
  |true=>
   have:=Uu (b:=b) (l1:=l1) (l2:=l2) (l3:=l3) (l4:=l4) (K0:=K0) (K1:=K1) f h n d (i+1) g (c++ [(rd r[i]).1]) (by omega) (by omega) (by simp;omega);rw[Xn,Wb,Wn (by simp;omega),Wa,Wk (show i<4611686018427387904 by omega)];refine this.trans ?_;rw[d3,bz,fq];rfl
def wB:List Kh:=[[114,111,111,116],[107,105,100],[116,97,108,108,121],[114,111,117,110,100,115],[116,111,116,97,108],[114,97,110,107]]
def wO:List Kh:=[[115,116,101,112],[100,111,111,109],[112,104,97,115,101],[102,97,116,101],[118,97,108,117,101],[102,105,110,100]]
def wT:List Kh:=[[99,101,108,108],[107,101,121],[109,111,118,101]]
theorem cQ{a b:List UInt8}(h:a≠b):seq a b=false:=by unfold seq;simpa using h
theorem Wxn(a:w∉wB)(b:w∉wO)(c:w∉wT):xU N w=ret (-1):=by
 simp only[wB,wO,wT,Xr,mB,or_false,not_or]at a b c;obtain⟨d,e,f,g,h,i⟩:=a;obtain⟨j,k,l,o3,m,n⟩:=b;obtain⟨o,p,q⟩:=c;unfold xU;simp only[cQ d,cQ e,cQ f,cQ g,cQ h,cQ i,cQ j,cQ k,cQ l,cQ o3,cQ m,cQ n,cQ o,cQ p,cQ q,Wb]
abbrev wh:List UInt8:=[119,104,97,116]
theorem WwR(h:w∉wB):Zw N d w=some ((d,()),(wh,())):=by
 simp only[wB,Xr,mB,or_false,not_or]at h;obtain⟨a,b,c,e,f,g⟩:=h;unfold Zw;simp only[cQ a,cQ b,cQ c,cQ e,cQ f,cQ g,Wb]
theorem WxY(b:SI d)(a:1048576<N)(h:w∉wO){n:Int}:Z1 N d w n=some ((d,()),(wh,())):=by
 simp only[wO,Xr,mB,or_false,not_or]at h;obtain⟨c,e,f,o3,g,i⟩:=h;unfold Z1;simp only[cQ c,cQ e,cQ f,cQ o3,cQ g,cQ i,Wb,WS (aG b) a,WK,ret,Xd];cases cI d<;>rfl
theorem WxQ(h:w∉wT){a b:Int}:lI N d w a b=some ((d,()),(wh,())):=by
 simp only[wT,Xr,mB,or_false,not_or]at h;obtain⟨c,e,f⟩:=h;unfold lI;simp only[cQ c,cQ e,cQ f,Wb]
end
end
section
section
variable{N:Nat}{d:Sc}{s:List UInt8}{r:List Kh}{w:List UInt8}
noncomputable def liI(N:Nat)(d:Sc)(w:List UInt8)(l:List Int):Option ((Sc×Unit)×(List UInt8×Unit)):=
 match l with
 | []=>(Zw N d w).bind λo=>some ((o.1.1,()),(o.2.1,()))
 | [a]=>(Z1 N d w a).bind λo=>some ((o.1.1,()),(o.2.1,()))
 | [a,b]=>(lI N d w a b).bind λo=>some ((o.1.1,()),(o.2.1,()))
 |_=>some ((d,()),(wh,()))
theorem WsW(C:s.length<=1000000)(h:1048576<N){o:Opn}(u:yb N s=some ((),(o,(false,()))))(f:spl 32 s=w::r):s7 N d s=if okR r=true then liI N d w (mA r)else some ((d,()),(wh,())):=by
 have m:=Dw 32 s;rw[f,Xs]at m;have t:jr N s 32=ret (spl 32 s):=FP (c:=32) (by omega) h;have z:∀x∈r,x.length<=1048576:=λx v=>fP (uw (c:=32) (s:=s) (by rw[f];exact List.mem_cons_of_mem _ v)) (by omega);unfold s7;rw[u,t,f];simp only[ret,Xd,Wb];rw[show(decide ((0:Int)<=1)&&decide ((1:Int)<=((Xb (w::r):Nat):Int)))=true by simp;omega,Wa];have:=Uu (N:=N) (w:=w) (r:=r) (b:=d.1.2.2) (l1:=d.1.1) (l2:=d.1.2.1) (l3:=d.2.1) (l4:=d.2.2) (K0:=some ((d,()),(wh,()))) (K1:=(λA B e=>
  (bif (Wh e)==(0:Int)then
 (bif inb (0:Int) (Xb (w::r))then
 ((Zw N d (Xc (w::r) (Xa (0:Int)) ([]:List UInt8))).bind λg=>
 (some ((g.1.1,()),(g.2.1,()))))else none)
 else
 (bif (Wh e)==(1:Int)then
 (bif inb (0:Int) (Xb (w::r))then
 (bif inb (0:Int) (Xb e)then
 ((Z1 N d (Xc (w::r) (Xa (0:Int)) ([]:List UInt8)) (Xc e (Xa (0:Int)) (0:Int))).bind λi=>
 (some ((i.1.1,()),(i.2.1,()))))else none)else none)
 else
 (bif (Wh e)==(2:Int)then
 (bif inb (0:Int) (Xb (w::r))then
 (bif inb (0:Int) (Xb e)then
 (bif inb (1:Int) (Xb e)then
 ((lI N d (Xc (w::r) (Xa (0:Int)) ([]:List UInt8)) (Xc e (Xa (0:Int)) (0:Int)) (Xc e (Xa (1:Int)) (0:Int))).bind λk=>
 (some ((k.1.1,()),(k.2.1,()))))else none)else none)else none)
 else
 (some ((d,()),(([119,104,97,116]:List UInt8),())))))))) h z (by omega) r.length 0 N [] (bX _) (by omega) (Xm _)
 rw[eC]at this;refine Eq.trans this ?_;split
 .rw[df];have y:inb (0:Int) (Xb (w::r))=true:=Ws (j:=0) (by simp);rw[y];generalize mA r=l
  match l with
  | []=>rfl
  | [a]=>rfl
  | [a,b]=>rfl
  |a::b::c::l=>
   have n:(Wh (a::b::c::l)==(0:Int))=false:=by unfold Wh;simp;omega
   have p:(Wh (a::b::c::l)==(1:Int))=false:=by unfold Wh;simp;omega
   have q:(Wh (a::b::c::l)==(2:Int))=false:=by unfold Wh;simp;omega
   rw[n,p,q];rfl
 .rfl
end
end
section
section
variable{N:Nat}{d:Sc}{s:List UInt8}{r:List Kh}{w:List UInt8}
noncomputable def liS(N:Nat)(d:Sc)(w:List UInt8)(a:List Int):Option (Unit×(Sc×(List UInt8×Unit))):=
 (bif seq w ([114,111,111,116]:List UInt8)then
 (bif seq w ([114,111,111,116]:List UInt8)then
 ((Z7 N d w a).bind λb=>
 ((Zj N b.2.2.1).bind λt=>
 (some ((),(b.2.1,(t.2.1,()))))))
 else
 (bif seq w ([115,116,101,112]:List UInt8)then
 (bif seq w ([115,116,101,112]:List UInt8)then
 ((Zt N d w a).bind λc=>
 ((Zj N c.2.2.1).bind λs=>
 (some ((),(c.2.1,(s.2.1,()))))))
 else
 ((Ze N d).bind λv=>
 (bif !v.2.1 then
 (some ((),(d,(([110,111]:List UInt8),()))))
 else
 ((Zi N d w a).bind λu=>
 (some ((),(d,(u.2.1,()))))))))
 else
 (bif seq w ([109,111,118,101]:List UInt8)then
 (bif seq w ([109,111,118,101]:List UInt8)then
 ((Zt N d w a).bind λg=>
 ((Zj N g.2.2.1).bind λy=>
 (some ((),(g.2.1,(y.2.1,()))))))
 else
 ((Ze N d).bind λz=>
 (bif !z.2.1 then
 (some ((),(d,(([110,111]:List UInt8),()))))
 else
 ((Zi N d w a).bind λQ=>
 (some ((),(d,(Q.2.1,()))))))))
 else
 (bif seq w ([100,111,111,109]:List UInt8)then
 ((Zt N d w a).bind λm=>
 ((Zj N m.2.2.1).bind λR=>
 (some ((),(m.2.1,(R.2.1,()))))))
 else
 ((Ze N d).bind λE=>
 (bif !E.2.1 then
 (some ((),(d,(([110,111]:List UInt8),()))))
 else
 ((Zi N d w a).bind λF=>
 (some ((),(d,(F.2.1,())))))))))))
 else
 (bif seq w ([107,105,100]:List UInt8)then
 (bif seq w ([107,105,100]:List UInt8)then
 ((Z7 N d w a).bind λf=>
 ((Zj N f.2.2.1).bind λx=>
 (some ((),(f.2.1,(x.2.1,()))))))
 else
 (bif seq w ([115,116,101,112]:List UInt8)then
 (bif seq w ([115,116,101,112]:List UInt8)then
 ((Zt N d w a).bind λh=>
 ((Zj N h.2.2.1).bind λA=>
 (some ((),(h.2.1,(A.2.1,()))))))
 else
 ((Ze N d).bind λG=>
 (bif !G.2.1 then
 (some ((),(d,(([110,111]:List UInt8),()))))
 else
 ((Zi N d w a).bind λC=>
 (some ((),(d,(C.2.1,()))))))))
 else
 (bif seq w ([109,111,118,101]:List UInt8)then
 (bif seq w ([109,111,118,101]:List UInt8)then
 ((Zt N d w a).bind λe=>
 ((Zj N e.2.2.1).bind λH=>
 (some ((),(e.2.1,(H.2.1,()))))))
 else
 ((Ze N d).bind λS=>
 (bif !S.2.1 then
 (some ((),(d,(([110,111]:List UInt8),()))))
 else
 ((Zi N d w a).bind λI=>
 (some ((),(d,(I.2.1,()))))))))
 else
 (bif seq w ([100,111,111,109]:List UInt8)then
 ((Zt N d w a).bind λk=>
 ((Zj N k.2.2.1).bind λJ=>
 (some ((),(k.2.1,(J.2.1,()))))))
 else
 ((Ze N d).bind λK=>
 (bif !K.2.1 then
 (some ((),(d,(([110,111]:List UInt8),()))))
 else
 ((Zi N d w a).bind λB=>
 (some ((),(d,(B.2.1,())))))))))))
 else
 (bif seq w ([99,101,108,108]:List UInt8)then
 (bif seq w ([99,101,108,108]:List UInt8)then
 ((Z7 N d w a).bind λl=>
 ((Zj N l.2.2.1).bind λL=>
 (some ((),(l.2.1,(L.2.1,()))))))
 else
 (bif seq w ([115,116,101,112]:List UInt8)then
 (bif seq w ([115,116,101,112]:List UInt8)then
 ((Zt N d w a).bind λj=>
 ((Zj N j.2.2.1).bind λT=>
 (some ((),(j.2.1,(T.2.1,()))))))
 else
 ((Ze N d).bind λU=>
 (bif !U.2.1 then
 (some ((),(d,(([110,111]:List UInt8),()))))
 else
 ((Zi N d w a).bind λM=>
 (some ((),(d,(M.2.1,()))))))))
 else
 (bif seq w ([109,111,118,101]:List UInt8)then
 (bif seq w ([109,111,118,101]:List UInt8)then
 ((Zt N d w a).bind λi=>
 ((Zj N i.2.2.1).bind λV=>
 (some ((),(i.2.1,(V.2.1,()))))))
 else
 ((Ze N d).bind λW=>
 (bif !W.2.1 then
 (some ((),(d,(([110,111]:List UInt8),()))))
 else
 ((Zi N d w a).bind λX=>
 (some ((),(d,(X.2.1,()))))))))
 else
 (bif seq w ([100,111,111,109]:List UInt8)then
 ((Zt N d w a).bind λn=>
 ((Zj N n.2.2.1).bind λY=>
 (some ((),(n.2.1,(Y.2.1,()))))))
 else
 ((Ze N d).bind λZ=>
 (bif !Z.2.1 then
 (some ((),(d,(([110,111]:List UInt8),()))))
 else
 ((Zi N d w a).bind λxq=>
 (some ((),(d,(xq.2.1,())))))))))))
 else
 (bif seq w ([107,101,121]:List UInt8)then
 ((Z7 N d w a).bind λo=>
 ((Zj N o.2.2.1).bind λxr=>
 (some ((),(o.2.1,(xr.2.1,()))))))
 else
 (bif seq w ([115,116,101,112]:List UInt8)then
 (bif seq w ([115,116,101,112]:List UInt8)then
 ((Zt N d w a).bind λp=>
 ((Zj N p.2.2.1).bind λxt=>
 (some ((),(p.2.1,(xt.2.1,()))))))
 else
 ((Ze N d).bind λxu=>
 (bif !xu.2.1 then
 (some ((),(d,(([110,111]:List UInt8),()))))
 else
 ((Zi N d w a).bind λxw=>
 (some ((),(d,(xw.2.1,()))))))))
 else
 (bif seq w ([109,111,118,101]:List UInt8)then
 (bif seq w ([109,111,118,101]:List UInt8)then
 ((Zt N d w a).bind λq=>
 ((Zj N q.2.2.1).bind λxx=>
 (some ((),(q.2.1,(xx.2.1,()))))))
 else
 ((Ze N d).bind λD=>
 (bif !D.2.1 then
 (some ((),(d,(([110,111]:List UInt8),()))))
 else
 ((Zi N d w a).bind λxy=>
 (some ((),(d,(xy.2.1,()))))))))
 else
 (bif seq w ([100,111,111,109]:List UInt8)then
 ((Zt N d w a).bind λr=>
 ((Zj N r.2.2.1).bind λxz=>
 (some ((),(r.2.1,(xz.2.1,()))))))
 else
 ((Ze N d).bind λO=>
 (bif !O.2.1 then
 (some ((),(d,(([110,111]:List UInt8),()))))
 else
 ((Zi N d w a).bind λP=>
 (some ((),(d,(P.2.1,()))))))))))))))
theorem Wsi(u:s.length<=1000000)(f:1048576<N){o:Opn}(l:ya N s=some ((),(o,(false,()))))(e:spl 32 s=w::r){A:Int}(k:xU N w=ret A)(t:-1<=A/\A<=2):ol N d s=if A<0\/(r.length:Int)≠A then some ((),(d,(wh,())))else if okR r=true then liS N d w (mA r)else some ((),(d,(wh,()))):=by
 have g:=Dw 32 s;rw[e,Xs]at g;have i:jr N s 32=ret (spl 32 s):=FP (c:=32) (by omega) f;have p:∀x∈w::r,x.length<=1048576:=λx n=>fP (uw (c:=32) (s:=s) (by rw[e];exact n)) (by omega);unfold ol;rw[l,Ls,i,e];simp only[ret,Xd,Wb];rw[show inb (0:Int) (Xb (w::r))=true from Ws (j:=0) (by simp),Wa,show Xc (w::r) (Xa (0:Int)) ([]:List UInt8)=w from rfl,k];simp only[ret,Xd];by_cases a:A<0
 .rw[Wc a,Wa,Wf (.inl a)]
 .rw[Wi a,Wb,WD (by unfold I64;omega)];by_cases m:(r.length:Int)=A
  .rw[show(Wh (w::r) !=1+A)=false by unfold Wh;simp;omega,Wb,We (by omega)];have:=UU (N:=N) (L:=w::r) (cmd:=w) (b:=d.1.2.2) (l1:=d.1.1) (l2:=d.1.2.1) (l3:=d.2.1) (l4:=d.2.2) (K0:=some ((),(d,(wh,())))) (K1:=λv q h=>liS N d w h) f p (by simp;omega) r.length 1 N [] (by simp;omega) (by omega) (by simp);exact this
  .rw[show(Wh (w::r) !=1+A)=true by unfold Wh;simp;omega,Wa,Wf (.inr m)]
theorem Wu5{l:List Int}:liS N d [114,111,111,116] l=bY (Z7 N d [114,111,111,116] l) N:=by kernel_rfl
theorem WwB{l:List Int}:liS N d [107,105,100] l=bY (Z7 N d [107,105,100] l) N:=by kernel_rfl
theorem WtB{l:List Int}:liS N d [116,97,108,108,121] l=qS N d [116,97,108,108,121] l:=by kernel_rfl
theorem WqI{l:List Int}:liS N d [114,111,117,110,100,115] l=qS N d [114,111,117,110,100,115] l:=by kernel_rfl
theorem Wtx{l:List Int}:liS N d [116,111,116,97,108] l=qS N d [116,111,116,97,108] l:=by kernel_rfl
theorem Wvq{l:List Int}:liS N d [114,97,110,107] l=qS N d [114,97,110,107] l:=by kernel_rfl
theorem WuW{l:List Int}:liS N d [115,116,101,112] l=bY (Zt N d [115,116,101,112] l) N:=by kernel_rfl
theorem Wvu{l:List Int}:liS N d [100,111,111,109] l=bY (Zt N d [100,111,111,109] l) N:=by kernel_rfl
theorem WsC{l:List Int}:liS N d [112,104,97,115,101] l=qS N d [112,104,97,115,101] l:=by kernel_rfl
theorem WvE{l:List Int}:liS N d [102,97,116,101] l=qS N d [102,97,116,101] l:=by kernel_rfl
theorem Wsj{l:List Int}:liS N d [118,97,108,117,101] l=qS N d [118,97,108,117,101] l:=by kernel_rfl
theorem WuU{l:List Int}:liS N d [102,105,110,100] l=qS N d [102,105,110,100] l:=by kernel_rfl
theorem WvJ{l:List Int}:liS N d [99,101,108,108] l=bY (Z7 N d [99,101,108,108] l) N:=by kernel_rfl
theorem Wxe{l:List Int}:liS N d [107,101,121] l=bY (Z7 N d [107,101,121] l) N:=by kernel_rfl
theorem Wvz{l:List Int}:liS N d [109,111,118,101] l=bY (Zt N d [109,111,118,101] l) N:=by kernel_rfl
end
end
section
section
variable{N:Nat}{d:Sc}{s:List UInt8}{r:List Kh}{w:List UInt8}
theorem smI{x:Option (Unit×(Sc×(List UInt8×Unit)))}{y:Option ((Sc×Unit)×(List UInt8×Unit))}(h:SmD x y):SmD x (y.bind λo=>some ((o.1.1,()),(o.2.1,()))):=by
 obtain⟨a,t,b,c,d⟩:=h;exact⟨a,t,b,by rw[c];rfl,d⟩
theorem WyA(h:SI d)(b:1048576<N){a:Int}:SmD (bY (Zt N d [115,116,101,112] [a]) N) (Z1 N d [115,116,101,112] a):=by
 have e:Z1 N d [115,116,101,112] a=(mK N d (1,(a,0))).bind λo=>some ((o.1.1,()),(o.2.1,())):=by
  have q:seq [115,116,101,112] ([115,116,101,112]:List UInt8)=true:=rfl;unfold Z1;simp only[q,Wa,WS (aG h) b,WK,ret,Xd];cases cI d<;>rfl
 rw[e];exact smI (M6 (k:=1) (r:=a) (j:=0) h b)
theorem Wyt(h:SI d)(b:1048576<N){a:Int}:SmD (bY (Zt N d [100,111,111,109] [a]) N) (Z1 N d [100,111,111,109] a):=by
 have e:Z1 N d [100,111,111,109] a=(mK N d (3,(a,0))).bind λo=>some ((o.1.1,()),(o.2.1,())):=by
  have q:seq [100,111,111,109] ([100,111,111,109]:List UInt8)=true:=rfl;have c:seq [100,111,111,109] ([115,116,101,112]:List UInt8)=false:=rfl;unfold Z1;simp only[q,c,Wa,Wb,WS (aG h) b,WK,ret,Xd];cases cI d<;>rfl
 rw[e];exact smI (M6 (k:=3) (r:=a) (j:=0) h b)
theorem WyH(h:SI d)(c:1048576<N){a b:Int}:SmD (bY (Zt N d [109,111,118,101] [a,b]) N) (lI N d [109,111,118,101] a b):=by
 have e:lI N d [109,111,118,101] a b=(mK N d (2,(a,b))).bind λo=>some ((o.1.1,()),(o.2.1,())):=rfl;rw[e];exact smI (M6 (k:=2) (r:=a) (j:=b) h c)
theorem whS(h:SI d):SmD (some ((),(d,(wh,())))) (some ((d,()),(wh,()))):=⟨_,_,rfl,rfl,h,by simp⟩
theorem WxJ(h:SI d)(g:1048576<N){l:List Int}(c:l.length=0->w∉wB)(e:l.length=1->w∉wO)(f:l.length=2->w∉wT):liI N d w l=some ((d,()),(wh,())):=by
 unfold liI
 match l with
 | []=>simp only[WwR (c rfl),Xd]
 | [a]=>simp only[WxY h g (e rfl),Xd]
 | [a,b]=>simp only[WxQ (f rfl),Xd]
 |_::_::_::_=>rfl
theorem Ww7(h:SI d)(v:s.length<=1000000)(f:1048576<N):SmD (ol N d s) (s7 N d s):=by
 obtain⟨o,b,q,p⟩:=WrB (N:=N) (s:=s) (by omega) f;cases b with
 |true=>
  obtain⟨J,t,x,y,B⟩:=Wyq (N:=N) (o:=o) h;unfold ol s7;rw[q,p];simp only[Xd,Wa,x,y];exact⟨_,_,rfl,rfl,B⟩
 |false=>
  cases hL:spl 32 s with
  |nil=>exact Wz hL (zp 32 s)
  |cons w r=>
   rw[WsW v f p hL];have I:(mA r).length=r.length:=Xt ..;have e:∀(A:Int),xU N w=ret A-> -1<=A/\A<=2->(r.length=0->A≠0->w∉wB)->(r.length=1->A≠1->w∉wO)->(r.length=2->A≠2->w∉wT)->(∀l:List Int,(l.length:Int)=A->SmD (liS N d w l) (liI N d w l))->SmD (ol N d s) (if okR r=true then liI N d w (mA r)else some ((d,()),(wh,()))):=λA C D F G H E=>by
    rw[Wsi v f q hL C D];cases aY:okR r with
    |false=>
     simp only[Bool.false_eq_true,W4];split<;>exact whS h
    |true=>
     simp only[WN];by_cases u:(r.length:Int)=A
     .rw[We (by omega)];exact E _ (by rw[I];exact u)
     .rw[Wf (.inr u),WxJ h f (λz=>F (by omega) (by omega)) (λz=>G (by omega) (by omega)) (λz=>H (by omega) (by omega))];exact whS h
   by_cases j:w∈wB
   .simp only[wB,Xr,mB,or_false]at j;have g:∀l:List Int,(l.length:Int)=0->l= []:=λl c=>List.length_eq_zero_iff.1 (by omega);rcases j with rfl|rfl|rfl|rfl|rfl|rfl
    .exact e 0 rfl (by omega) (λ_ z=>Wz rfl z) (λ_ _=>by decide) (λ_ _=>by decide) λl c=>by
      rw[g l c,Wu5];exact smI (Wxt h)
    .exact e 0 rfl (by omega) (λ_ z=>Wz rfl z) (λ_ _=>by decide) (λ_ _=>by decide) λl c=>by
      rw[g l c,WwB];exact smI (WxI h)
    .exact e 0 rfl (by omega) (λ_ z=>Wz rfl z) (λ_ _=>by decide) (λ_ _=>by decide) λl c=>by
      rw[g l c,WtB];exact smI (WuY h f)
    .exact e 0 rfl (by omega) (λ_ z=>Wz rfl z) (λ_ _=>by decide) (λ_ _=>by decide) λl c=>by
      rw[g l c,WqI];exact smI (Ws8 h f)
    .exact e 0 rfl (by omega) (λ_ z=>Wz rfl z) (λ_ _=>by decide) (λ_ _=>by decide) λl c=>by
      rw[g l c,Wtx];exact smI (Wum h f)
    .exact e 0 rfl (by omega) (λ_ z=>Wz rfl z) (λ_ _=>by decide) (λ_ _=>by decide) λl c=>by
      rw[g l c,Wvq];exact smI (WwD h f)
   by_cases k:w∈wO
   .simp only[wO,Xr,mB,or_false]at k;have i:∀l:List Int,(l.length:Int)=1->∃a,l= [a]:=λl c=>List.length_eq_one_iff.1 (by omega);rcases k with rfl|rfl|rfl|rfl|rfl|rfl
    .exact e 1 rfl (by omega) (λ_ _=>by decide) (λ_ z=>Wz rfl z) (λ_ _=>by decide) λl c=>by
      obtain⟨a,rfl⟩:=i l c;rw[WuW];exact smI (WyA h f)
    .exact e 1 rfl (by omega) (λ_ _=>by decide) (λ_ z=>Wz rfl z) (λ_ _=>by decide) λl c=>by
      obtain⟨a,rfl⟩:=i l c;rw[Wvu];exact smI (Wyt h f)
    .exact e 1 rfl (by omega) (λ_ _=>by decide) (λ_ z=>Wz rfl z) (λ_ _=>by decide) λl c=>by
      obtain⟨a,rfl⟩:=i l c;rw[WsC];exact smI (Wuj h f)
    .exact e 1 rfl (by omega) (λ_ _=>by decide) (λ_ z=>Wz rfl z) (λ_ _=>by decide) λl c=>by
      obtain⟨a,rfl⟩:=i l c;rw[WvE];exact smI (Wxo h f)
    .exact e 1 rfl (by omega) (λ_ _=>by decide) (λ_ z=>Wz rfl z) (λ_ _=>by decide) λl c=>by
      obtain⟨a,rfl⟩:=i l c;rw[Wsj];exact smI (WvH h f)
    .exact e 1 rfl (by omega) (λ_ _=>by decide) (λ_ z=>Wz rfl z) (λ_ _=>by decide) λl c=>by
      obtain⟨a,rfl⟩:=i l c;rw[WuU];exact smI (Ww0 h f)
   by_cases m:w∈wT
   .simp only[wT,Xr,mB,or_false]at m;have n:∀l:List Int,(l.length:Int)=2->∃a b,l= [a,b]:=λl c=>by
     match l,c with
     | [a,b],_=>exact⟨a,b,rfl⟩
     | [],c=>cases c
     | [_],c=>cases c
     |_::_::_::_,c=>simp at c;omega
    rcases m with rfl|rfl|rfl
    .exact e 2 rfl (by omega) (λ_ _=>by decide) (λ_ _=>by decide) (λ_ z=>Wz rfl z) λl c=>by
      obtain⟨a,b,rfl⟩:=n l c;rw[WvJ];exact smI (Wxq h)
    .exact e 2 rfl (by omega) (λ_ _=>by decide) (λ_ _=>by decide) (λ_ z=>Wz rfl z) λl c=>by
      obtain⟨a,b,rfl⟩:=n l c;rw[Wxe];exact smI (WxF h)
    .exact e 2 rfl (by omega) (λ_ _=>by decide) (λ_ _=>by decide) (λ_ z=>Wz rfl z) λl c=>by
      obtain⟨a,b,rfl⟩:=n l c;rw[Wvz];exact smI (WyH h f)
   exact e (-1) (Wxn j k m) (by omega) (λ_ _=>j) (λ_ _=>k) (λ_ _=>m) λl c=>by omega
abbrev DK:=Unit×(List UInt8×Unit)
theorem Mp{L:List Kh}(j:1048576<N)(h:∀x∈L,x.length<=1000000)(l:L.length<=80):∀(m i a:Nat) (b:List UInt8) (c:Int) (cs d:List Int) (e:List Pg) (as:List Ac),i+m=L.length->m<a->b.length+400*m<=100000->SI ((cs,(d,c)),(e,as))->
  ∃t,Zr N L (λk A z B w y q v=>(some ((),(k,())):Option DK)) a b (i:Int) c cs d e as=some ((),(t,()))/\mP N (Wh L) L (λk A z B w y q v=>(some ((),(k,())):Option DK)) a b (i:Int) c cs d e as=some ((),(t,()))
 |0,i,a,b,c,cs,d,e,as,r,s,u,h4=>by
  obtain⟨g,rfl⟩:∃g,a=g+1:=⟨a-1,by omega⟩;refine⟨b,?_,?_⟩
  .rw[Zr,WP (by omega),Wb]
  .rw[mP,WP (by omega),Wb]
 |m+1,i,a,b,c,cs,d,e,as,r,s,u,h4=>by
  obtain⟨g,rfl⟩:∃g,a=g+1:=⟨a-1,by omega⟩;have f:i<L.length:=by omega
  rw[Zr,mP,WG f,Ws f,Ww f,Wk (show i<4611686018427387904 by omega)];simp only[Wa,Nj];cases he:seq L[i] []with
  |true=>
   simp only[Wa,Xn,Wb];exact Mp j h l m (i+1) g b c cs d e as (by omega) (by omega) (by omega) h4
  |false=>
   obtain⟨C,t,n,o,p,D⟩:=Ww7 (N:=N) h4 (h _ (Xy f)) j;simp only[Wa,bS,Wb];rw[n,o];simp only[Xd];rw[ku (by omega),ku (by simp;omega),Wa,Wa];exact Mp j h l m (i+1) g _ _ _ _ _ _ (by omega) (by omega) (by simp;omega) p
theorem Wtl(g:1048576<N)(w:s.length<=1048576):∃t,CD N s=some ((),(t,()))/\CE N s=some ((),(t,())):=by
 have q:jr N s 10=ret (spl 10 s):=FP (c:=10) w g;have j:=zp 10 s;have f:=Dw 10 s;have e:∀x∈spl 10 s,x.length<=s.length:=λx d=>uw d;unfold CD CE;rw[Ls,q];simp only[ret,Xd,Nj];generalize spl 10 s=L at*;rcases List.eq_nil_or_concat L with rfl|⟨P,p,rfl⟩
 .exact Wz rfl j
 simp only[List.concat_eq_append]at f e⊢;have z:P.length<=1048576:=by simp at f;omega
 have k:Wv .i64 (Wh (P++ [p])) 1=(P.length:Int):=by
  rw[WM (by unfold I64 Wh;simp;omega)];unfold Wh;simp
 have l:decide (Wh (P++ [p])>0)=true:=X8;have o:(((decide ((0:Int)<=(8:Int)))&&(decide ((8:Int)<=(8:Int))))&&(Wx (Xa (8:Int))))=true:=rfl;have m:(decide ((0:Int)<=(P.length:Int))&&decide ((P.length:Int)<=(((P++ [p]).length:Nat):Int)))=true:=by simp;omega
 have n:List.take P.length (P++ [p])=P:=by simp
 have i:SI ((Xk (Xa 8) 0,(Xk (Xa 8) 0,0)),([],[])):=⟨rfl,rfl,by simp,(λp v=>by cases v),by simp⟩;have fin:∀M:List Kh,(∀x∈M,x.length<=s.length)->s.length<=20000->M.length<=80->_:=λM r y u=>Mp (N:=N) (L:=M) g (λx d=>by have:=r x d;omega) u M.length 0 N [] 0 (Xk (Xa 8) 0) (Xk (Xa 8) 0) [] [] (by omega) (by omega) (by simp;omega) i;simp only[k,l,m,o,GZ,GK,Xj,n,Wa];by_cases b:Wh s>20000
 .rw[Wc b];simp only[Wa];cases seq p []<;>exact⟨_,rfl,rfl⟩
 .rw[Wi b];have h:s.length<=20000:=by unfold Wh at b;omega
  simp only[Wb];cases seq p []with
  |true=>
   simp only[Wa];by_cases a:Wh P>80
   .rw[Wc a];exact⟨_,rfl,rfl⟩
   .rw[Wi a];exact fin P (λx d=>e x (by simp[d])) h (by unfold Wh at a;omega)
  |false=>
   simp only[Wb];by_cases a:Wh (P++ [p])>80
   .rw[Wc a];exact⟨_,rfl,rfl⟩
   .rw[Wi a];exact fin (P++ [p]) e h (by unfold Wh at a;omega)
theorem WuD(c:1048576<N):Zig N s=some ((),(true,())):=by
 unfold Zig;by_cases h:Wh s>1048576
 .rw[Wc h];rfl
 .rw[Wi h,Wb];obtain⟨t,a,b⟩:=Wtl (N:=N) (s:=s) c (by unfold Wh at h;omega);rw[a,b];simp[seq]
theorem law_FnExactDesk(d:cu [.v (.str) false])(a:GO [.v (.str) false] d):∃N o,Zig N d.1=some (o,(true,())):=
 ⟨1600001,(),WuD (by omega)⟩
end
end
end Go.Sx
