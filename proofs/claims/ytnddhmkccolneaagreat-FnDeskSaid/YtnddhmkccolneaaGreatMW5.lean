/- Plain laws of the Lean functions. -/
import Derived.Test.YtnddhmkccolneaaGreatMW4
open List renaming range→cK,length→Xa,getD→Xc,getElem_mem→Xt,length_map→Xu,getElem_map→qn,mem_append→Xo,drop_length→fo,drop_eq_getElem_cons→d4,map_cons→bn,flatMap_cons→qp,append_assoc→fX,cons_append→dM,nil_append→dn,mem_map→Xx,mem_cons→Xq,all_cons→d6,not_mem_nil→mf,mem_cons_of_mem→Xg,length_eq_zero_iff→EA,count_append→O9,count_eq_zero→Xhm,replicate→Xp,take→ah,countP_le_length→AY,length_drop→kO,take_append_of_le_length→ZU,countP_append→A3,take_succ_eq_append_getElem→qh,take_append_drop→Ew,length_take→ca,take_length→kQ,mem_singleton→cq,length_append→Xv,append→Xe,drop→dC
open Option renaming bind_some→Xd
open Bool renaming and_eq_true→Xh,not_true→Xn,true_and→eI
open Int renaming toNat→Xb,toNat_natCast→Xk,eq_ofNat_of_zero_le→oc
open Nat renaming le_refl→Xj,zero_add→cb,le_trans→eO
namespace Go.Sx
set_option linter.unusedVariables false
set_option linter.unusedSimpArgs false
section
section
variable{N:Nat}{l:List Int}
theorem Ww6(h:SlOk l)(f:1048576<N):CK N l=ret ((cK 8).map λi:Nat=>aH l (i:Int)):=by
 unfold CK;rw[CZ h f];have m:∀(d j a:Nat),j+d=8->d<a->yz N l (λs q k=>(some ((),(k,())))) a (j:Int) ((cK j).map λi:Nat=>aH l (i:Int))=ret ((cK 8).map λi:Nat=>aH l (i:Int)):=by
  intro d
  induction d with
  |zero=>
   intro j a o n;obtain⟨g,rfl⟩:∃g,a=g+1:=⟨a-1,by omega⟩;have:j=8:=by omega
   subst this;rfl
  |succ d b=>
   intro j a o n;obtain⟨g,rfl⟩:∃g,a=g+1:=⟨a-1,by omega⟩;have b:=b (j+1) g (by omega) (by omega);rw[List.range_succ,List.map_append,List.map_singleton]at b;have r:=mG l (j:Int);have p:∀z:Int,Wx ((Xa ((cK j).map λi:Nat=>aH l (i:Int)))+(Xa [z]))=true:=λz=>Wp (by simp;omega);rw[yz,Wc (by omega),Wa,R4 h ⟨by omega,by omega⟩ f];simp only[Xd,p,Wa,Wl (show j<4611686018427387904 by omega)];by_cases c:aH l (j:Int)=0
   .rw[Wg (by simp[c]),Wb,Wf c];rw[c]at b;exact b
   .rw[Wc c,Wa,We c];have e:Wj .i64 (aH l (j:Int) -1) 1=aH l (j:Int):=by
     rw[WA (by unfold I64;omega)];omega
    rw[e];exact b
 exact m 8 0 N (by omega) (by omega)
end
section
variable{N:Nat}{d:Sc}{v:Wo}
noncomputable def qS(N:Nat)(d:Sc)(cmd:List UInt8)(n:List Int):Option (Unit×(Sc×(List UInt8×Unit))):=
 (Zh N d).bind λo=>(bif !o.2.1 then some ((),(d,(([110,111]:List UInt8),())))else(Zl N d cmd n).bind λo=>some ((),(d,(o.2.1,()))))
structure VW(d:Sc)(v:Wo):Prop where
 ok:∃n,WOk d.2.1 n v
 ft:hY v
theorem WxI(a:cI d=true):VW d (ea d):=⟨⟨_,GY a⟩,Yu⟩
theorem DB(e:cI d=true):VW d (cD d 6000 (ea d)).1:=by
 obtain⟨f,g,h,i⟩:=rS e;obtain⟨n,a,b,c⟩:=UV (s:=d) (by omega) 6000 _ _ (NS d.2.2 0 _ (Ae e)) (Nw d.2.2 0 _ (Ae e) XZ);exact⟨⟨n,b⟩,XN _ _ Yu⟩
theorem X0(h:VW d v){n}(b:0<=n/\n<=Wz .i64 (Wi d.2.1) 1)(g:d.2.1.length<=4):∃x:Rt,F3 x/\inb n (Xa v.e.2.2.2.2.2.1)=true/\Xc v.e.2.2.2.2.2.1 n.toNat d_Root=x.e:=by
 obtain⟨m,f⟩:=h.ok;have a:v.e.2.2.2.2.2.1=v.η.map Rt.e:=rfl;rw[WJ (by unfold I64 Wi;omega)]at b;unfold Wi at b;have c:n.toNat<v.η.length:=by rw[f.len];omega
 refine⟨v.η[n.toNat],h.ft _ (Xt c),?_,?_⟩
 .rw[a];unfold inb;rw[Xu];simp only[Xh,Wh];omega
 .rw[a,WB (by simpa using c),qn]
theorem Ww1(h:VW d v){n}(b:bU n=true):inb n (Xa v.e.2.2.1.2)=true/\I64 (Xc v.e.2.2.1.2 n.toNat ((0:Int),((0:Int),(0:Int)))).1:=by
 obtain⟨m,i⟩:=h.ok;obtain⟨g,_,_,f⟩:=WE i.mem;have a:v.e.2.2.1.2=v.mem.2:=rfl;unfold bU at b;simp only[Xh,Wh]at b;have c:n.toNat<v.mem.2.length:=by omega
 refine⟨?_,?_⟩
 .rw[a,g];unfold inb;simp only[Xh,Wh];omega
 .rw[a,WB c];have:=f _ (Xt c);unfold fV bR at this;simp only[Xh,Wh]at this;unfold I64;omega
theorem Wu9(p):Ru N p=BD N p:=rfl
theorem Wsp{p}:(10:UInt8)∉Ag p:=by
 unfold Ag;split
 .have:p.toNat<9:=by omega
  generalize p.toNat=q at this;revert q;decide
 .simp
theorem jA(n)(a:I64 n)(b:1048576<N):Zv N n=some ((),(aL n,())):=Dg a (by omega)
theorem kK(n)(a:I64 n)(b:1048576<N):Z2 N n=some ((),(aL n,())):=L7 a (by omega)
theorem pd{n}(c:I64 n):(10:UInt8)∉aL n:=λh=>by
 obtain⟨D,d,a,b⟩:=GI n (by unfold I64 at c;omega);rw[b]at h;rcases Xo.1 h with h|h
 .split at h
  .simp at h
  .cases h
 .exact Wy (List.all_eq_true.1 a _ h) (by decide)
theorem d300{n}(a:I64 n):(aL n).length<=300/\(10:UInt8)∉aL n:=⟨by have:=ek n;omega,pd a⟩
theorem AD(a:cI d=true):(dr d).1=(cD d 6000 (ea d)).1.e/\I64 (dr d).2:=by
 unfold dr;rw[Wf a];have:=VP (s:=d) 6000 (ea d);exact⟨rfl,by unfold I64;omega⟩
theorem WyN{a b c e f g i}(h:I64 a/\I64 b/\I64 c/\I64 e/\I64 f/\I64 g/\I64 i)(d:1048576<N):∃s:List UInt8,(s.length<=300/\(10:UInt8)∉s)/\IV N (a,b,c,e,f,g,i)=ret s/\IU N (a,b,c,e,f,g,i)=ret s:=by
 obtain⟨j,k,l,m,n,o,p⟩:=h;have x:=ek a;have y:=ek b;have z:=ek c;have le:=ek e;have A:=ek f;have B:=ek g;have C:=ek i;have q:=pd j;have r:=pd k;have t:=pd l;have ne:=pd m;have u:=pd n;have v:=pd o;have w:=pd p;unfold IV IU;simp only[jA a j d,jA b k d,jA c l d,jA e m d,jA f n d,jA g o d,jA i p d,kK a j d,kK b k d,kK c l d,kK e m d,kK f n d,kK g o d,kK i p d,Xd]
 repeat rw[kh (by simp;omega)]
 exact⟨_,⟨by simp;omega,by simp[q,r,t,ne,u,v,w]⟩,rfl,rfl⟩
theorem Wvs(h:SI d)(j:1048576<N):SmD (qS N d [116,97,108,108,121] []) (Zx N d [116,97,108,108,121]):=by
 unfold qS Zl Zx;have n:seq [116,97,108,108,121] ([116,97,108,108,121]:List UInt8)=true:=rfl;have o:seq [116,97,108,108,121] ([114,111,111,116]:List UInt8)=false:=rfl;have p:seq [116,97,108,108,121] ([107,105,100]:List UInt8)=false:=rfl;simp only[n,o,p,Wa,Wb,W8 (aB h) j,WR (aB h) j,ret,Xd,pq (aB h) j,zP (aB h) j];cases aY:cI d with
 |false=>exact⟨_,_,rfl,rfl,h,by simp⟩
 |true=>
  simp only[Xn,Wb,W1];have k:=GY aY;obtain⟨x,y,z,A⟩:=rS aY;have l:=Wvw k (by omega) (Nw d.2.2 0 _ (Ae aY) XZ);obtain⟨B,_⟩:=WE k.mem;obtain⟨a,b,c,e,f,g,i,m,u,v⟩:=Wv8 (w:=(ea d).e) (N:=N) (by show((ea d).η.map Rt.e).length<=_;rw[Xu,k.len];omega) (by show(ea d).mem.2.length<=_;omega) (by unfold XL at l;show(ea d).e.2.2.2.2.1.length<=_;unfold X8 at l;omega) j;obtain⟨s,q,r,t⟩:=WyN m j;rw[u,v];simp only[ret,Xd];rw[r,t];exact⟨_,_,rfl,rfl,h,q⟩
theorem Wtz(h:SI d)(a:1048576<N):SmD (qS N d [114,111,117,110,100,115] []) (Zx N d [114,111,117,110,100,115]):=by
 unfold qS Zl Zx;have e:seq [114,111,117,110,100,115] ([116,97,108,108,121]:List UInt8)=false:=rfl;have f:seq [114,111,117,110,100,115] ([112,104,97,115,101]:List UInt8)=false:=rfl;have g:seq [114,111,117,110,100,115] ([114,111,117,110,100,115]:List UInt8)=true:=rfl;have i:seq [114,111,117,110,100,115] ([116,111,116,97,108]:List UInt8)=false:=rfl;have j:seq [114,111,117,110,100,115] ([114,97,110,107]:List UInt8)=false:=rfl;have k:seq [114,111,117,110,100,115] ([102,97,116,101]:List UInt8)=false:=rfl;have l:seq [114,111,117,110,100,115] ([118,97,108,117,101]:List UInt8)=false:=rfl;have m:seq [114,111,117,110,100,115] ([114,111,111,116]:List UInt8)=false:=rfl;have n:seq [114,111,117,110,100,115] ([107,105,100]:List UInt8)=false:=rfl;simp only[e,f,g,i,j,k,l,m,n,Wa,Wb,W8 (aB h) a,WR (aB h) a,ret,Xd,pq (aB h) a,vf (aB h) a,vk (aB h) a];cases aY:cI d with
 |false=>exact⟨_,_,rfl,rfl,h,by simp⟩
 |true=>
  obtain⟨o,c⟩:=AD aY;have b:I64 (dr d).2:=by
   exact c
  simp only[Xn,Wb,jA _ b a,kK _ b a,Xd];exact⟨_,_,rfl,rfl,h,d300 b⟩
theorem WuS(h:SI d)(a:1048576<N):SmD (qS N d [116,111,116,97,108] []) (Zx N d [116,111,116,97,108]):=by
 unfold qS Zl Zx;have f:seq [116,111,116,97,108] ([116,97,108,108,121]:List UInt8)=false:=rfl;have g:seq [116,111,116,97,108] ([112,104,97,115,101]:List UInt8)=false:=rfl;have i:seq [116,111,116,97,108] ([114,111,117,110,100,115]:List UInt8)=false:=rfl;have j:seq [116,111,116,97,108] ([116,111,116,97,108]:List UInt8)=true:=rfl;have k:seq [116,111,116,97,108] ([114,97,110,107]:List UInt8)=false:=rfl;have l:seq [116,111,116,97,108] ([102,97,116,101]:List UInt8)=false:=rfl;have m:seq [116,111,116,97,108] ([118,97,108,117,101]:List UInt8)=false:=rfl;have o:seq [116,111,116,97,108] ([114,111,111,116]:List UInt8)=false:=rfl;have p:seq [116,111,116,97,108] ([107,105,100]:List UInt8)=false:=rfl;simp only[f,g,i,j,k,l,m,o,p,Wa,Wb,W8 (aB h) a,WR (aB h) a,ret,Xd,pq (aB h) a,vf (aB h) a,vk (aB h) a];cases aY:cI d with
 |false=>exact⟨_,_,rfl,rfl,h,by simp⟩
 |true=>
  obtain⟨c,q⟩:=AD aY;have b:I64 (dr d).1.2.2.2.1.2:=by
   obtain⟨n,e⟩:=(DB aY).ok;have:=e.ο.cnt;rw[c];show I64 (cD d 6000 (ea d)).1.ο.2;unfold I64;omega
  simp only[Xn,Wb,jA _ b a,kK _ b a,Xd];exact⟨_,_,rfl,rfl,h,d300 b⟩
theorem WuP(h:SI d)(a:1048576<N){n}:SmD (qS N d [112,104,97,115,101] [n]) (Z3 N d [112,104,97,115,101] n):=by
 unfold qS Zl Z3;have f:seq [112,104,97,115,101] ([116,97,108,108,121]:List UInt8)=false:=rfl;have g:seq [112,104,97,115,101] ([112,104,97,115,101]:List UInt8)=true:=rfl;have i:seq [112,104,97,115,101] ([114,111,117,110,100,115]:List UInt8)=false:=rfl;have j:seq [112,104,97,115,101] ([116,111,116,97,108]:List UInt8)=false:=rfl;have k:seq [112,104,97,115,101] ([114,97,110,107]:List UInt8)=false:=rfl;have l:seq [112,104,97,115,101] ([102,97,116,101]:List UInt8)=false:=rfl;have m:seq [112,104,97,115,101] ([118,97,108,117,101]:List UInt8)=false:=rfl;have o:seq [112,104,97,115,101] ([115,116,101,112]:List UInt8)=false:=rfl;have p:seq [112,104,97,115,101] ([100,111,111,109]:List UInt8)=false:=rfl;have q:seq [112,104,97,115,101] ([102,105,110,100]:List UInt8)=false:=rfl;have c:∀n:Int,inb 0 (Xa [n])=true:=λ_=>rfl;have b:∀n:Int,Xc [n] (Xb 0) 0=n:=λ_=>rfl;simp only[f,g,i,j,k,l,m,o,p,q,Wa,Wb,W8 (aB h) a,WR (aB h) a,cC,WK,mD,W2,Df,zF,ret,Xd,pq (aB h) a,zP (aB h) a,vf (aB h) a,vk (aB h) a,c,b];cases aY:cI d with
 |false=>exact⟨_,_,rfl,rfl,h,by simp⟩
 |true=>
  simp only[Xn,Bool.not_false,Wa,Wb,W1,Xd];cases hn:(decide ((0:Int)<=n)&&decide (n<=Wz .i64 (Wi d.2.1) 1))with
  |false=>exact⟨_,_,rfl,rfl,h,by simp⟩
  |true=>
   simp only[Xh,Wh]at hn;obtain⟨x,t,r,s⟩:=X0 (WxI aY) hn h.p4;simp only[r,s,Xn,Wa,Wb,Wu9,Wl4,ret,Xd];exact⟨_,_,rfl,rfl,h,⟨by have:=WrG x.e.1;omega,Wsp⟩⟩
theorem WxW(h:SI d)(a:1048576<N){n}:SmD (qS N d [102,97,116,101] [n]) (Z3 N d [102,97,116,101] n):=by
 unfold qS Zl Z3;have i:seq [102,97,116,101] ([116,97,108,108,121]:List UInt8)=false:=rfl;have j:seq [102,97,116,101] ([112,104,97,115,101]:List UInt8)=false:=rfl;have k:seq [102,97,116,101] ([114,111,117,110,100,115]:List UInt8)=false:=rfl;have l:seq [102,97,116,101] ([116,111,116,97,108]:List UInt8)=false:=rfl;have m:seq [102,97,116,101] ([114,97,110,107]:List UInt8)=false:=rfl;have o:seq [102,97,116,101] ([102,97,116,101]:List UInt8)=true:=rfl;have p:seq [102,97,116,101] ([118,97,108,117,101]:List UInt8)=false:=rfl;have q:seq [102,97,116,101] ([115,116,101,112]:List UInt8)=false:=rfl;have r:seq [102,97,116,101] ([100,111,111,109]:List UInt8)=false:=rfl;have s:seq [102,97,116,101] ([102,105,110,100]:List UInt8)=false:=rfl;have g:∀n:Int,inb 0 (Xa [n])=true:=λ_=>rfl;have c:∀n:Int,Xc [n] (Xb 0) 0=n:=λ_=>rfl;simp only[i,j,k,l,m,o,p,q,r,s,Wa,Wb,W8 (aB h) a,WR (aB h) a,cC,WK,mD,W2,Df,zF,ret,Xd,pq (aB h) a,zP (aB h) a,vf (aB h) a,vk (aB h) a,g,c];cases aY:cI d with
 |false=>exact⟨_,_,rfl,rfl,h,by simp⟩
 |true=>
  cases hn:(decide ((0:Int)<=n)&&decide (n<=Wz .i64 (Wi d.2.1) 1))with
  |false=>exact⟨_,_,rfl,rfl,h,by simp⟩
  |true=>
   simp only[Xh,Wh]at hn;obtain⟨x,f,t,u⟩:=X0 (DB aY) hn h.p4;have b:I64 x.e.2.2.2.2.2.2.2.1:=by
    show I64 x.EN;unfold F3 at f;unfold I64;omega
   simp only[(AD aY).1,t,u,Xn,Wa,Wb,jA _ b a,kK _ b a,ret,Xd];exact⟨_,_,rfl,rfl,h,d300 b⟩
theorem Wwa(h:SI d)(a:1048576<N){n}:SmD (qS N d [118,97,108,117,101] [n]) (Z3 N d [118,97,108,117,101] n):=by
 unfold qS Zl Z3;have f:seq [118,97,108,117,101] ([116,97,108,108,121]:List UInt8)=false:=rfl;have g:seq [118,97,108,117,101] ([112,104,97,115,101]:List UInt8)=false:=rfl;have i:seq [118,97,108,117,101] ([114,111,117,110,100,115]:List UInt8)=false:=rfl;have j:seq [118,97,108,117,101] ([116,111,116,97,108]:List UInt8)=false:=rfl;have k:seq [118,97,108,117,101] ([114,97,110,107]:List UInt8)=false:=rfl;have l:seq [118,97,108,117,101] ([102,97,116,101]:List UInt8)=false:=rfl;have m:seq [118,97,108,117,101] ([118,97,108,117,101]:List UInt8)=true:=rfl;have o:seq [118,97,108,117,101] ([115,116,101,112]:List UInt8)=false:=rfl;have p:seq [118,97,108,117,101] ([100,111,111,109]:List UInt8)=false:=rfl;have q:seq [118,97,108,117,101] ([102,105,110,100]:List UInt8)=false:=rfl;have e:∀n:Int,inb 0 (Xa [n])=true:=λ_=>rfl;have c:∀n:Int,Xc [n] (Xb 0) 0=n:=λ_=>rfl;simp only[f,g,i,j,k,l,m,o,p,q,Wa,Wb,W8 (aB h) a,WR (aB h) a,cC,WK,mD,W2,Df,zF,ret,Xd,pq (aB h) a,zP (aB h) a,vf (aB h) a,vk (aB h) a,e,c];cases aY:cI d with
 |false=>exact⟨_,_,rfl,rfl,h,by simp⟩
 |true=>
  cases hn:bU n with
  |false=>exact⟨_,_,rfl,rfl,h,by simp⟩
  |true=>
   obtain⟨r,b⟩:=Ww1 (DB aY) hn;simp only[(AD aY).1,r,Xn,Wa,Wb,jA _ b a,kK _ b a,ret,Xd];exact⟨_,_,rfl,rfl,h,d300 b⟩
theorem Wxw(h:SI d)(a:1048576<N){n}:SmD (qS N d [102,105,110,100] [n]) (Z3 N d [102,105,110,100] n):=by
 unfold qS Zl Z3;have j:seq [102,105,110,100] ([116,97,108,108,121]:List UInt8)=false:=rfl;have k:seq [102,105,110,100] ([112,104,97,115,101]:List UInt8)=false:=rfl;have l:seq [102,105,110,100] ([114,111,117,110,100,115]:List UInt8)=false:=rfl;have o:seq [102,105,110,100] ([116,111,116,97,108]:List UInt8)=false:=rfl;have p:seq [102,105,110,100] ([114,97,110,107]:List UInt8)=false:=rfl;have q:seq [102,105,110,100] ([102,97,116,101]:List UInt8)=false:=rfl;have r:seq [102,105,110,100] ([118,97,108,117,101]:List UInt8)=false:=rfl;have s:seq [102,105,110,100] ([115,116,101,112]:List UInt8)=false:=rfl;have t:seq [102,105,110,100] ([100,111,111,109]:List UInt8)=false:=rfl;have u:seq [102,105,110,100] ([102,105,110,100]:List UInt8)=true:=rfl;have g:∀n:Int,inb 0 (Xa [n])=true:=λ_=>rfl;have f:∀n:Int,Xc [n] (Xb 0) 0=n:=λ_=>rfl;simp only[j,k,l,o,p,q,r,s,t,u,Wa,Wb,W8 (aB h) a,WR (aB h) a,cC,WK,mD,W2,Df,zF,ret,Xd,pq (aB h) a,zP (aB h) a,vf (aB h) a,vk (aB h) a,g,f];cases aY:cI d with
 |false=>exact⟨_,_,rfl,rfl,h,by simp⟩
 |true=>
  cases hn:d9 n with
  |false=>exact⟨_,_,rfl,rfl,h,by simp⟩
  |true=>
   obtain⟨m,c⟩:=(DB aY).ok;have e:(dr d).1.2.2.2.1.1=(cD d 6000 (ea d)).1.ο.1:=by rw[(AD aY).1];rfl
   rw[e,Ww6 c.ο.slots a,WsS c.ο.slots a];unfold d9 at hn;simp only[Xh,Wh]at hn;have v:inb n (Xa ((cK 8).map λi:Nat=>aH (cD d 6000 (ea d)).1.ο.1 (i:Int)))=true:=by
    unfold inb;simp only[Xu,List.length_range,Xh,Wh];omega
   have b:I64 (Xc ((cK 8).map λi:Nat=>aH (cD d 6000 (ea d)).1.ο.1 (i:Int)) n.toNat 0):=by
    rw[WB (by simp;omega),qn];have:=mG (cD d 6000 (ea d)).1.ο.1 (((cK 8)[n.toNat]'(by simp;omega):Nat):Int);unfold I64;omega
   simp only[ret,v,Xn,Wa,Wb,jA _ b a,kK _ b a,Xd];exact⟨_,_,rfl,rfl,h,d300 b⟩
end
end
section
section
variable{N:Nat}{d:Sc}{R:Type}{l:List Int}
theorem Yg{K0:List UInt8->Int->Bool->Option R}(e:1048576<N)(c:∀x∈l,I64 x)(k:l.length<=10):∀(d i a) (s),i+d=l.length->d<a->s.length+31*d<=1000->
  yo N l K0 a s (i:Int)=K0 (s++((l.drop i).map aL).flatMap λx=>32::x) (l.length:Int) false
 |0,i,a,s,h,j,h3=>by
  obtain⟨g,rfl⟩:∃g,a=g+1:=⟨a-1,by omega⟩;have:i=l.length:=by omega
  subst this;rw[yo,WN (Xj _),Wb,fo];simp
 |d+1,i,a,s,h,j,h3=>by
  obtain⟨g,rfl⟩:∃g,a=g+1:=⟨a-1,by omega⟩;have b:i<l.length:=by omega
  have f:=d4 b;have m:=ek l[i];rw[yo,WF b,Wa,Wq b,kh (by simp;omega),Wa,Wa,Wu b,jA _ (c _ (Xt b)) e];simp only[Xd];rw[kh (by simp;omega),Wa,Wl (by omega),Yg e c k d (i+1) g _ (by omega) (by omega) (by simp;omega),f];simp only[bn,qp,fX,dM,dn]
theorem Vv{b}{l1 l2}{l3:List Pg}{l4:List Ac}{K0:List UInt8->Int->Bool->Option R}(f:1048576<N)(e:∀x∈l,I64 x)(m:l.length<=10):∀(d i a) (s),i+d=l.length->d<a->s.length+31*d<=1000->
  oh N l (Wi l) b l1 l2 l3 l4 K0 a s (i:Int)=K0 (s++((l.drop i).map aL).flatMap λx=>32::x) (l.length:Int) false
 |0,i,a,s,j,k,h3=>by
  obtain⟨g,rfl⟩:∃g,a=g+1:=⟨a-1,by omega⟩;have:i=l.length:=by omega
  subst this;rw[oh,WN (Xj _),Wb,fo];simp
 |d+1,i,a,s,j,k,h3=>by
  obtain⟨g,rfl⟩:∃g,a=g+1:=⟨a-1,by omega⟩;have c:i<l.length:=by omega
  have h:=d4 c;have n:=ek l[i];rw[oh,WF c,Wa,Wq c,kh (by simp;omega),Wa,Wa,Wu c,kK _ (e _ (Xt c)) f];simp only[Xd];rw[kh (by simp;omega),Wa,Wl (by omega),Vv f e m d (i+1) g _ (by omega) (by omega) (by simp;omega),h];simp only[bn,qp,fX,dM,dn]
theorem Ww9(h:SI d)(c:1048576<N):SmD (qS N d [114,97,110,107] []) (Zx N d [114,97,110,107]):=by
 unfold qS Zl Zx;have t:seq [114,97,110,107] ([116,97,108,108,121]:List UInt8)=false:=rfl;have u:seq [114,97,110,107] ([112,104,97,115,101]:List UInt8)=false:=rfl;have z:seq [114,97,110,107] ([114,111,117,110,100,115]:List UInt8)=false:=rfl;have A:seq [114,97,110,107] ([116,111,116,97,108]:List UInt8)=false:=rfl;have B:seq [114,97,110,107] ([114,97,110,107]:List UInt8)=true:=rfl;have C:seq [114,97,110,107] ([102,97,116,101]:List UInt8)=false:=rfl;have D:seq [114,97,110,107] ([118,97,108,117,101]:List UInt8)=false:=rfl;have E:seq [114,97,110,107] ([114,111,111,116]:List UInt8)=false:=rfl;have F:seq [114,97,110,107] ([107,105,100]:List UInt8)=false:=rfl;simp only[t,u,z,A,B,C,D,E,F,Wa,Wb,W8 (aB h) c,WR (aB h) c,ret,Xd,pq (aB h) c,vf (aB h) c,vk (aB h) c];cases aY:cI d with
 |false=>exact⟨_,_,rfl,rfl,h,by simp⟩
 |true=>
  obtain⟨n,s⟩:=(DB aY).ok;have e:(cD d 6000 (ea d)).1.η.length<=4:=by rw[s.len];exact h.p4
  simp only[(AD aY).1,Wux c e,Wri c e,Xn,Wb,ret,Xd];generalize (cD d 6000 (ea d)).1=w at*;have g:((rks w).map λk:Nat=>(k:Int)).length<=4:=by rw[Xu,Hm];exact DS e
  have f:∀x∈(rks w).map λk:Nat=>(k:Int),I64 x:=λx o=>by
   obtain⟨k,l,rfl⟩:=Xx.1 o;have:=((Av (w:=w)).2 k).1 l;unfold I64;omega
  have i:=Yg (N:=N) (R:=Unit×(List UInt8×Unit)) (K0:=λq I J=>(some ((),(q,())))) c f (by omega) _ 0 N [114,97,110,107] (cb _) (by omega) (by simp at g⊢;omega);have j:=Vv (N:=N) (R:=(Sc×Unit)×(List UInt8×Unit)) (b:=d.1.2.2) (l1:=d.1.1) (l2:=d.1.2.1) (l3:=d.2.1) (l4:=d.2.2) (K0:=λr G H=>(some ((d,()),(r,())))) c f (by omega) _ 0 N [114,97,110,107] (cb _) (by omega) (by simp at g⊢;omega);rw[show((0:Nat):Int)=0 from rfl]at i j;rw[i,j];refine⟨_,_,rfl,rfl,h,?_,λa=>?_⟩;rotate_left
  .rcases Xo.1 a with a|a
   .simp at a
   .obtain⟨y,p,a⟩:=List.mem_flatMap.1 a;obtain⟨v,m,rfl⟩:=Xx.1 p;rcases Xq.1 a with a|a
    .simp at a
    .exact pd (f v m) a
  have:=N5 ((rks w).map λk:Nat=>(k:Int));simp at g this⊢;omega
end
end
section
section
variable{N:Nat}{d:Sc}{s:List UInt8}{R:Type}{L r:List Kg}{w:List UInt8}
def okR(r:List Kg):Bool:=r.all λx=>(rd x).2
def ng(r:List Kg):List Int:=r.map λx=>(rd x).1
theorem Vx{cmd}{b}{l1 l2}{l3:List Pg}{l4:List Ac}{K0}{K1:Int->Bool->List Int->Option R}(f:1048576<N)(h:∀x∈L,x.length<=1048576)(m:L.length<=1048576):∀(d i a) (c),i+d=L.length->d<a->c.length<=i->
  x6 N cmd b L l1 l2 l3 l4 K0 K1 a (i:Int) c=if okR (L.drop i)=true then K1 (L.length:Int) false (c++ng (L.drop i))else K0
 |0,i,a,c,k,l,h3=>by
  obtain⟨g,rfl⟩:∃g,a=g+1:=⟨a-1,by omega⟩;have:i=L.length:=by omega
  subst this;rw[x6,WN (Xj _),Wb,fo];simp[okR,ng]
 |d+1,i,a,c,k,l,h3=>by
  obtain⟨g,rfl⟩:∃g,a=g+1:=⟨a-1,by omega⟩;have e:i<L.length:=by omega
  have j:=d4 e;rw[x6,WF e,Wa,Wq e,Wa,Wu e,vp (h _ (Xt e)) f,j];simp only[Xd];unfold okR ng;rw[d6];cases hd:(rd L[i]).2 with
  |false=>rfl
  |true=>
   have:=Vx (cmd:=cmd) (b:=b) (l1:=l1) (l2:=l2) (l3:=l3) (l4:=l4) (K0:=K0) (K1:=K1) f h m d (i+1) g (c++ [(rd L[i]).1]) (by omega) (by omega) (by simp;omega);rw[Xn,Wb,Wp (by simp;omega),Wa,Wl (by omega)];refine this.trans ?_;rw[eI,bn,fX];rfl
theorem Vg{b}{l1 l2}{l3:List Pg}{l4:List Ac}{K0}{K1:Int->Bool->List Int->Option R}(f:1048576<N)(h:∀x∈r,x.length<=1048576)(n:r.length<=1048576):∀(d i a) (c),i+d=r.length->d<a->c.length<=i->
  w6 N 1 (r.length+1) ((r.length:Nat):Int) b (w::r) l1 l2 l3 l4 K0 K1 a (i:Int) c=if okR (r.drop i)=true then K1 (r.length:Int) false (c++ng (r.drop i))else K0
 |0,i,a,c,l,m,h3=>by
  obtain⟨g,rfl⟩:∃g,a=g+1:=⟨a-1,by omega⟩;have:i=r.length:=by omega
  subst this;rw[w6,Wg (by omega),Wb,fo];simp[okR,ng]
 |d+1,i,a,c,l,m,h3=>by
  obtain⟨g,rfl⟩:∃g,a=g+1:=⟨a-1,by omega⟩;have e:i<r.length:=by omega
  have j:=d4 e;have k:Xc (w::r) (1+Xb (i:Int)) ([]:List UInt8)=r[i]:=by
   rw[Xk,Nat.add_comm,List.getD_cons_succ,WB e]
  rw[w6,Wc (by omega),Wa,show r.length+1-1=r.length from rfl,Wq e,Wa,k,vo (h _ (Xt e)) f,j];simp only[Xd];unfold okR ng;rw[d6];cases hd:(rd r[i]).2 with
  |false=>rfl
  |true=>
   have:=Vg (b:=b) (l1:=l1) (l2:=l2) (l3:=l3) (l4:=l4) (K0:=K0) (K1:=K1) f h n d (i+1) g (c++ [(rd r[i]).1]) (by omega) (by omega) (by simp;omega);rw[Xn,Wb,Wp (by simp;omega),Wa,Wl (by omega)];refine this.trans ?_;rw[eI,bn,fX];rfl
def wB:List Kg:=[[114,111,111,116],[107,105,100],[116,97,108,108,121],[114,111,117,110,100,115],[116,111,116,97,108],[114,97,110,107]]
def wO:List Kg:=[[115,116,101,112],[100,111,111,109],[112,104,97,115,101],[102,97,116,101],[118,97,108,117,101],[102,105,110,100]]
def wT:List Kg:=[[99,101,108,108],[107,101,121],[109,111,118,101]]
theorem cA{a b}(h:a≠b):seq a b=false:=by unfold seq;simpa using h
theorem WxV(a:w∉wB)(b:w∉wO)(c:w∉wT):y8 N w=ret (-1):=by
 simp only[wB,wO,wT,Xq,mf,or_false,not_or]at a b c;obtain⟨d,e,f,g,h,i⟩:=a;obtain⟨j,k,l,o3,m,n⟩:=b;obtain⟨o,p,q⟩:=c;unfold y8;simp only[cA d,cA e,cA f,cA g,cA h,cA i,cA j,cA k,cA l,cA o3,cA m,cA n,cA o,cA p,cA q,Wb,Wk]
abbrev wh:List UInt8:=[119,104,97,116]
theorem Wxn(h:w∉wB):Zx N d w=some ((d,()),(wh,())):=by
 simp only[wB,Xq,mf,or_false,not_or]at h;obtain⟨a,b,c,e,f,g⟩:=h;unfold Zx;simp only[cA a,cA b,cA c,cA e,cA f,cA g,Wb,Wk]
theorem WyF(b:SI d)(a:1048576<N)(h:w∉wO){n}:Z3 N d w n=some ((d,()),(wh,())):=by
 simp only[wO,Xq,mf,or_false,not_or]at h;obtain⟨c,e,f,o3,g,i⟩:=h;unfold Z3;simp only[cA c,cA e,cA f,cA o3,cA g,cA i,Wb,WR (aB b) a,WK,ret,Xd];cases cI d<;>rfl
theorem Wyz(h:w∉wT){a b:Int}:nB N d w a b=some ((d,()),(wh,())):=by
 simp only[wT,Xq,mf,or_false,not_or]at h;obtain⟨c,e,f⟩:=h;unfold nB;simp only[cA c,cA e,cA f,Wb,Wk]
end
end
section
section
variable{N:Nat}{d:Sc}{s:List UInt8}{r:List Kg}{w:List UInt8}
noncomputable def liI(N:Nat)(d:Sc)(w:List UInt8)(l:List Int):Option ((Sc×Unit)×(List UInt8×Unit)):=
 match l with
 | []=>(Zx N d w).bind λo=>some ((o.1.1,()),(o.2.1,()))
 | [a]=>(Z3 N d w a).bind λo=>some ((o.1.1,()),(o.2.1,()))
 | [a,b]=>(nB N d w a b).bind λo=>some ((o.1.1,()),(o.2.1,()))
 |_=>some ((d,()),(wh,()))
theorem Wtm(z:s.length<=1000000)(g:1048576<N){o:Opn}(p:zj N s=some ((),(o,(false,()))))(f:spl 32 s=w::r):ou N d s=if okR r=true then liI N d w (ng r)else some ((d,()),(wh,())):=by
 have m:=Hv 32 s;rw[f,List.length_cons]at m;have n:jZ N s 32=ret (spl 32 s):=GL (c:=32) (by omega) g;have u:∀x∈r,x.length<=1048576:=λx q=>eO (rV (c:=32) (s:=s) (by rw[f];exact Xg _ q)) (by omega);unfold ou;rw[p,n,f];simp only[ret,Xd,Wb];rw[show(decide ((0:Int)<=1)&&decide ((1:Int)<=((Xa (w::r):Nat):Int)))=true by simp;omega,Wa];have:=Vg (N:=N) (w:=w) (r:=r) (b:=d.1.2.2) (l1:=d.1.1) (l2:=d.1.2.1) (l3:=d.2.1) (l4:=d.2.2) (K0:=some ((d,()),(wh,()))) (K1:=(λv y e=>
  (bif (Wi e)==(0:Int)then
 (bif inb (0:Int) (Xa (w::r))then
 ((Zx N d (Xc (w::r) (Xb (0:Int)) ([]:List UInt8))).bind λk=>
 (some ((k.1.1,()),(k.2.1,()))))else none)
 else
 (bif (Wi e)==(1:Int)then
 (bif inb (0:Int) (Xa (w::r))then
 (bif inb (0:Int) (Xa e)then
 ((Z3 N d (Xc (w::r) (Xb (0:Int)) ([]:List UInt8)) (Xc e (Xb (0:Int)) (0:Int))).bind λh=>
 (some ((h.1.1,()),(h.2.1,()))))else none)else none)
 else
 (bif (Wi e)==(2:Int)then
 (bif inb (0:Int) (Xa (w::r))then
 (bif inb (0:Int) (Xa e)then
 (bif inb (1:Int) (Xa e)then
 ((nB N d (Xc (w::r) (Xb (0:Int)) ([]:List UInt8)) (Xc e (Xb (0:Int)) (0:Int)) (Xc e (Xb (1:Int)) (0:Int))).bind λi=>
 (some ((i.1.1,()),(i.2.1,()))))else none)else none)else none)
 else
 (some ((d,()),(([119,104,97,116]:List UInt8),())))))))) g u (by omega) r.length 0 N [] (cb _) (by omega) (Xj _)
 rw[List.drop_zero]at this;refine Eq.trans this ?_;split
 .rw[dn];have t:inb (0:Int) (Xa (w::r))=true:=Wq (j:=0) (by simp);rw[t];generalize ng r=l
  match l with
  | []=>rfl
  | [a]=>rfl
  | [a,b]=>rfl
  |a::b::c::l=>
   rfl
 .rfl
end
end
section
section
variable{N:Nat}{d:Sc}{s:List UInt8}{r:List Kg}{w:List UInt8}
noncomputable def liS(N:Nat)(d:Sc)(w:List UInt8)(a:List Int):Option (Unit×(Sc×(List UInt8×Unit))):=
 (bif seq w ([114,111,111,116]:List UInt8)then
 (bif seq w ([114,111,111,116]:List UInt8)then
 ((fE N d w a).bind λb=>
 ((Zm N b.2.2.1).bind λs=>
 (some ((),(b.2.1,(s.2.1,()))))))
 else
 (bif seq w ([115,116,101,112]:List UInt8)then
 (bif seq w ([115,116,101,112]:List UInt8)then
 ((Z8 N d w a).bind λf=>
 ((Zm N f.2.2.1).bind λA=>
 (some ((),(f.2.1,(A.2.1,()))))))
 else
 ((Zh N d).bind λP=>
 (bif !P.2.1 then
 (some ((),(d,(([110,111]:List UInt8),()))))
 else
 ((Zl N d w a).bind λQ=>
 (some ((),(d,(Q.2.1,()))))))))
 else
 (bif seq w ([109,111,118,101]:List UInt8)then
 (bif seq w ([109,111,118,101]:List UInt8)then
 ((Z8 N d w a).bind λk=>
 ((Zm N k.2.2.1).bind λR=>
 (some ((),(k.2.1,(R.2.1,()))))))
 else
 ((Zh N d).bind λS=>
 (bif !S.2.1 then
 (some ((),(d,(([110,111]:List UInt8),()))))
 else
 ((Zl N d w a).bind λT=>
 (some ((),(d,(T.2.1,()))))))))
 else
 (bif seq w ([100,111,111,109]:List UInt8)then
 ((Z8 N d w a).bind λl=>
 ((Zm N l.2.2.1).bind λU=>
 (some ((),(l.2.1,(U.2.1,()))))))
 else
 ((Zh N d).bind λt=>
 (bif !t.2.1 then
 (some ((),(d,(([110,111]:List UInt8),()))))
 else
 ((Zl N d w a).bind λu=>
 (some ((),(d,(u.2.1,())))))))))))
 else
 (bif seq w ([107,105,100]:List UInt8)then
 (bif seq w ([107,105,100]:List UInt8)then
 ((fE N d w a).bind λg=>
 ((Zm N g.2.2.1).bind λE=>
 (some ((),(g.2.1,(E.2.1,()))))))
 else
 (bif seq w ([115,116,101,112]:List UInt8)then
 (bif seq w ([115,116,101,112]:List UInt8)then
 ((Z8 N d w a).bind λm=>
 ((Zm N m.2.2.1).bind λG=>
 (some ((),(m.2.1,(G.2.1,()))))))
 else
 ((Zh N d).bind λV=>
 (bif !V.2.1 then
 (some ((),(d,(([110,111]:List UInt8),()))))
 else
 ((Zl N d w a).bind λW=>
 (some ((),(d,(W.2.1,()))))))))
 else
 (bif seq w ([109,111,118,101]:List UInt8)then
 (bif seq w ([109,111,118,101]:List UInt8)then
 ((Z8 N d w a).bind λc=>
 ((Zm N c.2.2.1).bind λH=>
 (some ((),(c.2.1,(H.2.1,()))))))
 else
 ((Zh N d).bind λX=>
 (bif !X.2.1 then
 (some ((),(d,(([110,111]:List UInt8),()))))
 else
 ((Zl N d w a).bind λY=>
 (some ((),(d,(Y.2.1,()))))))))
 else
 (bif seq w ([100,111,111,109]:List UInt8)then
 ((Z8 N d w a).bind λn=>
 ((Zm N n.2.2.1).bind λZ=>
 (some ((),(n.2.1,(Z.2.1,()))))))
 else
 ((Zh N d).bind λv=>
 (bif !v.2.1 then
 (some ((),(d,(([110,111]:List UInt8),()))))
 else
 ((Zl N d w a).bind λyU=>
 (some ((),(d,(yU.2.1,())))))))))))
 else
 (bif seq w ([99,101,108,108]:List UInt8)then
 (bif seq w ([99,101,108,108]:List UInt8)then
 ((fE N d w a).bind λo=>
 ((Zm N o.2.2.1).bind λyV=>
 (some ((),(o.2.1,(yV.2.1,()))))))
 else
 (bif seq w ([115,116,101,112]:List UInt8)then
 (bif seq w ([115,116,101,112]:List UInt8)then
 ((Z8 N d w a).bind λp=>
 ((Zm N p.2.2.1).bind λyW=>
 (some ((),(p.2.1,(yW.2.1,()))))))
 else
 ((Zh N d).bind λyX=>
 (bif !yX.2.1 then
 (some ((),(d,(([110,111]:List UInt8),()))))
 else
 ((Zl N d w a).bind λF=>
 (some ((),(d,(F.2.1,()))))))))
 else
 (bif seq w ([109,111,118,101]:List UInt8)then
 (bif seq w ([109,111,118,101]:List UInt8)then
 ((Z8 N d w a).bind λh=>
 ((Zm N h.2.2.1).bind λyY=>
 (some ((),(h.2.1,(yY.2.1,()))))))
 else
 ((Zh N d).bind λyZ=>
 (bif !yZ.2.1 then
 (some ((),(d,(([110,111]:List UInt8),()))))
 else
 ((Zl N d w a).bind λI=>
 (some ((),(d,(I.2.1,()))))))))
 else
 (bif seq w ([100,111,111,109]:List UInt8)then
 ((Z8 N d w a).bind λq=>
 ((Zm N q.2.2.1).bind λJ=>
 (some ((),(q.2.1,(J.2.1,()))))))
 else
 ((Zh N d).bind λK=>
 (bif !K.2.1 then
 (some ((),(d,(([110,111]:List UInt8),()))))
 else
 ((Zl N d w a).bind λC=>
 (some ((),(d,(C.2.1,())))))))))))
 else
 (bif seq w ([107,101,121]:List UInt8)then
 ((fE N d w a).bind λe=>
 ((Zm N e.2.2.1).bind λy=>
 (some ((),(e.2.1,(y.2.1,()))))))
 else
 (bif seq w ([115,116,101,112]:List UInt8)then
 (bif seq w ([115,116,101,112]:List UInt8)then
 ((Z8 N d w a).bind λi=>
 ((Zm N i.2.2.1).bind λB=>
 (some ((),(i.2.1,(B.2.1,()))))))
 else
 ((Zh N d).bind λx=>
 (bif !x.2.1 then
 (some ((),(d,(([110,111]:List UInt8),()))))
 else
 ((Zl N d w a).bind λL=>
 (some ((),(d,(L.2.1,()))))))))
 else
 (bif seq w ([109,111,118,101]:List UInt8)then
 (bif seq w ([109,111,118,101]:List UInt8)then
 ((Z8 N d w a).bind λr=>
 ((Zm N r.2.2.1).bind λM=>
 (some ((),(r.2.1,(M.2.1,()))))))
 else
 ((Zh N d).bind λD=>
 (bif !D.2.1 then
 (some ((),(d,(([110,111]:List UInt8),()))))
 else
 ((Zl N d w a).bind λz=>
 (some ((),(d,(z.2.1,()))))))))
 else
 (bif seq w ([100,111,111,109]:List UInt8)then
 ((Z8 N d w a).bind λj=>
 ((Zm N j.2.2.1).bind λO=>
 (some ((),(j.2.1,(O.2.1,()))))))
 else
 ((Zh N d).bind λza=>
 (bif !za.2.1 then
 (some ((),(d,(([110,111]:List UInt8),()))))
 else
 ((Zl N d w a).bind λzb=>
 (some ((),(d,(zb.2.1,()))))))))))))))
theorem WsD(t:s.length<=1000000)(f:1048576<N){o:Opn}(k:zi N s=some ((),(o,(false,()))))(e:spl 32 s=w::r){A}(i:y8 N w=ret A)(q:-1<=A/\A<=2):oM N d s=if A<0\/(r.length:Int)≠A then some ((),(d,(wh,())))else if okR r=true then liS N d w (ng r)else some ((),(d,(wh,()))):=by
 have h:jZ N s 32=ret (spl 32 s):=GL (c:=32) (by omega) f;have n:∀x∈w::r,x.length<=1048576:=λx m=>eO (rV (c:=32) (s:=s) (by rw[e];exact m)) (by omega);unfold oM;rw[k,Mx,h,e];simp only[ret,Xd,Wb];rw[show inb (0:Int) (Xa (w::r))=true from Wq (j:=0) (by simp),Wa,show Xc (w::r) (Xb (0:Int)) ([]:List UInt8)=w from rfl,i];simp only[ret,Xd];by_cases a:A<0
 .rw[Wc a,Wa,Wf (.inl a)]
 .rw[Wg a,Wb,WA (by unfold I64;omega)];by_cases l:(r.length:Int)=A
  .rw[show(Wi (w::r) !=1+A)=false by unfold Wi;simp;omega,Wb,We (by omega)];have:=Vx (N:=N) (L:=w::r) (cmd:=w) (b:=d.1.2.2) (l1:=d.1.1) (l2:=d.1.2.1) (l3:=d.2.1) (l4:=d.2.2) (K0:=some ((),(d,(wh,())))) (K1:=λu p g=>liS N d w g) f n (by simp;omega) r.length 1 N [] (by simp;omega) (by omega) (by simp);exact this
  .rw[show(Wi (w::r) !=1+A)=true by unfold Wi;simp;omega,Wa,Wf (.inr l)]
theorem WvA{l}:liS N d [114,111,111,116] l=bY (fE N d [114,111,111,116] l) N:=by kernel_rfl
theorem Ww7{l}:liS N d [107,105,100] l=bY (fE N d [107,105,100] l) N:=by kernel_rfl
theorem Wt3{l}:liS N d [116,97,108,108,121] l=qS N d [116,97,108,108,121] l:=by kernel_rfl
theorem WqW{l}:liS N d [114,111,117,110,100,115] l=qS N d [114,111,117,110,100,115] l:=by kernel_rfl
theorem WtY{l}:liS N d [116,111,116,97,108] l=qS N d [116,111,116,97,108] l:=by kernel_rfl
theorem WvW{l}:liS N d [114,97,110,107] l=qS N d [114,97,110,107] l:=by kernel_rfl
end
end
section
section
variable{N:Nat}{d:Sc}{s:List UInt8}{r:List Kg}{w:List UInt8}
theorem smI{x}{y}(h:SmD x y):SmD x (y.bind λo=>some ((o.1.1,()),(o.2.1,()))):=by
 obtain⟨a,t,b,c,d⟩:=h;exact⟨a,t,b,by rw[c];rfl,d⟩
theorem Wzk(h:SI d)(b:1048576<N){a}:SmD (bY (Z8 N d [115,116,101,112] [a]) N) (Z3 N d [115,116,101,112] a):=by
 have e:Z3 N d [115,116,101,112] a=(oi N d (1,(a,0))).bind λo=>some ((o.1.1,()),(o.2.1,())):=by
  have q:seq [115,116,101,112] ([115,116,101,112]:List UInt8)=true:=rfl;unfold Z3;simp only[q,Wa,WR (aB h) b,WK,ret,Xd];cases cI d<;>rfl
 rw[e];exact smI (N1 (k:=1) (r:=a) (j:=0) h b)
theorem Wzb(h:SI d)(b:1048576<N){a}:SmD (bY (Z8 N d [100,111,111,109] [a]) N) (Z3 N d [100,111,111,109] a):=by
 have e:Z3 N d [100,111,111,109] a=(oi N d (3,(a,0))).bind λo=>some ((o.1.1,()),(o.2.1,())):=by
  have q:seq [100,111,111,109] ([100,111,111,109]:List UInt8)=true:=rfl;have c:seq [100,111,111,109] ([115,116,101,112]:List UInt8)=false:=rfl;unfold Z3;simp only[q,c,Wa,Wb,WR (aB h) b,WK,ret,Xd];cases cI d<;>rfl
 rw[e];exact smI (N1 (k:=3) (r:=a) (j:=0) h b)
theorem Wzr(h:SI d)(c:1048576<N){a b}:SmD (bY (Z8 N d [109,111,118,101] [a,b]) N) (nB N d [109,111,118,101] a b):=by
 exact smI (N1 (k:=2) (r:=a) (j:=b) h c)
theorem whS(h:SI d):SmD (some ((),(d,(wh,())))) (some ((d,()),(wh,()))):=⟨_,_,rfl,rfl,h,by simp⟩
theorem Wyo(h:SI d)(g:1048576<N){l}(c:l.length=0->w∉wB)(e:l.length=1->w∉wO)(f:l.length=2->w∉wT):liI N d w l=some ((d,()),(wh,())):=by
 unfold liI
 match l with
 | []=>simp[Wxn (c rfl),Xd]
 | [a]=>simp[WyF h g (e rfl),Xd]
 | [a,b]=>simp[Wyz (f rfl),Xd]
 |_::_::_::_=>rfl
theorem WxF(h:SI d)(v:s.length<=1000000)(f:1048576<N):SmD (oM N d s) (ou N d s):=by
 obtain⟨o,b,q,p⟩:=WrO (N:=N) (s:=s) (by omega) f;cases b with
 |true=>
  obtain⟨J,t,x,y,B⟩:=Wy7 (N:=N) (o:=o) h;unfold oM ou;rw[q,p];simp only[Xd,Wa,x,y];exact⟨_,_,rfl,rfl,B⟩
 |false=>
  cases hL:spl 32 s with
  |nil=>exact Wy hL (rX 32 s)
  |cons w r=>
   rw[Wtm v f p hL];have I:(ng r).length=r.length:=Xu ..;have e:∀(A:Int),y8 N w=ret A-> -1<=A/\A<=2->(r.length=0->A≠0->w∉wB)->(r.length=1->A≠1->w∉wO)->(r.length=2->A≠2->w∉wT)->(∀l:List Int,(l.length:Int)=A->SmD (liS N d w l) (liI N d w l))->SmD (oM N d s) (if okR r=true then liI N d w (ng r)else some ((d,()),(wh,()))):=λA C D F G H E=>by
    rw[WsD v f q hL C D];cases aY:okR r with
    |false=>
     simp only[Bool.false_eq_true,dO];split<;>exact whS h
    |true=>
     by_cases u:(r.length:Int)=A
     .rw[We (by omega)];exact E _ (by rw[I];exact u)
     .rw[Wf (.inr u),Wyo h f (λz=>F (by omega) (by omega)) (λz=>G (by omega) (by omega)) (λz=>H (by omega) (by omega))];exact whS h
   by_cases j:w∈wB
   .simp only[wB,Xq,mf,or_false]at j;have g:∀l:List Int,(l.length:Int)=0->l= []:=λl c=>EA.1 (by omega);rcases j with rfl|rfl|rfl|rfl|rfl|rfl
    .exact e 0 rfl (by omega) (λ_ z=>Wy rfl z) (λ_ _=>by decide) (λ_ _=>by decide) λl c=>by
      rw[g l c,WvA];exact smI (Wx1 h)
    .exact e 0 rfl (by omega) (λ_ z=>Wy rfl z) (λ_ _=>by decide) (λ_ _=>by decide) λl c=>by
      rw[g l c,Ww7];exact smI (Wyn h)
    .exact e 0 rfl (by omega) (λ_ z=>Wy rfl z) (λ_ _=>by decide) (λ_ _=>by decide) λl c=>by
      rw[g l c,Wt3];exact smI (Wvs h f)
    .exact e 0 rfl (by omega) (λ_ z=>Wy rfl z) (λ_ _=>by decide) (λ_ _=>by decide) λl c=>by
      rw[g l c,WqW];exact smI (Wtz h f)
    .exact e 0 rfl (by omega) (λ_ z=>Wy rfl z) (λ_ _=>by decide) (λ_ _=>by decide) λl c=>by
      rw[g l c,WtY];exact smI (WuS h f)
    .exact e 0 rfl (by omega) (λ_ z=>Wy rfl z) (λ_ _=>by decide) (λ_ _=>by decide) λl c=>by
      rw[g l c,WvW];exact smI (Ww9 h f)
   by_cases k:w∈wO
   .simp only[wO,Xq,mf,or_false]at k;have i:∀l:List Int,(l.length:Int)=1->∃a,l= [a]:=λl c=>List.length_eq_one_iff.1 (by omega);rcases k with rfl|rfl|rfl|rfl|rfl|rfl
    .exact e 1 rfl (by omega) (λ_ _=>by decide) (λ_ z=>Wy rfl z) (λ_ _=>by decide) λl c=>by
      obtain⟨a,rfl⟩:=i l c;exact smI (Wzk h f)
    .exact e 1 rfl (by omega) (λ_ _=>by decide) (λ_ z=>Wy rfl z) (λ_ _=>by decide) λl c=>by
      obtain⟨a,rfl⟩:=i l c;exact smI (Wzb h f)
    .exact e 1 rfl (by omega) (λ_ _=>by decide) (λ_ z=>Wy rfl z) (λ_ _=>by decide) λl c=>by
      obtain⟨a,rfl⟩:=i l c;exact smI (WuP h f)
    .exact e 1 rfl (by omega) (λ_ _=>by decide) (λ_ z=>Wy rfl z) (λ_ _=>by decide) λl c=>by
      obtain⟨a,rfl⟩:=i l c;exact smI (WxW h f)
    .exact e 1 rfl (by omega) (λ_ _=>by decide) (λ_ z=>Wy rfl z) (λ_ _=>by decide) λl c=>by
      obtain⟨a,rfl⟩:=i l c;exact smI (Wwa h f)
    .exact e 1 rfl (by omega) (λ_ _=>by decide) (λ_ z=>Wy rfl z) (λ_ _=>by decide) λl c=>by
      obtain⟨a,rfl⟩:=i l c;exact smI (Wxw h f)
   by_cases m:w∈wT
   .simp only[wT,Xq,mf,or_false]at m;have n:∀l:List Int,(l.length:Int)=2->∃a b,l= [a,b]:=λl c=>by
     match l,c with
     | [a,b],_=>exact⟨a,b,rfl⟩
     | [],c=>cases c
     | [_],c=>cases c
     |_::_::_::_,c=>simp at c;omega
    rcases m with rfl|rfl|rfl
    .exact e 2 rfl (by omega) (λ_ _=>by decide) (λ_ _=>by decide) (λ_ z=>Wy rfl z) λl c=>by
      obtain⟨a,b,rfl⟩:=n l c;exact smI (WxY h)
    .exact e 2 rfl (by omega) (λ_ _=>by decide) (λ_ _=>by decide) (λ_ z=>Wy rfl z) λl c=>by
      obtain⟨a,b,rfl⟩:=n l c;exact smI (Wyg h)
    .exact e 2 rfl (by omega) (λ_ _=>by decide) (λ_ _=>by decide) (λ_ z=>Wy rfl z) λl c=>by
      obtain⟨a,b,rfl⟩:=n l c;exact smI (Wzr h f)
   exact e (-1) (WxV j k m) (by omega) (λ_ _=>j) (λ_ _=>k) (λ_ _=>m) λl c=>by omega
abbrev DK:=Unit×(List UInt8×Unit)
noncomputable def lnF(N:Nat)(d:Sc)(x:List UInt8):Sc×List UInt8:=match ou N d x with
 |some o=>(o.1.1,o.2.1)
 |none=>(d,[])
noncomputable def dkF(N:Nat):List Kg->Sc->List UInt8->Sc×List UInt8
 | [],d,out=>(d,out)
 |x::l,d,out=>if x= []then dkF N l d out else dkF N l (lnF N d x).1 (out++(lnF N d x).2++ [10])
theorem XJ{N}:∀(a b) (d) (out),dkF N (a++b) d out=dkF N b (dkF N a d out).1 (dkF N a d out).2
 | [],_,_,_=>rfl
 |x::a,b,d,out=>by
  rw[dM,dkF,dkF];split<;>exact XJ a b ..
theorem Ns{N}:∀(a) (d) (out),∃u,(dkF N a d out).2=out++u
 | [],_,out=>⟨[],by simp[dkF]⟩
 |x::a,d,out=>by
  rw[dkF];split
  .exact Ns a ..
  .obtain⟨u,e⟩:=Ns (N:=N) a (lnF N d x).1 (out++(lnF N d x).2++ [10]);exact⟨(lnF N d x).2++ [10]++u,by rw[e];simp⟩
def nz(l:List Kg):Nat:=l.countP λx=>decide (x≠ [])
theorem ZL(h:SI d)(k:s.length<=1000000)(j:1048576<N):ou N d s=some (((lnF N d s).1,()),((lnF N d s).2,()))/\oM N d s=some ((),((lnF N d s).1,((lnF N d s).2,())))/\SI (lnF N d s).1/\(lnF N d s).2.length<=300/\(10:UInt8)∉(lnF N d s).2:=by
 obtain⟨b,t,c,a,f,g,i⟩:=WxF (N:=N) h k j;have e:lnF N d s=(b,t):=by unfold lnF;rw[a]
 rw[e];exact⟨a,c,f,g,i⟩
theorem OG{L:List Kg}(f:1048576<N):∀(M) (d) (out),(∀x∈M,x.length<=1000000)->SI d->SI (dkF N M d out).1/\(dkF N M d out).2.length<=out.length+301*M.length/\(dkF N M d out).2.count 10=out.count 10+nz M
 | [],d,out,_,h=>⟨h,by simp[dkF],by simp[dkF,nz]⟩
 |x::M,d,out,g,h=>by
  have e:=λy (k:y∈M)=>g y (Xg _ k);rw[dkF];split
  .rename_i hx;obtain⟨a,b,c⟩:=OG (L:=L) f M d out e h;refine⟨a,by simp;omega,?_⟩;rw[c];simp[hx,nz]
  .rename_i hx;obtain⟨_,_,i,l,j⟩:=ZL (N:=N) h (g x (List.mem_cons_self ..)) f;obtain⟨a,b,c⟩:=OG (L:=L) f M (lnF N d x).1 (out++(lnF N d x).2++ [10]) e i;refine⟨a,by simp at b⊢;omega,?_⟩;rw[c,O9,O9,Xhm.2 j];simp[hx,nz];omega
theorem Nl{L}(k:1048576<N)(j:∀x∈L,x.length<=1000000)(n:L.length<=80):∀(m i a:Nat) (out) (b) (cs c) (d) (as),i+m=L.length->m<a->out.length+400*m<=100000->SI ((cs,(c,b)),(d,as))->
  oC N L (λl v A o y z u w=>(some ((),(l,())):Option DK)) a out (i:Int) b cs c d as=some ((),((dkF N (L.drop i) ((cs,(c,b)),(d,as)) out).2,()))/\qQ N (Wi L) L (λl v A o y z u w=>(some ((),(l,())):Option DK)) a out (i:Int) b cs c d as=some ((),((dkF N (L.drop i) ((cs,(c,b)),(d,as)) out).2,()))
 |0,i,a,out,b,cs,c,d,as,r,s,t,h4=>by
  obtain⟨g,rfl⟩:∃g,a=g+1:=⟨a-1,by omega⟩;rw[List.drop_eq_nil_of_le (by omega)];refine⟨?_,?_⟩
  .rw[oC,WN (by omega),Wb];rfl
  .rw[qQ,WN (by omega),Wb];rfl
 |m+1,i,a,out,b,cs,c,d,as,r,s,t,h4=>by
  obtain⟨g,rfl⟩:∃g,a=g+1:=⟨a-1,by omega⟩;have e:i<L.length:=by omega
  have h:=d4 e;rw[oC,qQ,WF e,Wq e,Wu e,Wl (by omega),h,dkF];simp only[Wa,H4];by_cases f:L[i]= []
  .rw[show seq L[i] []=true by rw[f];rfl,Wf f];simp only[Wa,Xn,Wb];exact Nl k j n m (i+1) g out b cs c d as (by omega) (by omega) (by omega) h4
  .obtain⟨p,h,q,B,C⟩:=ZL (N:=N) h4 (j _ (Xt e)) k;rw[cA f,We f];rw[h,p];simp only[Xd];rw[kh (by omega),kh (by simp;omega),Wa,Wa];exact Nl k j n m (i+1) g _ _ _ _ _ _ (by omega) (by omega) (by simp;omega) q
def kJ:Sc:=((Xp 8 0,(Xp 8 0,0)),([],[]))
def lns(s:List UInt8):List Kg:=if(spl 10 s).getLast?=some []then(spl 10 s).dropLast else spl 10 s
noncomputable def dD(N:Nat)(s:List UInt8):List UInt8:=if s.length>20000\/(lns s).length>80 then []else(dkF N (lns s) kJ []).2
theorem XF{x}(h:x∈lns s):x.length<=s.length:=by
 unfold lns at h;split at h
 .exact rV (List.dropLast_subset _ h)
 .exact rV h
theorem UA(i:1048576<N)(v:s.length<=1048576):CT N s=some ((),(dD N s,()))/\q6 N s=some ((),(dD N s,())):=by
 have r:jZ N s 10=ret (spl 10 s):=GL (c:=10) v i;have k:=rX 10 s;have h:=Hv 10 s;have e:∀x∈lns s,x.length<=s.length:=λx g=>XF g;unfold CT q6 dD;rw[Mx,r];simp only[ret,Xd,H4];unfold lns at*;generalize spl 10 s=L at*;rcases List.eq_nil_or_concat L with rfl|⟨P,p,rfl⟩
 .exact Wy rfl k
 simp only[List.concat_eq_append,List.getLast?_append,List.getLast?_singleton,Option.some_or,Option.some.injEq,List.dropLast_concat]at h e⊢;have y:P.length<=1048576:=by simp at h;omega
 have l:Wz .i64 (Wi (P++ [p])) 1=(P.length:Int):=by
  rw[WJ (by unfold I64 Wi;omega)];unfold Wi;simp
 have m:decide (Wi (P++ [p])>0)=true:=ZF;have q:(((decide ((0:Int)<=(8:Int)))&&(decide ((8:Int)<=(8:Int))))&&(Wx (Xb (8:Int))))=true:=rfl;have n:(decide ((0:Int)<=(P.length:Int))&&decide ((P.length:Int)<=(((P++ [p]).length:Nat):Int)))=true:=by simp;omega
 have o:ah P.length (P++ [p])=P:=by simp
 have j:SI kJ:=⟨rfl,rfl,by simp[kJ],(λp d=>by cases d),by simp[kJ]⟩;have fin:∀M:List Kg,(∀x∈M,x.length<=s.length)->s.length<=20000->M.length<=80->_:=λM t w u=>Nl (N:=N) (L:=M) i (λx g=>by have:=t x g;omega) u M.length 0 N [] 0 (Xp (Xb 8) 0) (Xp (Xb 8) 0) [] [] (by omega) (by omega) (by simp;omega) j;simp only[l,m,n,q,HP,HG,Xk,o,Wa];by_cases b:Wi s>20000
 .have f:s.length>20000:=by unfold Wi at b;omega
  rw[Wc b];rw[Wf (.inl f)];exact⟨rfl,by cases seq p []<;>rfl⟩
 .rw[Wg b];have f:s.length<=20000:=by unfold Wi at b;omega
  simp only[Wb];by_cases d:p= []
  .rw[Wf d]at e⊢;rw[show seq p []=true by rw[d];rfl];simp only[Wa];by_cases a:Wi P>80
   .rw[Wc a,Wf (.inr (by unfold Wi at a;omega))];exact⟨rfl,rfl⟩
   .have wx:P.length<=80:=by unfold Wi at a;omega
    rw[Wg a,We (by omega)];exact fin P e f wx
  .rw[We d]at e⊢;rw[show seq p []=false from cA d];simp only[Wb];by_cases a:Wi (P++ [p])>80
   .rw[Wc a,Wf (.inr (by unfold Wi at a;omega))];exact⟨rfl,rfl⟩
   .have wx:(P++ [p]).length<=80:=by unfold Wi at a;omega
    rw[Wg a,We (by omega)];exact fin (P++ [p]) e f wx
end
end
section
section
variable{N:Nat}{s out:List UInt8}{R:Type}
theorem NG{c}:∀(X) {D} (Y),spl c X=D++ [[]]->spl c (X++Y)=D++spl c Y
 | [],D,Y,h=>by
  have:D= []:=by
   cases D with
   |nil=>rfl
   |cons a D=>simp[spl]at h
  subst this;rfl
 |x::X,D,Y,h=>by
  rw[spl]at h;rw[dM,spl];split at h
  .rename_i hx;rw[Wf hx];cases D with
   |nil=>simp at h;exact Wy h (rX c X)
   |cons a D=>
    have h:=List.cons.inj h;rw[NG X Y h.2,←h.1];rfl
  .rename_i hx;rw[We hx];cases hX:spl c X with
   |nil=>exact Wy hX (rX c X)
   |cons a E=>
    rw[hX]at h;cases D with
    |nil=>
     have h:=List.cons.inj h;simp at h
    |cons b D=>
     have h:=List.cons.inj h;rw[NG X (D:=a::D) Y (by rw[hX,h.2];rfl),←h.1];rfl
theorem N7{D}(h:spl 10 s=D++ [[]]):lns s=D:=by
 unfold lns;rw[h];simp
theorem Wyk{D}{p}(h:spl 10 s=D++ [p])(a:p≠ []):lns s=D++ [p]:=by
 unfold lns;rw[h,We (by simp[a])]
structure Scn(s:List UInt8)(i f cut:Nat)(D:List Kg):Prop where
 sp:spl 10 s=D++spl 10 (s.drop f)
 st:spl 10 (s.take f)=D++ [[]]
 ct:∃m,m<=D.length/\spl 10 (s.take cut)=D.take m++ [[]]
 fi:f<=i
 il:i<=s.length
 cl:cut<=s.length
 no:(10:UInt8)∉(s.drop f).take (i-f)
theorem Ny{k:Int}{K0:Int->Int->Int->Int->Int->Bool->Option R}(G:s.length<=1048576):∀(m i b f c:Nat) (D:List Kg),i+m=s.length->m+1<b->D.length<=i->Scn s i f c D->
  ∃(c':Nat) (f':Int),c'<=s.length/\(∃j,lns (s.take c')=(lns s).take j)/\Zr N s out k K0 b (c:Int) (D.length:Int) (nz D:Int) (f:Int) (i:Int)=K0 (c':Int) ((lns s).length:Int) (nz (lns s):Int) f' ((s.length+1:Nat):Int) false
 |0,i,b,f,c,D,L,M,O,h4=>by
  obtain⟨g,rfl⟩:∃g,b=g+2:=⟨b-2,by omega⟩;have:i=s.length:=by omega
  subst this;have W:=h4.fi;have H:nz D<=D.length:=AY;have n:decide (((s.length:Nat):Int)<=Wi s)=true:=Wc (by unfold Wi;omega);have o:(((s.length:Nat):Int)==Wi s)=true:=by unfold Wi;simp
  have C:decide (((s.length+1:Nat):Int)<=Wi s)=false:=Wg (by unfold Wi;omega);have u:decide (((s.length:Nat):Int)<Wi s)=false:=Wg (by unfold Wi;omega);have p:Wj .i64 ((s.length:Nat):Int) 1=((s.length+1:Nat):Int):=Wl (by omega);have v:Wj .i64 ((D.length:Nat):Int) 1=((D.length+1:Nat):Int):=Wl (by omega);have w:Wj .i64 ((nz D:Nat):Int) 1=((nz D+1:Nat):Int):=Wl (by omega);obtain⟨m,x,t⟩:=h4.ct;by_cases P:f=s.length
  .subst P;have h:lns s=D:=N7 (by rw[h4.sp,fo];rfl);refine⟨c,((s.length:Nat):Int),h4.cl,⟨m,by rw[N7 t,h]⟩,?_⟩;rw[Zr,n,o,show(((s.length:Nat):Int)==((s.length:Nat):Int))=true by simp];simp only[Wk,Wa,p];rw[Zr,Wk,C,Wb,h]
  .have hd:s.drop f≠ []:=by
    intro z;have:=List.drop_eq_nil_iff.1 z;omega
   have S:(10:UInt8)∉s.drop f:=by
    have:=h4.no
    rwa [List.take_of_length_le (by rw[kO];omega)]at this
   have h:lns s=D++ [s.drop f]:=Wyk (by rw[h4.sp,N3 S]) hd;refine⟨c,((s.length+1:Nat):Int),h4.cl,⟨m,by rw[N7 t,h,ZU x]⟩,?_⟩;have J:decide (((s.length:Nat):Int)>(f:Int))=true:=Wc (by omega);rw[Zr,n,o,show(((f:Nat):Int)==((s.length:Nat):Int))=false by simp;omega];simp only[Wk,Wa,Wb,u,p,v,w,J];have V:(lns s).length=D.length+1:=by rw[h];simp
   have Y:nz (lns s)=nz D+1:=by rw[h];unfold nz;rw[A3];simp[hd]
   rw[V,Y];cases((D.length+1:Nat):Int)==k<;>simp only[Wa,Wb]<;>rw[Zr,Wk,C,Wb]
 |m+1,i,b,f,c,D,L,M,O,h4=>by
  obtain⟨g,rfl⟩:∃g,b=g+1:=⟨b-1,by omega⟩;have q:i<s.length:=by omega
  have W:=h4.fi;have H:nz D<=D.length:=AY;have n:decide ((i:Int)<=Wi s)=true:=Wc (by unfold Wi;omega);have o:((i:Int)==Wi s)=false:=by unfold Wi;simp;omega
  have u:decide ((i:Int)<Wi s)=true:=WF q;have p:Wj .i64 ((i:Nat):Int) 1=((i+1:Nat):Int):=Wl (by omega);have v:Wj .i64 ((D.length:Nat):Int) 1=((D.length+1:Nat):Int):=Wl (by omega);have w:Wj .i64 ((nz D:Nat):Int) 1=((nz D+1:Nat):Int):=Wl (by omega);have Q:Xc s (Xb (i:Int)) (0:UInt8)=s[i]:=Wu q _;rw[Zr,n,o,u,Wq q,Q];simp only[Wk,Wa,Wb,p,v,w];have B:(s.drop f).take (i+1-f)=(s.drop f).take (i-f)++ [s[i]]:=by
   rw[show i+1-f=i-f+1 by omega,qh (by rw[kO];omega),List.getElem_drop];simp only[show f+(i-f)=i by omega]
  by_cases l:s[i]=10
  .have hb:((((s[i].toNat:Nat):Int)) !=(10:Int))=false:=by rw[l];rfl
   rw[hb,Wb];have U:s.drop f=(s.drop f).take (i-f)++10::s.drop (i+1):=by
    have a:=(Ew (i-f) (s.drop f)).symm;rw[List.drop_drop,show f+(i-f)=i by omega,d4 q,l]at a;exact a
   have K:spl 10 (s.drop f)=(s.drop f).take (i-f)::spl 10 (s.drop (i+1)):=by
    conv=>lhs;rw[U]
    exact HB _ h4.no
   have X:s.take (i+1)=s.take f++((s.drop f).take (i-f)++10:: []):=by
    have:s.take (i+1)=s.take f++(s.drop f).take (i+1-f):=by
     rw[←List.take_add];congr 1;omega
    rw[this,B,l]
   have A:spl 10 (s.take (i+1))=(D++ [(s.drop f).take (i-f)])++ [[]]:=by
    rw[X,NG _ _ h4.st,HB _ h4.no];simp[spl]
   have I:(D++ [(s.drop f).take (i-f)]).length=D.length+1:=by simp
   have E:((s.drop f).take (i-f)).length=i-f:=by rw[ca,kO];omega
   obtain⟨T,x,t⟩:=h4.ct;have y:∀e,(e=i+1\/e=c)->Scn s (i+1) (i+1) e (D++ [(s.drop f).take (i-f)]):=λe r=>by
    refine⟨by rw[h4.sp,K];simp,A,?_,Xj _,by omega,?_,by simp⟩
    .rcases r with rfl|rfl
     .exact⟨_,Xj _,by rw[kQ];exact A⟩
     .exact⟨T,by omega,by rw[t,ZU x]⟩
    .rcases r with rfl|rfl
     .omega
     .exact h4.cl
   have d:=λe r=>Ny (k:=k) (K0:=K0) G m (i+1) g (i+1) e (D++ [(s.drop f).take (i-f)]) (by omega) (by omega) (by omega) (y e r);rw[I]at d;by_cases F:i>f
   .have sP:nz (D++ [(s.drop f).take (i-f)])=nz D+1:=by
     unfold nz;rw[A3];have:(s.drop f).take (i-f)≠ []:=λz=>by rw[z]at E;simp at E;omega
     simp[this]
    rw[sP]at d;rw[Wc (show(i:Int)>(f:Int) by omega)];simp only[Wa];cases((D.length+1:Nat):Int)==k with
    |true=>exact d _ (.inl rfl)
    |false=>exact d _ (.inr rfl)
   .have sP:nz (D++ [(s.drop f).take (i-f)])=nz D:=by
     unfold nz;rw[A3];have:(s.drop f).take (i-f)= []:=EA.1 (by omega);simp[this]
    rw[sP]at d;rw[Wg (show¬(i:Int)>(f:Int) by omega)];simp only[Wb];cases((D.length+1:Nat):Int)==k with
    |true=>exact d _ (.inl rfl)
    |false=>exact d _ (.inr rfl)
  .have hb:((((s[i].toNat:Nat):Int)) !=(10:Int))=true:=by
    rw[bne_iff_ne];intro z;exact l (UInt8.toNat_inj.1 (by show s[i].toNat=10;omega))
   rw[hb,Wa];exact Ny G m (i+1) g f c D (by omega) (by omega) (by omega) ⟨h4.sp,h4.st,h4.ct,by omega,by omega,h4.cl,by
    rw[B];intro z;rcases Xo.1 z with z|z
    .exact h4.no z
    .exact l (cq.1 z).symm⟩
theorem YL{s}{c fl}{K0:Int->Int->Bool->Option R}(j:out.length<=1048576):∀(m i a),i+m=out.length->m<a->ov N s out c fl K0 a (((out.take i).count 10:Nat):Int) (i:Int)=K0 ((out.count 10:Nat):Int) (out.length:Int) false
 |0,i,a,h,h2=>by
  obtain⟨g,rfl⟩:∃g,a=g+1:=⟨a-1,by omega⟩;have:i=out.length:=by omega
  subst this;rw[ov,WN (Xj _),Wb,kQ]
 |m+1,i,a,h,h2=>by
  obtain⟨g,rfl⟩:∃g,a=g+1:=⟨a-1,by omega⟩;have e:i<out.length:=by omega
  have b:=YL (s:=s) (c:=c) (fl:=fl) (K0:=K0) j m (i+1) g (by omega) (by omega);have f:(out.take i).count 10<=(out.take i).length:=List.count_le_length;rw[ca]at f;rw[qh e,O9]at b;rw[ov,WF e,Wq e,Wu e,Wl (show i<4611686018427387904 by omega)];by_cases d:out[i]=10
  .rw[show((((out[i].toNat:Nat):Int))==(10:Int))=true by rw[d];rfl,Wa,Wl (show(out.take i).count 10<4611686018427387904 by omega)];rw[d]at b;simpa using b
  .rw[show((((out[i].toNat:Nat):Int))==(10:Int))=false by
    rw[beq_eq_false_iff_ne];intro z;exact d (UInt8.toNat_inj.1 (by show out[i].toNat=10;omega)),Wb]
   rw[show List.count 10 [out[i]]=0 from Xhm.2 (λz=>d (cq.1 z).symm),Nat.add_zero]at b;exact b
end
end
section
section
variable{N:Nat}{s a u:List UInt8}
theorem WrT:zk N a (a++u)=ret true:=by
 unfold zk;have b:decide (Wi a<=Wi (a++u))=true:=Wc (by unfold Wi;simp;omega);have c:(decide ((0:Int)<=Wi a)&&decide (Wi a<=(((a++u).length:Nat):Int)))=true:=by unfold Wi;simp;omega
 rw[b,c,TC];simp[seq,ret]
theorem WxL(B:1600000<N)(F:s.length<=1048576){k}:Zr N s (dD N s) k
 (λa d b J O H=>
  (bif decide (d>(80:Int))then
 (some ((),(seq (dD N s) ([]:List UInt8),())))
 else
 (bif decide ((Wi s)>(20000:Int))then
 (some ((),(seq (dD N s) ([]:List UInt8),())))
 else
 (ov N s (dD N s) a b
 (λg M K=>
  (bif (decide ((0:Int)<=a))&&(decide (a<=((Xa s):Int)))then
 ((q6 N (ah (Xb a) s)).bind λh=>
 ((zk N h.2.1 (dD N s)).bind λm=>
 (bif m.2.1 then
 (some ((),(g==b,())))
 else
 (some ((),(false,()))))))else none))
 N (0:Int) (0:Int)))))
 N (0:Int) (0:Int) (0:Int) (0:Int) (0:Int)=(some ((),(true,())):Option Kq):=by
 have o:1048576<N:=by omega
 have y:Scn s 0 0 0 []:=⟨rfl,rfl,⟨0,Xj _,rfl⟩,Xj _,by omega,by omega,by simp⟩;obtain⟨c,Q,T,⟨j,D⟩,e⟩:=Ny (N:=N) (out:=dD N s) (k:=k) (K0:=λa d b J O H=>
  (bif decide (d>(80:Int))then
 (some ((),(seq (dD N s) ([]:List UInt8),())))
 else
 (bif decide ((Wi s)>(20000:Int))then
 (some ((),(seq (dD N s) ([]:List UInt8),())))
 else
 (ov N s (dD N s) a b
 (λg M K=>
  (bif (decide ((0:Int)<=a))&&(decide (a<=((Xa s):Int)))then
 ((q6 N (ah (Xb a) s)).bind λh=>
 ((zk N h.2.1 (dD N s)).bind λm=>
 (bif m.2.1 then
 (some ((),(g==b,())))
 else
 (some ((),(false,()))))))else none))
 N (0:Int) (0:Int))))) F s.length 0 N 0 0 [] (by omega) (by omega) (by simp) y
 refine Eq.trans e ?_;by_cases A:(lns s).length>80
 .have:dD N s= []:=by unfold dD;rw[Wf (.inr A)]
  rw[Wc (show(((lns s).length:Nat):Int)>80 by omega),this];rfl
 .rw[Wg (show¬(((lns s).length:Nat):Int)>80 by omega),Wb];by_cases z:s.length>20000
  .have:dD N s= []:=by unfold dD;rw[Wf (.inl z)]
   rw[Wc (show Wi s>20000 by unfold Wi;omega),this];rfl
  .rw[Wg (show¬Wi s>20000 by unfold Wi;omega),Wb];have q:dD N s=(dkF N (lns s) kJ []).2:=by unfold dD;rw[We (by omega)]
   have w:SI kJ:=⟨rfl,rfl,by simp[kJ],(λp E=>by cases E),by simp[kJ]⟩;obtain⟨_,t,f⟩:=OG (N:=N) (L:=[]) o (lns s) kJ [] (λx G=>by have:=XF G;omega) w;rw[←q]at t f;simp only[List.length_nil,cb,List.count_nil]at t f;have n:=λ(K0:Int->Int->Bool->Option Kq)=>YL (N:=N) (s:=s) (out:=dD N s) (c:=(c:Int)) (fl:=(nz (lns s):Int)) (K0:=K0) (by omega) (dD N s).length 0 N (by omega) (by omega);simp only[List.take_zero,List.count_nil]at n;rw[show((0:Nat):Int)=0 from rfl]at n;rw[n,show(decide ((0:Int)<=(c:Int))&&decide ((c:Int)<=((s.length:Nat):Int)))=true by simp;omega,Wa,Xk];have P:(s.take c).length<=20000:=by rw[ca];omega
   rw[(UA (N:=N) (s:=s.take c) o (by omega)).2];have I:dD N (s.take c)=(dkF N ((lns s).take j) kJ []).2:=by
    unfold dD;have R:=ca (i:=c) (l:=s);have S:=ca (i:=j) (l:=lns s);rw[D,We (by omega)]
   have v:=XJ (N:=N) ((lns s).take j) ((lns s).drop j) kJ [];rw[Ew]at v;obtain⟨u,r⟩:=Ns (N:=N) ((lns s).drop j) (dkF N ((lns s).take j) kJ []).1 (dkF N ((lns s).take j) kJ []).2;rw[←v,←q,←I]at r;simp only[Xd];have C:zk N (dD N (s.take c)) (dD N s)=ret true:=by rw[r];exact WrT
   rw[C,f];simp[ret]
end
end
section
def Sr(B:Nat)(r:Option (Unit×(List UInt8×Unit))):Prop:=∃t,r=some ((),(t,()))/\t.length<=B
section
variable{N B:Nat}{c:Cur}{l:List Opn}{p:Pg}{s:List UInt8}
theorem Sr.bind{ρ}{P}{r}{k:(Cur×Unit)×ρ->Option (Unit×(List UInt8×Unit))}(h:Drw P r)(d:∀c v,bG c->P v->Sr B (k ((c,()),v))):Sr B (r.bind k):=by
 obtain⟨c,v,e,a,b⟩:=h;rw[e];exact d c v a b
theorem sfl{a b}(h:a.length+b.length<=900000):W5 a b=true:=kh (by omega)
theorem WyG(k):(wds.getD k []).length<=7:=by
 by_cases h:k<17
 .revert k;decide
 .rw[List.getD_eq_getElem?_getD,List.getElem?_eq_none (by show 17<=k;omega)];simp
theorem Wyq(o):(shO o).length<=105:=by
 unfold shO;split
 .have h1:=WyG o.1.toNat;have a:=N5 ([o.2.1,o.2.2.1,o.2.2.2].take (d3 o.1));have b:([o.2.1,o.2.2.1,o.2.2.2].take (d3 o.1)).length<=3:=by rw[ca];exact eO (Nat.min_le_right ..) (by simp)
  rw[Xv];omega
 .simp
theorem X9(d:1048576<N)(c:CC l){K0:List UInt8->Int->Bool->Option (Unit×(List UInt8×Unit))}:∀(m i a) (s),i+m=l.length->m<a->s.length+106*m<=800000->∃t,t.length<=s.length+106*m/\w9 N l K0 a s (i:Int)=K0 t (l.length:Int) false
 |0,i,a,s,j,k,h3=>by
  obtain⟨g,rfl⟩:∃g,a=g+1:=⟨a-1,by omega⟩;have:i=l.length:=by omega
  subst this;exact⟨s,by omega,by rw[w9,WN (Xj _),Wb]⟩
 |m+1,i,a,s,j,k,h3=>by
  obtain⟨g,rfl⟩:∃g,a=g+1:=⟨a-1,by omega⟩;have b:i<l.length:=by omega
  obtain⟨o,f,h⟩:=c.ok i b;obtain⟨⟨p,q⟩,⟨r,u⟩,v,w⟩:=XG ⟨f,h⟩ o;have y:=Wyq l[i];obtain⟨t,n,e⟩:=X9 d c (K0:=K0) m (i+1) g (s++shO l[i]++ [10]) (by omega) (by omega) (by simp;omega);refine⟨t,by simp at n;omega,?_⟩;have x:=c.len;rw[w9,WF b,Wq b,Wu b,UP ⟨f,h⟩ ⟨⟨by omega,by omega⟩,⟨by omega,by omega⟩,⟨by omega,by omega⟩⟩ d];simp only[Wa,ret,Xd];rw[sfl (by omega),sfl (by simp;omega),Wa,Wa,Wl (by omega)];exact e
theorem XP(c:l.length<=1048576)(a:1048576<N):Sr 3000 (yL N l):=by
 unfold yL;rw[L2 c a];simp only[ret,Xd];cases h:jJ l with
 |false=>exact⟨_,rfl,by simp⟩
 |true=>
  have b:=Ow h;have i:=b.len;obtain⟨t,d,e⟩:=X9 (N:=N) a b (K0:=λf j g=>(some ((),(f,())))) l.length 0 N [] (by omega) (by omega) (by simp;omega);exact⟨t,e,by simp at d;omega⟩
theorem XK(d:1048576<N)(f:∀x∈p.2,x.length<=1048576)(c:p.2.length<=3){K0:List UInt8->Int->Bool->Option (Unit×(List UInt8×Unit))}:∀(m i a) (s),i+m=p.2.length->m<a->s.length+3010*m<=800000->∃t,t.length<=s.length+3010*m/\xa N p K0 a s (i:Int)=K0 t (p.2.length:Int) false
 |0,i,a,s,j,k,c=>by
  obtain⟨g,rfl⟩:∃g,a=g+1:=⟨a-1,by omega⟩;have:i=p.2.length:=by omega
  subst this;exact⟨s,by omega,by rw[xa,WN (Xj _),Wb]⟩
 |m+1,i,a,s,j,k,h4=>by
  obtain⟨g,rfl⟩:∃g,a=g+1:=⟨a-1,by omega⟩;have b:i<p.2.length:=by omega
  obtain⟨u,h,n⟩:=XP (N:=N) (f _ (Xt b)) d;obtain⟨t,l,e⟩:=XK d f c (K0:=K0) m (i+1) g (s++ [107,105,100,10]++u) (by omega) (by omega) (by simp;omega);refine⟨t,by simp at l;omega,?_⟩;rw[xa,WF b,Wq b,Wu b,h,sfl (by simp;omega)];simp only[Wa,Xd];rw[sfl (by simp;omega),Wa,Wl (by omega)];exact e
theorem X3(f:PB p)(a:1048576<N):Sr 13000 (yM N p):=by
 unfold yM;rw[Sp f a];simp only[ret,Xd];cases h:hG p with
 |false=>exact⟨_,rfl,by simp⟩
 |true=>
  have b:=XA h;have d:=b.k3;obtain⟨u,c,n⟩:=XP (N:=N) (l:=p.1) (by have:=b.μ.len;omega) a;rw[c];obtain⟨t,m,e⟩:=XK (N:=N) (p:=p) a (λx g=>by have:=(b.π x g).len;omega) d (K0:=λi k j=>(some ((),(i,())))) p.2.length 0 N u (by omega) (by omega) (by omega);exact⟨t,e,by omega⟩
abbrev KD:=List UInt8->Int->Bool->Cur->Option (Unit×(List UInt8×Unit))
theorem AI{n}(h:0<=n/\n<=65535)(a:1048576<N):Zv N n=some ((),(aL n,())):=jA n (by unfold I64;omega) a
theorem OC{L}(i:0<L.length)(g:L.length<=1000)(f:∀x∈L,x.length<=100)(h:bG c):Drw (λv:List UInt8×Unit=>v.1.length<=100) (u5 N c L):=by
 refine(d8 (N:=N) (Wi L) h).bind λc v b e=>?_;have a:=e.2 (by unfold Wi;omega);unfold Wi at a;have d:inb v.1 L.length=true:=by unfold inb;simp only[Xh,Wh];omega
 refine .bifT d (.ok b ?_);rw[WB (show v.1.toNat<L.length by omega)];exact f _ (Xt _)
theorem Yx{r}{K0:KD}(d:1048576<N)(e:∀s i t c,bG c->s.length<=200->Sr B (K0 s i t c)):∀(m i a:Nat) (s) (c),i+m=2->m<a->bG c->s.length+100*m<=200->Sr B (xb N r K0 a s (i:Int) c)
 |0,i,a,s,c,f,h,b,h3=>by
  obtain⟨g,rfl⟩:∃g,a=g+1:=⟨a-1,by omega⟩;rw[xb,Wg (by omega),Wb];exact e _ _ _ _ b (by omega)
 |m+1,i,a,s,c,f,h,b,h3=>by
  obtain⟨g,rfl⟩:∃g,a=g+1:=⟨a-1,by omega⟩;rw[xb,Wc (by omega),Wa,sfl (by simp;omega),Wa];refine Sr.bind (d8 (N:=N) 4 b) λc v b k=>?_;have l:=ek v.1;simp only[AI (show 0<=v.1/\v.1<=65535 by omega) d,Xd];rw[sfl (by simp;omega),sfl (by simp;omega),Wa,Wa];refine Sr.bind (OQ (N:=N) b) λc u b j=>?_;have n:=ek u.1;simp only[AI j d,Xd];rw[sfl (by simp;omega),sfl (by simp;omega),Wa,Wa,Wl (by omega)];exact Yx d e m (i+1) g _ c (by omega) (by omega) b (by simp;omega)
theorem N8{r}{K0:KD}(h:1048576<N)(n:r<=3)(l:∀s i t c,bG c->s.length<=100000->Sr B (K0 s i t c)):∀(m i d:Nat) (s) (c),i+m=r->m<d->bG c->s.length+20000*m<=100000->Sr B (ol N (r:Int) K0 d s (i:Int) c)
 |0,i,d,s,c,o,q,f,h3=>by
  obtain⟨g,rfl⟩:∃g,d=g+1:=⟨d-1,by omega⟩;rw[ol,Wg (by omega),Wb];exact l _ _ _ _ f (by omega)
 |m+1,i,d,s,c,o,q,f,h3=>by
  obtain⟨g,rfl⟩:∃g,d=g+1:=⟨d-1,by omega⟩;rw[ol,Wc (by omega),Wa];refine Sr.bind (OM (N:=N) h (most:=5) (deep:=1) (kid:=false) f (by omega) (by omega)) λc v f A=>?_;refine Sr.bind (wm (N:=N) 3 f) λc b f _=>?_;cases b.1 with
  |true=>
   rw[Wa,Wp (by simp;omega),Wa];refine Sr.bind (OM (N:=N) h (most:=3) (deep:=0) (kid:=true) f (by omega) (by omega)) λc a f y=>?_;refine Sr.bind (OM (N:=N) h (most:=3) (deep:=0) (kid:=true) f (by omega) (by omega)) λc e f z=>?_;rw[sfl (by simp;omega),Wa];obtain⟨u,k,w⟩:=X3 (N:=N) (p:=(Xe [((11:Int),((0:Int),((0:Int),(0:Int))))] v.1,[a.1,e.1])) ⟨by simp;omega,by simp,λx j=>by
    simp only[Xq,mf,or_false]at j;rcases j with rfl|rfl<;>omega⟩ h
   simp only[k,Xd];rw[sfl (by simp;omega),Wa,Wl (show i<4611686018427387904 by omega)];exact N8 h n l m (i+1) g _ c (by omega) (by omega) f (by simp;omega)
  |false=>
   rw[Wb,sfl (by simp;omega),Wa];obtain⟨u,k,w⟩:=X3 (N:=N) (p:=(v.1,[])) ⟨by show v.1.length<=_;omega,by simp,λx j=>by cases j⟩ h;simp only[k,Xd];rw[sfl (by simp;omega),Wa,Wl (show i<4611686018427387904 by omega)];exact N8 h n l m (i+1) g _ c (by omega) (by omega) f (by simp;omega)
theorem Ei{n}(h:n<1000):Wz .i64 ((n+1:Nat):Int) 1=(n:Int):=by rw[WJ (by unfold I64;omega)];omega
theorem HJ{r:Nat}{K0:KD}(d:1048576<N)(f:1<=r/\r<=3)(e:∀s i t c,bG c->s.length<=200000->Sr B (K0 s i t c)):∀(m a) (s) (c),m<1000->m<a->bG c->s.length+200*m<=200000->Sr B (om N (r:Int) K0 a s (m:Int) c)
 |0,a,s,c,j,k,b,h3=>by
  obtain⟨g,rfl⟩:∃g,a=g+1:=⟨a-1,by omega⟩;exact e _ _ _ _ b (by omega)
 |m+1,a,s,c,j,k,b,h3=>by
  obtain⟨g,rfl⟩:∃g,a=g+1:=⟨a-1,by omega⟩;rw[om,Wc (by omega),Wa];refine Sr.bind (d8 (N:=N) (r:Int) b) λc v b n=>?_;have o:=ek v.1;simp only[AI (show 0<=v.1/\v.1<=65535 by omega) d,Xd];refine Sr.bind (d8 (N:=N) 6 b) λc u b l=>?_;cases u.1==0 with
  |true=>
   rw[Wa,sfl (by simp;omega),sfl (by simp;omega),sfl (by simp;omega),Wa,Wa,Wa];refine Sr.bind (d8 (N:=N) 3 b) λc x b h=>?_;have h:=h.2 (by omega);have p:=ek x.1;simp only[AI (show 0<=x.1/\x.1<=65535 by omega) d,Xd];rw[sfl (by simp;omega),sfl (by simp;omega),Wa,Wa,Ei (by omega)];exact HJ d f e m g _ c (by omega) (by omega) b (by simp;omega)
  |false=>
   cases u.1==1 with
   |true=>
    refine Sr.bind (OC (N:=N) (by simp) (by simp) (by decide) b) λc x b h=>?_;simp only;rw[sfl (by omega),sfl (by simp;omega),Wa,Wa,Ei (by omega)];exact HJ d f e m g _ c (by omega) (by omega) b (by simp;omega)
   |false=>
    rw[Wb,sfl (by simp;omega),sfl (by simp;omega),sfl (by simp;omega),Wa,Wa,Wa,Ei (by omega)];exact HJ d f e m g _ c (by omega) (by omega) b (by simp;omega)
theorem YX{K0:KD}(h:1048576<N)(d:∀s i t c,bG c->s.length<=300000->Sr B (K0 s i t c)):∀(m a) (s) (c),m<1000->m<a->bG c->s.length+200*m<=300000->Sr B (sU N K0 a s (m:Int) c)
 |0,a,s,c,e,f,b,h3=>by
  obtain⟨g,rfl⟩:∃g,a=g+1:=⟨a-1,by omega⟩;exact d _ _ _ _ b (by omega)
 |m+1,a,s,c,e,f,b,h3=>by
  obtain⟨g,rfl⟩:∃g,a=g+1:=⟨a-1,by omega⟩;rw[sU,Wc (by omega),Wa];refine Sr.bind (OC (N:=N) (by simp) (by simp) (by decide) b) λc x b j=>?_;simp only;rw[sfl (by omega),sfl (by simp;omega),Wa,Wa,Ei (by omega)];exact YX h d m g _ c (by omega) (by omega) b (by simp;omega)
theorem YA{K0}(e:1048576<N)(b:∀s i t,s.length<=500000->Sr B (K0 s i t)):∀(m i a:Nat) (s),i+m=80->m<a->s.length+6*m<=500000->Sr B (oo N K0 a s (i:Int))
 |0,i,a,s,c,d,h3=>by
  obtain⟨g,rfl⟩:∃g,a=g+1:=⟨a-1,by omega⟩;rw[oo,Wg (by omega),Wb];exact b _ _ _ (by omega)
 |m+1,i,a,s,c,d,h3=>by
  obtain⟨g,rfl⟩:∃g,a=g+1:=⟨a-1,by omega⟩;rw[oo,Wc (by omega),Wa,sfl (by simp;omega),Wa,Wl (by omega)];exact YA e b m (i+1) g _ (by omega) (by omega) (by simp;omega)
theorem ZH(h:bG c):Drw (λv:Int×Unit=>0<=v.1/\v.1<=255) (iT N c):=.of (zQ h)
theorem Yi{st}:∀(m a) (c) (l),m<1000->m<a->bG c->l.length+m<=1000->Drw (λv:List UInt8×Unit=>v.1.length<=1000) (qK N st (λo q e d=>(some ((e,()),(WU d,())))) a (m:Int) c l)
 |0,a,c,l,h,i,b,h3=>by
  obtain⟨g,rfl⟩:∃g,a=g+1:=⟨a-1,by omega⟩;exact .ok b (by simp[WU];omega)
 |m+1,a,c,l,h,i,b,h3=>by
  obtain⟨g,rfl⟩:∃g,a=g+1:=⟨a-1,by omega⟩;rw[qK,Wc (show((m+1:Nat):Int)>0 by omega),Wa];refine(ZH (N:=N) b).bind λc v b p=>?_;have k:inz 2=true:=rfl;have n:inz 4=true:=rfl;have j:∀x:Int,Wx (l.length+Xa [x])=true:=λx=>Wp (by simp;omega);simp only[k,n,j,Wa,Ei (show m<1000 by omega)];have f:=λx:Int=>Yi (st:=st) m g c (Xe l [x]) (by omega) (by omega) b (by simp;omega);cases st==1<;>cases st==2<;>exact f _
theorem Wy8(a:bG c)(f:1048576<N):Drw (λv:List UInt8×Unit=>v.1.length<=1000) (FR N c 3):=by
 refine(d8 (N:=N) 4 a).bind λc v a g=>?_;refine(d8 (N:=N) (Wj .i64 3 1) a).bind λc u a b=>?_;have e:Wj .i64 3 1=4:=rfl;have b:=b.2 (by omega);obtain⟨m,d⟩:=oc b.1;simp only[d];exact Yi m N c [] (by omega) (by omega) a (by simp;omega)
theorem Wyw(a:bG c)(A:s.length<=800000)(n:1048576<N):Drw (λv:List UInt8×Unit=>v.1.length<=900000) (y9 N c s):=by
 unfold y9;rw[OF];cases he:s.isEmpty with
 |true=>
  rw[Wa];exact(Wy8 (N:=N) a n).bind λc v a d=>.ok a (show v.1.length<=900000 by omega)
 |false=>
  have z:0<s.length:=by cases s with|nil=>cases he|cons _ _=>simp
  rw[Wb];refine(d8 (N:=N) (Wi s) a).bind λc v a d=>?_;have d:=d.2 (by unfold Wi;omega);unfold Wi at d;refine(d8 (N:=N) 4 a).bind λc u a B=>?_;simp only;have o:(decide ((0:Int)<=v.1)&&decide (v.1<=((s.length:Nat):Int)))=true:=by simp;omega
  have g:Wj .i64 v.1 1=v.1+1:=WA (by unfold I64;omega);have p:(decide ((0:Int)<=v.1+1)&&decide (v.1+1<=((s.length:Nat):Int)))=true:=by simp;omega
  have q:inb v.1 s.length=true:=by unfold inb;simp only[Xh,Wh];omega
  have C:(ah v.1.toNat s).length<=s.length:=by rw[ca];omega
  have D:(dC v.1.toNat s).length<=s.length:=by rw[kO];omega
  have E:(dC (v.1+1).toNat s).length<=s.length:=by rw[kO];omega
  have t:(ah v.1.toNat s).length+(dC v.1.toNat s).length=s.length:=by rw[ca,kO];omega
  have r:(ah v.1.toNat s).length+(dC (v.1+1).toNat s).length<=s.length:=by rw[ca,kO];omega
  have lt:∀x:Int,(WU [x]).length=1:=λx=>rfl;have j:W5 (ah v.1.toNat s) (dC (v.1+1).toNat s)=true:=sfl (by omega);have k:∀x:Int,W5 (ah v.1.toNat s) (WU [x])=true:=λx=>sfl (by rw[lt];omega);have l:∀x:Int,W5 (ah v.1.toNat s++WU [x]) (dC v.1.toNat s)=true:=λx=>sfl (by rw[Xv,lt];omega);have m:∀x:Int,W5 (ah v.1.toNat s++WU [x]) (dC (v.1+1).toNat s)=true:=λx=>sfl (by rw[Xv,lt];omega);obtain⟨w,b,h,e,_⟩:=ZH (N:=N) a;obtain⟨y,x,i,f,_⟩:=d8 (N:=N) 255 a;simp only[Wk,g,o,p,q,j,k,l,m,h,i,Wa,Xd,H4];cases u.1==0 with
  |true=>exact .ok a (by simp only[Xv];omega)
  |false=>
   cases u.1==1 with
   |true=>exact .ok e (by simp only[Xv,lt];omega)
   |false=>
    cases u.1==2 with
    |true=>exact .ok a (by show(ah v.1.toNat s).length<=_;omega)
    |false=>exact .ok f (by simp only[Xv,lt];omega)
theorem Wyv(d:1048576<N)(n:s.length<=300000)(a:bG c){L}(g:0<L.length)(f:L.length<=1000)(k:∀x∈L,x.length<=100):Sr 1000000 ((Za N c (10:Int)).bind λb=>
 (bif b.2.1==(0:Int)then
 ((y9 N b.1.1 s).bind λl=>
 (some ((),(l.2.1,()))))
 else
 (bif b.2.1==(1:Int)then
 ((u5 N b.1.1 L).bind λe=>
 (bif W5 s e.2.1 then
 (some ((),(s++e.2.1,())))else none))
 else
 (bif b.2.1==(2:Int)then
 (oo N
 (λm p q=>
  (some ((),(m,()))))
 N s (0:Int))
 else
 (some ((),(s,()))))))):=by
 refine Sr.bind (d8 (N:=N) 10 a) λc v a o=>?_;cases v.1==0 with
 |true=>
  exact Sr.bind (Wyw (N:=N) a (by omega) d) λc u a j=>⟨_,rfl,show u.1.length<=1000000 by omega⟩
 |false=>
  cases v.1==1 with
  |true=>
   refine Sr.bind (OC (N:=N) g f k a) λc u a j=>?_;simp only;rw[sfl (by omega),Wa];exact⟨_,rfl,by simp;omega⟩
  |false=>
   cases v.1==2 with
   |true=>exact YA (N:=N) d (λs i t h=>⟨_,rfl,by omega⟩) 80 0 N s (by omega) (by omega) (by omega)
   |false=>exact⟨_,rfl,by omega⟩
theorem Wnm{μ}(f:1048576<N)(h:μ.length<=1048576):∃s:List UInt8,B7 N μ=some ((),(s,()))/\s.length<=1000000:=by
 unfold B7;obtain⟨c,a,e⟩:=Wva h f;rw[e];refine Sr.bind (d8 (N:=N) 3 a) λc v a d=>?_;have d:=d.2 (by omega);obtain⟨r,C⟩:∃r:Nat,v.1=(r:Int):=oc d.1;have z:Wj .i64 1 v.1=((r+1:Nat):Int):=by rw[WA (by unfold I64;omega),C];omega
 simp only[z];refine Yx (N:=N) f (λs i t c a k=>?_) 2 0 N [] c (by omega) (by omega) a (by simp);refine Sr.bind (wm (N:=N) 2 a) λc b a _=>?_;have g:∀(s:List UInt8) (c:Cur),bG c->s.length<=1000->∀(L:List Kg),0<L.length->L.length<=1000->(∀x∈L,x.length<=100)->Sr 1000000 (ol N ((r+1:Nat):Int)
 (λI O R y=>
  ((Za N y (20:Int)).bind λq=>
 (om N ((r+1:Nat):Int)
 (λJ P G K=>
  ((Za N K (5:Int)).bind λw=>
 (sU N
 (λl Q M H=>
  ((Za N H (10:Int)).bind λj=>
 (bif j.2.1==(0:Int)then
 ((y9 N j.1.1 l).bind λE=>
 (some ((),(E.2.1,()))))
 else
 (bif j.2.1==(1:Int)then
 ((u5 N j.1.1 L).bind λp=>
 (bif W5 l p.2.1 then
 (some ((),(l++p.2.1,())))else none))
 else
 (bif j.2.1==(2:Int)then
 (oo N
 (λF U V=>
  (some ((),(F,()))))
 N l (0:Int))
 else
 (some ((),(l,()))))))))
 N J w.2.1 w.1.1)))
 N I q.2.1 q.1.1)))
 N s (0:Int) c):=λs c a k L B A n=>by
  refine N8 (N:=N) f (by omega) (λs i t c a k=>?_) (r+1) 0 N s c (by omega) (by omega) a (by omega);refine Sr.bind (d8 (N:=N) 20 a) λc v a d=>?_;have d:=d.2 (by omega);obtain⟨m,o⟩:∃m:Nat,v.1=(m:Int):=oc d.1;simp only[o];refine HJ (N:=N) f (by omega) (λs i t c a k=>?_) m N s c (by omega) (by omega) a (by omega);refine Sr.bind (d8 (N:=N) 5 a) λc v a d=>?_;have d:=d.2 (by omega);obtain⟨m,o⟩:∃m:Nat,v.1=(m:Int):=oc d.1;simp only[o];refine YX (N:=N) f (λs i t c a k=>?_) m N s c (by omega) (by omega) a (by omega);exact Wyv f k a B A n
 cases b.1 with
 |false=>
  exact g s c a (by omega) _ (by simp) (by simp) (by decide)
 |true=>
  rw[Wa,sfl (by simp;omega),Wa];refine Sr.bind (d8 (N:=N) 9 a) λc x a n=>?_;have n:=n.2 (by omega);have S:=ek x.1;simp only[AI (show 0<=x.1/\x.1<=65535 by omega) f,Xd];rw[sfl (by simp;omega),sfl (by simp;omega),Wa,Wa];refine Sr.bind (OQ (N:=N) a) λc u a D=>?_;have T:=ek u.1;simp only[AI D f,Xd];rw[sfl (by simp;omega),sfl (by simp;omega),Wa,Wa];exact g _ c a (by simp;omega) _ (by simp) (by simp) (by decide)
end
end
section
theorem Wyi{N}{μ}(a:∀x∈μ,0<=x/\x<=255)(g:μ.length<=1048576){i:Nat}(hi:i<=1000):∃v,LQ N μ (i:Int)=ret v/\0<=v/\v<=255:=by
 unfold LQ;by_cases h:i<μ.length
 .have b:=a _ (Xt h);refine⟨μ[i],?_,b⟩;simp only[WF h,Wq h,Wu h,Wa];rw[pt (by unfold I64;omega)]
 .have e:decide ((i:Int)<Wi μ)=false:=by simp[Wi];omega
  have c:bw .i64 (i:Int) 37=(i:Int)*37:=kk (by unfold I64;omega);have d:bw .i64 (Wi μ) 11=(μ.length:Int)*11:=kk (by unfold I64 Wi;omega);have f:Wj .i64 ((i:Int)*37) ((μ.length:Int)*11)=(i:Int)*37+(μ.length:Int)*11:=WA (by unfold I64;omega);rw[e,c,d,f];refine⟨_,rfl,?_⟩;have:ak ((i:Int)*37+(μ.length:Int)*11) 256=((i:Int)*37+(μ.length:Int)*11)%256:=by unfold ak;exact Int.tmod_eq_emod_of_nonneg (by omega)
  rw[this];omega
end
section
theorem Wr3{N:Nat}{μ:List Int}(a:1600000<N)(j:∀x∈μ,0<=x/\x<=255):Zjq N μ=ret true:=by
 have b:1048576<N:=by omega
 unfold Zjq RP;simp only[Xd];by_cases c:μ.length<=1048576
 .have e0:decide (Wi μ>1048576)=false:=by simp[Wi];omega
  obtain⟨s,g,l⟩:=Wnm b c;obtain⟨e,f⟩:=UA (N:=N) (s:=s) b (by omega);obtain⟨v,d,h,k⟩:=Wyi (N:=N) j c (i:=0) (by omega);rw[show((0:Nat):Int)=0 from rfl]at d;rw[e0,g];simp only[Wb,Xd];rw[e,f];simp only[Xd,seq,beq_self_eq_true,Xn,Wb];rw[d];simp only[ret,Xd,show inz 9=true from rfl,Wa];exact WxL a (by omega)
 .have e0:decide (Wi μ>1048576)=true:=by simp[Wi];omega
  rw[e0];rfl
theorem law_FnDesk(d:dA [.v (.slice (.int .u8)) false])(a:HK [.v (.slice (.int .u8)) false] d):∃N o,Zjq N d.1=some (o,(true,())):=
 ⟨1600001,(),Wr3 (by omega) (λx b=>bounds_u8 (a.1.2 x b))⟩
end
end Go.Sx
