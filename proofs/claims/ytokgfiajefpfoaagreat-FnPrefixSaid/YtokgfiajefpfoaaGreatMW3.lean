/- Plain laws of the Lean functions. -/
import Derived.Test.YtokgfiajefpfoaaGreatMW2
open List renaming getElem_mem→Xo,mem_map→Xz,pairwise_map→VY,length_map→Xy,pairwise_iff_getElem→eH,append→Xe,getD→Xc,length_set→aK,set_set→nv,replicate→Xt,set→Xk,set_getElem_self→jN,take→aI,dropLast_eq_take→uv,length→Xb,length_append→Xx,append_eq→cU,length_cons→Xu,length_nil→jQ,mem_cons→Xs,not_mem_nil→V1,ext_getElem→BW,map→xX,foldl→Om,getElem_set→ex,getElem?_eq_getElem→Xp,range→c7,getElem_map→eX,length_take→di,mem_append→Xn,pairwise_append→dx,map_append→Xw,mem_singleton→bH,mem_of_mem_take→jO
open Option renaming bind_some→Xd
open Bool renaming and_self→hL,not_true→Xr,false_eq_true→jP,not_false→Fb,true_and→oX
open Nat renaming le_refl→Xl,le_trans→jR,and_le_right→X0,lt_trichotomy→BV
open Int renaming toNat→Xa,toNat_natCast→Xi,tmod_eq_emod_of_nonneg→BT,eq_ofNat_of_zero_le→XI
namespace Go.Sx
set_option linter.unusedVariables false
set_option linter.unusedSimpArgs false
section
structure Cm where
 who:Int:=0
 rv:Int:=0
 ζ:Int:=0
 pos:Int:=0
 wv:Int:=0
 χ:List Rw:=[]
 μ:List Int:=[]
def Cm.e(c:Cm):Int×Int×Int×Int×Int×List Ke×List Int:=(c.who,c.rv,c.ζ,c.pos,c.wv,c.χ,c.μ)
def Cm.steps(c:Cm):Int:=
 if c.ζ=1\/c.ζ=4\/c.ζ=5\/c.ζ=7 then c.χ.length else if c.ζ=3 then c.μ.length else 1
def cy(c:Cm)(n:Int):Cm:=if n=0 then{c with ζ:=8,pos:=0}else{c with ζ:=7,pos:=n-1}
def cb(c:Cm)(ph:Int):Int:=
 if(ph=3/\c.μ.length=0\/ph=4)/\c.χ.length=0 then 6 else if ph=3/\c.μ.length=0 then 4 else ph
def dL(c:Cm)(ph:Int):Cm:={c with ζ:=cb c ph,pos:=0}
def WB(c:Cm)(ph:Int):Cm:=if c.pos+1=c.steps then dL c ph else{c with pos:=c.pos+1}
def qw(m:Mm)(i who:Int):Mm:=jg m i ((WA m i).1,(WA m i).2.1,who)
def gK(m:Mm)(i who v:Int):Mm:=if(WA m i).2.2=who then jg m i (v,(WA m i).2)else m
def fb(m:Mm)(i who ver:Int):Mm:=if(WA m i).2.2=who/\(WA m i).2.1<=ver/\ver<=m.1 then jg m i ((WA m i).1,ver,0)else m
def Wv(m:Mm)(c:Cm):Mm×Cm:=
 let p:=ah c.χ c.pos (0,0)
 if c.ζ=1 then(if(WA m p.1).2.2=0 then(qw m p.1 c.who,WB c 2)else(m,cy c c.pos))else
 if c.ζ=2 then(if(tick m).2=0 then((tick m).1,cy c c.χ.length)else((tick m).1,dL {c with wv:=(tick m).2} 3))else
 if c.ζ=3 then
  let w:=WA m (ah c.μ c.pos 0)
  if(w.2.2≠0/\w.2.2≠c.who)\/w.2.1>c.rv then(m,cy c c.χ.length)else(m,WB c 4)
 else
 if c.ζ=4 then(gK m p.1 c.who p.2,WB c 5)else
 if c.ζ=5 then(fb m p.1 c.who c.wv,WB c 6)else
 if c.ζ=7 then(fb m p.1 c.who (WA m p.1).2.1,cy c c.pos)else
 (m,c)
def W4(c:Cm):Cm:=
 if c.ζ=1 then cy c c.pos else if c.ζ=2\/c.ζ=3 then cy c c.χ.length else c
def dM(who rv:Int)(χ μ:List Rw):Cm:=
 {who:=who,rv:=rv,ζ:=if(al χ).length=0 then 2 else 1,χ:=al χ,μ:=(al μ).map (·.1)}
structure CmOk(c:Cm):Prop where
 who:1<=c.who/\c.who<=99
 rv:0<=c.rv/\c.rv<=1000000
 wv:0<=c.wv/\c.wv<=1000000
 ζ:1<=c.ζ/\c.ζ<=8
 ε:aZ c.χ
 pup:c.χ.Pairwise λa b=>a.1<b.1
 plen:c.χ.length<=8
 rd:∀x∈c.μ,0<=x/\x<=7
 rup:c.μ.Pairwise (· < ·)
 rlen:c.μ.length<=8
 pos:0<=c.pos/\c.pos<c.steps
section
variable{N:Nat}{c:Cm}{m:Mm}
theorem CmOk.back(h:CmOk c){n:Int}(a:0<=n/\n<=c.χ.length):CmOk (cy c n):=by
 unfold cy;split
 .exact{h with ζ:=by simp_all,pos:=by simp[Cm.steps]}
 .exact{h with ζ:=by simp_all,pos:=by grind [Cm.steps]}
theorem WwF(c:Cm){ph:Int}(h:2<=ph/\ph<=6):2<=cb c ph/\cb c ph<=6:=by unfold cb;split<;>(try split)<;>omega
theorem CmOk.adv(h:CmOk c){ph:Int}(a:2<=ph/\ph<=6)(b:ph=5->c.χ.length≠0):CmOk (dL c ph):=by
 unfold dL;have:=WwF c a;refine{h with ζ:=by grind,pos:=⟨Int.le_refl _,?_⟩}
 grind [Cm.steps,cb]
theorem CmOk.next(h:CmOk c){ph:Int}(b:2<=ph/\ph<=6)(a:ph=5->c.χ.length≠0):CmOk (WB c ph):=by
 unfold WB;split
 .exact h.adv b a
 .have:=h.pos;exact{h with pos:=⟨by grind,by show c.pos+1<c.steps;omega⟩}
theorem WvK(a:aq m=true){i who:Int}(hi:0<=i/\i<=7)(b:0<=who/\who<=99):aq (qw m i who)=true:=by
 have:=mR.1 (Ba a hi);exact Nb a (by grind [mR])
theorem WsC(a:aq m=true){i who v:Int}(hi:0<=i/\i<=7)(b:0<=v/\v<=65535):aq (gK m i who v)=true:=by
 grind [mR,Ba,gK,Nb]
theorem Ql(a:aq m=true){i who ver:Int}(hi:0<=i/\i<=7):aq (fb m i who ver)=true:=by
 grind [mR,Ba,fb,Nb]
theorem CmOk.put(h:CmOk c)(d:c.ζ=1\/c.ζ=4\/c.ζ=5\/c.ζ=7):∃(j:Nat) (a:j<c.χ.length),c.pos=j/\ah c.χ c.pos (0,0)=c.χ[j]/\(0<=c.χ[j].1/\c.χ[j].1<=7)/\0<=c.χ[j].2/\c.χ[j].2<=65535:=by
 have:=h.pos;unfold Cm.steps at this;rw[Wb d]at this;have a:c.pos.toNat<c.χ.length:=by omega
 have b:=h.ε _ (Xo a);exact⟨c.pos.toNat,a,by omega,Wn a _,b.1,b.2⟩
theorem CmOk.read(h:CmOk c)(b:c.ζ=3):∃(j:Nat) (a:j<c.μ.length),c.pos=j/\ah c.μ c.pos 0=c.μ[j]/\0<=c.μ[j]/\c.μ[j]<=7:=by
 have:=h.pos;unfold Cm.steps at this;rw[Wa (by omega),Wb b]at this;have a:c.pos.toNat<c.μ.length:=by omega
 have d:=h.rd _ (Xo a);exact⟨c.pos.toNat,a,by omega,Wn a _,d⟩
theorem RJ(h:CmOk c)(a:aq m=true):CmOk (Wv m c).2/\aq (Wv m c).1=true:=by
 have o:=h.pos;have n:c.ζ=1\/c.ζ=4\/c.ζ=5\/c.ζ=7->c.χ.length≠0:=λi=>by obtain⟨j,f,_⟩:=h.put i;omega
 have k:c.ζ=1\/c.ζ=4\/c.ζ=5\/c.ζ=7->c.pos<c.χ.length:=λi=>by simp_all [Cm.steps,Wb]
 have p:=h.who;unfold Wv;simp only;split
 .obtain⟨j,f,g,b,d,e⟩:=h.put (by omega);rw[b];split
  .exact⟨h.next (by omega) (by omega),WvK a d (by omega)⟩
  .exact⟨h.back (by omega),a⟩
 .split
  .have ht:=Ht a;split
   .exact⟨h.back (by omega),ht.1⟩
   .refine⟨?_,ht.1⟩;have l:CmOk {c with wv:=(tick m).2}:={h with wv:=⟨ht.2.1,ht.2.2.1⟩};exact l.adv (by omega) (by omega)
  .split
   .split
    .exact⟨h.back (by omega),a⟩
    .exact⟨h.next (by omega) (by omega),a⟩
   .split
    .obtain⟨j,f,g,b,d,e⟩:=h.put (by omega);rw[b];exact⟨h.next (by omega) (λ_=>n (by omega)),WsC a d e⟩
    .split
     .obtain⟨j,f,g,b,d,e⟩:=h.put (by omega);rw[b];exact⟨h.next (by omega) (by omega),Ql a d⟩
     .split
      .obtain⟨j,f,g,b,d,e⟩:=h.put (by omega);have:=k (by omega);rw[b];exact⟨h.back (by omega),Ql a d⟩
      simp_all
theorem WrH(h:CmOk c):CmOk (W4 c):=by
 have a:=h.pos;unfold W4;split
 .have:c.pos<c.χ.length:=by simp_all [Cm.steps,Wb]
  exact h.back (by omega)
 .split
  .exact h.back (by omega)
  .exact h
theorem Wvh{who rv:Int}{χ μ:List Rw}(b:1<=who/\who<=99)(a:0<=rv/\rv<=1000000):CmOk (dM who rv χ μ) where
 who:=b
 rv:=a
 wv:=by simp[dM]
 ζ:=by unfold dM;simp only;split<;>omega
 ε:=vZ
 pup:=wW χ
 plen:=Bi χ
 rd:=λx c=>by
  obtain⟨r,a,rfl⟩:=Xz.1 c;exact(vZ r a).1
 rup:=by
  simp[dM,VY,wW]
 rlen:=by simp[dM,Xy,Bi]
 pos:=by
  unfold dM Cm.steps
  grind
theorem cmP(c:Cm):c.e.1=c.who/\c.e.2.1=c.rv/\c.e.2.2.1=c.ζ/\c.e.2.2.2.1=c.pos/\c.e.2.2.2.2.1=c.wv/\c.e.2.2.2.2.2.1=c.χ/\c.e.2.2.2.2.2.2=c.μ:=⟨rfl,rfl,rfl,rfl,rfl,rfl,rfl⟩
theorem DJ{who:Int}:vc N who=ret (decide (1<=who)&&decide (who<=99)):=by simp[vc,fI]
theorem F4(a:aq m=true):pm N m=ret m:=by
 grind [WP,pm,Ww]
theorem PW(h:CmOk c):Fu N c.e=ret c.e:=by
 unfold Fu;have:=h.plen;have:=h.rlen;rw[show nw N c.e.2.2.2.2.2.1=ret c.χ from AC (show c.χ.length<=1048576 by omega),show Zr N c.e.2.2.2.2.2.2=ret c.μ from DH (show c.μ.length<=1048576 by omega)];rfl
theorem Rf:Cb N c.e=ret c.steps:=by
 unfold Cb Cm.steps;obtain⟨f,g,a,h,i,b,d⟩:=cmP c;simp only[WI,a,b,d,Wh]
 grind
theorem Pn(h:CmOk c)(G:1048576<N):yX N c.e=ret true:=by
 obtain⟨y,z,A,B,C,f,p⟩:=cmP c;have L:=h.plen;have K:=h.rlen;have t:=h.who;have s:=h.rv;have u:=h.wv;have q:=h.ζ;have E:=h.pos;have D:ed c.χ=true:=by unfold ed;rw[GV.2 h.ε,Wf (by omega)];rfl
 unfold yX;simp only[y,z,A,B,C,f,p,DJ,fI,DG (show c.χ.length<=1048576 by omega) G,Rf,ret,Xd,Wf t.1,Wf t.2,Wf s.1,Wf s.2,Wf u.1,Wf u.2,Wf q.1,Wf q.2,D,hL,Xr,Wc];have R:c.steps<=8:=by unfold Cm.steps;split<;>(try split)<;>omega
 have v:W3 .i64 c.steps 1=c.steps-1:=dZ (by unfold I64;omega);rw[v,Wf E.1,Wf (show c.pos<=c.steps-1 by omega)];have l:∀(d j n:Nat),j+d=c.μ.length->d<n->qM N c.μ c.e (some ((),(false,()))) (λk I=>(some ((),(true&&true,())))) n (j:Int)=ret true:=by
  intro d
  induction d with
  |zero=>
   intro j n g i;obtain⟨n,rfl⟩:∃n',n=n'+1:=⟨n-1,by omega⟩;simp_all [qM,W6,Xl,Wc]
  |succ d ih=>
   intro j n g i;obtain⟨n,rfl⟩:∃n',n=n'+1:=⟨n-1,by omega⟩;have a:j<c.μ.length:=by omega
   have o:=ih (j+1) n (by omega) (by omega);have O:=h.rd _ (Xo a);have x:bY c.μ[j]=true:=by grind [bY]
   simp only[qM,p,WQ a,Ws a,Wu a,Wk (show j<4611686018427387904 by omega),We,pC,ret,Xd,x,Xr,Wc,o];by_cases M:j=0
   .grind
   .have e1:decide ((j:Int)>0)=true:=by simp;omega
    have r:W3 .i64 (j:Int) 1=((j-1:Nat):Int):=by grind [dZ,I64]
    have b:j-1<c.μ.length:=by omega
    have H:=eH.1 h.rup (j-1) j b a (by omega);simp_all [We,Ws,Wu,Wl]
 have w:∀(d j n:Nat),j+d=c.χ.length->d<n->1<=j->uE N c.e (some ((),(false,()))) (λQ J=>(qM N c.μ c.e (some ((),(false,()))) (λk I=>(some ((),(true&&true,())))) N (0:Int))) n (j:Int)=ret true:=by
  intro d
  induction d with
  |zero=>
   intro j n g i _;obtain⟨n,rfl⟩:∃n',n=n'+1:=⟨n-1,by omega⟩;have:j=c.χ.length:=by omega
   subst this;simp only[uE,f,W6 (Xl _),Wc];exact l c.μ.length 0 N (by omega) (by omega)
  |succ d ih=>
   intro j n g i F;obtain⟨n,rfl⟩:∃n',n=n'+1:=⟨n-1,by omega⟩;have a:j<c.χ.length:=by omega
   have o:=ih (j+1) n (by omega) (by omega) (by omega);have r:W3 .i64 (j:Int) 1=((j-1:Nat):Int):=by grind [dZ,I64]
   have b:j-1<c.χ.length:=by omega
   have H:=eH.1 h.pup (j-1) j b a (by omega);simp only[uE,f,WQ a,Ws a,Wu a,Wk (show j<4611686018427387904 by omega),We,r,Ws b,Wu b]
   grind
 by_cases P:c.χ.length=0
 .obtain⟨m,rfl⟩:∃m,N=m+1:=⟨N-1,by omega⟩;rw[uE,f,Wl (by unfold Wh;omega)];exact l c.μ.length 0 _ (by omega) (by omega)
 .exact w (c.χ.length-1) 1 N (by omega) (by omega) (by omega)
theorem Hf(h:CmOk c){n:Int}(a:0<=n/\n<=8):Z0 N c.e n=some (((cy c n).e,()),()):=by
 unfold Z0 cy;rw[WI,dZ (by unfold I64;omega)];split<;>rfl
theorem UB{ph:Int}:Fk N c.e ph=some (((dL c ph).e,()),()):=by
 obtain⟨h,i,j,k,l,d,f⟩:=cmP c;unfold Fk dL cb;simp only[WI,d,f,Wh];by_cases b:ph=3
 .subst b;by_cases g:c.μ.length=0<;>by_cases a:c.χ.length=0<;>simp[g,a]<;>rfl
 .by_cases h4:ph=4
  .subst h4;by_cases a:c.χ.length=0<;>simp[a]<;>rfl
  .simp[b,h4];rfl
theorem Wvy(h:CmOk c){ph:Int}:qI N c.e ph=some (((WB c ph).e,()),()):=by
 obtain⟨d,f,g,b,i,j,k⟩:=cmP c;have l:=h.pos;have m:c.steps<=8:=by have:=h.plen;have:=h.rlen;unfold Cm.steps;split<;>(try split)<;>omega
 have a:Cb N (Cm.e {c with pos:=c.pos+1})=ret c.steps:=Rf;unfold qI WB;rw[b,WE (by unfold I64;omega)];rw[show(c.e.1,(c.e.2.1,(c.e.2.2.1,(c.pos+1,c.e.2.2.2.2))))=Cm.e {c with pos:=c.pos+1}from rfl,a];simp only[ret,Xd,WI,UB];split<;>rfl
theorem Wt0(h:CmOk c)(k:1048576<N):∃b,Iu N c.e=some ((),((W4 c).e,(b,()))):=by
 obtain⟨l,m,g,i,n,j,o⟩:=cmP c;have p:=h.pos;have q:=h.plen;have r:c.steps<=8:=by have:=h.plen;have:=h.rlen;unfold Cm.steps;split<;>(try split)<;>omega
 unfold Iu W4;rw[PW h];simp only[ret,Xd];rw[Pn h k];simp only[ret,Xd,Xr,Wc,WI,g,i,j,Hf h (show 0<=c.pos/\c.pos<=8 by omega),Hf h (show 0<=Wh c.χ/\Wh c.χ<=8 by unfold Wh;omega)];by_cases d:c.ζ=1
 .simp_all
 .rw[Wa d,Wa d];by_cases a:c.ζ=2
  .rw[Wb a,Wb a,Wb (.inl a)];exact⟨_,rfl⟩
  .rw[Wa a];by_cases f:c.ζ=3
   .rw[Wb f,Wb (.inr f)];exact⟨_,rfl⟩
   simp_all
theorem Wpw{l:List Rw}(e:l.length<=1048576)(d:1048576<N):Dh N l=ret ((al l).map (·.1)):=by
 unfold Dh;rw[Gh e d];have m:=Bi l;simp only[ret,Xd];have c:=WH (l:=al l) (V:=List Int) (R:=Unit×(List Int×Unit)) (lp:=λn j v=>yn N (Wh (al l)) (al l) (λh g b=>(some ((),(b,())))) n j v) (n:=N) (by omega)
  (body:=λj x v k=>bif WC (v.length+ [x.1].length)then k (Xe v [x.1])else none) (K:=λ_ v=>ret v)
  (λn i v a=>by simp only[yn,WQ a,Ws a,Wu a,Wk (show i<4611686018427387904 by omega),We])
  (λn v=>by simp[yn,W6,Xl,Wc]) []
 refine c.trans ?_;rw[Al (f:=λx:Rw=>x.1) (al l) 0 [] (by simp;omega) (λj x v k _=>rfl)];rfl
theorem Wyt{who rv:Int}{χ μ:List Rw}(c:1<=who/\who<=99)(b:0<=rv/\rv<=1000000)(f:ed χ=true)(d:ed μ=true)(a:1048576<N):
  yO N who rv χ μ=some ((),((dM who rv χ μ).e,(true,()))):=by
 have h:χ.length<=300:=by grind [ed]
 have i:μ.length<=300:=by grind [ed]
 unfold yO;simp only[DJ,fI,DG (show χ.length<=1048576 by omega) a,DG (show μ.length<=1048576 by omega) a,Gh (show χ.length<=1048576 by omega) a,Wpw (show μ.length<=1048576 by omega) a,ret,Xd,Wf c.1,Wf c.2,Wf b.1,Wf b.2,f,d,hL,Xr,Wc,WI];unfold dM Cm.e;by_cases g:(al χ).length=0
 .simp_all [Wb,Wh]
 simp_all [Wa,Wh]
theorem GS{m:Mm}{i:Int}:Xc m.2 (Xa i) ((0:Int),((0:Int),(0:Int)))=WA m i:=rfl
theorem Bt(a:aq m=true){i:Int}(hi:0<=i/\i<=7):inb i m.2.length=true:=by
 grind [WP,inb]
theorem L6{i:Int}(hi:0<=i/\i<=7):bY i=true:=by grind [bY]
theorem Wno(a:aq m=true){i who:Int}(hi:0<=i/\i<=7)(b:1<=who/\who<=99)(c:1048576<N):
  FN N m i who=some ((),((if(WA m i).2.2=0 then qw m i who else m),(decide ((WA m i).2.2=0),()))):=by
 unfold FN;rw[F4 a,Ak (by grind [WP]) c,a];simp only[ret,Xd,Xr,Wc,pC,L6 hi,DJ,Wf b.1,Wf b.2,hL,Bt a hi,We,GS,rF];by_cases h:(WA m i).2.2=0
 .rw[Wb h,Wb h,Wf h];rfl
 simp_all
theorem WlC(a:aq m=true){i who v:Int}(hi:0<=i/\i<=7)(c:1<=who/\who<=99)(e:0<=v/\v<=65535)(d:1048576<N):
  ∃b,KP N m i who v=some ((),(gK m i who v,(b,()))):=by
 unfold KP gK;rw[F4 a,Ak (by grind [WP]) d,a];simp only[ret,Xd,Xr,Wc,pC,L6 hi,DJ,mE,mG.2 e,Wf c.1,Wf c.2,hL,Bt a hi,We,GS,rF];by_cases h:(WA m i).2.2=who
 .rw[Wb h,Wb h];exact⟨_,rfl⟩
 simp_all
theorem O0(c:aq m=true){i who ver:Int}(hi:0<=i/\i<=7)(d:1<=who/\who<=99)(e:1048576<N):
  ∃b,FM N m i who ver=some ((),(fb m i who ver,(b,()))):=by
 have f:=(WP c).1;unfold FM fb;rw[F4 c,Ak (by omega) e,c];simp only[ret,Xd,Xr,Wc,pC,L6 hi,DJ,fI,Wf d.1,Wf d.2,hL,Bt c hi,We,GS,rF,aK,Wz];by_cases h:(WA m i).2.2=who
 .rw[Wb h];by_cases a:(WA m i).2.1<=ver/\ver<=m.1
  .rw[Wb ⟨h,a.1,a.2⟩,Wf a.1,Wf a.2];refine⟨true,?_⟩;have:i.toNat<m.2.length:=by omega
   simp only[hL,Xr,Wc,Wmp this,nv];rfl
  .rw[Wa (by omega)];refine⟨false,?_⟩
   grind
 simp_all
theorem Woe(h:CmOk c)(i:aq m=true)(l:1048576<N):IS N m c.e=some ((),((Wv m c).1,((Wv m c).2.e,()))):=by
 obtain⟨A,B,C,D,E,F,G⟩:=cmP c;have H:=h.pos;have I:=h.plen;have v:=h.who;have J:c.steps<=8:=by have:=h.plen;have:=h.rlen;unfold Cm.steps;split<;>(try split)<;>omega
 have y:=Hf (N:=N) h (show 0<=c.pos/\c.pos<=8 by omega);have z:=Hf (N:=N) h (show 0<=Wh c.χ/\Wh c.χ<=8 by unfold Wh;omega);unfold IS Wv;rw[F4 i,PW h];simp only[ret,Xd];rw[Ak (by grind [WP]) l,Pn h l,i];simp only[ret,Xd,Xr,Wc,WI,A,B,C,D,E,F,G,D0,y,z,Wvy h];by_cases p:c.ζ=1
 .rw[Wb p,Wb p];obtain⟨j,k,f,d,g,n⟩:=h.put (by omega);rw[show Xc c.χ (Xa c.pos) ((0:Int),(0:Int))=c.χ[j]from d,d,f,dc,Wf k,Wno i g v l,←f]
  grind
 .rw[Wa p,Wa p];by_cases q:c.ζ=2
  .rw[Wb q,Wb q,WoL i l];simp only[Xd];by_cases t:(tick m).2=0
   .rw[Wb t,Wb t];rfl
   .rw[Wa t,Wa t];rw[show(c.who,(c.rv,(c.ζ,(c.pos,((tick m).2,c.e.2.2.2.2.2)))))=Cm.e {c with wv:=(tick m).2}from rfl,UB];rfl
  .rw[Wa q,Wa q];by_cases o:c.ζ=3
   .rw[Wb o,Wb o];obtain⟨j,k,f,d,g,n⟩:=h.read o;rw[show Xc c.μ (Xa c.pos) (0:Int)=c.μ[j]from d,d,f,dc,Wf k,Bt i ⟨g,n⟩];simp only[We,rF,gF];rw[show Xc m.2 (Xa c.μ[j]) ((0:Int),((0:Int),(0:Int)))=WA m c.μ[j]from rfl];by_cases a:(WA m c.μ[j]).2.2=0
    .rw[Wb a];by_cases b:(WA m c.μ[j]).2.1>c.rv
     .rw[Wb b,Wb (.inr b)];rfl
     grind
    .rw[Wa a];by_cases u:(WA m c.μ[j]).2.2=c.who
     .rw[Wb u];by_cases b:(WA m c.μ[j]).2.1>c.rv
      .rw[Wb b,Wb (.inr b)];rfl
      grind
     .rw[Wa u,Wb (.inl ⟨a,u⟩)];rfl
   .rw[Wa o,Wa o];by_cases r:c.ζ=4
    .rw[Wb r,Wb r];obtain⟨j,k,f,d,g,n⟩:=h.put (by omega)
     grind [WlC,Xc,Xa,dc,decide_eq_true]
    .rw[Wa r,Wa r];by_cases s:c.ζ=5
     .rw[Wb s,Wb s];obtain⟨j,k,f,d,g,n⟩:=h.put (by omega);obtain⟨b,x⟩:=O0 (ver:=c.wv) i g v l
      grind [Xc,Xa,dc,decide_eq_true]
     .rw[Wa s,Wa s];by_cases w:c.ζ=7
      .rw[Wb w,Wb w];obtain⟨j,k,f,d,g,n⟩:=h.put (by omega);obtain⟨b,x⟩:=O0 (ver:=(WA m c.χ[j].1).2.1) i g v l;rw[show Xc c.χ (Xa c.pos) ((0:Int),(0:Int))=c.χ[j]from d,d,f,dc,Wf k,Bt i g];simp only[We,GS,x,←f];rfl
      simp_all
end
end
section
abbrev RM:=Int×Int×Int×Int×List Int
abbrev Wr:=Int×Int×List Rw
abbrev Pg:=List Opn×List (List Opn)
abbrev Ac:=Int×Int×Int
abbrev Sc:=Kh×List Pg×List Ac
structure Rt where
 ζ:Int:=0
 CY:Int:=0
 Da:Int:=0
 pc:Int:=0
 rv:Int:=0
 C8:Int:=0
 pos:Int:=0
 CZ:Int:=0
 Dc:Int:=0
 C7:Int:=0
 C9:Int:=0
 γ:Bool:=false
 ξ:List Int:=[]
 μ:List Rw:=[]
 ι:List Rw:=[]
 κ:List RM:=[]
 ο:List Un:=[]
 υ:List Int:=[]
 C3:Bool:=false
 pb:Pb:=(0,0,0,0)
 cm:Cm:={}
 fam:Fm:={}
def Rt.e(r:Rt):Y_Root:=(r.ζ,r.CY,r.Da,r.pc,r.rv,r.C8,r.pos,r.CZ,r.Dc,r.C7,r.C9,r.γ,r.ξ,r.μ,r.ι,r.κ,r.ο,r.υ,r.C3,r.pb,r.cm.e,r.fam.e)
structure Wo where
 now:Int:=0
 C6:Int:=0
 mem:Mm:=(0,[])
 ψ:Shf:=([],0)
 holds:List Hd:=[]
 η:List Rt:=[]
 δ:List Wr:=[]
def Wo.e(w:Wo):Y_World:=(w.now,w.C6,w.mem,w.ψ,w.holds,w.η.map Rt.e,w.δ)
def zRM:RM:=(0,0,0,0,[])
def Rt.last(x:Rt):RM:=c0 x.κ zRM
def de(x:Rt):Rt:={ζ:=6,CY:=x.CY,ο:=x.ο}
def WR(x:Rt):Rt:=
 if x.κ.length=0\/x.Da=2 then de x else{x with Da:=x.Da+1,C3:=false,pb:=(0,0,0,0),ζ:=3}
def dO(w:Wo)(x:Rt):Wo×Rt:=({w with ψ:=eM w.ψ (c0 x.ο (0,0,0))},{x with ο:=x.ο.dropLast})
def eU(w:Wo)(x:Rt)(k:Nat):Wo×Rt:=
 ({w with C6:=if w.C6=(k:Int)+1 then 0 else w.C6},{x with ζ:=8,C9:=w.now,ο:=[],γ:=false})
def ec(w:Wo)(x:Rt)(k:Nat)(a:Int):Wo×Rt:=
 let ε:=if a=2 then []else x.ι
 if ε.length=0/\(rO w.holds ((k:Int)+1)).length=0 then eU w {x with CZ:=a,Dc:=x.rv} k
 else(w,{x with CZ:=a,cm:=dM ((k:Int)+1) x.rv ε x.μ,ζ:=5})
def eS(w:Wo)(x:Rt)(o:Opn):Rt:=
 match bm x.ι o.2.2.1 with
 |some v=>{x with ξ:=d8 x.ξ o.2.1 v,pc:=x.pc+1}
 |none=>
  let p:=W7 w.mem x.rv (if x.C3 then x.pb else(o.2.2.1,0,0,0))
  if p.2.1=4 then WR {x with C3:=true,pb:=p}
  else if p.2.1=3 then{x with ξ:=d8 x.ξ o.2.1 p.2.2.2,μ:=x.μ++ [(o.2.2.1,p.2.2.2)],C3:=false,pb:=(0,0,0,0),pc:=x.pc+1}
  else{x with C3:=true,pb:=p}
def ig(w:Wo)(x:Rt)(k:Nat)(θ:List Opn):Wo×Rt:=
 if x.κ.length=0 then ec w x k 2 else
 if(x.ο.length:Int)>x.last.2.2.2.1 then dO w x else
 (w,{x with κ:=x.κ.dropLast,ξ:=d8 x.last.2.2.2.2 (opN θ x.last.1).2.1 0,ι:=x.ι.take x.last.2.2.1.toNat,pc:=i8 θ x.last.1.toNat+1})
def fM(w:Wo)(x:Rt)(k:Nat)(o:Opn):Wo×Rt:=
 match hZ w.holds ((k:Int)+1) (W0 o).1 (W0 o).2 with
 |none=>(w,WR x)
 |some hs=>
  let b:=WK w.ψ o x.ξ
  ({w with holds:=hs,ψ:=b.1},{x with ξ:=b.2.1,ο:=if b.2.2.1=0 then x.ο else x.ο++ [b.2.2],pc:=x.pc+1})
def aT(w:Wo)(x:Rt)(k:Nat)(p:Pg):Wo×Rt:=
 if x.pc>=p.1.length then ec w x k 1 else
 let o:=opN p.1 x.pc
 if o.1=5 then(w,eS w x o)else
 if o.1=10 then ig w x k p.1 else
 if o.1=11 then(w,{x with ζ:=2,fam:=eO x.rv x.ξ x.ι p.2.length})else
 if o.1>=12 then fM w x k o else
 if o.1=6 then(w,{x with ι:=x.ι++ [(o.2.1,ah x.ξ o.2.2.1 0)],pc:=x.pc+1})else
 if o.1=7 then(w,{x with pc:=(if ah x.ξ o.2.1 0=0 then x.pc+o.2.2.1 else x.pc)+1})else
 if o.1=8 then(w,{x with κ:=x.κ++ [(x.pc,(x.μ.length:Int),(x.ι.length:Int),(x.ο.length:Int),x.ξ)],pc:=x.pc+1})else
 if o.1=9 then(w,{x with κ:=x.κ.dropLast,ξ:=d8 x.ξ (opN p.1 x.last.1).2.1 1,pc:=x.pc+1})else
 (w,{x with ξ:=lh o x.ξ,pc:=x.pc+1})
def AJ(k:Nat):List Rt->Nat->Bool
 | [],_=>true
 |x::l,i=>(decide (i=k)||(decide (x.ζ=0)||decide (x.ζ=8)))&&AJ k l (i+1)
def il(w:Wo)(x:Rt)(k:Nat):Wo×Rt:=
 if w.C6≠0/\w.C6≠(k:Int)+1 then(w,x)else
 if x.CY>=3/\w.C6=0 then({w with C6:=(k:Int)+1},x)else
 if w.C6=(k:Int)+1/\AJ k w.η 0=false then(w,x)else
 (w,{ζ:=1,CY:=x.CY,rv:=w.mem.1,C7:=w.now,ξ:=[0,0,0,0]})
def eD(x:Rt):Rt:=
 if x.fam.Db then de x else
 if mO x.fam then{x with ξ:=oi x.fam,ι:=jV x.fam,μ:=x.μ++x.fam.μ,υ:=x.fam.υ,fam:={},ζ:=1,pc:=x.pc+1}
 else x
def hV(w:Wo)(x:Rt):Wo×Rt:=
 if(x.ο.length:Int)>x.last.2.2.2.1 then dO w x else(w,{x with C8:=w.mem.1,pos:=0,ζ:=4})
def ez(w:Wo)(x:Rt):Rt:=
 if x.pos<x.last.2.1 then
  let c:=WA w.mem (ah x.μ x.pos (0,0)).1
  if c.2.2≠0\/c.2.1>x.rv then de x else{x with pos:=x.pos+1}
 else{x with rv:=x.C8,C8:=0,pos:=0,μ:=x.μ.take x.last.2.1.toNat,ι:=x.ι.take x.last.2.2.1.toNat,ξ:=x.last.2.2.2.2,pc:=x.last.1+1,ζ:=1}
def dt(x:Rt):Rt:=
 if x.cm.ζ=8 then de x else
 if x.cm.ζ=6 then{x with Dc:=x.cm.wv,cm:={},ζ:=if x.CZ=2 then 6 else 7}else x
def ei(w:Wo)(x:Rt)(k:Nat):Wo×Rt:=
 if x.γ then(w,if(W4 x.cm).ζ=8 then de x else{x with cm:=W4 x.cm,γ:=false})else
 let q:=Wv w.mem x.cm
 ({w with mem:=q.1,δ:=if x.cm.ζ<=3/\q.2.ζ=4 then w.δ++ [(q.2.wv,(k:Int)+1,q.2.χ)]else w.δ},dt {x with cm:=q.2})
def ay(w:Wo)(x:Rt)(k:Nat)(p:Pg):Wo×Rt:=
 if x.γ=true/\1<=x.ζ/\x.ζ<=4 then(w,de x)else
 if x.ζ=0 then il w x k else
 if x.ζ=1 then aT w x k p else
 if x.ζ=2 then(w,eD x)else
 if x.ζ=3 then hV w x else
 if x.ζ=4 then(w,ez w x)else
 if x.ζ=5 then ei w x k else
 if x.ζ=6 then(if x.ο.length>0 then dO w x else(w,{x with ζ:=7}))else
 if x.ζ=7 then
  (if x.CZ=0 then({w with holds:=W1 w.holds ((k:Int)+1)},{CY:=x.CY+1})
   else eU {w with holds:=W1 w.holds ((k:Int)+1)} x k)
 else(w,x)
def Wo.put(q:Wo×Rt)(k:Nat):Wo:={q.1 with η:=q.1.η.set k q.2}
def rt0:Rt:={}
def pg0:Pg:=([],[])
def m0(w:Wo)(k:Nat)(p:Pg):Wo:=Wo.put (ay w (w.η.getD k rt0) k p) k
def KY(w:Wo)(x:Rt)(k j:Nat)(p:Pg):Wo:=Wo.put (w,{x with fam:=bJ w.mem x.fam j (p.2.getD j [])}) k
def cM(s:Sc)(w0:Wo)(a:Ac):Wo:=
 let w:={w0 with now:=w0.now+1}
 if 0<=a.2.1/\a.2.1<w.η.length then
  let k:=a.2.1.toNat
  let x:=w.η.getD k rt0
  let p:=s.2.1.getD k pg0
  if a.1=1 then m0 w k p else
  if a.1=2 then(if x.ζ=2/\0<=a.2.2/\a.2.2<p.2.length then KY w x k a.2.2.toNat p else w)else
  if a.1=3 then(if(1<=x.ζ/\x.ζ<=4)\/(x.ζ=5/\x.cm.ζ<=3)then Wo.put (w,{x with γ:=true}) k else w)else w
 else w
def bo(s:Sc):Wo:={mem:=BD s.1.1,ψ:=(BE s.1.2.1,s.1.2.2),η:=Xt s.2.1.length {}}
def BL(s:Sc):Wo:=s.2.2.foldl (cM s) (bo s)
structure RMk(θ:List Opn)(pc:Nat)(κ:List RM)(rl wl ul:Nat):Prop where
 pcs:κ.map (·.1)=(stk θ pc).map λm:Nat=>(m:Int)
 each:∀q∈κ,Vals 4 q.2.2.2.2/\(0<=q.2.1/\q.2.1<=q.1+72*frk θ q.1.toNat/\q.2.1<=rl)/\(0<=q.2.2.1/\q.2.2.1<=q.1+8/\q.2.2.1<=wl)/\0<=q.2.2.2.1/\q.2.2.2.1<=q.1/\q.2.2.2.1<=ul
 up:κ.Pairwise λa b=>a.2.1<=b.2.1/\a.2.2.1<=b.2.2.1/\a.2.2.2.1<=b.2.2.2.1
structure RLive(p:Pg)(n:Int)(x:Rt):Prop where
 pc:0<=x.pc/\x.pc<=p.1.length
 Da:0<=x.Da/\x.Da<=2
 rv:0<=x.rv/\x.rv<=1000000
 ξ:Vals 4 x.ξ
 μ:aZ x.μ
 rl:(x.μ.length:Int)<=x.pc+72*frk p.1 x.pc.toNat
 ι:aZ x.ι
 wl:(x.ι.length:Int)<=x.pc+8
 ul:(x.ο.length:Int)<=x.pc
 κ:RMk p.1 x.pc.toNat x.κ x.μ.length x.ι.length x.ο.length
 pb:x.C3=true->gr x.pb=true
 fork:x.ζ=2->x.pc<p.1.length/\(opN p.1 x.pc).1=11/\FOk p.2 n x.fam
 back:x.ζ=3\/x.ζ=4->x.κ.length≠0
 C8:0<=x.C8/\x.C8<=1000000
 pos:x.ζ=4->0<=x.pos/\x.pos<=x.last.2.1
 unw:x.ζ=4->(x.ο.length:Int)<=x.last.2.2.2.1
structure ROk(p:Pg)(n:Int)(x:Rt):Prop where
 ζ:0<=x.ζ/\x.ζ<=8
 CY:0<=x.CY/\x.CY<=n
 C4:1<=x.ζ/\x.ζ<=4->RLive p n x
 comm:x.ζ=5->CmOk x.cm
 ο:∀u∈x.ο,UnV u
 ul:x.ο.length<=24
 rg:x.ξ.length<=4
 ord:x.υ.length<=3
structure POk(p:Pg):Prop where
 θ:CC p.1
 π:∀c∈p.2,KC c
 k3:p.2.length<=3
def HE(h:Wr):Prop:=h.2.2.length<=8/\aZ h.2.2/\1<=h.2.1/\h.2.1<=9
structure WOk(ps:List Pg)(n:Int)(w:Wo):Prop where
 len:w.η.length=ps.length
 l4:ps.length<=4
 progs:∀p∈ps,POk p
 now:w.now=n
 n0:0<=n
 mem:aq w.mem=true
 ψ:ShOk w.ψ
 holds:HOk w.holds
 δ:(w.δ.length:Int)<=n
 histE:∀h∈w.δ,HE h
 root:∀(k:Nat) (h:k<w.η.length),ROk (ps.getD k pg0) n w.η[k]
end
section
theorem rtP(x:Rt):x.e.1=x.ζ/\x.e.2.1=x.CY/\x.e.2.2.1=x.Da/\x.e.2.2.2.1=x.pc/\P4 x.e=x.rv/\P5 x.e=x.C8/\P6 x.e=x.pos/\P7 x.e=x.CZ/\P8 x.e=x.Dc/\P11 x.e=x.γ/\P12 x.e=x.ξ/\P13 x.e=x.μ/\P14 x.e=x.ι/\P15 x.e=x.κ/\P16 x.e=x.ο/\P18 x.e=x.C3/\P19 x.e=x.pb/\P20 x.e=x.cm.e/\Q21 x.e=x.fam.e/\P24 x.e=x.fam.Db/\P28 x.e=x.fam.υ/\P29 x.e=x.fam.μ:=
 ⟨rfl,rfl,rfl,rfl,rfl,rfl,rfl,rfl,rfl,rfl,rfl,rfl,rfl,rfl,rfl,rfl,rfl,rfl,rfl,rfl,rfl,rfl⟩
theorem S5e(w:Wo)(k:Nat)(x:Rt):S5 (Xk (w.η.map Rt.e) k x.e) w.e=Wo.e {w with η:=w.η.set k x}:=by
 unfold S5 Wo.e;rw[List.map_set]
theorem bb{w w':Wo}{k:Nat}{x':Rt}{y:Y_Root}{g:Y_World}(c:y=x'.e)(a:g=w'.e)(b:w'.η=w.η):
  some ((S5 (Xk (w.η.map Rt.e) k y) g,()),())=some (((Wo.put (w',x') k).e,()),()):=by
 subst c a;rw[←b,S5e];rfl
variable{N:Nat}{w:Wo}{k:Nat}{x:Rt}{o:Opn}{p:Pg}{n:Int}{θ:List Opn}
theorem woG(d:k<w.η.length)(a:w.η[k]=x):Xc (w.η.map Rt.e) k d_Root=x.e/\Xc (w.η.map Rt.e) (Xa (k:Int)) d_Root=x.e/\S5 (Xk (w.η.map Rt.e) (Xa (k:Int)) x.e) w.e=w.e/\inb (k:Int) (w.η.map Rt.e).length=true/\S5 (Xk (w.η.map Rt.e) k x.e) w.e=w.e:=by
 have b:Xc (w.η.map Rt.e) k d_Root=x.e:=by
  have:=Wt8 Rt.e w.η k {};rw[Wn d,a]at this;exact this
 have c:S5 (Xk (w.η.map Rt.e) k x.e) w.e=w.e:=by rw[S5e,←a,jN]
 rw[Xi];refine⟨b,b,c,?_,c⟩;rw[dc,Xy];exact Wf d
theorem SA(b:k<w.η.length)(a:w.η[k]=x):Wo.put (w,x) k=w:=by
 unfold Wo.put;simp only;rw[←a,jN]
theorem Bl:nD N x.e=some (((de x).e,()),()):=rfl
theorem Li(f:0<=x.Da/\x.Da<=2):Ca N x.e=some (((WR x).e,()),()):=by
 obtain⟨s,t,d,u,v,w,y,z,A,j,l,h,i,c,g,o,p,m,k,q,n,r⟩:=rtP x;unfold Ca WR;simp only[WI,c,d,Wh,Bl,Xd];by_cases b:x.κ.length=0
 .rw[Wb (by omega),Wb (.inl b)]
 .rw[Wa (by omega)];by_cases a:x.Da=2
  .rw[Wb a,Wb (.inr a)]
  .rw[Wa a,Wa (by omega),WE (by unfold I64;omega)];rfl
theorem DW{α:Type}{l:List α}(h:l.length≠0)(a:l.length<=1000)(d:α):inb (W3 .i64 (Wh l) 1) l.length=true/\Xc l (Xa (W3 .i64 (Wh l) 1)) d=c0 l d/\aI (Xa (W3 .i64 (Wh l) 1)) l=l.dropLast/\(decide ((0:Int)<=W3 .i64 (Wh l) 1)&&decide (W3 .i64 (Wh l) 1<=(l.length:Int)))=true:=by
 have e:W3 .i64 (Wh l) 1=((l.length-1:Nat):Int):=by rw[HL (by omega)];omega
 rw[e];refine⟨by rw[dc];exact Wf (by omega),by rw[Xi];rfl,by rw[Xi,uv],by simp⟩
theorem R7(h:x.κ.length≠0)(f:x.κ.length<=1000):Fz N x.e=some ((x.e,()),(x.last,())):=by
 obtain⟨a,b,c,d⟩:=DW h f zRM;unfold Fz;rw[show x.e.2.2.2.2.2.2.2.2.2.2.2.2.2.2.2.1=x.κ from rfl,a];simp only[We];rw[show((0:Int),((0:Int),((0:Int),((0:Int),([]:List Int)))))=zRM from rfl,b];rfl
theorem Rg(h:x.κ.length≠0)(f:x.κ.length<=1000):Cd N x.e=some ((),((x.last.1,(x.last.2.1,(x.last.2.2.1,x.last.2.2.2.1))),())):=by
 obtain⟨a,b,c,d⟩:=DW h f zRM;unfold Cd;simp only[Wz];rw[show P15 x.e=x.κ from rfl,a];simp only[We];rw[show((0:Int),((0:Int),((0:Int),((0:Int),([]:List Int)))))=zRM from rfl,b];rfl
theorem MN(j:k<w.η.length)(g:w.η[k]=x)(o:x.ο.length≠0)(l:x.ο.length<=1000)(n:∀u∈x.ο,UnV u)(m:ShOk w.ψ)(i:1048576<N):
  uQ N w.e k=some (((Wo.put (dO w x) k).e,()),()):=by
 obtain⟨h,p,q,r,s⟩:=woG j g;obtain⟨a,b,c,d⟩:=DW o l ((0,0,0):Un);have f:c0 x.ο ((0,0,0):Un)∈x.ο:=by
  unfold c0;rw[Wn (show x.ο.length-1<x.ο.length by omega)];exact Xo _
 unfold uQ dO;simp only[Wz];rw[show P5 w.e=w.η.map Rt.e from rfl,h];rw[show x.e.2.2.2.2.2.2.2.2.2.2.2.2.2.2.2.2.1=x.ο from rfl,a,b,show w.e.2.2.2.1=w.ψ from rfl,WjW m (n _ f) i,c];simp only[We,Xd,d];exact bb rfl rfl rfl
theorem Uc(d:k<w.η.length)(a:w.η[k]=x)(j:k<=1000):CA N w.e (k:Int)=some (((Wo.put (eU w x k) k).e,()),()):=by
 obtain⟨f,b,g,c,i⟩:=woG d a;unfold CA eU;simp only[Wz];rw[show P5 w.e=w.η.map Rt.e from rfl,c,b,eT (by omega),Xi];simp only[We,WI];rw[show w.e.2.1=w.C6 from rfl];by_cases h:w.C6=(k:Int)+1
 .rw[Wb h];simp only[Wb h];exact bb rfl rfl rfl
 .rw[Wa h];simp only[Wa h];exact bb rfl rfl rfl
theorem RH(j:k<w.η.length)(q:w.η[k]=x)(V:k<=8)(i:HOk w.holds)(v:0<=x.rv/\x.rv<=1000000)(A:ed x.μ=true)(B:ed x.ι=true){c:Int}(g:1048576<N):
  Fl N w.e (k:Int) c=some (((Wo.put (ec w x k c) k).e,()),()):=by
 obtain⟨H,t,I,u,J⟩:=woG j q;obtain⟨X,Y,Z,r3,F,r5,r6,r7,r8,M,P,C,D,K,L,S,T,Q,O,U,R,W⟩:=rtP x;have wq:=Mv i;have E:∀y:Rt,CA N (S5 (Xk (w.η.map Rt.e) (Xa (k:Int)) y.e) w.e) (k:Int)=some (((Wo.put (eU w y k) k).e,()),()):=λy=>by
  rw[Xi,S5e];have z:k<({w with η:=w.η.set k y}:Wo).η.length:=by simpa using j
  rw[Uc (x:=y) z (by simp) (by omega)];unfold eU Wo.put;simp only[nv]
 unfold Fl ec;simp only[Wz];rw[show P5 w.e=w.η.map Rt.e from rfl,u,t,eT (by omega),show P4 w.e=w.holds from rfl];have o:∀{α:Type} (a b:α),(bif ((0:Int)==(0:Int))then a else b)=a:=λ_ _=>rfl;have G:∀{α:Type} (a b:α),(bif ((0:Nat)==(0:Nat))then a else b)=a:=λ_ _=>rfl;simp only[o,G];simp only[We,WI,F,C,D,Wjf (who:=(k:Int)+1) i (by omega) g,ret,Xd,Wh];have m:∀ε,ed ε=true->yO N ((k:Int)+1) x.rv ε x.μ=some ((),((dM ((k:Int)+1) x.rv ε x.μ).e,(true,()))):=λn s=>Wyt (by omega) v s A g;have r:yO N ((k:Int)+1) x.rv ([]:List Ke) x.μ=some ((),((dM ((k:Int)+1) x.rv [] x.μ).e,(true,()))):=m [] rfl;have p:(S8 x.rv (S7 c x.e))=Rt.e {x with CZ:=c,Dc:=x.rv}:=rfl;rw[r,m _ B,p,E];simp only[Xd];by_cases f:c=2
 .rw[Wb f,Wb f];by_cases d:(rO w.holds ((k:Int)+1)).length=0
  .rw[Wb (by omega),Wb ⟨rfl,d⟩]
  .rw[Wa (by omega),Wa (λh=>d h.2),Xi];exact bb rfl rfl rfl
 .rw[Wa f,Wa f];by_cases l:x.ι.length=0
  .rw[Wb (by omega)];by_cases d:(rO w.holds ((k:Int)+1)).length=0
   .rw[Wb (by omega),Wb ⟨l,d⟩]
   .rw[Wa (by omega),Wa (λh=>d h.2),Xi];exact bb rfl rfl rfl
  .rw[Wa (by omega),Wa (λh=>l h.1),Xi];exact bb rfl rfl rfl
theorem RE{l:List Rw}(h:aZ l)(a:l.length<=300):ed l=true:=by
 unfold ed;rw[GV.2 h,Wf a];rfl
theorem Ep(b:CC θ):∀j,j<=θ.length->frk θ j<=1
 |0,_=>by simp[frk]
 |j+1,h=>by
  have c:j<θ.length:=by omega
  by_cases a:θ[j].1=11
  .exact(b.fk j c a).2
  .rw[Bk c,show(θ[j].1==11)=false by simpa using a];have:=Ep b j (by omega);simpa using this
theorem RLive.sz(a:CC p.1)(h:RLive p n x):x.μ.length<=96/\x.ι.length<=32/\x.ο.length<=24/\x.κ.length<=24/\ed x.μ=true/\ed x.ι=true:=by
 have c:=h.pc;have d:=a.len;have e:=Ep a x.pc.toNat (by omega);have f:=h.rl;have g:=h.wl;have i:=h.ul;have b:=Wp Xb h.κ.pcs;simp only[Xy]at b;have j:=fh a.up x.pc.toNat (by omega);have k:=(gJ p.1 x.pc.toNat).2;exact⟨by omega,by omega,by omega,by omega,RE h.μ (by omega),RE h.ι (by omega)⟩
theorem UI(a:x.C3=true->gr x.pb=true){c:Int}(b:0<=c/\c<=7):gr (if x.C3 then x.pb else(c,0,0,0))=true:=by
 split
 .exact a ‹_›
 .rw[AP];simp only;omega
theorem Wwn(A:k<w.η.length)(m:w.η[k]=x)(i:CC p.1)(d:RLive p n x)(j:aq w.mem=true)(u:o.1=5)(B:ax o=true)(h:1048576<N):
  IR N w.e k o=some (((Wo.put (w,eS w x o) k).e,()),()):=by
 obtain⟨t,P,Q,R,S⟩:=woG A m;obtain⟨r0,r1,r2,I,J,r5,r6,r7,r8,V,E,C,D,T,U,F,G,X,W,Z,Y,ma⟩:=rtP x;obtain⟨z1,z2,z3,z4,z5,z6⟩:=d.sz i;obtain⟨y,f⟩:=lz B u;have g:0<=o.2.2.1/\o.2.2.1<=7:=by unfold bY at f;simpa using f
 have s:=d.ξ.len;have O:=d.pc;have M:=i.len;have l:=d.Da;unfold IR eS;simp only[Wz];rw[show P5 w.e=w.η.map Rt.e from rfl,t,show w.e.2.2.1=w.mem from rfl];simp only[I,J,E,C,D,F,G];rw[Lf (by omega) h,W2 y s,eT (by omega)];cases hl:bm x.ι o.2.2.1 with
 |some v=>
  simp only[opI,Xd,We];exact bb rfl rfl rfl
 |none=>
  have L:WC (x.μ.length+ [(o.2.2.1,(0:Int))].length)=true:=Ww (by simp;omega);have H:yR N o.2.2.1=some ((),((o.2.2.1,0,0,0),(true,()))):=by
   unfold yR;rw[pC,f];rfl
  have c:=UI d.pb g;have K:S18 true x.e=Rt.e {x with C3:=true}:=rfl;simp only[opI,Xd,Wc,WI,H,K];have z:∀q:Pb,S19 q (Rt.e {x with C3:=true})=Rt.e {x with C3:=true,pb:=q}:=λq=>rfl;simp only[z,Li (x:={x with C3:=true,pb:=_}) l];cases hb:x.C3 with
  |false=>
   rw[hb]at c;simp only[jP,gH]at c;rw[Gm j c h];simp only[Fb,We,ret,Xd,jP,gH];generalize W7 w.mem x.rv (o.2.2.1,0,0,0)=q;by_cases b:q.2.1=4
   .rw[Wb b,Wb b];exact bb rfl rfl rfl
   .rw[Wa b,Wa b];by_cases a:q.2.1=3
    .rw[Wb a,Wb a,Ww (by simp;omega)];exact bb rfl rfl rfl
    .rw[Wa a,Wa a];exact bb rfl rfl rfl
  |true=>
   have r:∀q:Pb,S19 q x.e=Rt.e {x with C3:=true,pb:=q}:=λq=>by
    have:S19 q x.e=Rt.e {x with pb:=q}:=rfl;rw[this]
    conv=>lhs;rw[show({x with pb:=q}:Rt)={x with C3:=x.C3,pb:=q}from rfl,hb]
   rw[hb]at c;simp only[ep]at c;rw[Gm j c h];simp only[Xr,Wc,ret,Xd,ep,r,Li (x:={x with C3:=true,pb:=_}) l];generalize W7 w.mem x.rv x.pb=q;by_cases b:q.2.1=4
   .rw[Wb b,Wb b];exact bb rfl rfl rfl
   .rw[Wa b,Wa b];by_cases a:q.2.1=3
    .rw[Wb a,Wb a,Ww (by simp;omega)];exact bb rfl rfl rfl
    .rw[Wa a,Wa a];exact bb rfl rfl rfl
end
section
abbrev M7:=Int×List Int×List Int×List Int×Int
section
variable{R:Type}{N:Nat}{rec:Kae->Kab->Kj->Kj->Kh->Option Kz}{θ:List Opn}{π:List (List Opn)}{ord:List Int}{az:Int}{aP aA:List Int}{K0:List Int->Option R}{K1:Int->Bool->List Int->Int->List M7->List Int->List Int->Option R}
 {n pc:Nat} {r c m:List Int} {ct:Int} {mk q:List M7} {x:M7}
noncomputable def wk(N:Nat)(rec:Kae->Kab->Kj->Kj->Kh->Option Kz)(θ:List Opn)(π:List (List Opn))(ord:List Int)(az:Int)(aP aA:List Int)(K0:List Int->Option R)(K1:Int->Bool->List Int->Int->List M7->List Int->List Int->Option R)(n:Nat)(pc:Int)(r:List Int)(ct:Int)(mk:List M7)(c m:List Int):Option R:=
 Zd N rec θ π ord az aP aA K0 K1 n pc r ct mk c m
theorem ZL:wk N rec θ π ord az aP aA K0 K1 (n+1) (θ.length:Int) r ct mk c m=K1 (θ.length:Int) false r ct mk c m:=by
 simp[wk,Zd,W6,Xl,Wc]
theorem ws5(a:pc<θ.length)(i:θ.length<=24)(b:θ[pc].1=5)(e:ax θ[pc]=true)(f:r.length=4)(d:c.length=8):wk N rec θ π ord az aP aA K0 K1 (n+1) (pc:Int) r ct mk c m=wk N rec θ π ord az aP aA K0 K1 n ((pc+1:Nat):Int) (r.set θ[pc].2.1.toNat (c.getD θ[pc].2.2.1.toNat 0)) ct mk c m:=by
 obtain⟨g,h⟩:=lz e b;simp only[wk,Zd,WQ a,Ws a,Wu a,We,Wc,b,GX h d,W2 g f,Wk (show pc<4611686018427387904 by omega),beq_self_eq_true]
theorem ws6(a:pc<θ.length)(i:θ.length<=24)(b:θ[pc].1=6)(e:ax θ[pc]=true)(f:r.length=4)(d:c.length=8):wk N rec θ π ord az aP aA K0 K1 (n+1) (pc:Int) r ct mk c m=wk N rec θ π ord az aP aA K0 K1 n ((pc+1:Nat):Int) r ct mk (c.set θ[pc].2.1.toNat (r.getD θ[pc].2.2.1.toNat 0)) m:=by
 obtain⟨g,h⟩:=xM e b;simp only[wk,Zd,WQ a,Ws a,Wu a,We,Wc,b,GX g d,W2 h f,Wk (show pc<4611686018427387904 by omega),beq_self_eq_true,show((6:Int)==5)=false from rfl]
theorem ws7(a:pc<θ.length)(h:θ.length<=24)(b:θ[pc].1=7)(e:ax θ[pc]=true)(f:r.length=4):wk N rec θ π ord az aP aA K0 K1 (n+1) (pc:Int) r ct mk c m=wk N rec θ π ord az aP aA K0 K1 n (((if r.getD θ[pc].2.1.toNat 0=0 then(pc:Int)+θ[pc].2.2.1 else pc)+1)) r ct mk c m:=by
 obtain⟨g,i,o3⟩:=qx e b;have d:Wm .i64 ((pc+1:Nat):Int) θ[pc].2.2.1=(pc:Int)+θ[pc].2.2.1+1:=by grind [WE,I64]
 simp only[wk,Zd,WQ a,Ws a,Wu a,We,Wc,b,W2 g f,Wk (show pc<4611686018427387904 by omega),beq_self_eq_true,show((7:Int)==5)=false from rfl,show((7:Int)==6)=false from rfl,WI,d]
 grind
theorem ws8(a:pc<θ.length)(g:θ.length<=24)(d:θ[pc].1=8)(k:r.length=4)(h:c.length=8)(i:m.length=8)(j:mk.length<=1000):wk N rec θ π ord az aP aA K0 K1 (n+1) (pc:Int) r ct mk c m=wk N rec θ π ord az aP aA K0 K1 n ((pc+1:Nat):Int) r ct (mk++ [((pc:Int),(r,(c,(m,ct))))]) c m:=by
 have e:WC (([]:List Int).length+r.length)=true:=Ww (by grind);have f:WC (mk.length+ [((pc:Int),(r,(c,(m,ct))))].length)=true:=Ww (by simp;omega);have b:∀x:List Int,Xe ([]:List Int) x=x:=λx=>rfl;simp only[wk,Zd,WQ a,Ws a,Wu a,We,Wc,d,e,rq (N:=N) (ct:=ct) (show c.length<=1000 by omega) (show m.length<=1000 by omega),ret,Xd,b,f,Wk (show pc<4611686018427387904 by omega),beq_self_eq_true,show((8:Int)==5)=false from rfl,show((8:Int)==6)=false from rfl,show((8:Int)==7)=false from rfl];rfl
theorem ws9(a:pc<θ.length)(k:θ.length<=24)(e:θ[pc].1=9){j:Nat}(b:j<θ.length)(d:θ[j].1=8)(i:ax θ[j]=true)(h:x.1=(j:Int))(g:r.length=4)(f:q.length<1000):wk N rec θ π ord az aP aA K0 K1 (n+1) (pc:Int) r ct (q++ [x]) c m=wk N rec θ π ord az aP aA K0 K1 n ((pc+1:Nat):Int) (r.set θ[j].2.1.toNat 1) ct q c m:=by
 simp only[wk,Zd,WQ a,Ws a,Wu a,We,Wc,e,Wk (show pc<4611686018427387904 by omega),beq_self_eq_true,show((9:Int)==5)=false from rfl,show((9:Int)==6)=false from rfl,show((9:Int)==7)=false from rfl,show((9:Int)==8)=false from rfl,G8 f,Hc,Hg];simp only[Xi,GZ,AH,h,Ws b,Wn b,W2 (tq i d) g,We]
theorem YM(a:pc<θ.length)(b:θ[pc].1=10):wk N rec θ π ord az aP aA K0 K1 (n+1) (pc:Int) r ct [] c m=K0 r:=by
 simp only[wk,Zd,WQ a,Ws a,Wu a,We,Wc,b,beq_self_eq_true,show((10:Int)==5)=false from rfl,show((10:Int)==6)=false from rfl,show((10:Int)==7)=false from rfl,show((10:Int)==8)=false from rfl,show((10:Int)==9)=false from rfl];rfl
theorem YN(o:1048576<N)(b:pc<θ.length)(y:θ.length<=24)(p:θ[pc].1=10){j e:Nat}(a:j<θ.length)(g:θ[j].1=8)(w:ax θ[j]=true)(d:Mate θ j e)(u:x.1=(j:Int))(t:x.2.1.length=4)(z:x.2.2.1.length=8)(A:x.2.2.2.1.length=8)(s:q.length<1000):wk N rec θ π ord az aP aA K0 K1 (n+1) (pc:Int) r ct (q++ [x]) c m=wk N rec θ π ord az aP aA K0 K1 n ((e+1:Nat):Int) (x.2.1.set θ[j].2.1.toNat 0) x.2.2.2.2 q x.2.2.1 x.2.2.2.1:=by
 have i:(Wh (q++ [x])==0)=false:=by
  grind [Wh,Xx]
 have B:=d.len;have v:WC (([]:List Int).length+x.2.1.length)=true:=Ww (by grind);have k:∀x:List Int,Xe ([]:List Int) x=x:=λx=>rfl;have h:x.2.2=(x.2.2.1,(x.2.2.2.1,x.2.2.2.2)):=rfl;have f:=rq (N:=N) (ct:=x.2.2.2.2) (show x.2.2.1.length<=1000 by omega) (show x.2.2.2.1.length<=1000 by omega);rw[←h]at f;simp only[wk,Zd,WQ b,Ws b,Wu b,We,Wc,p,beq_self_eq_true,show((10:Int)==5)=false from rfl,show((10:Int)==6)=false from rfl,show((10:Int)==7)=false from rfl,show((10:Int)==8)=false from rfl,show((10:Int)==9)=false from rfl,i,G8 s,Hc,Hg];simp only[Xi,GZ,AH,v,f,ret,Xd,u,Ws a,Wn a,k,W2 (tq w g) t,PP (N:=N) (l:=θ) (by omega) o ⟨a,g⟩ d,Wk (show e<4611686018427387904 by omega),We]
theorem YO(a:pc<θ.length)(i:θ.length<=24)(b:θ[pc].1=12)(g:ax θ[pc]=true)(d:r.length=4)(j:m.length=8)(k:0<=r.getD θ[pc].2.2.1.toNat 0/\r.getD θ[pc].2.2.1.toNat 0<=65535):wk N rec θ π ord az aP aA K0 K1 (n+1) (pc:Int) r ct mk c m=wk N rec θ π ord az aP aA K0 K1 n ((pc+1:Nat):Int) (r.set θ[pc].2.2.2.toNat (bp (m.getD θ[pc].2.1.toNat 0) 65536)) ct mk c (m.set θ[pc].2.1.toNat (1+r.getD θ[pc].2.2.1.toNat 0)):=by
 obtain⟨l,h,o3⟩:=qj g b;have f:inb θ[pc].2.1 m.length=true:=by grind [gj,inb]
 have e:Wm .i64 1 (r.getD θ[pc].2.2.1.toNat 0)=1+r.getD θ[pc].2.2.1.toNat 0:=WE (by unfold I64;omega);simp only[wk,Zd,WQ a,Ws a,Wu a,We,Wc,b,f,e,W2 h d,W2 o3 d,show inz (65536:Int)=true from rfl,Wk (show pc<4611686018427387904 by omega),beq_self_eq_true,show((12:Int)==5)=false from rfl,show((12:Int)==6)=false from rfl,show((12:Int)==7)=false from rfl,show((12:Int)==8)=false from rfl,show((12:Int)==9)=false from rfl,show((12:Int)==10)=false from rfl,show((12:Int)==11)=false from rfl]
theorem YY(a:pc<θ.length)(h:θ.length<=24)(b:θ[pc].1=13)(e:ax θ[pc]=true)(f:r.length=4)(i:m.length=8):wk N rec θ π ord az aP aA K0 K1 (n+1) (pc:Int) r ct mk c m=wk N rec θ π ord az aP aA K0 K1 n ((pc+1:Nat):Int) (r.set θ[pc].2.1.toNat (bp (m.getD θ[pc].2.2.1.toNat 0) 65536)) ct mk c m:=by
 obtain⟨g,j⟩:=BQ e b;have d:inb θ[pc].2.2.1 m.length=true:=by grind [gj,inb]
 simp only[wk,Zd,WQ a,Ws a,Wu a,We,Wc,b,d,W2 g f,show inz (65536:Int)=true from rfl,Wk (show pc<4611686018427387904 by omega),beq_self_eq_true,show((13:Int)==5)=false from rfl,show((13:Int)==6)=false from rfl,show((13:Int)==7)=false from rfl,show((13:Int)==8)=false from rfl,show((13:Int)==9)=false from rfl,show((13:Int)==10)=false from rfl,show((13:Int)==11)=false from rfl,show((13:Int)==12)=false from rfl]
theorem YT(a:pc<θ.length)(h:θ.length<=24)(b:θ[pc].1=14)(e:ax θ[pc]=true)(f:r.length=4)(i:m.length=8):wk N rec θ π ord az aP aA K0 K1 (n+1) (pc:Int) r ct mk c m=wk N rec θ π ord az aP aA K0 K1 n ((pc+1:Nat):Int) (r.set θ[pc].2.2.1.toNat (bp (m.getD θ[pc].2.1.toNat 0) 65536)) ct mk c (m.set θ[pc].2.1.toNat 0):=by
 obtain⟨j,g⟩:=qn e b;have d:inb θ[pc].2.1 m.length=true:=by grind [gj,inb]
 simp only[wk,Zd,WQ a,Ws a,Wu a,We,Wc,b,d,W2 g f,show inz (65536:Int)=true from rfl,Wk (show pc<4611686018427387904 by omega),beq_self_eq_true,show((14:Int)==5)=false from rfl,show((14:Int)==6)=false from rfl,show((14:Int)==7)=false from rfl,show((14:Int)==8)=false from rfl,show((14:Int)==9)=false from rfl,show((14:Int)==10)=false from rfl,show((14:Int)==11)=false from rfl,show((14:Int)==12)=false from rfl,show((14:Int)==13)=false from rfl]
theorem YW(a:pc<θ.length)(i:θ.length<=24)(b:θ[pc].1=15)(f:ax θ[pc]=true)(g:r.length=4)(j:0<=r.getD θ[pc].2.1.toNat 0/\r.getD θ[pc].2.1.toNat 0<=65535)(e:0<=ct/\ct<=65535):wk N rec θ π ord az aP aA K0 K1 (n+1) (pc:Int) r ct mk c m=wk N rec θ π ord az aP aA K0 K1 n ((pc+1:Nat):Int) r ((ct+r.getD θ[pc].2.1.toNat 0)%65536) mk c m:=by
 have h:=Vy f b;have d:bp (Wm .i64 ct (r.getD θ[pc].2.1.toNat 0)) 65536=(ct+r.getD θ[pc].2.1.toNat 0)%65536:=by
  grind [WE,I64,bp,BT]
 simp only[wk,Zd,WQ a,Ws a,Wu a,We,Wc,b,d,W2 h g,show inz (65536:Int)=true from rfl,Wk (show pc<4611686018427387904 by omega),beq_self_eq_true,show((15:Int)==5)=false from rfl,show((15:Int)==6)=false from rfl,show((15:Int)==7)=false from rfl,show((15:Int)==8)=false from rfl,show((15:Int)==9)=false from rfl,show((15:Int)==10)=false from rfl,show((15:Int)==11)=false from rfl,show((15:Int)==12)=false from rfl,show((15:Int)==13)=false from rfl,show((15:Int)==14)=false from rfl]
theorem YP(a:pc<θ.length)(g:θ.length<=24)(b:θ[pc].1=16)(d:ax θ[pc]=true)(e:r.length=4):wk N rec θ π ord az aP aA K0 K1 (n+1) (pc:Int) r ct mk c m=wk N rec θ π ord az aP aA K0 K1 n ((pc+1:Nat):Int) (r.set θ[pc].2.1.toNat ct) ct mk c m:=by
 have f:=Vs d b;simp only[wk,Zd,WQ a,Ws a,Wu a,We,Wc,b,W2 f e,Wk (show pc<4611686018427387904 by omega),beq_self_eq_true,show((16:Int)==5)=false from rfl,show((16:Int)==6)=false from rfl,show((16:Int)==7)=false from rfl,show((16:Int)==8)=false from rfl,show((16:Int)==9)=false from rfl,show((16:Int)==10)=false from rfl,show((16:Int)==11)=false from rfl,show((16:Int)==12)=false from rfl,show((16:Int)==13)=false from rfl,show((16:Int)==14)=false from rfl,show((16:Int)==15)=false from rfl]
theorem wsC(d:1048576<N)(b:pc<θ.length)(h:θ.length<=24)(a:1<=θ[pc].1/\θ[pc].1<=4)(f:ax θ[pc]=true)(g:Vals 4 r):wk N rec θ π ord az aP aA K0 K1 (n+1) (pc:Int) r ct mk c m=wk N rec θ π ord az aP aA K0 K1 n ((pc+1:Nat):Int) (lh θ[pc] r) ct mk c m:=by
 have e:∀k:Int,5<=k->(θ[pc].1==k)=false:=λk a=>by simp;omega
 simp only[wk,Zd,WQ b,Ws b,Wu b,We,Wc,e 5 (by omega),e 6 (by omega),e 7 (by omega),e 8 (by omega),e 9 (by omega),e 10 (by omega),e 11 (by omega),e 12 (by omega),e 13 (by omega),e 14 (by omega),e 15 (by omega),e 16 (by omega),Pi d f a.1 a.2 g,Xd,Wk (show pc<4611686018427387904 by omega)]
theorem Wyr{l:List Opn}{ξ ω mp:List Int}{k:Nat}(n:1048576<N)(h:dz l=true)(i:jL ξ=true)(j:la ω=true)(q:mp.length<=1000):
  Zj N (k+1) l [] [] ξ (ω,(mp,ct))=some ((),(((sA l ξ ω).1,((sA l ξ ω).2.1,((sA l ξ ω).2.2.1,(mp,ct)))),())):=by
 have a:=Vl h;have u:=lI.1 i;have v:=pV.1 j;have e:=M3 (l:=l) u v;have w:=rq (N:=N) (c:=ω) (mp:=mp) (ct:=ct) (by rw[v.len];omega) q;have C:WC (([]:List Int).length+ξ.length)=true:=Ww (by rw[u.len];simp);have x:Xe ([]:List Int) ξ=ξ:=rfl;unfold Zj;simp only[w,ret,Xd,C,We];have d:=TP (N:=N) (l:=l) (R:=Unit×(Kf×Unit)) n a (rec:=Zj N k) (π:=[]) (υ:=[]) (mp:=mp) (ct:=ct) (az:=ct) (aP:=ω) (aA:=mp) q
  (λg=>(some ((),(((2:Int),(g,(ω,(mp,ct)))),())))) (λr b c m=>(some ((),(((1:Int),(r,(c,(m,b)))),())))) N 0 (ks0 ξ ω) e (by have:=a.len;omega)
 have p:=SW a (l.length+1) 0 _ e;have o:=(RY a (l.length+1) 0 _ e).2.2.2.2.1;rw[VM a e n]at d;have D:Zd N (Zj N k) l [] [] ct ω mp (λg=>(some ((),(((2:Int),(g,(ω,(mp,ct)))),())):Option Kz)) (λE G y z H A B=>(some ((),(((1:Int),(y,(A,(B,z)))),())))) N 0 ξ ct [] ω mp=_:=d;simp only[x,D];unfold sA;simp only[h,i,j,Bool.and_true,We];generalize b1 l (l.length+1) 0 (ks0 ξ ω)=f at p o;obtain⟨b,s⟩:=f;cases b
 .rfl
 .have eY:s.log= []:=o rfl;have t:dV s.ω s.log=ω:=p;rw[eY]at t;have F:s.ω=ω:=t;simp_all
end
end
section
variable{N:Nat}{m:Mm}{f g:Fm}{x y:Kd}{k:Nat}{n:Int}{θ:List Opn}{codes:List (List Opn)}
end
section
variable{N:Nat}{m:Mm}{f g:Fm}{x y:Kd}{k:Nat}{n:Int}{θ:List Opn}{codes:List (List Opn)}{e:En}
end
section
abbrev FSc:=List Int×List Int×List Rw×List (List Opn)×List Int
variable{N:Nat}{s:FSc}{m:Mm}{f:Fm}{n:Int}
end
section
set_option synthInstance.maxSize 20000
set_option synthInstance.maxHeartbeats 4000000
end
section

end
section
variable{N:Nat}{s:FSc}{m:Mm}{f:Fm}{n:Int}{x:Kd}{codes:List (List Opn)}{θ:List Opn}
end
section
variable{N:Nat}{s:FSc}{m:Mm}{f:Fm}{n:Int}
end
section
abbrev Cur:=List Int×Int×Int
def bd(c:Cur):Prop:=0<=c.2.1/\c.2.1<=c.1.length/\c.1.length<=1048576
def ES{α:Type}(P:α->Prop)(r:Option ((Cur×Unit)×(α×Unit))):Prop:=∃c v,r=some ((c,()),(v,()))/\bd c/\P v
theorem Ss(x:Int):∃n:Nat,n<=255/\tu .i64 x 255=n:=by
 refine⟨(BitVec.ofInt 64 x&&&BitVec.ofInt 64 255).toNat,?_,?_⟩
 .simp[BitVec.toNat_and,jR,X0]
 .unfold tu;have:(BitVec.ofInt 64 x&&&BitVec.ofInt 64 255).toNat<=255:=by
   simp[BitVec.toNat_and,jR,X0]
  exact v7 (Wze (p:=(BitVec.ofInt 64 x&&&BitVec.ofInt 64 255).toNat) (by omega))
theorem WvT{N:Nat}{θ:List Int}(h:θ.length<=1048576)(l:1048576<N):∃c,bd c/\Dz N θ=ret c:=by
 have f:∀(n j:Nat) (v:Int),j<=θ.length->θ.length-j<n->∃a i t,∀{R:Type} (K:Int->Int->Bool->Option R),uS N θ K n v (j:Int)=K a i t:=by
  intro n
  induction n with
  |zero=>omega
  |succ n ih=>
   intro j v g k;by_cases b:j<θ.length
   .by_cases h4:j<4000
    .obtain⟨a,i,t,e⟩:=ih (j+1) _ b (by omega);refine⟨a,i,t,λK=>?_⟩;have d:decide ((j:Int)<4000)=true:=by simp;omega
     simp only[uS,WQ b,Ws b,d,We,Wk (show j<4611686018427387904 by omega)];exact e K
    .refine⟨v,j,decide ((j:Int)<4000),λK=>?_⟩;have d:decide ((j:Int)<4000)=false:=by simp;omega
     simp only[uS,WQ b,d,We,Wc]
   .refine⟨v,j,false,λK=>?_⟩;simp_all [uS,W6,Wc]
 obtain⟨a,i,t,e⟩:=f N 0 (Wm .i64 10101 (Wh θ)) (Nat.zero_le _) (by omega);refine⟨(θ,0,a),⟨by simp,by simp,h⟩,?_⟩
 grind [Dz]
theorem DY{N:Nat}{c:Cur}(h:bd c):ES (λv=>0<=v/\v<=255) (vh N c):=by
 unfold vh;obtain⟨j,k,a⟩:=h;have d:inn 33=true:=rfl;have f:inn 45=true:=rfl;simp only[d,f,We];by_cases b:c.2.1<c.1.length
 .have e3:decide (c.2.1<Wh c.1)=true:=Wf b;have g:inb c.2.1 c.1.length=true:=by grind [inb]
  have i:Wm .i64 c.2.1 1=c.2.1+1:=WE (by unfold I64;omega);rw[e3,g,i];simp only[We];obtain⟨n,l,e⟩:=Ss (Wm .i64 (tu .i64 (EX .i64 (nj .i64 (Wm .i64 (cE .i64 c.2.2 (6364136223846793005:Int)) (1442695040888963407:Int)) (33:Int)) (nj .i64 (Wm .i64 (cE .i64 c.2.2 (6364136223846793005:Int)) (1442695040888963407:Int)) (45:Int))) (255:Int)) (IntKind.wrap .i64 (Xc c.1 (Xa c.2.1) (0:Int))));exact⟨_,_,rfl,⟨by simp;omega,by simp;omega,a⟩,by omega⟩
 .have e3:decide (c.2.1<Wh c.1)=false:=Wl b;rw[e3];simp only[Wc];obtain⟨n,l,e⟩:=Ss (EX .i64 (nj .i64 (Wm .i64 (cE .i64 c.2.2 (6364136223846793005:Int)) (1442695040888963407:Int)) (33:Int)) (nj .i64 (Wm .i64 (cE .i64 c.2.2 (6364136223846793005:Int)) (1442695040888963407:Int)) (45:Int)));exact⟨_,_,rfl,⟨j,k,a⟩,by omega⟩
theorem R9{v n:Int}(b:0<=v)(a:0<n):0<=bp v n/\bp v n<n:=by
 have e:bp v n=v%n:=by grind [bp,BT]
 rw[e];exact⟨Int.emod_nonneg v (by omega),Int.emod_lt_of_pos v a⟩
theorem Lx{N:Nat}{c:Cur}{n:Int}(h:bd c):ES (λv=>(n<=0->v=0)/\(0<n->0<=v/\v<n)) (Zb N c n):=by
 unfold Zb;by_cases F:n<=0
 .have e:decide (n<=0)=true:=by simp_all
  rw[e];exact⟨_,_,rfl,h,λ_=>rfl,λh=>by omega⟩
 .have e:decide (n<=0)=false:=by simp_all
  have r:inz n=true:=by grind [inz]
  rw[e];simp only[Wc,r,We];by_cases g:n<=256
  .have e:decide (n<=256)=true:=by simpa using g
   rw[e];obtain⟨m,v,f,t,u⟩:=DY (N:=N) h;rw[f];have:=R9 u.1 (show 0<n by omega);exact⟨_,_,rfl,t,λh=>by omega,λ_=>this⟩
  .have e:decide (n<=256)=false:=by simpa using g
   rw[e];obtain⟨m,a,f,A,H⟩:=DY (N:=N) h;obtain⟨C,b,o,s,G⟩:=DY (N:=N) A;obtain⟨D,d,p,B,I⟩:=DY (N:=N) s;obtain⟨E,v4,q,i,w⟩:=DY (N:=N) B;simp only[Wc,f,o,p,q,Xd];have x:cE .i64 a 16777216=a*16777216:=om (by unfold I64;omega);have y:cE .i64 b 65536=b*65536:=om (by unfold I64;omega);have z:cE .i64 d 256=d*256:=om (by unfold I64;omega);have j:Wm .i64 (a*16777216) (b*65536)=a*16777216+b*65536:=WE (by unfold I64;omega);have k:Wm .i64 (a*16777216+b*65536) (d*256)=a*16777216+b*65536+d*256:=WE (by unfold I64;omega);have l:Wm .i64 (a*16777216+b*65536+d*256) v4=a*16777216+b*65536+d*256+v4:=WE (by unfold I64;omega);rw[x,y,z,j,k,l];have:=R9 (show 0<=a*16777216+b*65536+d*256+v4 by omega) (show 0<n by omega);exact⟨_,_,rfl,i,λh=>by omega,λ_=>this⟩
end
section
theorem Wta{N:Nat}{c:Cur}{n:Int}(h:bd c):ES (λ_=>True) (Zq N c n):=by
 unfold Zq;obtain⟨d,v,a,b,e⟩:=Lx (N:=N) (n:=n) h;rw[a];exact⟨_,_,rfl,b,trivial⟩
theorem WuG{N:Nat}{c:Cur}{l:List Int}(h:bd c)(g:0<l.length)(i:l.length<4611686018427387904):ES (λv=>v∈l) (o6 N c l):=by
 unfold o6;obtain⟨f,v,d,e,a⟩:=Lx (N:=N) (n:=Wh l) h;rw[d];have a:=a.2 (by unfold Wh;omega);unfold Wh at a;obtain⟨q,rfl⟩:=XI a.1;have b:q<l.length:=by omega
 simp only[Xd,Ws b,We,Wu b];exact⟨_,_,rfl,e,Xo b⟩
end
section
def Drw{ρ:Type}(P:ρ->Prop)(r:Option ((Cur×Unit)×ρ)):Prop:=∃c v,r=some ((c,()),v)/\bd c/\P v
theorem Drw.of{α:Type}{P:α->Prop}{r:Option ((Cur×Unit)×(α×Unit))}(h:ES P r):Drw (λv:α×Unit=>P v.1) r:=by
 obtain⟨c,v,e,a,b⟩:=h;exact⟨c,(v,()),e,a,b⟩
theorem Drw.bind{ρ σ:Type}{P:ρ->Prop}{Q:σ->Prop}{r:Option ((Cur×Unit)×ρ)}{k:(Cur×Unit)×ρ->Option ((Cur×Unit)×σ)}(h:Drw P r)(d:∀c v,bd c->P v->Drw Q (k ((c,()),v))):Drw Q (r.bind k):=by
 obtain⟨c,v,e,a,b⟩:=h;simp_all
theorem Drw.ok{ρ:Type}{P:ρ->Prop}{c:Cur}{v:ρ}(a:bd c)(b:P v):Drw P (some ((c,()),v)):=⟨c,v,rfl,a,b⟩
theorem Drw.bif{ρ:Type}{P:ρ->Prop}{b:Bool}{x y:Option ((Cur×Unit)×ρ)}(a:b=true->Drw P x)(c:b=false->Drw P y):Drw P (bif b then x else y):=by
 grind
theorem Drw.bifT{ρ:Type}{P:ρ->Prop}{b:Bool}{x y:Option ((Cur×Unit)×ρ)}(c:b=true)(a:Drw P x):Drw P (bif b then x else y):=by simp_all
theorem Drw.mono{ρ:Type}{P Q:ρ->Prop}{r:Option ((Cur×Unit)×ρ)}(h:Drw P r)(d:∀v,P v->Q v):Drw Q r:=by
 obtain⟨c,v,e,a,b⟩:=h;exact⟨c,v,e,a,d v b⟩
section
variable{N:Nat}{c:Cur}
theorem cZ(n:Int)(h:bd c):Drw (λv:Int×Unit=>(n<=0->v.1=0)/\(0<n->0<=v.1/\v.1<n)) (Zb N c n):=.of (Lx h)
theorem gm(n:Int)(h:bd c):Drw (λ_:Bool×Unit=>True) (Zq N c n):=.of (Wta h)
theorem NV(l:List Int)(h:bd c)(a:0<l.length)(b:l.length<1000):Drw (λv:Int×Unit=>v.1∈l) (o6 N c l):=.of (WuG h a (by omega))
theorem YR(h:bd c):Drw (λv:Int×Unit=>0<=v.1/\v.1<=3) (Za N c):=by
 unfold Za;exact(cZ 4 h).bind λc v a b=>.ok a (by grind)
theorem Ib(h:bd c):Drw (λv:Int×Unit=>0<=v.1/\v.1<=65535) (zY N c):=by
 unfold zY;refine(gm 6 h).bind λc v a _=>.bif (λ_=>?_) λ_=>?_
 .refine(NV _ a (by decide) (by decide)).bind λc v a b=>.ok a ?_
  grind
 .exact(cZ 9 a).bind λc v a b=>.ok a (by grind)
theorem ZD(h:bd c):Drw (λv:Int×Unit=>0<=v.1/\v.1<=7) (qP N c):=by
 unfold qP;refine(gm 8 h).bind λc v a _=>.bif (λ_=>?_) λ_=>?_
 .exact(cZ 8 a).bind λc v a b=>.ok a (by grind)
 .exact(cZ 3 a).bind λc v a b=>.ok a (by grind)
theorem YV(h:bd c):Drw (λv:Int×Unit=>True) (Zk N c):=by
 unfold Zk;refine(gm 4 h).bind λc v a _=>.bif (λ_=>?_) λ_=>?_
 .exact(cZ 8 a).bind λc v a b=>.ok a trivial
 .exact(NV _ a (by decide) (by decide)).bind λc v a b=>.ok a trivial
theorem HI(a:Int)(h:bd c):Drw (λ_:Opn×Unit=>True) (Zi N c a):=by
 unfold Zi
 repeat' first
  |with_reducible refine Drw.bif (λ_=>?_) λ_=>?_
  |with_reducible refine(YR (by assumption)).bind λc v b d=>?_
  |with_reducible refine(Ib (by assumption)).bind λc v b d=>?_
  |with_reducible refine(ZD (by assumption)).bind λc v b d=>?_
  |with_reducible refine(YV (by assumption)).bind λc v b d=>?_
  |with_reducible refine(cZ _ (by assumption)).bind λc v b d=>?_
  |with_reducible exact .ok (by assumption) trivial
theorem Uf{rec:Cur->Int->Int->Bool->Option ((Cur×Unit)×(List Opn×Unit))}{most e:Int}{f:Bool}(J:0<=most/\most<=100)
  (y:∀c (m d:Int),bd c->0<=m->m<most->Drw (λv:List Opn×Unit=>(v.1.length:Int)<=m+2) (rec c m d f)):
  ∀(n i:Nat) (c:Cur) (l:List Opn),i<n->i<=1000->bd c->(l.length:Int)<=most+2->Drw (λv:List Opn×Unit=>(v.1.length:Int)<=most+2) (Zc N rec most e f (λw x j k=>(some ((j,()),(k,())))) n (i:Int) c l)
 |0,i,c,l,h,_,_,_=>by omega
 |n+1,i,c,l,h,I,q,hl=>by
  have K:(0:Int)<i->W3 .i64 (i:Int) 1=((i-1:Nat):Int):=λs=>by grind [dZ,I64]
  have T:W3 .i64 most (Wh l)=most-(l.length:Int):=dZ (by unfold I64 Wh;omega);have M:W3 .i64 (most-(l.length:Int)) 3=most-(l.length:Int) -3:=dZ (by unfold I64;omega);simp only[Zc,T,M];refine .bif (λs=>?_) λ_=>.ok q hl;have s:(i:Int)>0:=Wx s;rw[K s];refine .bif (λt=>?_) λ_=>.ok q hl;have t:(l.length:Int)<most:=Wx t;have next:∀g (u:List Opn),bd g->(u.length:Int)<=most+2->Drw (λv:List Opn×Unit=>(v.1.length:Int)<=most+2) (Zc N rec most e f (λw x j k=>(some ((j,()),(k,())))) n ((i-1:Nat):Int) g u):=
   λg u t A=>Uf J y n (i-1) g u (by omega) (by omega) t A
  have D:∀(a:List Opn) (b:List Opn),(a.length:Int)+b.length<=1000->WC (a.length+b.length)=true:=λa b h=>Ww (by omega);have R:∀g (o:Opn),bd g->Drw (λv:List Opn×Unit=>(v.1.length:Int)<=most+2) (bif WC (l.length+ [o].length)then Zc N rec most e f (λw x j k=>(some ((j,()),(k,())))) n ((i-1:Nat):Int) g (Xe l [o])else none):=
   λg o A=>.bifT (D _ _ (by simp;omega)) (next _ _ A (by grind [cU]))
  refine(cZ 20 q).bind λc v q B=>?_;have S:∀g,bd g->(4:Int)<=most-(l.length:Int)->Drw (λv:List Opn×Unit=>(v.1.length:Int)<=most+2) ((rec g (most-(l.length:Int) -3) (W3 .i64 e 1) f).bind λr=>
         ((Zi N r.1.1 (8:Int)).bind λp=>
          (bif WC ((Xb l)+(Xb ([p.2.1])))then
           (bif WC ((Xb (Xe l ([p.2.1])))+(Xb r.2.1))then
            ((Zq N p.1.1 (3:Int)).bind λC=>
             (bif C.2.1 then
              (bif WC ((Xb (Xe (Xe l ([p.2.1])) r.2.1))+(Xb ([((10:Int),((0:Int),((0:Int),(0:Int))))])))then
               (bif WC ((Xb (Xe (Xe (Xe l ([p.2.1])) r.2.1) ([((10:Int),((0:Int),((0:Int),(0:Int))))])))+(Xb ([((9:Int),((0:Int),((0:Int),(0:Int))))])))then
                (Zc N rec most e f (λw x j k=>(some ((j,()),(k,())))) n ((i-1:Nat):Int) C.1.1 (Xe (Xe (Xe (Xe l ([p.2.1])) r.2.1) ([((10:Int),((0:Int),((0:Int),(0:Int))))])) ([((9:Int),((0:Int),((0:Int),(0:Int))))])))else none)else none)
              else
              (bif WC ((Xb (Xe (Xe l ([p.2.1])) r.2.1))+(Xb ([((9:Int),((0:Int),((0:Int),(0:Int))))])))then
               (Zc N rec most e f (λw x j k=>(some ((j,()),(k,())))) n ((i-1:Nat):Int) C.1.1 (Xe (Xe (Xe l ([p.2.1])) r.2.1) ([((9:Int),((0:Int),((0:Int),(0:Int))))])))else none)))else none)else none))):=λg L W=>by
   refine(y g _ _ L (by omega) (by omega)).bind λG P z O=>(HI 8 z).bind λH Q F _=>?_;simp only[];refine .bifT (D _ _ (by simp;omega)) (.bifT (D _ _ (by grind [cU])) ((gm 3 F).bind λV X U _=>.bif (λ_=>?_) λ_=>?_))
   .grind [cU]
   grind [cU]
  repeat' first
   |with_reducible exact R _ _ (by assumption)
   |with_reducible refine Drw.bif (λ_=>?_) λ_=>?_
   |with_reducible refine(HI _ (by assumption)).bind λc v q B=>?_
   |with_reducible refine(gm _ (by assumption)).bind λc v q B=>?_
   |with_reducible refine(cZ _ (by assumption)).bind λc v q B=>?_
   |exact S _ (by assumption) (by simp only[Wg,ge_iff_le]at*;omega)
  all_goals
   rename_i E;have E:=Wx E;refine(y _ 2 0 (by assumption) (by omega) (by omega)).bind λG P z O=>(HI 7 z).bind λH Q F _=>?_
   grind [cU]
theorem UL(i:1048576<N):∀(m:Nat) (c:Cur) (most a:Int) (b:Bool),bd c->0<=most->most<=100->most<m->Drw (λv:List Opn×Unit=>(v.1.length:Int)<=most+2) (u6 N m c most a b)
 |0,c,most,a,b,f,g,h,h2=>by omega
 |m+1,c,most,a,b,f,g,h,h2=>by
  unfold u6;refine(cZ most f).bind λc v f l=>?_;have n:0<=v.1/\v.1<=100:=by
   omega
  have e:Wm .i64 1 v.1=(((1+v.1).toNat:Nat):Int):=by grind [WE,I64]
  simp only[e];exact Uf ⟨g,h⟩ (λc m' d j k o=>UL i m c m' d b j k (by omega) (by omega)) N _ c [] (by omega) (by omega) f (by simp;omega)
theorem Ia(f:1048576<N){most a:Int}{b:Bool}(g:bd c)(d:0<=most)(e:most<=100):Drw (λv:List Opn×Unit=>v.1.length<=102) (DA N c most a b):=by
 unfold DA;exact(UL f N c most a b g d e (by omega)).mono λv h=>by omega
theorem R3(f:1048576<N):∀(n i:Nat) (c:Cur) (l:List Int),8-i<n->i<=8->bd c->l.length=i->
  Drw (λv:List Int×Unit=>v.1.length=8) (B8 N (λm g d e=>(some ((d,()),(e,())))) n (i:Int) c l)
 |0,i,c,l,h,_,_,_=>by omega
 |n+1,i,c,l,h,j,a,hl=>by
  unfold B8;refine .bif (λb=>?_) λb=>.ok a (by grind);have b:(i:Int)<8:=Wx b;rw[Wk (show i<4611686018427387904 by omega)];refine(Ib a).bind λc v a k=>.bifT (Ww (by simp;omega)) ?_;exact R3 f n (i+1) c _ (by omega) (by omega) a (by simp_all)
theorem ZM(a:1048576<N)(b:bd c):Drw (λv:List Int×Unit=>v.1.length=8) (Ce N c):=by
 unfold Ce;exact R3 a N 0 c [] (by omega) (by omega) b rfl
end
end
section
theorem Wrs{α:Type}{a b:Option α}(h:a=b):dg a b=a:=by unfold dg;rw[Wb h]
section
variable{N:Nat}{c:Cur}
theorem Tc(g:1048576<N){b:List Opn}(d:b.length<=300):∀(n i:Nat) (c:Cur) (l:List (List Opn)),i<n->i<=100->bd c->l.length+i<=100->(∀x∈l,x.length<=200)->
  Drw (λv:(List Opn×List (List Opn))×Unit=>v.1.1.length<=300/\v.1.2.length<=100/\∀x∈v.1.2,x.length<=200) (Cf N b (λq u p m=>(some ((p,()),((b,m),())))) n (i:Int) c l)
 |0,i,c,l,h,_,_,_,_=>by omega
 |n+1,i,c,l,h,r,a,s,o=>by
  unfold Cf;refine .bif (λf=>?_) λ_=>.ok a ⟨d,by simp_all,o⟩;have f:(i:Int)>0:=Wx f;have e:W3 .i64 (i:Int) 1=((i-1:Nat):Int):=by grind [dZ,I64]
  rw[e];refine(cZ 5 a).bind λc v a j=>?_;have j:=j.2 (by decide);have k:Wm .i64 2 v.1=2+v.1:=WE (by unfold I64;omega);simp only[k];refine(Ia g a (by omega) (by omega)).bind λc w a t=>.bifT (Ww (by simp;omega)) ?_;refine Tc g d n (i-1) c _ (by omega) (by omega) a (by grind [cU]) λx y=>?_
  grind [cU]
theorem VB(f:1048576<N){b:Bool}(a:bd c):Drw (λv:(List Opn×List (List Opn))×Unit=>v.1.1.length<=300/\v.1.2.length<=100/\∀x∈v.1.2,x.length<=200) (qW N c b):=by
 unfold qW;refine .bif (λ_=>?_) λ_=>?_
 .refine(cZ 8 a).bind λc v a d=>?_;have d:=d.2 (by decide);have e:Wm .i64 3 v.1=3+v.1:=WE (by unfold I64;omega);simp only[e];exact(Ia f a (by omega) (by omega)).bind λc w a l=>.ok a ⟨by grind,by simp,by simp⟩
 .refine(cZ 4 a).bind λc v a d=>?_;have d:=d.2 (by decide);have e:Wm .i64 1 v.1=1+v.1:=WE (by unfold I64;omega);simp only[e];refine(Ia f a (by omega) (by omega)).bind λc w a l=>(cZ 4 a).bind λc h a g=>?_;have g:=g.2 (by decide);have k:Wm .i64 1 h.1=1+h.1:=WE (by unfold I64;omega);simp only[k];refine(Ia f a (by omega) (by omega)).bind λc o a m=>.bifT (Ww (by simp;omega)) (.bifT (Ww (by grind [cU])) ((cZ 3 a).bind λc i a j=>?_));have j:=j.2 (by decide);have n:Wm .i64 1 i.1=(((1+i.1).toNat:Nat):Int):=by grind [WE,I64]
  grind [Tc,cU]
theorem ZN(a:bd c):Drw (λv:Opn×Unit=>True) (KO N c):=by
 unfold KO;refine(cZ 16 a).bind λc v a b=>(HI _ a).bind λc w a _=>(cZ 16 a).bind λc v a b=>.bif (λ_=>?_) λ_=>.bif (λ_=>?_) λ_=>.bif (λ_=>?_) λ_=>.bif (λ_=>?_) λ_=>.ok a trivial
 all_goals exact(NV _ a (by decide) (by decide)).bind λc v a b=>.ok a trivial
theorem Sj:∀(n:Nat) (c:Cur) (l:List Opn),600-l.length<n->bd c->l.length<=500->
  Drw (λv:List Opn×Unit=>v.1.length<=600) (Cg N (λi g f=>(some ((g,()),(f,())))) n c l)
 |0,c,l,h,_,_=>by omega
 |n+1,c,l,h,a,hl=>by
  unfold Cg;refine(cZ 2 a).bind λc v a d=>?_;have d:=d.2 (by decide);have e:Wm .i64 24 v.1=24+v.1:=WE (by unfold I64;omega);simp only[e];refine .bif (λb=>?_) λ_=>.ok a (by grind);have b:(l.length:Int)<24+v.1:=Wx b;exact .bifT (Ww (by simp;omega)) (Sj n c _ (by grind [cU]) a (by grind [cU]))
theorem VH(q:1048576<N){l:List Opn}(d:bd c)(r:l.length<=500):Drw (λv:List Opn×Unit=>v.1.length<=600) (zZ N c l):=by
 unfold zZ;have m:Xe ([]:List Opn) l=l:=rfl;simp only[m];refine .bifT (Ww (by simp;omega)) (.bif (λ_=>.ok d (by simp)) λn=>?_);have p:0<l.length:=by
  cases l with
  |nil=>exact Wi n (by decide)
  |cons a b=>simp
 refine(cZ (Wh l) d).bind λc k d e=>?_;have e:=e.2 (by unfold Wh;omega);unfold Wh at e;obtain⟨k,u⟩:=k;simp only at e;obtain⟨j,rfl⟩:=XI e.1;have o:j<l.length:=by omega
 have i:inb (j:Int) l.length=true:=Ws o;have h:Wm .i64 (j:Int) 1=((j+1:Nat):Int):=Wk (by omega);have f:((decide ((0:Int)<=(j:Int)))&&(decide ((j:Int)<=((Xb l):Int))))=true:=by simp;omega
 have g:((decide ((0:Int)<=((j+1:Nat):Int)))&&(decide (((j+1:Nat):Int)<=((Xb l):Int))))=true:=by simp;omega
 refine(cZ 6 d).bind λc v d s=>?_;simp only[h,i,f,g,We,Wrs rfl];refine .bif (λ_=>?_) λ_=>.bif (λ_=>.ok d (by simp;omega)) λ_=>.bif (λ_=>?_) λ_=>.bif (λ_=>?_) λ_=>.bif (λ_=>.ok d (by simp;omega)) λ_=>?_
 .exact(ZN d).bind λc w d _=>.ok d (by simp;omega)
 .have aa:(List.drop (Xa ((j+1:Nat):Int)) (aI l.length l)).length=l.length-(j+1):=by simp_all
  have t:(aI (Xa (j:Int)) l).length=j:=by simp_all
  exact .bifT (Ww (by omega)) (.ok d (by grind [cU,Xx]))
 .grind [Sj]
 .exact(cZ 2 d).bind λc w d _=>.ok d (by simp;omega)
end
end
section
section
variable{N:Nat}{c:Cur}
end
end
section
section
variable{N:Nat}{s:FSc}{n:Int}{f:Fm}{m:Mm}{base:List Int}{codes:List (List Opn)}{θ:List Opn}
def MF(base:List Int)(c v:Int):Prop:=base.getD c.toNat 0=v
theorem WyK{Z:Pb->Prop}(D:FOk codes n f)(h:FA (MF base) Z codes f)(g:FZ f)(o:Vals 8 base)(r:Vals 4 f.ξ){i:Nat}(hi:i<f.υ.length)(k:(f.υ[i]).toNat<f.π.length)(l:dz (codes.getD (f.υ[i]).toNat [])=true):
  (sA (codes.getD (f.υ[i]).toNat []) f.ξ (ovl base (WJ f i))).1=f.π[(f.υ[i]).toNat].out/\
  (f.π[(f.υ[i]).toNat].out=1->(sA (codes.getD (f.υ[i]).toNat []) f.ξ (ovl base (WJ f i))).2.1=f.π[(f.υ[i]).toNat].ξ)/\
  (sA (codes.getD (f.υ[i]).toNat []) f.ξ (ovl base (WJ f i))).2.2.1=ovl base (WJ f (i+1)):=by
 obtain⟨B,x,C⟩:=g.kid hi;have j:=jH o (g.ε i);have m:=Vl l;have A:=m.len;obtain⟨_,E,F⟩:=h.ft.ord _ (Xo hi);have v:=h.fv.sim (f.υ[i]).toNat k (ovl base (WJ f i)) j (λe p=>by
  obtain⟨s,u⟩:=(g.sn _ (Xo k)).2.2.2 e p;rw[mK o (g.ε i) s u];have w:=h.fv.mrg i hi e (by rw[oN k];exact p);rcases w with q|⟨y,z⟩
  .rw[q]
  .rw[y];exact z.2) 1048577 (by omega)
 rw[PM hi,TH,x];unfold sA;rw[l,lI.2 r,pV.2 j];simp only[hL,We];rw[←VM m (M3 r j) (N:=1048577) (by omega)];rcases v with⟨a,_⟩|⟨_,⟨a,t,b,c,d⟩|⟨a,b,t,c,d⟩⟩
 .omega
 .rw[d,a];exact⟨rfl,λ_=>b,c⟩
 .rw[d,a,b];exact⟨rfl,λq=>by omega,c⟩
end
end
section
section
variable{N:Nat}{s:FSc}{n:Int}{f:Fm}{m:Mm}{base:List Int}{codes:List (List Opn)}
def lW:List (Nat×List Int):=[(0,[]),(1,[0]),(2,[0,1]),(2,[1,0]),(3,[0,1,2]),(3,[0,2,1]),(3,[1,0,2]),(3,[1,2,0]),(3,[2,0,1]),(3,[2,1,0])]
theorem TI{l:List Int}{k:Nat}(j:k<=3)(o:l.length=k)(g:l.Nodup)(f:∀x∈l,0<=x/\x<k):(k,l)∈lW:=by
 subst o
 match l,j,g,f with
 | [],_,_,_=>simp[lW]
 | [a],_,_,f=>
  have:=f a (by simp);simp only[List.length_singleton]at this;have:a=0:=by omega
  subst this;simp[lW]
 | [a,b],_,g,f=>
  have h:=f a (by simp);have i:=f b (by simp);simp only[Xu,jQ]at h i;have m:a≠b:=by intro e;subst e;simp at g
  have:(a=0/\b=1)\/(a=1/\b=0):=by omega
  rcases this with⟨rfl,rfl⟩|⟨rfl,rfl⟩<;>simp[lW]
 | [a,b,c],_,g,f=>
  have h:=f a (by simp);have i:=f b (by simp);have n:=f c (by simp);simp only[Xu,jQ]at h i n;have m:a≠b:=by intro e;subst e;simp at g
  have q:a≠c:=by intro e;subst e;simp at g
  have p:b≠c:=by intro e;subst e;simp at g
  have:(a=0/\b=1/\c=2)\/(a=0/\b=2/\c=1)\/(a=1/\b=0/\c=2)\/(a=1/\b=2/\c=0)\/(a=2/\b=0/\c=1)\/(a=2/\b=1/\c=0):=by omega
  rcases this with⟨rfl,rfl,rfl⟩|⟨rfl,rfl,rfl⟩|⟨rfl,rfl,rfl⟩|⟨rfl,rfl,rfl⟩|⟨rfl,rfl,rfl⟩|⟨rfl,rfl,rfl⟩<;>simp[lW]
 |a::b::c::d::l,j,_,_=>simp at j
theorem WtC{l:List Int}{k:Nat}(h:(k,l)∈lW)(a:1048576<N):zf N l (k:Int)=some ((),(l,(true,()))):=by
 obtain⟨M,rfl⟩:∃M,N=M+10:=⟨N-10,by omega⟩;simp only[lW,Xs,V1,or_false,Prod.mk.injEq]at h;rcases h with⟨rfl,rfl⟩|⟨rfl,rfl⟩|⟨rfl,rfl⟩|⟨rfl,rfl⟩|⟨rfl,rfl⟩|⟨rfl,rfl⟩|⟨rfl,rfl⟩|⟨rfl,rfl⟩|⟨rfl,rfl⟩|⟨rfl,rfl⟩<;>rfl
theorem TY{A B:List Int}(d:Vals 8 A)(e:Vals 8 B)(h:∀c:Int,0<=c->c<=7->A.getD c.toNat 0=B.getD c.toNat 0):A=B:=by
 have f:=d.len;have g:=e.len;refine BW (by omega) λi a b=>?_;have:=h (i:Int) (by omega) (by omega);rw[Xi,Wn a,Wn b]at this;exact this
theorem WwP{l:List Rw}{c:Int}(h:aZ l)(a:l.length<=300)(b:0<=c)(d:c<=7):lst (al l) c=lst l c:=by
 cases hv:lst l c with
 |some v=>exact EF (r:=(c,v)) (wW l) (wg.2 ⟨⟨b,d⟩,by rw[AE h a];exact hv⟩)
 |none=>
  cases hw:lst (al l) c with
  |none=>rfl
  |some w=>
   have:=(wg.1 (Bp hw)).2;rw[AE h a,hv]at this;cases this
theorem Tq{w:List Rw}(a:Vals 8 base)(h:aZ w)(e:w.length<=300):ovl base (al w)=ovl base w:=
 TY (jH a vZ) (jH a h) λc b d=>by rw[mK a vZ b d,mK a h b d,WwP h e b d]
theorem Wvp{M:Int->Int->Prop}(g:FOk codes n f)(h:FT M f)(l:FZ f)(i:Vals 8 base):ovl base (jV f)=ovl base (WJ f f.υ.length)/\aZ (jV f):=by
 have af:aZ (jV f):=λr o=>by
  obtain⟨e,d,rfl⟩:=Xz.1 o;obtain⟨a,b,_⟩:=g.bufE e d;exact⟨a,b⟩
 refine⟨TY (jH i af) (jH i (l.ε _)) λc j k=>?_,af⟩;have p:(jV f).Pairwise λa b=>a.1<b.1:=by
  unfold jV;rw[VY];exact g.bufR.imp λ{a b} h=>by unfold cfE at h;omega
 have s:=g.C2;have e:lst (jV f) c=lst (WJ f f.υ.length) c:=by
  by_cases m:∃e∈f.buf,e.1=c
  .obtain⟨e,d,rfl⟩:=m;rw[h.buf e d f.υ.length (by have:=(g.bufE e d).2.2.2;omega) (Xl _)];exact EF (r:=(e.1,e.2.1)) p (Xz.2 ⟨e,d,rfl⟩)
  .have cg:∀e∈f.buf,e.1≠c:=λe d q=>m ⟨e,d,q⟩;rw[h.non c j k cg _ (Xl _)];cases hw:lst (jV f) c with
   |none=>rfl
   |some w=>
    obtain⟨e,d,q⟩:=Xz.1 (Bp hw);exact Wi (Wp Prod.fst q) (cg e d)
 rw[mK i af j k,mK i (l.ε _) j k,e]
end
end
section
section
variable{R:Type}{N k:Nat}{θ:List Opn}{π:List (List Opn)}{az:Int}{aP aA:List Int}{K0:List Int->Option R}{K1:Int->Bool->List Int->Int->List M7->List Int->List Int->Option R}
 {n pc:Nat} {r c m base:List Int} {ct n':Int} {mk q:List M7} {x:M7} {f:Fm}
def oK(a:List Kd)(r:List Int)(i:Int):List Int:=if(a.getD i.toNat {}).out=1 then r.set i.toNat (ah (a.getD i.toNat {}).ξ 0 0)else r
def m8(f:Fm)(a j:Nat):List Int:=(f.υ.take j).foldl (oK f.π) (Xt a 0)
theorem Wrl{a j:Nat}(h:j<f.υ.length):m8 f a (j+1)=oK f.π (m8 f a j) f.υ[j]:=by
 grind [m8,List.take_succ_eq_append_getElem]
theorem WwK{a:List Kd}{r:List Int}{i:Int}:(oK a r i).length=r.length:=by
 grind [oK,aK]
theorem WtJ{nk:Nat}:∀j,(m8 f nk j).length=nk:=λj=>by
 unfold m8;generalize f.υ.take j=l;have:∀(l:List Int) (r:List Int),(l.foldl (oK f.π) r).length=r.length:=by
  intro l
  induction l with
  |nil=>grind
  |cons a l ih=>intro r;rw[List.foldl_cons,ih,WwK]
 rw[this,List.length_replicate]
def oP(x:Kd):Int:=if x.out=1 then ah x.ξ 0 0 else 0
theorem Wx5{l:List Int}{j:Nat}(h:(j,l)∈lW){g:List Kd}(e:g.length=j):l.foldl (oK g) (Xt j 0)=g.map oP:=by
 simp only[lW,Xs,V1,or_false,Prod.mk.injEq]at h
 match g,e with
 | [],e=>
  grind
 | [a],e=>
  subst e;simp at h;subst h;simp only[xX,oP,Om,oK];by_cases f:a.out=1<;>simp[f]
 | [a,b],e=>
  subst e;simp at h;rcases h with rfl|rfl<;>simp only[xX,oP,Om,oK]<;>by_cases f:a.out=1<;>by_cases i:b.out=1<;>simp[f,i]
 | [a,b,c],e=>
  subst e;simp at h;rcases h with rfl|rfl|rfl|rfl|rfl|rfl<;>simp only[xX,oP,Om,oK]<;>by_cases f:a.out=1<;>by_cases i:b.out=1<;>by_cases k:c.out=1<;>simp[f,i,k]
 |a::b::c::d::g,e=>
  grind
structure FX(π:List (List Opn))(base:List Int)(f:Fm):Prop where
 ok:∃n,FOk π n f
 fa:∃Z,FA (MF base) Z π f
 ov:mO f=true
 st:∃ε,f.start=al ε
theorem FX.ord(h:FX π base f)(i:π.length<=3):(π.length,f.υ)∈lW/\f.υ.length=π.length:=by
 obtain⟨n,d⟩:=h.ok;obtain⟨Z,c⟩:=h.fa;have k:=h.ov;have g:=d.len;have e:f.υ.length=π.length:=by
  rw[d.done,←g,List.countP_eq_length]
  grind [mO,List.all_eq_true]
 exact⟨TI i e c.ft.nod λx j=>by
  obtain⟨a,b,_⟩:=c.ft.ord x j;omega,e⟩
theorem TM{Q:Int->Bool->Int->List Int->List Int->List Int->Option R}{next gw iT gu:Int}{gv:List M7}{eh eZ:List Int}(t:1048576<N)(e:FOk π n' f){Z:Pb->Prop}(s:FA (MF base) Z π f)(h:FZ f)(n:Vals 8 base)(q:∀c∈π,dz c=true)(B:m.length=8):∀(d j a:Nat),j+d=f.υ.length->d<a->
  pl N (Zj N (k+1)) θ π f.υ next f.ξ gw iT gu gv eh eZ Q a (j:Int) ct (m8 f π.length j) (ovl base (WJ f j)) m=Q (f.υ.length:Int) false ct (m8 f π.length f.υ.length) (ovl base (WJ f f.υ.length)) m
 |0,j,a,A,hf=>by
  obtain⟨g,rfl⟩:∃g,a=g+1:=⟨a-1,by omega⟩;simp_all [pl,W6,Xl,Wc]
 |d+1,j,a,A,hf=>by
  obtain⟨g,rfl⟩:∃g,a=g+1:=⟨a-1,by omega⟩;have b:j<f.υ.length:=by omega
  obtain⟨o,I,H⟩:=h.kid b;have i:=TM (Q:=Q) (next:=next) (gw:=gw) (iT:=iT) (gu:=gu) (gv:=gv) (eh:=eh) (eZ:=eZ) t e s h n q B d (j+1) g (by omega) (by omega);have G:=e.len;have J:π.getD (f.υ[j]).toNat []=π[(f.υ[j]).toNat]'(by omega):=Wn (by omega) _;have C:=q _ (Xo (show(f.υ[j]).toNat<π.length by omega));obtain⟨w,x,y⟩:=WyK e s h n e.ξ b o (by simp_all);have v:Xc f.υ (Xa (j:Int)) (0:Int)=f.υ[j]:=Wu b _;have E:inb f.υ[j] π.length=true:=by grind [inb]
  have F:inb f.υ[j] (m8 f π.length j).length=true:=by grind [inb,WtJ]
  have z:=h.ord.1;have r:=Wyr (N:=N) (k:=k) (ct:=ct) (mp:=m) (l:=π.getD (f.υ[j]).toNat []) (ξ:=f.ξ) (ω:=ovl base (WJ f j)) t (by simp_all) (lI.2 e.ξ) (pV.2 (jH n (h.ε j))) (by omega);rw[w,y]at r;rw[Wrl b]at i;have u:=(e.kid _ o).ξ;have D:Zj N (k+1) (Xc π (Xa f.υ[j]) ([]:List Ka)) [] [] f.ξ (ovl base (WJ f j),(m,ct))=_:=r;simp only[pl,WQ b,Ws b,v,We,E,F,Wk (show j<4611686018427387904 by omega),QD,D,Xd];unfold oK at i;rw[oN o]at i;by_cases p:f.π[(f.υ[j]).toNat].out=1
  .rw[Wb p]at i;rw[p,x p];simp only[beq_self_eq_true,We,show inb (0:Int) (f.π[(f.υ[j]).toNat].ξ).length=true by unfold inb;rw[u.len];rfl];exact i
  grind
theorem YU(B:1048576<N)(g:pc<θ.length)(X:θ.length<=24)(E:θ[pc].1=11)(p:π.length<=3)(a:FX π base f)(C:Vals 8 base)(o:∀c∈π,dz c=true/\c.length<=24)(F:m.length=8):
  wk N (Zj N (k+1)) θ π f.υ az aP aA K0 K1 (n+1) (pc:Int) f.ξ ct mk (ovl base f.start) m=wk N (Zj N (k+1)) θ π f.υ az aP aA K0 K1 n ((pc+1:Nat):Int) (oi f) ct mk (ovl base (WJ f f.υ.length)) m:=by
 obtain⟨U,G⟩:=a.ord p;obtain⟨n',b⟩:=a.ok;obtain⟨Z,r⟩:=a.fa;obtain⟨ε,w⟩:=a.st;have H:FZ f:=FZ.of r.ft b p (λc e=>(o c e).2) w;have W:=b.len;have I:(((decide ((0:Int)<=(Wh π)))&&(decide ((Wh π)<=(Wh π))))&&(WC (Xa (Wh π))))=true:=Nn π (by omega);have T:Xt (Xa (Wh π)) (0:Int)=m8 f π.length 0:=by rw[Lv];rfl
 have y:WJ f 0=f.start:=by unfold WJ;simp
 have O:m8 f π.length f.υ.length=f.π.map oP:=by
  grind [m8,List.take_length,Wx5]
 have L:oi f=f.π.map oP++f.ξ.drop f.π.length:=by
  unfold oi;rw[Wb ⟨lI.2 b.ξ,by omega⟩];congr 1;refine List.map_congr_left λx a=>?_;obtain⟨i,d,rfl⟩:=List.mem_iff_getElem.1 a;unfold NA oP;have:=lI.2 (b.kid i d).ξ;simp_all
 unfold wk;rw[Zd];simp only[WQ g,Ws g,Wu g,We,Wc,E,I,Wk (show pc<4611686018427387904 by omega),beq_self_eq_true,show((11:Int)==5)=false from rfl,show((11:Int)==6)=false from rfl,show((11:Int)==7)=false from rfl,show((11:Int)==8)=false from rfl,show((11:Int)==9)=false from rfl,show((11:Int)==10)=false from rfl];rw[T,←y];have z:=TM (R:=R) (k:=k) (θ:=θ) (ct:=ct) (m:=m) (Q:=λxj xk s M t u=>
  (uR N (Zj N (k+1)) θ π f.υ ((pc+1:Nat):Int) s (0:Int) (0:Int) az mk M t u aP aA
 (λP S h=>
  (Zd N (Zj N (k+1)) θ π f.υ az aP aA K0 K1 n ((pc+1:Nat):Int) h s mk t u))
 N (0:Int) f.ξ)) (next:=((pc+1:Nat):Int)) (gw:=0) (iT:=0) (gu:=az) (gv:=mk) (eh:=aP) (eZ:=aA) B b r H C (λc e=>(o c e).1) F f.υ.length 0 N (by omega) (by omega)
 refine Eq.trans z ?_;rw[O];have A:=WH (l:=f.π.map oP) (V:=List Int) (R:=R) (lp:=λn' j v=>uR N (Zj N (k+1)) θ π f.υ ((pc+1:Nat):Int) ct (0:Int) (0:Int) az mk (f.π.map oP) (ovl base (WJ f f.υ.length)) m aP aA
 (λP S h=>
  (Zd N (Zj N (k+1)) θ π f.υ az aP aA K0 K1 n ((pc+1:Nat):Int) h ct mk (ovl base (WJ f f.υ.length)) m)) n' j v) (n:=N) (by grind)
  (body:=λj x v k=>bif inb j v.length then k (v.set j.toNat x)else none) (K:=λ_ v=>Zd N (Zj N (k+1)) θ π f.υ az aP aA K0 K1 n ((pc+1:Nat):Int) v ct mk (ovl base (WJ f f.υ.length)) m)
  (λn' i v d=>by
   have J:i<4611686018427387904:=by grind
   simp only[uR,WQ d,Ws d,Wu d,Wk J,We])
  (λn' v=>by simp[uR,W6,Xl,Wc]) f.ξ
 refine A.trans ?_;have Y:=b.ξ.len;have q:=LL (β:=Int) (f:=λx:Int=>x) (body:=λ(j:Int) (x:Int) v (k:List Int->Option R)=>bif inb j v.length then k (v.set j.toNat x)else none) (K:=λ_ v=>Zd N (Zj N (k+1)) θ π f.υ az aP aA K0 K1 n ((pc+1:Nat):Int) v ct mk (ovl base (WJ f f.υ.length)) m) (f.π.map oP) [] f.ξ (by grind) (λj x v k a D=>by rw[dc,Wf D];rfl);simp only[jQ,List.nil_append,List.map_id']at q;refine Eq.trans q ?_;rw[L,Xy]
theorem WsB{a:Nat}(h:a<=3)(b:1048576<N):∃l,zf N [] (a:Int)=some ((),(l,(true,()))):=by
 obtain⟨M,rfl⟩:∃M,N=M+10:=⟨N-10,by omega⟩;have:a=0\/a=1\/a=2\/a=3:=by omega
 rcases this with rfl|rfl|rfl|rfl<;>exact⟨_,rfl⟩
end
end
section
variable{l:List Int}{k i v:Int}
theorem MS(h:SlOk l){j:Nat}(c:j<l.length)(e:l[j]≠0)(d:bT l[j]=i):WD l i=(l[j] -1)%65536+1:=by
 unfold WD;cases hs:fF l i with
 |none=>exact Wi d (GJ h hs j c e)
 |some r=>
  obtain⟨f,b,k,m,g,_⟩:=nY h hs;have:r.1=j:=by
   rcases BV r.1 j with a|a|a
   .exact Wi (by rw[b,g,d]) (h.one r.1 j f c a (by omega) e)
   .exact a
   .exact Wi (by rw[b,g,d]) (h.one j r.1 c f a e (by omega))
  subst this;simp only;rw[b]
theorem G3(h:SlOk l)(a:∀(j:Nat) (g:j<l.length),l[j]≠0->bT l[j]≠i):WD l i=0:=by
 unfold WD;cases hs:fF l i with
 |none=>rfl
 |some r=>
  obtain⟨b,c,e,f,d,_⟩:=nY h hs;exact Wi (by rw[c,d]) (a r.1 b (by omega))
theorem RW(h:SlOk l){p:Nat}{s:Int}(f:SlOk (l.set p s))(r:p<l.length)(m:l[p]=0\/bT l[p]≠i)(n:s=0\/bT s≠i):WD (l.set p s) i=WD l i:=by
 by_cases d:∃(j:Nat) (c:j<l.length),l[j]≠0/\bT l[j]=i
 .obtain⟨j,c,a,b⟩:=d;have g:p≠j:=λe=>by
   subst e;rcases m with o|o
   .exact a o
   .exact o b
  have k:j<(l.set p s).length:=by rw[aK];exact c
  have e:(l.set p s)[j]=l[j]:=by rw[ex,Wa g]
  rw[MS h c a b,MS f k (by rw[e];exact a) (by rw[e];exact b),e]
 .rw[G3 h (λj c a b=>d ⟨j,c,a,b⟩)];refine G3 f λj c a b=>?_;have q:j<l.length:=by rw[aK]at c;exact c
  rw[ex]at a b;by_cases e:p=j
  .subst e;rw[Wb rfl]at a b;rcases n with z|z
   .exact a z
   .exact z b
  .rw[Wa e]at a b;exact d ⟨j,q,a,b⟩
theorem AB(h:SlOk l)(j:0<=k/\k<=7)(s:0<=v/\v<=65535):WD (ij l k v) i=if i=k then v+1 else WD l i:=by
 have d:=AZ h j s;obtain⟨B,t⟩:=SU j s;have c:∀p:Nat,p<l.length->(l[p]?=some 0\/∃y,l[p]?=some y/\bT y=k)->ij l k v=l.set p (1+65536*k+v)->WD (ij l k v) i=if i=k then v+1 else WD l i:=λp m n e=>by
  rw[e]at d⊢;by_cases b:i=k
  .rw[Wb b];have w:p<(l.set p (1+65536*k+v)).length:=by rw[aK];exact m
   have f:(l.set p (1+65536*k+v))[p]=1+65536*k+v:=List.getElem_set_self ..;rw[MS d w (by rw[f];omega) (by rw[f,t,b]),f];omega
  .rw[Wa b];refine RW h d m ?_ (.inr (by rw[t];exactλz=>b z.symm));rw[Xp m]at n;rcases n with o|⟨y,o,q⟩
   .left;injection o
   .right;injection o with o;rw[o,q];exactλz=>b z.symm
 cases hs:fF l k with
 |some r=>
  obtain⟨a,g,x,A,u,_⟩:=nY h hs;exact c r.1 a (.inr ⟨r.2,by rw[Xp a,g],u⟩) (by unfold ij;rw[hs])
 |none=>
  obtain⟨a,g,_⟩:=L7 h j hs;exact c _ a (.inl (by rw[Xp a,g])) (by unfold ij;rw[hs])
theorem DM(h:SlOk l):WD (ou l k) i=if i=k then 0 else WD l i:=by
 have d:=L5 (k:=k) h;unfold ou at d⊢;cases hs:fF l k with
 |none=>
  simp only;by_cases c:i=k
  .rw[Wb c,c];unfold WD;rw[hs]
  .rw[Wa c]
 |some r=>
  rw[hs]at d;simp only at d⊢;obtain⟨g,m,q,s,n,_⟩:=nY h hs;by_cases c:i=k
  .rw[Wb c];refine G3 d λj o a b=>?_;have p:j<l.length:=by rw[aK]at o;exact o
   rw[ex]at a b;by_cases e:r.1=j
   .rw[Wb e]at a;exact a rfl
   .rw[Wa e]at a b;rcases BV r.1 j with f|f|f
    .exact Wi (by rw[m,n,b,c]) (h.one r.1 j g p f (by omega) a)
    .exact e f
    .exact Wi (by rw[m,n,b,c]) (h.one j r.1 p g f a (by omega))
  .rw[Wa c];exact RW h d g (.inr (by rw[m,n];exactλz=>c z.symm)) (.inl rfl)
theorem Wrc:WD (Xt 16 0) i=0:=G3 GK λj b a=>Wi (List.getElem_replicate ..) a
theorem Pl:∀(m:List Int) (j:Nat) (l:List Int),j+m.length<=8->(∀x∈m,0<=x/\x<=65536)->SlOk l->(∀i:Nat,j<=i->WD l (i:Int)=0)->∀i:Nat,i<j+m.length->WD (pW m j l) (i:Int)=if i<j then WD l (i:Int)else m.getD (i-j) 0
 | [],j,l,_,_,_,_,i,hi=>by rw[pW,Wb (by simpa using hi)]
 |x::m,j,l,n,f,h,g,i,hi=>by
  rw[Xu]at n hi;have q:=f x (List.mem_cons_self ..);have b:∀a:Nat,WD (if x>0 then ij l (j:Int) (x-1)else l) (a:Int)=if a=j then x else WD l (a:Int):=λa=>by
   by_cases d:x>0
   .rw[Wb d,AB h (by omega) (by omega)];by_cases e:a=j
    .rw[Wb (by omega),Wb e];omega
    .rw[Wa (by omega),Wa e]
   .rw[Wa d];by_cases e:a=j
    .rw[Wb e,g a (by omega)];omega
    .rw[Wa e]
  have k:SlOk (if x>0 then ij l (j:Int) (x-1)else l):=by
   split
   .exact AZ h (by omega) (by omega)
   .exact h
  rw[pW,Pl m (j+1) _ (by omega) (λy o=>f y (List.mem_cons_of_mem _ o)) k (λa p=>by rw[b,Wa (by omega)];exact g a (by omega)) i (by omega)];by_cases e:i<j
  .rw[Wb (by omega),Wb e,b,Wa (by omega)]
  .rw[Wa e];by_cases c:i=j
   .rw[Wb (by omega),b,Wb c,c,Nat.sub_self];rfl
   .rw[Wa (by omega),show i-j=(i-(j+1))+1 by omega];rfl
theorem WrM{m:List Int}(b:m.length=8)(a:∀x∈m,0<=x/\x<=65536){i:Nat}(hi:i<8):WD (BE m) (i:Int)=m.getD i 0:=by
 have:=Pl m 0 (Xt 16 0) (by omega) a GK (λ_ _=>Wrc) i (by omega);rw[Wa (by omega)]at this;exact this
end
section
section
variable{l:List Int}{k v i e:Int}{s:Shf}{u:Un}{S:List Int×Int}{o:Opn}{r:List Int}
def mpS(l:List Int):List Int:=(c7 8).map λi:Nat=>WD l (i:Int)
def shS(s:Shf):List Int×Int:=(mpS s.1,s.2)
theorem Hr:(mpS l).length=8:=by unfold mpS;simp
theorem Ns{i:Nat}(h:i<(mpS l).length):(mpS l)[i]=WD l (i:Int):=by
 have:=eX (λi:Nat=>WD l (i:Int)) (l:=c7 8) (i:=i) (h:=h);rw[List.getElem_range]at this;exact this
theorem Ue(h:0<=i/\i<=7):(mpS l).getD i.toNat 0=WD l i:=by
 rw[Wn (show i.toNat<(mpS l).length by rw[Hr];omega),Ns,show((i.toNat:Nat):Int)=i by omega]
theorem Gx(l:List Int)(i:Int):0<=WD l i/\WD l i<=65536:=by
 grind [WD]
theorem TB(h:0<=k/\k<=7){b:List Int}(c:∀i,WD b i=if i=k then e else WD l i):mpS b=(mpS l).set k.toNat e:=by
 refine BW (by rw[aK,Hr,Hr]) λi d f=>?_;rw[ex,Ns,c];by_cases a:(i:Int)=k
 .rw[Wb a,Wb (by omega)]
 .rw[Wa a,Wa (by omega),Ns]
theorem Wyu(h:SlOk l)(a:0<=k/\k<=7)(b:0<=v/\v<=65535):mpS (ij l k v)=(mpS l).set k.toNat (v+1):=TB a λi=>AB h a b
theorem WwM(h:SlOk l)(a:0<=k/\k<=7):mpS (ou l k)=(mpS l).set k.toNat 0:=TB a λi=>DM h
def fT(S:List Int×Int)(u:Un):List Int×Int:=
 if u.1=1 then(S.1.set u.2.1.toNat (u.2.2+1),S.2)else if u.1=2 then(S.1.set u.2.1.toNat 0,S.2)else if u.1=3 then(S.1,(S.2-u.2.2+65536)%65536)else S
def gQ(S:List Int×Int)(l:List Un):List Int×Int:=l.foldr (λu S=>fT S u) S
theorem QQ{l:List Un}:gQ S (l++ [u])=gQ (fT S u) l:=by simp[gQ,List.foldr_append]
theorem Wx7(h:ShOk s)(d:UnV u):shS (eM s u)=fT (shS s) u:=by
 unfold eM fT shS;rcases d with⟨a,b,c⟩|⟨a,b,c⟩|⟨a,b,c⟩
 .rw[Wb a,Wb a];simp only;rw[Wyu h.slots b c]
 .rw[Wa (by omega),Wb a,Wa (by omega),Wb a];simp only;rw[WwM h.slots b]
 simp_all
theorem R6{z:Int}(c:0<=e)(h:S.1.getD k.toNat 0=e)(d:0<=k/\k<=7)(f:S.1.length=8):fT (S.1.set k.toNat z,S.2) (gL k e)=S/\(gL k e).1≠0:=by
 have b:S.1.set k.toNat e=S.1:=by
  grind [Wn,jN]
 unfold gL fT;by_cases a:e=0
 .rw[Wb a];refine⟨?_,by simp⟩;rw[Wa (by simp),Wb rfl];show((S.1.set k.toNat z).set k.toNat 0,S.2)=S;rw[nv,←a,b]
 simp_all
end
section
variable{R:Type}{N:Nat}{rec:Kae->Kab->Kj->Kj->Kh->Option Kz}{θ:List Opn}{π:List (List Opn)}{ord:List Int}{az:Int}{aP aA:List Int}{K0:List Int->Option R}{K1:Int->Bool->List Int->Int->List M7->List Int->List Int->Option R}
 {n pc:Nat} {r c:List Int} {mk:List M7} {s:Shf}
end
end
section
variable{N:Nat}{w:Wo}{k:Nat}{x:Rt}{o:Opn}{p:Pg}{n:Int}{θ:List Opn}
theorem RLive.mk24(b:CC p.1)(h:RLive p n x)(c:x.κ.length≠0):∃(m:Nat) (q:List RM),x.κ=q++ [x.last]/\x.last.1=(m:Int)/\(∃s:m<p.1.length,p.1[m].1=8)/\(m:Int)<x.pc/\Mate p.1 m (i8 p.1 m)/\x.pc<=i8 p.1 m/\stk p.1 m=(stk p.1 x.pc.toNat).dropLast/\x.κ.dropLast=q/\
  Vals 4 x.last.2.2.2.2/\(0<=x.last.2.1/\x.last.2.1<=x.last.1+72*frk p.1 x.last.1.toNat/\x.last.2.1<=x.μ.length)/\(0<=x.last.2.2.1/\x.last.2.2.1<=x.last.1+8/\x.last.2.2.1<=x.ι.length)/\0<=x.last.2.2.2.1/\x.last.2.2.2.1<=x.last.1/\x.last.2.2.2.1<=x.ο.length:=by
 have t:=h.pc;obtain⟨m,q,y,e,a,f,g,i,j,k,l,o⟩:=EN (d:=zRM) b (show x.pc.toNat<=p.1.length by omega) h.κ.pcs c;have r:x.last=y:=a;have u:=h.κ.each y (by grind)
 grind
theorem Ws0(o:k<w.η.length)(j:w.η[k]=x)(M:k<=8)(h:CC p.1)(r:RLive p n x)(J:∀u∈x.ο,UnV u)(I:ShOk w.ψ)(H:HOk w.holds)(l:1048576<N):
  It N w.e (k:Int) p.1=some (((Wo.put (ig w x k p.1) k).e,()),()):=by
 obtain⟨X,F,v,G,Y⟩:=woG o j;obtain⟨r0,r1,r2,r3,r4,r5,r6,r7,r8,kX,ky,jm,L,z,K,lX,lY,kz,kY,lZ,l0,ma⟩:=rtP x;obtain⟨z1,z2,z3,z4,P,Q⟩:=r.sz h;have R:=h.len;unfold It ig;simp only[Wz];rw[show P5 w.e=w.η.map Rt.e from rfl,G,F];simp only[We,WI,z,Wh];by_cases g:x.κ.length=0
 .rw[Wb (by omega),Wb g,v,RH o j M H r.rv P Q l];rfl
 .rw[Wa (by omega),Wa g,R7 g (by omega)];simp only[Xd,K,gF];obtain⟨m,q,S,E,⟨i,A⟩,T,s,U,V,W,t,Z,nH,rc,m7,oL⟩:=r.mk24 h g;by_cases f:(x.ο.length:Int)>x.last.2.2.2.1
  .rw[Wb f,Wb f,v,Xi,MN o j (by omega) (by omega) J I l];rfl
  .rw[Wa f,Wa f];simp only[L,z];obtain⟨a,b,c,d⟩:=DW g (by omega) zRM;have D:(decide ((0:Int)<=W3 .i64 (x.κ.length:Int) 1)&&decide (W3 .i64 (x.κ.length:Int) 1<=(x.κ.length:Int)))=true:=d;have C:aI (Xa (W3 .i64 (x.κ.length:Int) 1)) x.κ=x.κ.dropLast:=c;rw[D,C,nZ (by rw[t.len];omega),E,dc,Wf i];have O:Xc p.1 (Xa ((m:Nat):Int)) ((0,0,0,0):Opn)=opN p.1 (m:Int):=rfl;have y:=tq (h.ok m i).1 A;rw[←p0 i]at y;simp only[We,ret,Xd,O];rw[W2 y t.len];have B:(decide ((0:Int)<=x.last.2.2.1)&&decide (x.last.2.2.1<=(x.ι.length:Int)))=true:=by simp;omega
   rw[B];simp only[We];rw[AC (by grind),PS (by omega) l ⟨i,A⟩ s];simp only[ret,Xd];rw[eT (by have:=s.len;omega),Xi];exact bb rfl rfl rfl
theorem WuA(q:k<w.η.length)(j:w.η[k]=x)(M:k<=8)(f:CC p.1)(a:RLive p n x)(h:ax o=true)(c:12<=o.1)(r:ShOk w.ψ)(g:HOk w.holds)(d:1048576<N):
  Fq N w.e (k:Int) o=some (((Wo.put (fM w x k o) k).e,()),()):=by
 obtain⟨z,l,A,m,B⟩:=woG q j;obtain⟨P,Q,R,u,S,T,U,V,W,F,t,D,E,C,s,J,K,H,G,L,I,O⟩:=rtP x;obtain⟨Y,Z,z3,z4,z5,z6⟩:=a.sz f;have X:=Mv g;have y:=a.pc;have v:=f.len;have i:(0<=(W0 o).1/\(W0 o).1<=8)/\1<=(W0 o).2/\(W0 o).2<=2:=by
  grind [W0,ly,gj,qj,qn,hP,BQ]
 unfold Fq fM;simp only[Wz,D0];rw[show P5 w.e=w.η.map Rt.e from rfl,m,l,eT (by omega),WlK h c,show P4 w.e=w.holds from rfl,show w.e.2.2.2.1=w.ψ from rfl];simp only[We,Xd,Wjq g (show 1<=(k:Int)+1/\(k:Int)+1<=9 by omega) i.1 i.2 (by omega) d,u,t,s,Li a.Da];cases ha:hZ w.holds ((k:Int)+1) (W0 o).1 (W0 o).2 with
 |none=>
  simp only[Option.isSome_none,Fb,We,Xi];exact bb rfl rfl rfl
 |some dm=>
  simp only[Option.isSome_some,Xr,Wc,Option.getD_some,Xi,Wjn r a.ξ h c d,Xd,rF];rw[eT (by omega),Ww (by simp;omega)];by_cases b:(WK w.ψ o x.ξ).2.2.1=0
  .rw[Wb b,Wb b];exact bb rfl rfl rfl
  .rw[Wa b,Wa b];exact bb rfl rfl rfl
theorem Wx6(C:k<w.η.length)(t:w.η[k]=x)(M:k<=8)(Q:POk p)(g:RLive p n x)(hu:∀u∈x.ο,UnV u)(hm:aq w.mem=true)(S:ShOk w.ψ)(K:HOk w.holds)(r:1048576<N):
  FD N w.e (k:Int) p=some (((Wo.put (aT w x k p) k).e,()),()):=by
 obtain⟨g1,X,Y,Z,g5⟩:=woG C t;obtain⟨r0,r1,r2,r3,r4,r5,r6,r7,r8,kX,ky,jm,jn,jX,jY,lX,lY,kz,kY,lZ,l0,ma⟩:=rtP x;have f:=Q.θ;obtain⟨z1,z2,z3,z4,z5,z6⟩:=g.sz f;have T:=g.pc;have bN:=f.len;have J:=g.ξ.len;unfold FD aT;simp only[Wz];rw[show P5 w.e=w.η.map Rt.e from rfl,Z,X,Y];simp only[We,r3,r4,ky,jm,jn,jX,jY,gF,WI,show Wh p.1=(p.1.length:Int)from rfl];by_cases F:x.pc>=p.1.length
 .rw[Wb F,Wb F,RH C t M K g.rv z5 z6 r];rfl
 .rw[Wa F,Wa F];obtain⟨j,P,ej,V⟩:=kV (l:=p.1) T.1 (by omega);have yb:Xc p.1 (Xa x.pc) ((0,0,0,0):Opn)=opN p.1 x.pc:=rfl;have W:inb x.pc p.1.length=true:=by grind [dc,decide_eq_true]
  rw[W];obtain⟨s,O,ib⟩:=f.ok j P;simp only[We,yb];rw[←V]at s O ib;rw[eT (show 0<=x.pc/\x.pc<=1000000 by omega)];have uU:(opN p.1 x.pc).1=9->x.κ.length≠0:=λi D=>by
   have h1:=Wp Xb g.κ.pcs;simp only[Xy,D]at h1;have h2:=fh f.up j (by omega);have h3:=f.up j P
   grind [gD,qp,Xi]
  generalize opN p.1 x.pc=o at*;have yo:o.1>=12->Fq N w.e (k:Int) o=some (((Wo.put (fM w x k o) k).e,()),()):=λv=>WuA C t M f g s v S K r;by_cases y:o.1=5
  .rw[Wb y,Wb y,Xi,Wwn C t f g hm y s r];rfl
  .rw[Wa y,Wa y];by_cases E:o.1=10
   .rw[Wb E,Wb E,Ws0 C t M f g hu S K r];rfl
   .rw[Wa E,Wa E];by_cases G:o.1=11
    .rw[Wb G,Wb G,show Wh p.2=((p.2.length:Nat):Int)from rfl,Wkq (by omega) (by omega) Q.k3 r,Xi];exact bb rfl rfl rfl
    .rw[Wa G,Wa G];by_cases v:o.1>=12
     .rw[Wb v];have B:=yo v;have:o.1=12\/o.1=13\/o.1=14\/o.1=15\/o.1=16:=by omega
      rcases this with h|h|h|h|h
      .rw[Wb h,Wb h,B];rfl
      .rw[Wa (by omega),Wb h,Wb h,B];rfl
      .rw[Wa (by omega),Wa (by omega),Wb h,Wb h,B];rfl
      .rw[Wa (by omega),Wa (by omega),Wa (by omega),Wb h,Wb h,B];rfl
      .rw[Wa (by omega),Wa (by omega),Wa (by omega),Wa (by omega),Wb h,B];rfl
     .rw[Wa v,Wa (show¬o.1=12 by omega),Wa (show¬o.1=13 by omega),Wa (show¬o.1=14 by omega),Wa (show¬o.1=15 by omega),Wa (show¬o.1=16 by omega)];by_cases z:o.1=6
      .rw[Wb z,Wb z,W2 (xM s z).2 J,Ww (by simp;omega),Xi];exact bb rfl rfl rfl
      .rw[Wa z,Wa z];by_cases A:o.1=7
       .rw[Wb A,Wb A];have h:=qx s A;rw[W2 h.1 J,WE (a:=x.pc) (b:=o.2.2.1) (by unfold I64;omega),eT (a:=x.pc+o.2.2.1) (by omega),Xi];by_cases I:Xc x.ξ (Xa o.2.1) 0=0
        .rw[Wb I,Wb (show ah x.ξ o.2.1 0=0 from I)];exact bb rfl rfl rfl
        .rw[Wa I,Wa (show¬ah x.ξ o.2.1 0=0 from I)];exact bb rfl rfl rfl
       .rw[Wa A,Wa A];by_cases H:o.1=8
        .rw[Wb H,Wb H,nZ (by omega)];simp only[ret,Xd];rw[Ww (by simp;omega),Xi];exact bb rfl rfl rfl
        .rw[Wa H,Wa H];by_cases i:o.1=9
         .rw[Wb i,Wb i];have D:=uU i;obtain⟨a,b,c,d⟩:=DW D (by omega) zRM;obtain⟨m,q,e1,U,⟨L,kA⟩,e4,e5,e6,e7,e8,e9,jZ,nH,rc,m7,oL⟩:=g.mk24 f D;rw[Rg D (by omega)];simp only[Xd];rw[d,c,U,dc,Wf L];have O:Xc p.1 (Xa ((m:Nat):Int)) ((0,0,0,0):Opn)=opN p.1 (m:Int):=rfl;have R:=tq (f.ok m L).1 kA;rw[←p0 L]at R;simp only[We,O];rw[W2 R J,Xi];exact bb rfl rfl rfl
         .rw[Wa i,Wa i,PG r s (by omega) (by omega) g.ξ,Xi];exact bb rfl rfl rfl
theorem WvE(q:k<w.η.length)(m:w.η[k]=x)(L:w.η.length<=8)(K:1048576<N):
  Cp N w.e (k:Int)=some (((Wo.put (il w x k) k).e,()),()):=by
 obtain⟨H,z,I,A,J⟩:=woG q m;have F:=SA q m;have y:(w.η.map Rt.e).length=w.η.length:=by simp
 unfold Cp;rw[show P5 w.e=w.η.map Rt.e from rfl,A,z,eT (by omega),Xi];simp only[We,rF,WI,gF,show w.e.2.1=w.C6 from rfl,show x.e.2.1=x.CY from rfl,show w.e.1=w.now from rfl,show w.e.2.2.1.1=w.mem.1 from rfl];have s:∀(K0:Bool->Int->Bool->Option ((Y_World×Unit)×Unit)) (d j n:Nat) (g:Bool),j+d=w.η.length->d<n->
   pe N (k:Int) k (Wh (w.η.map Rt.e)) w.now w.C6 w.mem.1 w.e.2.2.2.1.2 (w.η.map Rt.e) w.e.2.2.1.2 w.e.2.2.2.1.1 (P4 w.e) (Q6 w.e) K0 n g (j:Int)=K0 (g&&AJ k (w.η.drop j) j) (w.η.length:Int) false:=by
  intro K0 d
  induction d with
  |zero=>
   intro j n g C D;obtain⟨n,rfl⟩:∃n',n=n'+1:=⟨n-1,by omega⟩;have:j=(w.η.map Rt.e).length:=by omega
   rw[pe,this,W6 (Xl _),y,List.drop_length];simp[AJ]
  |succ d ih=>
   intro j n g C D;obtain⟨n,rfl⟩:∃n',n=n'+1:=⟨n-1,by omega⟩;have l:j<(w.η.map Rt.e).length:=by omega
   have u:j<w.η.length:=by omega
   rw[pe];simp only[WQ l,Ws l,Wu l,Wk (show j<4611686018427387904 by omega),We,ih (j+1) n _ (by omega) (by omega),eX];rw[List.drop_eq_getElem_cons u,AJ];generalize AJ k (w.η.drop (j+1)) (j+1)=b;have E:(Rt.e w.η[j]).1=w.η[j].ζ:=rfl;rw[E];simp only[WI];cases g with
   |false=>simp
   |true=>
    simp only[We,oX];by_cases p:j=k
    .rw[Wb (by omega),Wf p];simp
    .rw[Wa (by omega),Wl p];by_cases i:w.η[j].ζ=0
     .rw[Wb i,Wf i];simp
     .rw[Wa i,Wl i];have:(w.η[j].ζ==8)=decide (w.η[j].ζ=8):=by
       by_cases B:w.η[j].ζ=8<;>simp[B]
      rw[this];simp
 have:=s;refine(s _ w.η.length 0 N true (by omega) (by omega)).trans ?_;rw[List.drop_zero,oX];unfold il;have v:some ((S5 (Xk (w.η.map Rt.e) k ((1:Int),(x.CY,((0:Int),((0:Int),(w.mem.1,((0:Int),((0:Int),((0:Int),((0:Int),(w.now,((0:Int),(false,(Xt (Xa (4:Int)) (0:Int),(([]:List Ke),(([]:List Ke),(([]:List Kl),(([]:List Kb),(([]:List Int),(false,(((0:Int),((0:Int),((0:Int),(0:Int)))),(((0:Int),((0:Int),((0:Int),((0:Int),((0:Int),(([]:List Ke),([]:List Int))))))),d_Family)))))))))))))))))))))) w.e,()),())=some (((Wo.put (w,{ζ:=1,CY:=x.CY,rv:=w.mem.1,C7:=w.now,ξ:=[0,0,0,0]}) k).e,()),()):=bb (x':={ζ:=1,CY:=x.CY,rv:=w.mem.1,C7:=w.now,ξ:=[0,0,0,0]}) (w':=w) rfl rfl rfl;have G:some (((w.now,((k:Int)+1,w.e.2.2)),()),())=some (((Wo.put ({w with C6:=(k:Int)+1},x) k).e,()),()):=by
  have:Wo.put ({w with C6:=(k:Int)+1},x) k={w with C6:=(k:Int)+1}:=by unfold Wo.put;simp only;rw[←m,jN]
  rw[this];rfl
 have t:(((decide ((0:Int)<=(4:Int)))&&(decide ((4:Int)<=(4:Int))))&&(WC (Xa (4:Int))))=true:=rfl;have o:some ((w.e,()),())=some (((Wo.put (w,x) k).e,()),()):=by rw[F]
 rw[t];simp only[We,v];by_cases c:w.C6=0
 .rw[Wb c];rw[Wa (show¬(w.C6≠0/\w.C6≠(k:Int)+1) by omega)];by_cases a:x.CY>=3
  .rw[Wb a,Wb c,Wb ⟨a,c⟩];exact G
  .rw[Wa a,Wa (show¬w.C6=(k:Int)+1 by omega),Wa (λh=>a h.1),Wa (by omega)]
 .rw[Wa c];by_cases f:w.C6=(k:Int)+1
  .rw[Wb f,Wa (show¬(w.C6≠0/\w.C6≠(k:Int)+1) by omega),Wa (show¬(x.CY>=3/\w.C6=0) by omega)];have r:∀b:Bool,(bif !b then some ((w.e,()),())else some (((Wo.put (w,{ζ:=1,CY:=x.CY,rv:=w.mem.1,C7:=w.now,ξ:=[0,0,0,0]}) k).e,()),()))=some (((Wo.put (if w.C6=(k:Int)+1/\b=false then(w,x)else(w,{ζ:=1,CY:=x.CY,rv:=w.mem.1,C7:=w.now,ξ:=[0,0,0,0]})) k).e,()),()):=λb=>by
    cases b with
    |false=>rw[Wb ⟨f,rfl⟩];exact o
    |true=>rw[Wa (by simp)];rfl
   by_cases a:x.CY>=3
   .rw[Wb a,Wa c,Wb f];exact r _
   .rw[Wa a,Wb f];exact r _
  .rw[Wa f,Wb ⟨c,f⟩];exact o
theorem WwG(d:POk p)(f:RLive p n x)(j:x.ζ=2)(c:1048576<N):FE N x.e=some (((eD x).e,()),()):=by
 obtain⟨J,K,L,s,M,O,P,Q,R,D,E,l,C,A,B,G,H,F,m,q,o,r⟩:=rtP x;have g:=d.θ;obtain⟨S,T,U,V,W,X⟩:=f.sz g;obtain⟨v,w,a⟩:=f.fork j;have u:=f.pc;have t:=g.len;have h:x.fam.π.length<=3:=by have:=a.len;have:=d.k3;omega
 have I:=a.len3 d.k3;have z:=a.readsL;unfold FE eD;simp only[s,l,m,q,o,r,Bl,Xd];rw[Wn4 h c,Wmj a.ξ h (λy k=>by
  obtain⟨i,hi,rfl⟩:=List.getElem_of_mem k;rw[(a.kid i hi).ξ.len];omega) c,WnX (by have:=a.buf8;omega) c,Ww (by omega),nZ (by omega),eT (by omega),GQ]
 by_cases b:x.fam.Db=true
 .rw[Wb b,Wb b]
 .rw[Wa b,Wa b];simp only[ret,Xd,We];cases ho:mO x.fam
  .rw[Wa (by simp)];rfl
  .rw[Wb rfl];rfl
theorem Wr6(v:k<w.η.length)(o:w.η[k]=x)(z:POk p)(c:RLive p n x)(g:x.ζ=4)(y:aq w.mem=true):
  Fo N w.e k=some (((Wo.put (w,ez w x) k).e,()),()):=by
 obtain⟨t,R,S,T,U⟩:=woG v o;obtain⟨r0,r1,r2,r3,D,E,F,r7,r8,kX,ky,B,C,V,W,lX,lY,kz,kY,lZ,l0,ma⟩:=rtP x;have f:=z.θ;obtain⟨z1,z2,z3,z4,z5,z6⟩:=c.sz f;have i:=c.back (.inr g);obtain⟨m,q,J,K,⟨Y,Z⟩,L,M,O,P,Q,r,X,nH,rc,m7,oL⟩:=c.mk24 f i;have I:=c.pos g;have H:=c.pc;have G:=f.len;unfold Fo ez;simp only[Wz];rw[show P5 w.e=w.η.map Rt.e from rfl,t,R7 i (by omega)];simp only[Xd,D,E,F,B,C,gF,Bl,show w.e.2.2.1.2=w.mem.2 from rfl];by_cases d:x.pos<x.last.2.1
 .rw[Wb d,Wb d];have h:x.pos.toNat<x.μ.length:=by omega
  have s:inb x.pos x.μ.length=true:=by unfold inb;simp;omega
  have u:Xc x.μ (Xa x.pos) ((0:Int),(0:Int))=ah x.μ x.pos (0,0):=rfl;have A:0<=(ah x.μ x.pos (0,0)).1/\(ah x.μ x.pos (0,0)).1<=7:=by
   unfold ah;rw[Wn h];exact(c.μ _ (Xo h)).1
  rw[s,u,Bt y A,show Xc w.mem.2 (Xa (ah x.μ x.pos (0,0)).1) ((0:Int),((0:Int),(0:Int)))=WA w.mem (ah x.μ x.pos (0,0)).1 from rfl,eT (by omega)];simp only[We,rF];by_cases a:(WA w.mem (ah x.μ x.pos (0,0)).1).2.2=0
  .rw[Wb a];by_cases b:(WA w.mem (ah x.μ x.pos (0,0)).1).2.1>x.rv
   .rw[Wb b,Wb (.inr b)];exact bb rfl rfl rfl
   .rw[Wa b,Wa (by omega)];exact bb rfl rfl rfl
  .rw[Wa a,Wb (.inl a)];exact bb rfl rfl rfl
 .rw[Wa d,Wa d];have j:(decide ((0:Int)<=x.last.2.1)&&decide (x.last.2.1<=(x.μ.length:Int)))=true:=by simp;omega
  have l:(decide ((0:Int)<=x.last.2.2.1)&&decide (x.last.2.2.1<=(x.ι.length:Int)))=true:=by simp;omega
  rw[j,l,AC (by rw[di];omega),AC (by rw[di];omega),nZ (by rw[r.len];omega),eT (by omega)];simp only[We,ret,Xd];exact bb rfl rfl rfl
theorem Wrf(u:k<w.η.length)(p:w.η[k]=x)(R:k<=8)(m:CmOk x.cm)(o:aq w.mem=true)(F:w.δ.length<=500000)(n:1048576<N):
  Fp N w.e (k:Int)=some (((Wo.put (ei w x k) k).e,()),()):=by
 obtain⟨C,q,D,r,E⟩:=woG u p;obtain⟨T,U,V,W,X,Y,Z,A,r8,y,L,I,J,G,H,O,P,z,K,Q,M,S⟩:=rtP x;have l:=RJ m o;unfold Fp ei;simp only[Wz,D0];rw[show P5 w.e=w.η.map Rt.e from rfl,r,q,eT (by omega),Xi];simp only[We,A,y,z,show w.e.2.2.1=w.mem from rfl,show Q6 w.e=w.δ from rfl];rw[GQ];by_cases j:x.γ=true
 .rw[Wb j,Wb j];obtain⟨b,t⟩:=Wt0 (N:=N) m n;rw[t];simp only[Xd,WI,show(W4 x.cm).e.2.2.1=(W4 x.cm).ζ from rfl];by_cases c:(W4 x.cm).ζ=8
  .rw[Wb c,Wb c];have:S20 (W4 x.cm).e (S11 false x.e)=Rt.e {x with cm:=W4 x.cm,γ:=false}:=rfl;rw[this,Bl];exact bb rfl rfl rfl
  .rw[Wa c,Wa c];exact bb rfl rfl rfl
 .rw[Wa j,Wa j,Woe m o n];simp only[Xd];obtain⟨m',a,v⟩:∃m' a,Wv w.mem x.cm=(m',a):=⟨_,_,rfl⟩;rw[v]at l⊢;simp only at l⊢;have B:nw N (P5 a.e)=ret a.χ:=AC (by have:=l.1.plen;show a.χ.length<=1048576;omega);have s:S20 a.e x.e=Rt.e {x with cm:=a}:=rfl;rw[B,s,Bl];simp only[ret,Xd];rw[Ww (by simp;omega)];simp only[We,WI,gF,show a.e.2.2.1=a.ζ from rfl,show(Cm.e x.cm).2.2.1=x.cm.ζ from rfl,show P4 a.e=a.wv from rfl];unfold dt;simp only;by_cases g:x.cm.ζ<=3
  .rw[Wb g];by_cases i:a.ζ=4
   .rw[Wb i,Wa (by omega),Wa (by omega),Wb (show x.cm.ζ<=3/\a.ζ=4 from⟨g,i⟩),Wa (by omega),Wa (by omega)];exact bb (w':={w with mem:=m',δ:=w.δ++ [(a.wv,(k:Int)+1,a.χ)]}) rfl rfl rfl
   .rw[Wa i,Wa (show¬(x.cm.ζ<=3/\a.ζ=4)fromλh=>i h.2)];by_cases c:a.ζ=8
    .rw[Wb c,Wb c];exact bb (w':={w with mem:=m'}) rfl rfl rfl
    .rw[Wa c,Wa c];by_cases f:a.ζ=6
     .rw[Wb f,Wb f];by_cases d:x.CZ=2
      .rw[Wb d,Wb d];exact bb (w':={w with mem:=m'}) rfl rfl rfl
      .rw[Wa d,Wa d];exact bb (w':={w with mem:=m'}) rfl rfl rfl
     .rw[Wa f,Wa f];exact bb (w':={w with mem:=m'}) rfl rfl rfl
  .rw[Wa g,Wa (show¬(x.cm.ζ<=3/\a.ζ=4)fromλh=>g h.1)];by_cases c:a.ζ=8
   .rw[Wb c,Wb c];exact bb (w':={w with mem:=m'}) rfl rfl rfl
   .rw[Wa c,Wa c];by_cases f:a.ζ=6
    .rw[Wb f,Wb f];by_cases d:x.CZ=2
     .rw[Wb d,Wb d];exact bb (w':={w with mem:=m'}) rfl rfl rfl
     .rw[Wa d,Wa d];exact bb (w':={w with mem:=m'}) rfl rfl rfl
    .rw[Wa f,Wa f];exact bb (w':={w with mem:=m'}) rfl rfl rfl
end
section
section
variable{θ:List Opn}{pc dq rl wl ul sD mZ sE:Nat}{ms q:List RM}{y:RM}{n n':Int}{x:Rt}{w:Wo}{p:Pg}{k:Nat}{o:Opn}
theorem ML(θ:List Opn){a b:Nat}(h:a<=b):frk θ a<=frk θ b:=by
 simp_all [frk,List.Sublist.countP_le,List.take_sublist_take_left]
theorem RMk.mono(h:RMk θ pc ms rl wl ul)(f:stk θ dq=stk θ pc)(g:rl<=sD)(i:wl<=mZ)(j:ul<=sE):RMk θ dq ms sD mZ sE:=
 ⟨by rw[f];exact h.pcs,λq e=>by obtain⟨a,b,c,d⟩:=h.each q e;grind,h.up⟩
theorem RMk.cut(h:RMk θ pc ms rl wl ul)(d:ms=q++ [y])(k:y.2.1<=sD)(l:y.2.2.1<=mZ)(m:y.2.2.2.1<=sE):RMk θ pc ms sD mZ sE:=by
 refine⟨h.pcs,λa b=>?_,h.up⟩;obtain⟨f,g,i,j⟩:=h.each a b;have e:a.2.1<=y.2.1/\a.2.2.1<=y.2.2.1/\a.2.2.2.1<=y.2.2.2.1:=by
  have c:=h.up;rw[d]at b c;rcases Xn.1 b with b|b
  .exact(dx.1 c).2.2 a b y (by simp)
  simp_all
 grind
theorem RMk.begin(h:RMk θ pc ms rl wl ul)(g:pc<θ.length)(e:θ[pc].1=8){ξ:List Int}(p:Vals 4 ξ)(m:rl<=pc+72*frk θ pc)(n:wl<=pc+8)(o:ul<=pc):
  RMk θ (pc+1) (ms++ [((pc:Int),(rl:Int),(wl:Int),(ul:Int),ξ)]) rl wl ul:=by
 refine⟨?_,?_,?_⟩
 .rw[oJ g e,Xw,Xw,h.pcs];rfl
 .intro q c;rcases Xn.1 c with c|c
  .exact h.each q c
  grind
 .refine dx.2 ⟨h.up,List.pairwise_singleton _ _,λa f b d=>?_⟩;rw[bH]at d;subst d;obtain⟨i,j,k,l⟩:=h.each a f;simp_all
theorem RMk.drop(h:RMk θ pc ms rl wl ul)(b:ms=q++ [y])(j:stk θ dq=(stk θ pc).dropLast)(d:y.2.1<=sD)(f:y.2.2.1<=mZ)(g:y.2.2.2.1<=sE):RMk θ dq q sD mZ sE:=by
 have c:=h.cut b d f g;subst b;have e:=h.pcs;refine⟨?_,λa i=>c.each a (List.mem_append_left _ i),(dx.1 h.up).1⟩
 grind
theorem RLive.wk(h:RLive p n x)(e:n<=n'):RLive p n' x:={h with fork:=λd=>by obtain⟨a,b,c⟩:=h.fork d;exact⟨a,b,c.wk e⟩}
theorem ROk.wk(h:ROk p n x)(b:n<=n'):ROk p n' x:={h with CY:=by have:=h.CY;omega,C4:=λa=>(h.C4 a).wk b}
theorem RLive.on(j:CC p.1)(h:RLive p n x)(m:x.ζ=1){i:Nat}(hi:i<p.1.length)(g:x.pc=i){ξ:List Int}{μ ι:List Rw}{κ:List RM}{ο:List Un}{C3:Bool}{pb:Pb}{dq:Nat}
  (r:dq<=p.1.length) (f:i<dq) (d:Vals 4 ξ) (e:aZ μ) (k:μ.length<=x.μ.length+1) (b:aZ ι) (s:ι.length<=x.ι.length+1) (l:ο.length<=x.ο.length+1) (q:RMk p.1 dq κ μ.length ι.length ο.length) (c:C3=true->gr pb=true):
  RLive p n {x with ξ:=ξ,μ:=μ,ι:=ι,κ:=κ,ο:=ο,C3:=C3,pb:=pb,pc:=(dq:Int)} where
 pc:=by simp_all
 Da:=h.Da
 rv:=h.rv
 ξ:=d
 μ:=e
 rl:=by
  have a:=h.rl;have o:=ML p.1 (show i<=dq by omega)
  grind
 ι:=b
 wl:=by have:=h.wl;grind
 ul:=by have:=h.ul;grind
 κ:=by simp_all
 pb:=c
 fork:=λa=>by simp_all
 back:=λa=>by simp_all
 C8:=h.C8
 pos:=λa=>by simp_all
 unw:=λa=>by simp_all
theorem Vals.le4{r:List Int}(h:Vals 4 r):r.length<=4:=Nat.le_of_eq h.len
theorem A8(h:ROk p n x):ROk p n (de x) where
 ζ:=by show(0:Int)<=6/\(6:Int)<=8;omega
 CY:=h.CY
 C4:=λh=>by(change (1:Int)<=6/\(6:Int)<=4 at h;omega)
 comm:=λh=>by(change (6:Int)=5 at h;omega)
 ο:=h.ο
 ul:=h.ul
 rg:=by show([]:List Int).length<=4;simp
 ord:=by show([]:List Int).length<=3;simp
theorem PD(h:ROk p n x)(a:RLive p n x):ROk p n (WR x):=by
 unfold WR;split
 .exact A8 h
 .rename_i hc;exact{h with
   ζ:=by simp_all
   C4:=λ_=>{a with
    Da:=by have:=a.Da;grind
    pb:=λh=>by cases h
    fork:=λh=>by simp_all
    back:=λ_=>by simp_all
    pos:=λh=>by simp_all
    unw:=λh=>by simp_all}
   comm:=λh=>by simp_all}
structure QOk(p:Pg)(n:Int)(w:Wo)(q:Wo×Rt):Prop where
 root:ROk p n q.2
 mem:aq q.1.mem=true
 ψ:ShOk q.1.ψ
 holds:HOk q.1.holds
 δ:q.1.δ.length<=w.δ.length+1
 histE:∀h∈q.1.δ,h∈w.δ\/HE h
 η:q.1.η=w.η
 now:q.1.now=w.now
structure GOk(w:Wo):Prop where
 mem:aq w.mem=true
 ψ:ShOk w.ψ
 holds:HOk w.holds
theorem GOk.st(h:GOk w){y:Rt}(b:ROk p n y):QOk p n w (w,y):=⟨b,h.mem,h.ψ,h.holds,by simp,λ_ a=>.inl a,rfl,rfl⟩
theorem GOk.qt(h:GOk w){y:Rt}(b:ROk p n y)(t:Int):QOk p n w ({w with C6:=t},y):=⟨b,h.mem,h.ψ,h.holds,by simp,λ_ a=>.inl a,rfl,rfl⟩
theorem Ux(h:GOk w)(b:ROk p n x):QOk p n w (eU w x k):=by
 unfold eU;refine h.qt ?_ _;exact{b with
  ζ:=by simp_all
  C4:=λh=>by simp_all
  comm:=λh=>by simp_all
  ο:=λu a=>by cases a
  ul:=by simp}
theorem RQ(h:GOk w)(a:ROk p n x)(c:0<=x.rv/\x.rv<=1000000)(e:k<=8){b:Int}:QOk p n w (ec w x k b):=by
 unfold ec;simp only;generalize (if b=2 then []else x.ι)=ε;split
 .exact Ux (x:={x with CZ:=b,Dc:=x.rv}) h
   {ζ:=a.ζ,CY:=a.CY,C4:=λd=>{a.C4 d with},comm:=a.comm,ο:=a.ο,ul:=a.ul,rg:=a.rg,ord:=a.ord}
 .refine h.st ?_;exact{a with
   ζ:=by simp_all
   C4:=λh=>by simp_all
   comm:=λ_=>Wvh (by omega) c}
theorem WsL{α:Type}{l:List α}(h:l.length≠0)(d:α):c0 l d∈l:=by
 grind [c0,Wn,Xo]
theorem MW(h:GOk w)(b:ROk p n x)(o:x.ο.length≠0)(i:1<=x.ζ/\x.ζ<=4->CC p.1/\(x.κ.length≠0->x.last.2.2.2.1<x.ο.length)):QOk p n w (dO w x):=by
 unfold dO;refine⟨?_,h.mem,WrG h.ψ (b.ο _ (WsL o _)),h.holds,by simp,λ_ c=>.inl c,rfl,rfl⟩;have H:x.ο.dropLast.length=x.ο.length-1:=List.length_dropLast;exact{b with
  C4:=λc=>by
   have a:=b.C4 c;obtain⟨f,g⟩:=i c;exact{a with
    ul:=by have:=a.ul;grind
    unw:=λk=>by have:=a.unw k;show(x.ο.dropLast.length:Int)<=x.last.2.2.2.1;omega
    κ:=by
     show RMk p.1 x.pc.toNat x.κ x.μ.length x.ι.length x.ο.dropLast.length;by_cases e:x.κ.length=0
     .have:x.κ= []:=List.eq_nil_of_length_eq_zero e;have d:=a.κ;rw[this]at d⊢;exact⟨d.pcs,(λq l=>by cases l),d.up⟩
     .obtain⟨m,q,j,t,⟨E,F⟩,v,y,z,A,B,C,r,s,J,G,I⟩:=a.mk24 f e;have:=g e;exact a.κ.cut j r.2.2 s.2.2 (by omega)}
  ο:=λu D=>b.ο u (by grind [uv,jO])
  ul:=by have:=b.ul;grind}
theorem WvI(e:CC p.1)(h:GOk w)(g:ROk p n x)(a:RLive p n x)(m:x.ζ=1){i:Nat}(hi:i<p.1.length)(d:x.pc=i)(t:p.1[i].1=5):ROk p n (eS w x p.1[i]):=by
 have z:=lz (e.ok i hi).1 t;have u:0<=p.1[i].2.2.1/\p.1[i].2.2.1<=7:=by grind [bY]
 have f:=a.κ;rw[d,Xi]at f;have j:stk p.1 (i+1)=stk p.1 i:=gO hi (by omega) (by omega);have k:x.pc+1=((i+1:Nat):Int):=by omega
 unfold eS;cases kW:bm x.ι p.1[i].2.2.1 with
 |some v=>
  have q:=a.ι _ (L9 kW).2;simp only[k];exact{g with rg:=Vals.le4 (a.ξ.set _ q.2),C4:=λ_=>RLive.on e a m hi d (by omega) (by omega) (a.ξ.set _ q.2) a.μ (by omega) a.ι (by omega) (by omega) (f.mono j (by omega) (by omega) (by omega)) a.pb}
 |none=>
  simp only;have l:=QY (rv:=x.rv) h.mem (UI a.pb u);generalize W7 w.mem x.rv (if x.C3=true then x.pb else(p.1[i].2.2.1,0,0,0))=b at*;have o:=AP.1 l.1;have s:RLive p n {x with C3:=true,pb:=b}:={a with pb:=λ_=>l.1};have y:ROk p n {x with C3:=true,pb:=b}:={g with C4:=λ_=>s};split
  .grind [PD]
  .split
   .simp only[k];refine{g with rg:=Vals.le4 (a.ξ.set _ o.2.2.2),C4:=λ_=>RLive.on e a m hi d (by omega) (by omega) (a.ξ.set _ o.2.2.2) (λr c=>?_) (by simp) a.ι (by omega) (by omega) (f.mono j (by simp) (by omega) (by omega)) (λh=>by cases h)};rcases Xn.1 c with c|c
    .exact a.μ r c
    simp_all
   omega
theorem WuH(c:CC p.1)(h:GOk w)(g:ROk p n x)(a:RLive p n x)(t:x.ζ=1)(u:k<=8){i:Nat}(hi:i<p.1.length)(b:x.pc=i):QOk p n w (ig w x k p.1):=by
 have f:=a.κ;rw[b,Xi]at f;unfold ig;split
 .exact RQ h g a.rv u
 .rename_i hz;obtain⟨m,q,j,l,⟨D,E⟩,z,d,A,o,s,e,C,G,I,F,H⟩:=a.mk24 c hz;split
  .grind [MW]
  .refine h.st ?_;rw[s];simp only[l,Xi,←Int.natCast_succ];have y:=d.len;have B:(aI x.last.2.2.1.toNat x.ι).length=x.last.2.2.1.toNat:=by simp_all
   refine{g with rg:=Vals.le4 (e.set _ (by omega)),C4:=λ_=>RLive.on c a t hi b (dq:=i8 p.1 m+1) (by omega) (by omega) (e.set _ (by omega)) a.μ (by omega) (λr v=>a.ι r (jO v)) (by omega) (by omega) ?_ a.pb};exact f.drop j (by rw[d.st,o,b];rfl) (by omega) (by omega) (by omega)
theorem WtE(d:CC p.1)(h:GOk w)(f:ROk p n x)(a:RLive p n x)(m:x.ζ=1)(E:k<=8){i:Nat}(hi:i<p.1.length)(g:x.pc=i)(t:12<=p.1[i].1):QOk p n w (fM w x k p.1[i]):=by
 have z:=(d.ok i hi).1;have j:=a.κ;rw[g,Xi]at j;have l:stk p.1 (i+1)=stk p.1 i:=gO hi (by omega) (by omega);have v:x.pc+1=((i+1:Nat):Int):=by omega
 have D:=a.ul;have C:=d.len;have q:(0<=(W0 p.1[i]).1/\(W0 p.1[i]).1<=8)/\1<=(W0 p.1[i]).2/\(W0 p.1[i]).2<=2:=by
  grind [W0,ly,gj,qj,qn,hP,BQ]
 unfold fM;cases b:hZ w.holds ((k:Int)+1) (W0 p.1[i]).1 (W0 p.1[i]).2 with
 |none=>exact h.st (PD f a)
 |some hs=>
  have r:HOk hs:=by
   unfold hZ at b;split at b
   .injection b with b;subst b;exact Wrp h.holds (by omega) q.1 q.2 ‹_›
   .cases b
  obtain⟨s,c,A,B⟩:=WrA h.ψ a.ξ z t;simp only[v];refine⟨?_,h.mem,s,r,by simp,λ_ y=>.inl y,rfl,rfl⟩;by_cases o:(WK w.ψ p.1[i] x.ξ).2.2.1=0
  .simp only[Wb o];exact{f with rg:=Vals.le4 c,C4:=λ_=>RLive.on d a m hi g (by omega) (by omega) c a.μ (by omega) a.ι (by omega) (by omega) (j.mono l (by omega) (by omega) (by omega)) a.pb}
  .simp only[Wa o];refine{f with rg:=Vals.le4 c,C4:=λ_=>RLive.on d a m hi g (by omega) (by omega) c a.μ (by omega) a.ι (by omega) (by simp) (j.mono l (by omega) (by omega) (by simp)) a.pb,ο:=λu e=>?_,ul:=by simp;omega};rcases Xn.1 e with e|e
   .exact f.ο u e
   simp_all
theorem WxJ(E:POk p)(h:GOk w)(e:ROk p n x)(f:x.ζ=1)(t:k<=8)(C:0<=n):QOk p n w (aT w x k p):=by
 have a:=e.C4 (by omega);have c:=E.θ;unfold aT;split
 .exact RQ h e a.rv t
 .obtain⟨i,b,d,D⟩:=kV (l:=p.1) a.pc.1 (by omega);simp only[D];obtain⟨u,X,Q⟩:=c.ok i b;have g:=a.κ;rw[d,Xi]at g;have s:x.pc+1=((i+1:Nat):Int):=by omega
  have z:=a.rl;have T:=a.wl;have N:=a.ul;rw[d,Xi]at z;split
  .exact h.st (WvI c h e a f b d ‹_›)
  .split
   .grind [WuH]
   .split
    .rename_i fj;refine h.st ?_;exact{e with
      ζ:=by simp_all
      C4:=λ_=>{a with
       fork:=λ_=>⟨by simp_all,by simp_all,WtN a.ξ C⟩
       back:=λh=>by simp_all
       pos:=λh=>by simp_all
       unw:=λh=>by simp_all}
      comm:=λh=>by simp_all}
    .split
     .grind [WtE]
     .split
      .refine h.st ?_;have t:=xM u ‹_›;have o:stk p.1 (i+1)=stk p.1 i:=gO b (by omega) (by omega);simp only[s];refine{e with C4:=λ_=>RLive.on c a f b d (by omega) (by omega) a.ξ a.μ (by omega) (λr j=>?_) (by simp) (by omega) (g.mono o (by omega) (by simp) (by omega)) a.pb};rcases Xn.1 j with j|j
       .exact a.ι r j
       .rw[bH]at j;subst j;have:=t.1;unfold bY at this;exact⟨by simp_all,a.ξ.get _⟩
      .split
       .refine h.st ?_;obtain⟨G,s2⟩:=c.sk i b ‹_›;have t:=qx u ‹_›;have o:stk p.1 (i+1)=stk p.1 i:=gO b (by omega) (by omega);have F:stk p.1 (i+1+p.1[i].2.2.1.toNat)=stk p.1 i:=by grind [Mi]
        by_cases y:ah x.ξ p.1[i].2.1 0=0
        .simp only[Wb y,show x.pc+p.1[i].2.2.1+1=((i+1+p.1[i].2.2.1.toNat:Nat):Int) by omega];exact{e with C4:=λ_=>RLive.on c a f b d G (by omega) a.ξ a.μ (by omega) a.ι (by omega) (by omega) (g.mono F (by omega) (by omega) (by omega)) a.pb}
        .simp only[Wa y,s];exact{e with C4:=λ_=>RLive.on c a f b d (by omega) (by omega) a.ξ a.μ (by omega) a.ι (by omega) (by omega) (g.mono o (by omega) (by omega) (by omega)) a.pb}
       .split
        .refine h.st ?_;simp only[s];rw[d];exact{e with C4:=λ_=>RLive.on c a f b d (by omega) (by omega) a.ξ a.μ (by omega) a.ι (by omega) (by omega) (g.begin b ‹_› a.ξ (by omega) (by omega) (by omega)) a.pb}
        .split
         .rename_i h9;refine h.st ?_;have v:x.κ.length≠0:=λv=>by
           have f:=Wp Xb g.pcs;simp only[Xy,v]at f;have O:=fh c.up i (by omega);have P:=c.up i b
           grind [gD,qp]
          obtain⟨m,q,A,H,⟨S,U⟩,I,J,K,L,B,M,R,W,Z,V,Y⟩:=a.mk24 c v;simp only[s];rw[B];exact{e with rg:=Vals.le4 (a.ξ.set _ (by omega)),C4:=λ_=>RLive.on c a f b d (by omega) (by omega) (a.ξ.set _ (by omega)) a.μ (by omega) a.ι (by omega) (by omega) (g.drop A (qu b h9) (by omega) (by omega) (by omega)) a.pb}
         .refine h.st ?_;have o:stk p.1 (i+1)=stk p.1 i:=gO b (by omega) (by omega);simp only[s];exact{e with rg:=Vals.le4 (G4 u (by omega) (by omega) a.ξ),C4:=λ_=>RLive.on c a f b d (by omega) (by omega) (G4 u (by omega) (by omega) a.ξ) a.μ (by omega) a.ι (by omega) (by omega) (g.mono o (by omega) (by omega) (by omega)) a.pb}
theorem WwB(h:GOk w)(a:ROk p n x)(c:x.ζ=0)(f:0<=(p.1.length:Int)):QOk p n w (il w x k):=by
 have d:=WP h.mem;unfold il;split
 .exact h.st a
 .split
  .exact h.qt a _
  .split
   .exact h.st a
   .refine h.st ?_;exact{
     ζ:=by simp_all
     CY:=a.CY
     C4:=λ_=>{
      pc:=by simp_all
      Da:=by simp_all
      rv:=⟨d.2.1,d.2.2.1⟩
      ξ:=⟨rfl,λv g=>by simp_all⟩
      μ:=λr b=>by cases b
      rl:=by simp;omega
      ι:=λr b=>by cases b
      wl:=by simp
      ul:=by simp
      κ:=⟨by simp[stk],(λq e=>by cases e),List.Pairwise.nil⟩
      pb:=λh=>by cases h
      fork:=λh=>by simp_all
      back:=λh=>by simp_all
      C8:=by simp_all
      pos:=λh=>by simp_all
      unw:=λh=>by simp_all}
     comm:=λh=>by simp_all
     ο:=λu c=>by cases c
     ul:=by simp
     rg:=by simp
     ord:=by simp}
theorem WnY{codes:List (List Opn)}{f:Fm}(h:FOk codes n f):aZ (jV f)/\(jV f).length<=8:=by
 refine⟨λr b=>?_,by unfold jV;rw[Xy];exact h.buf8⟩;obtain⟨e,a,rfl⟩:=Xz.1 b;have:=h.bufE e a;omega
theorem Qy{codes:List (List Opn)}{f:Fm}(h:FOk codes n f)(c:codes.length<=3):Vals 4 (oi f):=by
 have d:=h.len;have b:=h.ξ;unfold oi;rw[Wb ⟨lI.2 b,by omega⟩];refine⟨by simp[b.len];omega,λv a=>?_⟩;rcases Xn.1 a with a|a
 .obtain⟨y,e,rfl⟩:=Xz.1 a;unfold NA;split
  .rename_i hc;exact(lI.1 hc.2).get _
  .omega
 .exact b.val v (List.mem_of_mem_drop a)
theorem WvA(e:POk p)(f:ROk p n x)(w:x.ζ=2):ROk p n (eD x):=by
 have a:=f.C4 (by omega);have g:=e.θ;obtain⟨u,j,b⟩:=a.fork w;obtain⟨i,k,s,y⟩:=kV (l:=p.1) a.pc.1 u;rw[y]at j;have d:=a.κ;have t:=a.rl;have C:=a.ul;rw[s,Xi]at d t;unfold eD;split
 .exact A8 f
 .split
  .have hz:x.κ= []:=by
    have v:=Wp Xb d.pcs;simp only[Xy]at v;have D:=fh g.up i (by omega);have E:=(g.fk i k j).1;simp_all
   have o:stk p.1 (i+1)=stk p.1 i:=gO k (by omega) (by omega);have m:=WnY b;have A:=b.len3 e.k3;have B:=b.readsL;have F:frk p.1 (i+1)=frk p.1 i+1:=by grind [Bk]
   exact{f with
    ζ:=by simp_all
    rg:=(Qy b e.k3).le4
    ord:=A
    C4:=λ_=>{a with
     pc:=by grind
     ξ:=Qy b e.k3
     μ:=λr c=>by
      rcases Xn.1 c with c|c
      .exact a.μ r c
      .exact b.readsE r c
     rl:=by
      grind
     ι:=m.1
     wl:=by grind
     ul:=by grind
     κ:=by
      show RMk p.1 (x.pc+1).toNat x.κ _ _ _;rw[show(x.pc+1).toNat=i+1 by omega];rw[hz]at d⊢;exact⟨by rw[o];exact d.pcs,(λq z=>by cases z),List.Pairwise.nil⟩
     fork:=λh=>by simp_all
     back:=λh=>by simp_all
     pos:=λh=>by simp_all
     unw:=λh=>by simp_all}
    comm:=λh=>by simp_all}
  .exact f
theorem WrW(c:POk p)(h:GOk w)(b:ROk p n x)(f:x.ζ=3):QOk p n w (hV w x):=by
 have a:=b.C4 (by omega);have d:=a.back (.inl f);obtain⟨m,q,g,i,⟨u,v⟩,j,k,l,o,r,s,t,z,B,y,A⟩:=a.mk24 c.θ d;have e:=WP h.mem;unfold hV;split
 .exact MW h b (by omega) λ_=>⟨c.θ,λ_=>by omega⟩
 .refine h.st ?_;exact{b with
   ζ:=by simp_all
   C4:=λ_=>{a with
    fork:=λh=>by simp_all
    back:=λ_=>d
    C8:=⟨e.2.1,e.2.2.1⟩
    pos:=λ_=>by(show(0:Int)<=0/\(0:Int)<=x.last.2.1;omega)
    unw:=λ_=>by(show(x.ο.length:Int)<=x.last.2.2.2.1;omega)}
   comm:=λh=>by simp_all}
theorem Wrh(u:POk p)(h:GOk w)(b:ROk p n x)(d:x.ζ=4):ROk p n (ez w x):=by
 have a:=b.C4 (by omega);have v:=a.back (.inr d);have F:=a.pos d;obtain⟨m,q,f,g,⟨z,A⟩,G,H,I,s,J,i,y,M,N,L,B⟩:=a.mk24 u.θ v;unfold ez;split
 .simp only;split
  .exact A8 b
  .exact{b with C4:=λ_=>{a with pos:=λ_=>by(show 0<=x.pos+1/\x.pos+1<=x.last.2.1;omega)}}
 .rename_i fK;have l:stk p.1 (m+1)=stk p.1 x.pc.toNat:=by
   have E:=a.pc;rw[oJ z A,s];rcases pH (stk p.1 x.pc.toNat)with K|⟨t,j,k⟩
   .have h1:=Wp Xb a.κ.pcs;simp_all
   .have h1:=a.κ.pcs;rw[f,k]at h1;simp only[Xw,List.map_cons,List.map_nil]at h1;have c:=(List.append_inj' h1 rfl).2;injection c with c;rw[g]at c;rw[k,List.dropLast_concat,show m=j by omega]
  have O:=ML p.1 (show m<=m+1 by omega);rw[g,Xi]at y;have o:x.last.1+1=((m+1:Nat):Int):=by omega
  have C:(aI x.last.2.1.toNat x.μ).length=x.last.2.1.toNat:=by simp_all
  have D:(aI x.last.2.2.1.toNat x.ι).length=x.last.2.2.1.toNat:=by simp_all
  exact{b with
   ζ:=by simp_all
   rg:=i.le4
   C4:=λ_=>{a with
    pc:=by grind
    rv:=a.C8
    ξ:=i
    μ:=λr e=>a.μ r (jO e)
    rl:=by
     grind
    ι:=λr e=>a.ι r (jO e)
    wl:=by grind
    ul:=by
     show(x.ο.length:Int)<=x.last.1+1;have:=a.unw d;omega
    κ:=by
     show RMk p.1 (x.last.1+1).toNat x.κ (aI x.last.2.1.toNat x.μ).length (aI x.last.2.2.1.toNat x.ι).length x.ο.length;rw[o,Xi,C,D];exact(a.κ.cut f (by omega) (by omega) B).mono l (Xl _) (Xl _) (Xl _)
    fork:=λh=>by simp_all
    back:=λh=>by omega
    C8:=by simp_all
    pos:=λh=>by simp_all
    unw:=λh=>by simp_all}
   comm:=λh=>by simp_all}
end
end
section
section
variable{R:Type}{N kk:Nat}{p:Pg}{th:List Int×List Int×Int}{K0:List Int->Option R}{K1:Int->Bool->List Int->Int->List M7->List Int->List Int->Option R}
 {w v:Wo} {x y:Rt} {n:Int} {l:List Int} {r c:List Int} {S:List Int×Int} {mk:List M7} {pc:Nat} {k:Nat} {m m':Mm} {u:Un}
noncomputable def wA(N kk:Nat)(p:Pg)(th:List Int×List Int×Int)(K0:List Int->Option R)(K1:Int->Bool->List Int->Int->List M7->List Int->List Int->Option R)(l:List Int)(n:Nat)(pc:Int)(r:List Int)(S:List Int×Int)(mk:List M7)(c:List Int):Option R:=
 wk N (Zj N (kk+1)) p.1 p.2 l th.2.2 th.1 th.2.1 K0 K1 n pc r S.2 mk c S.1
noncomputable def bgn(N kk:Nat)(p:Pg)(th:List Int×List Int×Int)(K0:List Int->Option R)(K1:Int->Bool->List Int->Int->List M7->List Int->List Int->Option R)(l:List Int):Option R:=
 wA N kk p th K0 K1 l N 0 [0,0,0,0] (th.2.1,th.2.2) [] th.1
def WAt(N kk:Nat)(p:Pg)(th:List Int×List Int×Int)(K0:List Int->Option R)(K1:Int->Bool->List Int->Int->List M7->List Int->List Int->Option R)(l:List Int)(pc:Int)(r:List Int)(S:List Int×Int)(mk:List M7)(c:List Int):Prop:=
 ∃n:Nat,(N:Int)<=n+pc/\bgn N kk p th K0 K1 l=wA N kk p th K0 K1 l n pc r S mk c
theorem WAt.on{dq:Int}{d c':List Int}{b:List Int×Int}{a:List M7}(h:WAt N kk p th K0 K1 l (pc:Int) r S mk c)(m:1048576<N)(j:pc<=24)(i:(pc:Int)<dq)
  (f:∀n,wA N kk p th K0 K1 l (n+1) (pc:Int) r S mk c=wA N kk p th K0 K1 l n dq d b a c'):WAt N kk p th K0 K1 l dq d b a c':=by
 obtain⟨n,k,e⟩:=h;obtain⟨g,rfl⟩:∃g,n=g+1:=⟨n-1,by omega⟩;exact⟨g,by omega,e.trans (f g)⟩
theorem WAt.fin{a:Option R}(h:WAt N kk p th K0 K1 l (pc:Int) r S mk c)(f:1048576<N)(b:pc<=24)(i:∀n,wA N kk p th K0 K1 l (n+1) (pc:Int) r S mk c=a):bgn N kk p th K0 K1 l=a:=by
 obtain⟨n,d,e⟩:=h;obtain⟨g,rfl⟩:∃g,n=g+1:=⟨n-1,by omega⟩;simp_all
def cm7(a:List Int)(ws:List Rw)(us:List Un)(S:List Int×Int)(q:RM):M7:=(q.1,(q.2.2.2.2,(ovl a (ws.take q.2.2.1.toNat),gQ S (us.drop q.2.2.2.1.toNat))))
structure OF(p:Pg)(fk:Bool)(x:Rt):Prop where
 no:fk=false->x.υ= []
 yes:fk=true->(p.2.length,x.υ)∈lW
theorem Mj{α:Type}{a b:List α}{k:Nat}(h:k<=a.length):(a++b).take k=a.take k:=List.take_append_of_le_length h
theorem TR{a:List Int}{ws:List Rw}{c v:Int}(e:Vals 8 a)(g:aZ ws)(f:ws.length<=300)(b:0<=c)(d:c<=7):(bm ws c=some v->(ovl a ws).getD c.toNat 0=v)/\(bm ws c=none->(ovl a ws).getD c.toNat 0=a.getD c.toNat 0):=by
 grind [AE,mK]
end
end
end Go.Sx
