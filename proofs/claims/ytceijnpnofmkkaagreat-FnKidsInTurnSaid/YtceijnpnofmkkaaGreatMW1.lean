/- Plain laws of the Lean functions. -/
import Derived.Test.YtceijnpnofmkkaaGreatT2
open Nat renaming le_trans→Xco,and_le_right→Xgw,le_refl→Xn,zero_add→Xbb,add_zero→Xax,add_assoc→Xay,sub_zero→Xdj
open List renaming getD→Xc,getElem_mem→Xp,mem_cons→Xr,append→Xf,append_eq→Xal,length→Xa,take→Xat,length_append→Xz,length_cons→Xs,mem_cons_self→Xh,mem_cons_of_mem→Xe,all_eq_true→Xac,set→Xl,set_set→Xdi,take_succ_eq_append_getElem→Xcd,countP_le_length→Xer,length_dropLast→Xds,append_inj'→Xdt,dropLast_concat→Xdu,length_set→Xab,pairwise_cons→Xy,mergeSort_perm→Xgi,getElem_of_mem→Xam,pairwise_iff_getElem→Xar,mem_iff_getElem→Xew,getElem_set→Xao,range→Xda,map_append→Xu,map_cons→Xak,map_nil→Xbp,map_set→Xfu,length_map→Xae,set_getElem_self→Xaz,range'→Xgu,mem_range'_1→Xgs,mem_append→Xm,pairwise_append→Xah,mem_singleton→Xaf,getElem?_eq_getElem→Xq,drop_length→Xdh,drop_eq_getElem_cons→Xck,drop_zero→Xch,countP_set→Xgx
open Int renaming toNat→Xb,tmod_eq_emod_of_nonneg→Xcy,eq_ofNat_of_zero_le→Xfv,toNat_natCast→Xj,le_refl→Xo
open Option renaming bind_some→Xd
open Bool renaming not_true→Xx,and_eq_true→Xi,or_eq_true→Xbw,not_eq_true'→Xaq,not_eq_true→Xfo,false_or→Xfg,toNat_false→Xfn,false_and→Xfc,true_and→Xbu,or_eq_false_iff→Xdp,not_eq_false'→Xfd
namespace Go.Sx
set_option linter.unusedVariables false
set_option linter.unusedSimpArgs false
section
abbrev Cur:=List Int×Int×Int
def WaU(c:Cur):Prop:=0<=c.2.1/\c.2.1<=c.1.length/\c.1.length<=1048576
def WsX{α:Type}(P:α->Prop)(r:Option ((Cur×Unit)×(α×Unit))):Prop:=∃c v,r=some ((c,()),(v,()))/\WaU c/\P v
theorem Wo4(x:Int):∃n:Nat,n<=255/\WuV .i64 x 255=n:=by
 refine⟨(BitVec.ofInt 64 x&&&BitVec.ofInt 64 255).toNat,?_,?_⟩
 .simp[BitVec.toNat_and,Xco,Xgw]
 .unfold WuV;have:(BitVec.ofInt 64 x&&&BitVec.ofInt 64 255).toNat<=255:=by
   simp[BitVec.toNat_and,Xco,Xgw]
  exact wrap_i64 (Wwg (p:=(BitVec.ofInt 64 x&&&BitVec.ofInt 64 255).toNat) (by omega))
theorem WtX{N:Nat}{code:List Int}(h:code.length<=1048576)(hN:1048576<N):∃c,WaU c/\Zit N code=ret c:=by
 have key:∀(n j:Nat) (v:Int),j<=code.length->code.length-j<n->∃hh i t,∀{R:Type} (K:Int->Int->Bool->Option R),Zci N code K n v (j:Int)=K hh i t:=by
  intro n
  induction n with
  |zero=>omega
  |succ n ih=>
   intro j v h1 h2;by_cases hj:j<code.length
   .by_cases h4:j<4000
    .obtain⟨hh,i,t,e⟩:=ih (j+1) _ hj (by omega);refine⟨hh,i,t,λK=>?_⟩;have e1:decide ((j:Int)<4000)=true:=by simp;omega
     simp only[Zci,Wat hj,WC hj,e1,Wc,Wt (show j<4611686018427387904 by omega)];exact e K
    .refine⟨v,j,decide ((j:Int)<4000),λK=>?_⟩;have e1:decide ((j:Int)<4000)=false:=by simp;omega
     simp only[Zci,Wat hj,e1,Wc,We]
   .refine⟨v,j,false,λK=>?_⟩;simp_all [Zci,WaO,We]
 obtain⟨hh,i,t,e⟩:=key N 0 (Wm .i64 10101 (Wj code)) (Nat.zero_le _) (by omega);refine⟨(code,0,hh),⟨by simp,by simp,h⟩,?_⟩
 grind [Zit]
theorem WeN{N:Nat}{c:Cur}(h:WaU c):WsX (λv=>0<=v/\v<=255) (Zfd N c):=by
 unfold Zfd;obtain⟨h1,h2,h3⟩:=h;have e1:inn 33=true:=rfl;have e2:inn 45=true:=rfl;simp only[e1,e2,Wc];by_cases hi:c.2.1<c.1.length
 .have e3:decide (c.2.1<Wj c.1)=true:=Wf hi;have e4:inb c.2.1 c.1.length=true:=by grind [inb]
  have e5:Wm .i64 c.2.1 1=c.2.1+1:=WL (by unfold I64;omega);rw[e3,e4,e5];simp only[Wc];obtain⟨n,hn,e⟩:=Wo4 (Wm .i64 (WuV .i64 (WwD .i64 (WrS .i64 (Wm .i64 (Wgb .i64 c.2.2 (6364136223846793005:Int)) (1442695040888963407:Int)) (33:Int)) (WrS .i64 (Wm .i64 (Wgb .i64 c.2.2 (6364136223846793005:Int)) (1442695040888963407:Int)) (45:Int))) (255:Int)) (IntKind.wrap .i64 (Xc c.1 (Xb c.2.1) (0:Int))));exact⟨_,_,rfl,⟨by simp;omega,by simp;omega,h3⟩,by omega⟩
 .have e3:decide (c.2.1<Wj c.1)=false:=Wx hi;rw[e3];simp only[We];obtain⟨n,hn,e⟩:=Wo4 (WwD .i64 (WrS .i64 (Wm .i64 (Wgb .i64 c.2.2 (6364136223846793005:Int)) (1442695040888963407:Int)) (33:Int)) (WrS .i64 (Wm .i64 (Wgb .i64 c.2.2 (6364136223846793005:Int)) (1442695040888963407:Int)) (45:Int)));exact⟨_,_,rfl,⟨h1,h2,h3⟩,by omega⟩
theorem Wo2{v n:Int}(hv:0<=v)(hn:0<n):0<=Whx v n/\Whx v n<n:=by
 have e:Whx v n=v%n:=by grind [Whx,Xcy]
 rw[e];exact⟨Int.emod_nonneg v (by omega),Int.emod_lt_of_pos v hn⟩
theorem WgZ{N:Nat}{c:Cur}{n:Int}(h:WaU c):WsX (λv=>(n<=0->v=0)/\(0<n->0<=v/\v<n)) (Zb N c n):=by
 unfold Zb;by_cases h0:n<=0
 .have e:decide (n<=0)=true:=by simp_all
  rw[e];exact⟨_,_,rfl,h,λ_=>rfl,λh=>by omega⟩
 .have e:decide (n<=0)=false:=by simp_all
  have ez:inz n=true:=by grind [inz]
  rw[e];simp only[We,ez,Wc];by_cases h1:n<=256
  .have e:decide (n<=256)=true:=by simpa using h1
   rw[e];obtain⟨c1,v,e1,hc,hv⟩:=WeN (N:=N) h;rw[e1];have:=Wo2 hv.1 (show 0<n by omega);exact⟨_,_,rfl,hc,λh=>by omega,λ_=>this⟩
  .have e:decide (n<=256)=false:=by simpa using h1
   rw[e];obtain⟨c1,v1,e1,m7,uO⟩:=WeN (N:=N) h;obtain⟨c2,v2,e2,fb,gS⟩:=WeN (N:=N) m7;obtain⟨c3,v3,e3,rn,wI⟩:=WeN (N:=N) fb;obtain⟨c4,v4,e4,uA,hv4⟩:=WeN (N:=N) rn;simp only[We,e1,e2,e3,e4,Xd];have m1:Wgb .i64 v1 16777216=v1*16777216:=WdO (by unfold I64;omega);have m2:Wgb .i64 v2 65536=v2*65536:=WdO (by unfold I64;omega);have m3:Wgb .i64 v3 256=v3*256:=WdO (by unfold I64;omega);have a1:Wm .i64 (v1*16777216) (v2*65536)=v1*16777216+v2*65536:=WL (by unfold I64;omega);have a2:Wm .i64 (v1*16777216+v2*65536) (v3*256)=v1*16777216+v2*65536+v3*256:=WL (by unfold I64;omega);have a3:Wm .i64 (v1*16777216+v2*65536+v3*256) v4=v1*16777216+v2*65536+v3*256+v4:=WL (by unfold I64;omega);rw[m1,m2,m3,a1,a2,a3];have:=Wo2 (show 0<=v1*16777216+v2*65536+v3*256+v4 by omega) (show 0<n by omega);exact⟨_,_,rfl,uA,λh=>by omega,λ_=>this⟩
end
section
theorem WsC{N:Nat}{c:Cur}{n:Int}(h:WaU c):WsX (λ_=>True) (Zp N c n):=by
 unfold Zp;obtain⟨c1,v,e1,hc,hv⟩:=WgZ (N:=N) (n:=n) h;rw[e1];exact⟨_,_,rfl,hc,trivial⟩
theorem Ws8{N:Nat}{c:Cur}{l:List Int}(h:WaU c)(hl:0<l.length)(gw:l.length<4611686018427387904):WsX (λv=>v∈l) (Zbj N c l):=by
 unfold Zbj;obtain⟨c1,v,e1,hc,hv⟩:=WgZ (N:=N) (n:=Wj l) h;rw[e1];have hv:=hv.2 (by unfold Wj;omega);unfold Wj at hv;obtain⟨q,rfl⟩:=Xfv hv.1;have hq:q<l.length:=by omega
 simp only[Xd,WC hq,Wc,WJ hq];exact⟨_,_,rfl,hc,Xp hq⟩
end
section
def Wbj(v:Int):Bool:=decide (0<=v)&&decide (v<=65535)
theorem Wqk{N:Nat}{x a b:Int}:Zb4 N x a b=ret (decide (a<=x)&&decide (x<=b)):=by
 unfold Zb4;by_cases h:a<=x<;>simp[h]
theorem W3{N:Nat}{x a b:Int}:Zm N x a b=ret (decide (a<=x)&&decide (x<=b)):=by
 unfold Zm;by_cases h:a<=x<;>simp[h]
theorem WcF{α:Type}{p:α->Bool}(l:List α):(l.any λx=>!p x)= !l.all p:=by
 grind
abbrev Rw:=Int×Int
def Waf(v:Int):Bool:=decide (0<=v)&&decide (v<=7)
def Wlr(r:Rw):Bool:=Waf r.1&&Wbj r.2
def Wa9(l:List Rw):Bool:=decide (l.length<=300)&&l.all Wlr
def WeB(l:List Int):Bool:=decide (l.length=8)&&l.all Wbj
theorem WfX{N:Nat}{v:Int}:Zg0 N v=ret (Wbj v):=by
 unfold Zg0;simp only[Wqk,ret,Xd];rfl
theorem WaF{N:Nat}{v:Int}:Zau N v=ret (Wbj v):=by
 unfold Zau;simp only[W3,ret,Xd];rfl
theorem WmT{N:Nat}{v:Int}:Zho N v=ret (Waf v):=by
 unfold Zho;simp only[Wqk,ret,Xd];rfl
theorem WaN{N:Nat}{v:Int}:Zbd N v=ret (Waf v):=by
 unfold Zbd;simp only[W3,ret,Xd];rfl
theorem Wm7{N:Nat}{l:List Int}(hl:l.length<=1048576)(hN:1048576<N):Zhn N l=ret (WeB l):=by
 unfold Zhn WeB;by_cases h:l.length=8
 .have e:(Wj l !=8)=false:=by simp[Wj,h]
  rw[e];simp only[We];have h1:=WV (l:=l) (V:=Unit) (R:=Unit×Ko) (lp:=λn j v=>Zcy N l (some ((),(false,()))) (λi8 t9=>some ((),(true,()))) n j) (n:=N) (by omega)
   (body:=λj x v k=>bif !Wbj x then some ((),(false,()))else k v) (K:=λ_ v=>some ((),(true,())))
   (λn i v hi=>by simp only[Zcy,Wat hi,WC hi,WJ hi,Wt (show i<4611686018427387904 by omega),Wc,WfX,ret,Xd])
   (λn v=>by simp[Zcy,WaO,Xn,We]) ()
  refine h1.trans ?_;rw[WaM (p:=λx=>!Wbj x) (E:=λ_=>some ((),(false,()))) l 0 () (λj x v k _=>rfl),WcF];cases l.all Wbj<;>simp[h]
 grind [Wj]
theorem Whj{N:Nat}{l:List Int}(hl:l.length<=1048576)(hN:1048576<N):Zae N l 8=ret (WeB l):=by
 unfold Zae WeB;have h1:=WV (l:=l) (V:=Unit) (R:=Unit×Ko) (lp:=λn j v=>Zax N l 8 (some ((),(false,()))) (λi8 t9=>some ((),((Wj l)==(8:Int),()))) n j) (n:=N) (by omega)
  (body:=λj x v k=>bif !Wbj x then some ((),(false,()))else k v) (K:=λ_ v=>some ((),((Wj l)==(8:Int),())))
  (λn i v hi=>by simp only[Zax,Wat hi,WC hi,WJ hi,Wt (show i<4611686018427387904 by omega),Wc,WaF,ret,Xd])
  (λn v=>by simp[Zax,WaO,Xn,We]) ()
 refine h1.trans ?_;rw[WaM (p:=λx=>!Wbj x) (E:=λ_=>some ((),(false,()))) l 0 () (λj x v k _=>rfl),WcF];have e:((Wj l)==(8:Int))=decide (l.length=8):=by
  grind [Wj]
 rw[e];cases l.all Wbj<;>simp
theorem WcA{N:Nat}{l:List Rw}(hl:l.length<=1048576)(hN:1048576<N):Zcp N l=ret (Wa9 l):=by
 unfold Zcp Wa9;have h1:=WV (l:=l) (V:=Unit) (R:=Unit×Ko) (lp:=λn j v=>Zc0 N l (some ((),(false,()))) (λi8 t9=>some ((),(decide ((Wj l)<=(300:Int)),()))) n j) (n:=N) (by omega)
  (body:=λj x v k=>bif !Wlr x then some ((),(false,()))else k v) (K:=λ_ v=>some ((),(decide ((Wj l)<=(300:Int)),())))
  (λn i v hi=>by
   simp only[Zc0,Wat hi,WC hi,WJ hi,Wt (show i<4611686018427387904 by omega),Wc,WaF,WaN,ret,Xd,Wlr];cases Waf l[i].1<;>rfl)
  (λn v=>by simp[Zc0,WaO,Xn,We]) ()
 refine h1.trans ?_;rw[WaM (p:=λx=>!Wlr x) (E:=λ_=>some ((),(false,()))) l 0 () (λj x v k _=>rfl),WcF];have e:decide (Wj l<=300)=decide (l.length<=300):=by apply decide_eq_decide.2;simp[Wj];omega
 rw[e];cases l.all Wlr<;>simp
theorem Wuc{α:Type}{l:List α}(h:l.length<=1048576):WN l.length=true:=by grind [WN]
end
section
abbrev Opn:=Int×Int×Int×Int
def Waa(v:Int):Bool:=decide (0<=v)&&decide (v<=3)
def Wfp(v:Int):Bool:=decide (0<=v)&&decide (v<=7)
theorem Won{N:Nat}{v:Int}:Zbs N v=ret (Waa v):=by
 unfold Zbs;simp only[Wqk,ret,Xd];rfl
theorem Woa{N:Nat}{v:Int}:Zbu N v=ret (Waa v):=by
 unfold Zbu;simp only[W3,ret,Xd];rfl
theorem Wn3{N:Nat}{v:Int}:Za6 N v=ret (Wfp v):=by
 unfold Za6;simp only[W3,ret,Xd];rfl
def Wd1(o:Opn):Bool:=
 bif o.1==1 then Waa o.2.1&&Wbj o.2.2.1&&(o.2.2.2==(0:Int))else
 bif o.1==2 then Waa o.2.1&&Waa o.2.2.1&&Waa o.2.2.2 else
 bif o.1==3 then Waa o.2.1&&Waa o.2.2.1&&Waa o.2.2.2 else
 bif o.1==4 then Waa o.2.1&&Waa o.2.2.1&&Waa o.2.2.2 else
 bif o.1==5 then Waa o.2.1&&Waf o.2.2.1&&(o.2.2.2==(0:Int))else
 bif o.1==6 then Waf o.2.1&&Waa o.2.2.1&&(o.2.2.2==(0:Int))else
 bif o.1==7 then Waa o.2.1&&(decide (1<=o.2.2.1)&&decide (o.2.2.1<=20))&&(o.2.2.2==(0:Int))else
 bif o.1==8 then Waa o.2.1&&(o.2.2.1==(0:Int))&&(o.2.2.2==(0:Int))else
 bif o.1==9 then(o.2.1==(0:Int))&&(o.2.2.1==(0:Int))&&(o.2.2.2==(0:Int))else
 bif o.1==10 then(o.2.1==(0:Int))&&(o.2.2.1==(0:Int))&&(o.2.2.2==(0:Int))else
 bif o.1==11 then(o.2.1==(0:Int))&&(o.2.2.1==(0:Int))&&(o.2.2.2==(0:Int))else
 bif o.1==12 then Wfp o.2.1&&Waa o.2.2.1&&Waa o.2.2.2 else
 bif o.1==13 then Waa o.2.1&&Wfp o.2.2.1&&(o.2.2.2==(0:Int))else
 bif o.1==14 then Wfp o.2.1&&Waa o.2.2.1&&(o.2.2.2==(0:Int))else
 bif o.1==15 then Waa o.2.1&&(o.2.2.1==(0:Int))&&(o.2.2.2==(0:Int))else
 bif o.1==16 then Waa o.2.1&&(o.2.2.1==(0:Int))&&(o.2.2.2==(0:Int))else
 false
abbrev Bo:=Option Ke
def oA(p k:Bo):Bo:=p.bind λo=>bif o.2.1 then k else some ((),(false,()))
def oB(p:Bo):Bo:=p.bind λo=>some ((),(o.2.1,()))
theorem o3{T P Q R:Bo}{p q r:Bool}(h:T=oA P (oA Q (oB R)))(hp:P=ret p)(hq:Q=ret q)(hr:R=ret r):T=ret (p&&q&&r):=by
 rw[h,hp,hq,hr];cases p<;>cases q<;>rfl
theorem z0(v:Int):(ret (v==(0:Int)):Bo)=ret (v==(0:Int)):=rfl
theorem sR(N:Nat)(v:Int):Zbs N v=ret (Waa v):=Won
theorem sV(N:Nat)(v:Int):Zg0 N v=ret (Wbj v):=WfX
theorem sC(N:Nat)(v:Int):Zho N v=ret (Waf v):=WmT
theorem sK(N:Nat)(v:Int):Zb4 N v 0 7=ret (Wfp v):=Wqk
theorem sI(N:Nat)(v:Int):Zb4 N v 1 20=ret (decide (1<=v)&&decide (v<=20)):=Wqk
theorem iR(N:Nat)(v:Int):Zbu N v=ret (Waa v):=Woa
theorem iV(N:Nat)(v:Int):Zau N v=ret (Wbj v):=WaF
theorem iC(N:Nat)(v:Int):Zbd N v=ret (Waf v):=WaN
theorem iK(N:Nat)(v:Int):Za6 N v=ret (Wfp v):=Wn3
theorem iI(N:Nat)(v:Int):Zm N v 1 20=ret (decide (1<=v)&&decide (v<=20)):=W3
def kds:List Int:=[1,2,3,4,5,6,7,8,9,10,11,12,13,14,15,16]
theorem WwT{P:Int->Prop}(h1:P 1)(h2:P 2)(h3:P 3)(h4:P 4)(h5:P 5)(h6:P 6)(h7:P 7)(h8:P 8)(h9:P 9)(cP:P 10)(fI:P 11)(fv:P 12)(nY:P 13)(wJ:P 14)(h15:P 15)(uB:P 16)
  (h0:∀k,(∀i,i∈kds->(k==i)=false)->P k) (k:Int):P k:=by
 by_cases h:k∈kds
 .simp only[kds,Xr,List.not_mem_nil,or_false]at h;rcases h with h|h|h|h|h|h|h|h|h|h|h|h|h|h|h|h<;>rw[h]<;>assumption
 .exact h0 k λi hi=>by
   rw[beq_eq_false_iff_ne];intro e;exact h (e▸hi)
theorem WcT{N:Nat}{o:Opn}:Zj0 N o=ret (Wd1 o):=by
 obtain⟨k,a,b,c⟩:=o;exact WwT (P:=λk=>Zj0 N (k,a,b,c)=ret (Wd1 (k,a,b,c)))
  (o3 (by kernel_rfl) (sR N a) (sV N b) (z0 c))
  (o3 (by kernel_rfl) (sR N a) (sR N b) (sR N c))
  (o3 (by kernel_rfl) (sR N a) (sR N b) (sR N c))
  (o3 (by kernel_rfl) (sR N a) (sR N b) (sR N c))
  (o3 (by kernel_rfl) (sR N a) (sC N b) (z0 c))
  (o3 (by kernel_rfl) (sC N a) (sR N b) (z0 c))
  (o3 (by kernel_rfl) (sR N a) (sI N b) (z0 c))
  (o3 (by kernel_rfl) (sR N a) (z0 b) (z0 c))
  (o3 (by kernel_rfl) (z0 a) (z0 b) (z0 c))
  (o3 (by kernel_rfl) (z0 a) (z0 b) (z0 c))
  (o3 (by kernel_rfl) (z0 a) (z0 b) (z0 c))
  (o3 (by kernel_rfl) (sK N a) (sR N b) (sR N c))
  (o3 (by kernel_rfl) (sR N a) (sK N b) (z0 c))
  (o3 (by kernel_rfl) (sK N a) (sR N b) (z0 c))
  (o3 (by kernel_rfl) (sR N a) (z0 b) (z0 c))
  (o3 (by kernel_rfl) (sR N a) (z0 b) (z0 c))
  (λk e=>by unfold Zj0 Wd1;simp(disch:=decide) only[e,We,WD]) k
theorem Wfb{N:Nat}{o:Opn}:Zgp N o=ret (Wd1 o):=by
 obtain⟨k,a,b,c⟩:=o;exact WwT (P:=λk=>Zgp N (k,a,b,c)=ret (Wd1 (k,a,b,c)))
  (o3 (by kernel_rfl) (iR N a) (iV N b) (z0 c))
  (o3 (by kernel_rfl) (iR N a) (iR N b) (iR N c))
  (o3 (by kernel_rfl) (iR N a) (iR N b) (iR N c))
  (o3 (by kernel_rfl) (iR N a) (iR N b) (iR N c))
  (o3 (by kernel_rfl) (iR N a) (iC N b) (z0 c))
  (o3 (by kernel_rfl) (iC N a) (iR N b) (z0 c))
  (o3 (by kernel_rfl) (iR N a) (iI N b) (z0 c))
  (o3 (by kernel_rfl) (iR N a) (z0 b) (z0 c))
  (o3 (by kernel_rfl) (z0 a) (z0 b) (z0 c))
  (o3 (by kernel_rfl) (z0 a) (z0 b) (z0 c))
  (o3 (by kernel_rfl) (z0 a) (z0 b) (z0 c))
  (o3 (by kernel_rfl) (iK N a) (iR N b) (iR N c))
  (o3 (by kernel_rfl) (iR N a) (iK N b) (z0 c))
  (o3 (by kernel_rfl) (iK N a) (iR N b) (z0 c))
  (o3 (by kernel_rfl) (iR N a) (z0 b) (z0 c))
  (o3 (by kernel_rfl) (iR N a) (z0 b) (z0 c))
  (λk e=>by unfold Zgp Wd1;simp(disch:=decide) only[e,We,WD]) k
end
section
def Drw{ρ:Type}(P:ρ->Prop)(r:Option ((Cur×Unit)×ρ)):Prop:=∃c v,r=some ((c,()),v)/\WaU c/\P v
theorem Drw.of{α:Type}{P:α->Prop}{r:Option ((Cur×Unit)×(α×Unit))}(h:WsX P r):Drw (λv:α×Unit=>P v.1) r:=by
 obtain⟨c,v,e,h1,h2⟩:=h;exact⟨c,(v,()),e,h1,h2⟩
theorem Drw.bind{ρ σ:Type}{P:ρ->Prop}{Q:σ->Prop}{r:Option ((Cur×Unit)×ρ)}{k:(Cur×Unit)×ρ->Option ((Cur×Unit)×σ)}(h:Drw P r)(hk:∀c v,WaU c->P v->Drw Q (k ((c,()),v))):Drw Q (r.bind k):=by
 obtain⟨c,v,e,h1,h2⟩:=h;simp_all
theorem Drw.ok{ρ:Type}{P:ρ->Prop}{c:Cur}{v:ρ}(hc:WaU c)(hv:P v):Drw P (some ((c,()),v)):=⟨c,v,rfl,hc,hv⟩
theorem Drw.bif{ρ:Type}{P:ρ->Prop}{b:Bool}{x y:Option ((Cur×Unit)×ρ)}(h1:b=true->Drw P x)(h2:b=false->Drw P y):Drw P (bif b then x else y):=by
 grind
theorem Drw.bifT{ρ:Type}{P:ρ->Prop}{b:Bool}{x y:Option ((Cur×Unit)×ρ)}(hb:b=true)(h1:Drw P x):Drw P (bif b then x else y):=by simp_all
theorem Drw.mono{ρ:Type}{P Q:ρ->Prop}{r:Option ((Cur×Unit)×ρ)}(h:Drw P r)(hq:∀v,P v->Q v):Drw Q r:=by
 obtain⟨c,v,e,h1,h2⟩:=h;exact⟨c,v,e,h1,hq v h2⟩
section
variable{N:Nat}{c:Cur}
theorem Wax(n:Int)(h:WaU c):Drw (λv:Int×Unit=>(n<=0->v.1=0)/\(0<n->0<=v.1/\v.1<n)) (Zb N c n):=.of (WgZ h)
theorem Wd3(n:Int)(h:WaU c):Drw (λ_:Bool×Unit=>True) (Zp N c n):=.of (WsC h)
theorem Wv2(l:List Int)(h:WaU c)(hl:0<l.length)(gw:l.length<1000):Drw (λv:Int×Unit=>v.1∈l) (Zbj N c l):=.of (Ws8 h hl (by omega))
theorem WxD(h:WaU c):Drw (λv:Int×Unit=>0<=v.1/\v.1<=3) (Za N c):=by
 unfold Za;exact(Wax 4 h).bind λc v hc hv=>.ok hc (by grind)
theorem Wxb(h:WaU c):Drw (λv:Int×Unit=>0<=v.1/\v.1<=65535) (Zgh N c):=by
 unfold Zgh;refine(Wd3 6 h).bind λc v hc _=>.bif (λ_=>?_) λ_=>?_
 .refine(Wv2 _ hc (by decide) (by decide)).bind λc v hc hv=>.ok hc ?_
  grind
 .exact(Wax 9 hc).bind λc v hc hv=>.ok hc (by grind)
theorem Wxt(h:WaU c):Drw (λv:Int×Unit=>0<=v.1/\v.1<=7) (Zbr N c):=by
 unfold Zbr;refine(Wd3 8 h).bind λc v hc _=>.bif (λ_=>?_) λ_=>?_
 .exact(Wax 8 hc).bind λc v hc hv=>.ok hc (by grind)
 .exact(Wax 3 hc).bind λc v hc hv=>.ok hc (by grind)
theorem WxI(h:WaU c):Drw (λv:Int×Unit=>True) (Zi N c):=by
 unfold Zi;refine(Wd3 4 h).bind λc v hc _=>.bif (λ_=>?_) λ_=>?_
 .exact(Wax 8 hc).bind λc v hc hv=>.ok hc trivial
 .exact(Wv2 _ hc (by decide) (by decide)).bind λc v hc hv=>.ok hc trivial
theorem WoX(kind:Int)(h:WaU c):Drw (λ_:Opn×Unit=>True) (Zh N c kind):=by
 unfold Zh
 repeat' first
  |with_reducible refine Drw.bif (λ_=>?_) λ_=>?_
  |with_reducible refine(WxD (by assumption)).bind λc v hc hv=>?_
  |with_reducible refine(Wxb (by assumption)).bind λc v hc hv=>?_
  |with_reducible refine(Wxt (by assumption)).bind λc v hc hv=>?_
  |with_reducible refine(WxI (by assumption)).bind λc v hc hv=>?_
  |with_reducible refine(Wax _ (by assumption)).bind λc v hc hv=>?_
  |with_reducible exact .ok (by assumption) trivial
theorem Wrn{rec:Cur->Int->Int->Bool->Option ((Cur×Unit)×(List Opn×Unit))}{most deep:Int}{kid:Bool}(hm:0<=most/\most<=100)
  (bi:∀c (m d:Int),WaU c->0<=m->m<most->Drw (λv:List Opn×Unit=>(v.1.length:Int)<=m+2) (rec c m d kid)):
  ∀(n i:Nat) (c:Cur) (l:List Opn),i<n->i<=1000->WaU c->(l.length:Int)<=most+2->Drw (λv:List Opn×Unit=>(v.1.length:Int)<=most+2) (Zc N rec most deep kid (λkT kU eF eH=>(some ((eF,()),(eH,())))) n (i:Int) c l)
 |0,i,c,l,h,_,_,_=>by omega
 |n+1,i,c,l,h,hib,hc,hl=>by
  have hs:(0:Int)<i->W6 .i64 (i:Int) 1=((i-1:Nat):Int):=λh0=>by grind [WaG,I64]
  have xL:W6 .i64 most (Wj l)=most-(l.length:Int):=WaG (by unfold I64 Wj;omega);have sw:W6 .i64 (most-(l.length:Int)) 3=most-(l.length:Int) -3:=WaG (by unfold I64;omega);simp only[Zc,xL,sw];refine .bif (λh0=>?_) λ_=>.ok hc hl;have h0:(i:Int)>0:=Wu h0;rw[hs h0];refine .bif (λh1=>?_) λ_=>.ok hc hl;have h1:(l.length:Int)<most:=Wu h1;have next:∀c' (l':List Opn),WaU c'->(l'.length:Int)<=most+2->Drw (λv:List Opn×Unit=>(v.1.length:Int)<=most+2) (Zc N rec most deep kid (λkT kU eF eH=>(some ((eF,()),(eH,())))) n ((i-1:Nat):Int) c' l'):=
   λc' l' h1 h2=>Wrn hm bi n (i-1) c' l' (by omega) (by omega) h1 h2
  have rm:∀(a:List Opn) (b:List Opn),(a.length:Int)+b.length<=1000->WN (a.length+b.length)=true:=λa b h=>WE (by omega);have wK:∀c' (o:Opn),WaU c'->Drw (λv:List Opn×Unit=>(v.1.length:Int)<=most+2) (bif WN (l.length+ [o].length)then Zc N rec most deep kid (λkT kU eF eH=>(some ((eF,()),(eH,())))) n ((i-1:Nat):Int) c' (Xf l [o])else none):=
   λc' o h2=>.bifT (rm _ _ (by simp;omega)) (next _ _ h2 (by grind [Xal]))
  refine(Wax 20 hc).bind λc v hc hv=>?_;have wL:∀c',WaU c'->(4:Int)<=most-(l.length:Int)->Drw (λv:List Opn×Unit=>(v.1.length:Int)<=most+2) ((rec c' (most-(l.length:Int) -3) (W6 .i64 deep 1) kid).bind λgj=>
           ((Zh N gj.1.1 (8:Int)).bind λfD=>
            (bif WN ((Xa l)+(Xa ([fD.2.1])))then
             (bif WN ((Xa (Xf l ([fD.2.1])))+(Xa gj.2.1))then
              ((Zp N fD.1.1 (3:Int)).bind λlP=>
               (bif lP.2.1 then
                (bif WN ((Xa (Xf (Xf l ([fD.2.1])) gj.2.1))+(Xa ([((10:Int),((0:Int),((0:Int),(0:Int))))])))then
                 (bif WN ((Xa (Xf (Xf (Xf l ([fD.2.1])) gj.2.1) ([((10:Int),((0:Int),((0:Int),(0:Int))))])))+(Xa ([((9:Int),((0:Int),((0:Int),(0:Int))))])))then
                  (Zc N rec most deep kid (λkT kU eF eH=>(some ((eF,()),(eH,())))) n ((i-1:Nat):Int) lP.1.1 (Xf (Xf (Xf (Xf l ([fD.2.1])) gj.2.1) ([((10:Int),((0:Int),((0:Int),(0:Int))))])) ([((9:Int),((0:Int),((0:Int),(0:Int))))])))else none)else none)
                else
                (bif WN ((Xa (Xf (Xf l ([fD.2.1])) gj.2.1))+(Xa ([((9:Int),((0:Int),((0:Int),(0:Int))))])))then
                 (Zc N rec most deep kid (λkT kU eF eH=>(some ((eF,()),(eH,())))) n ((i-1:Nat):Int) lP.1.1 (Xf (Xf (Xf l ([fD.2.1])) gj.2.1) ([((9:Int),((0:Int),((0:Int),(0:Int))))])))else none)))else none)else none))):=λc' hQ h4=>by
   refine(bi c' _ _ hQ (by omega) (by omega)).bind λc2 v2 fb gS=>(WoX 8 fb).bind λc3 v3 rn _=>?_;simp only[];refine .bifT (rm _ _ (by simp;omega)) (.bifT (rm _ _ (by grind [Xal])) ((Wd3 3 rn).bind λc4 v4 uA _=>.bif (λ_=>?_) λ_=>?_))
   .grind [Xal]
   grind [Xal]
  repeat' first
   |with_reducible exact wK _ _ (by assumption)
   |with_reducible refine Drw.bif (λ_=>?_) λ_=>?_
   |with_reducible refine(WoX _ (by assumption)).bind λc v hc hv=>?_
   |with_reducible refine(Wd3 _ (by assumption)).bind λc v hc hv=>?_
   |with_reducible refine(Wax _ (by assumption)).bind λc v hc hv=>?_
   |exact wL _ (by assumption) (by simp only[Wh,ge_iff_le]at*;omega)
  all_goals
   rename_i hx;have hx:=Wu hx;refine(bi _ 2 0 (by assumption) (by omega) (by omega)).bind λc2 v2 fb gS=>(WoX 7 fb).bind λc3 v3 rn _=>?_
   grind [Xal]
theorem WuK(hN:1048576<N):∀(m:Nat) (c:Cur) (most deep:Int) (kid:Bool),WaU c->0<=most->most<=100->most<m->Drw (λv:List Opn×Unit=>(v.1.length:Int)<=most+2) (Zd7 N m c most deep kid)
 |0,c,most,deep,kid,hc,h0,h1,h2=>by omega
 |m+1,c,most,deep,kid,hc,h0,h1,h2=>by
  unfold Zd7;refine(Wax most hc).bind λc v hc hv=>?_;have gS:0<=v.1/\v.1<=100:=by
   omega
  have e:Wm .i64 1 v.1=(((1+v.1).toNat:Nat):Int):=by grind [WL,I64]
  simp only[e];exact Wrn ⟨h0,h1⟩ (λc m' d hQ q0 q1=>WuK hN m c m' d kid hQ q0 (by omega) (by omega)) N _ c [] (by omega) (by omega) hc (by simp;omega)
theorem Ww1(hN:1048576<N){most deep:Int}{kid:Bool}(hc:WaU c)(h0:0<=most)(h1:most<=100):Drw (λv:List Opn×Unit=>v.1.length<=102) (Ziu N c most deep kid):=by
 unfold Ziu;exact(WuK hN N c most deep kid hc h0 h1 (by omega)).mono λv hv=>by omega
theorem Wpj(hN:1048576<N):∀(n i:Nat) (c:Cur) (l:List Int),8-i<n->i<=8->WaU c->l.length=i->
  Drw (λv:List Int×Unit=>v.1.length=8) (Zcf N (λsL aK bO aU=>(some ((bO,()),(aU,())))) n (i:Int) c l)
 |0,i,c,l,h,_,_,_=>by omega
 |n+1,i,c,l,h,hi,hc,hl=>by
  unfold Zcf;refine .bif (λh0=>?_) λh0=>.ok hc (by grind);have h0:(i:Int)<8:=Wu h0;rw[Wt (show i<4611686018427387904 by omega)];refine(Wxb hc).bind λc v hc hv=>.bifT (WE (by simp;omega)) ?_;exact Wpj hN n (i+1) c _ (by omega) (by omega) hc (by simp_all)
theorem Wxf(hN:1048576<N)(hc:WaU c):Drw (λv:List Int×Unit=>v.1.length=8) (Ze0 N c):=by
 unfold Ze0;exact Wpj hN N 0 c [] (by omega) (by omega) hc rfl
end
end
section
theorem WqN{α:Type}{a b:Option α}(h:a=b):Wgc a b=a:=by unfold Wgc;rw[Wb h]
section
variable{N:Nat}{c:Cur}
theorem WoR(hN:1048576<N){bn:List Opn}(fv:bn.length<=300):∀(n i:Nat) (c:Cur) (l:List (List Opn)),i<n->i<=100->WaU c->l.length+i<=100->(∀x∈l,x.length<=200)->
  Drw (λv:(List Opn×List (List Opn))×Unit=>v.1.1.length<=300/\v.1.2.length<=100/\∀x∈v.1.2,x.length<=200) (Ze1 N bn (λz8 eZ dA gW=>(some ((dA,()),((bn,gW),())))) n (i:Int) c l)
 |0,i,c,l,h,_,_,_,_=>by omega
 |n+1,i,c,l,h,hi,hc,hl,hx=>by
  unfold Ze1;refine .bif (λh0=>?_) λ_=>.ok hc ⟨fv,by simp_all,hx⟩;have h0:(i:Int)>0:=Wu h0;have e:W6 .i64 (i:Int) 1=((i-1:Nat):Int):=by grind [WaG,I64]
  rw[e];refine(Wax 5 hc).bind λc v hc hv=>?_;have hv:=hv.2 (by decide);have e2:Wm .i64 2 v.1=2+v.1:=WL (by unfold I64;omega);simp only[e2];refine(Ww1 hN hc (by omega) (by omega)).bind λc w hc hw=>.bifT (WE (by simp;omega)) ?_;refine WoR hN fv n (i-1) c _ (by omega) (by omega) hc (by grind [Xal]) λx lz=>?_
  grind [Xal]
theorem Wwr(hN:1048576<N){b:Bool}(hc:WaU c):Drw (λv:(List Opn×List (List Opn))×Unit=>v.1.1.length<=300/\v.1.2.length<=100/\∀x∈v.1.2,x.length<=200) (Zdj N c b):=by
 unfold Zdj;refine .bif (λ_=>?_) λ_=>?_
 .refine(Wax 8 hc).bind λc v hc hv=>?_;have hv:=hv.2 (by decide);have e2:Wm .i64 3 v.1=3+v.1:=WL (by unfold I64;omega);simp only[e2];exact(Ww1 hN hc (by omega) (by omega)).bind λc w hc hw=>.ok hc ⟨by grind,by simp,by simp⟩
 .refine(Wax 4 hc).bind λc v hc hv=>?_;have hv:=hv.2 (by decide);have e2:Wm .i64 1 v.1=1+v.1:=WL (by unfold I64;omega);simp only[e2];refine(Ww1 hN hc (by omega) (by omega)).bind λc w hc hw=>(Wax 4 hc).bind λc v2 hc gS=>?_;have gS:=gS.2 (by decide);have e3:Wm .i64 1 v2.1=1+v2.1:=WL (by unfold I64;omega);simp only[e3];refine(Ww1 hN hc (by omega) (by omega)).bind λc w2 hc Ai=>.bifT (WE (by simp;omega)) (.bifT (WE (by grind [Xal])) ((Wax 3 hc).bind λc v3 hc wI=>?_));have wI:=wI.2 (by decide);have e4:Wm .i64 1 v3.1=(((1+v3.1).toNat:Nat):Int):=by grind [WL,I64]
  grind [WoR,Xal]
theorem Wxj(hc:WaU c):Drw (λv:Opn×Unit=>True) (Zmv N c):=by
 unfold Zmv;refine(Wax 16 hc).bind λc v hc hv=>(WoX _ hc).bind λc w hc _=>(Wax 16 hc).bind λc v hc hv=>.bif (λ_=>?_) λ_=>.bif (λ_=>?_) λ_=>.bif (λ_=>?_) λ_=>.bif (λ_=>?_) λ_=>.ok hc trivial
 all_goals exact(Wv2 _ hc (by decide) (by decide)).bind λc v hc hv=>.ok hc trivial
theorem Wo5:∀(n:Nat) (c:Cur) (l:List Opn),600-l.length<n->WaU c->l.length<=500->
  Drw (λv:List Opn×Unit=>v.1.length<=600) (Ze2 N (λbd dy bm=>(some ((dy,()),(bm,())))) n c l)
 |0,c,l,h,_,_=>by omega
 |n+1,c,l,h,hc,hl=>by
  unfold Ze2;refine(Wax 2 hc).bind λc v hc hv=>?_;have hv:=hv.2 (by decide);have e:Wm .i64 24 v.1=24+v.1:=WL (by unfold I64;omega);simp only[e];refine .bif (λh0=>?_) λ_=>.ok hc (by grind);have h0:(l.length:Int)<24+v.1:=Wu h0;exact .bifT (WE (by simp;omega)) (Wo5 n c _ (by grind [Xal]) hc (by grind [Xal]))
theorem WwV(hN:1048576<N){l:List Opn}(hc:WaU c)(hl:l.length<=500):Drw (λv:List Opn×Unit=>v.1.length<=600) (Zgi N c l):=by
 unfold Zgi;have en:Xf ([]:List Opn) l=l:=rfl;simp only[en];refine .bifT (WE (by simp;omega)) (.bif (λ_=>.ok hc (by simp)) λh0=>?_);have hpos:0<l.length:=by
  cases l with
  |nil=>exact Wg h0 (by decide)
  |cons a b=>simp
 refine(Wax (Wj l) hc).bind λc k hc hk=>?_;have hk:=hk.2 (by unfold Wj;omega);unfold Wj at hk;obtain⟨k,u⟩:=k;simp only at hk;obtain⟨j,rfl⟩:=Xfv hk.1;have hj:j<l.length:=by omega
 have ei:inb (j:Int) l.length=true:=WC hj;have e1:Wm .i64 (j:Int) 1=((j+1:Nat):Int):=Wt (by omega);have c1:((decide ((0:Int)<=(j:Int)))&&(decide ((j:Int)<=((Xa l):Int))))=true:=by simp;omega
 have c2:((decide ((0:Int)<=((j+1:Nat):Int)))&&(decide (((j+1:Nat):Int)<=((Xa l):Int))))=true:=by simp;omega
 refine(Wax 6 hc).bind λc v hc hv=>?_;simp only[e1,ei,c1,c2,Wc,WqN rfl];refine .bif (λ_=>?_) λ_=>.bif (λ_=>.ok hc (by simp;omega)) λ_=>.bif (λ_=>?_) λ_=>.bif (λ_=>?_) λ_=>.bif (λ_=>.ok hc (by simp;omega)) λ_=>?_
 .exact(Wxj hc).bind λc w hc _=>.ok hc (by simp;omega)
 .have hlen:(List.drop (Xb ((j+1:Nat):Int)) (Xat l.length l)).length=l.length-(j+1):=by simp_all
  have dM:(Xat (Xb (j:Int)) l).length=j:=by simp_all
  exact .bifT (WE (by omega)) (.ok hc (by grind [Xal,Xz]))
 .grind [Wo5]
 .exact(Wax 2 hc).bind λc w hc _=>.ok hc (by simp;omega)
end
end
section
abbrev Wd:=Int×Int×Int
abbrev Mm:=Int×List Wd
theorem WgF{α:Type}(a:Option α):Wgc a a=a:=by unfold Wgc;simp
def Wqt(clock:Int)(w:Wd):Bool:=Wbj w.1&&((decide (0<=w.2.1)&&decide (w.2.1<=clock))&&(decide (0<=w.2.2)&&decide (w.2.2<=99)))
def W0(m:Mm):Bool:=decide (m.2.length=8)&&((decide (0<=m.1)&&decide (m.1<=1000000))&&m.2.all (Wqt m.1))
theorem Wbd{N:Nat}{m:Mm}(hl:m.2.length<=1048576)(hN:1048576<N):Zb3 N m=ret (W0 m):=by
 unfold Zb3 W0;have h1:=WV (l:=m.2) (V:=Unit) (R:=Unit×Ko) (lp:=λn j v=>Zdv N m.2 m (some ((),(false,()))) (λeE iv=>
  (bif (Wj m.2)==(8:Int)then
  ((Zm N m.1 (0:Int) (1000000:Int)).bind λgU=>
  (some ((),(gU.2.1,()))))
  else
  (some ((),(false,()))))) n j) (n:=N) (by omega)
  (body:=λj x v k=>bif !Wqt m.1 x then some ((),(false,()))else k v) (K:=λ_ v=>(bif (Wj m.2)==(8:Int)then
  ((Zm N m.1 (0:Int) (1000000:Int)).bind λgU=>
  (some ((),(gU.2.1,()))))
  else
  (some ((),(false,())))))
  (λn i v hi=>by
   simp only[Zdv,Wat hi,WC hi,WJ hi,Wt (show i<4611686018427387904 by omega),Wc,WaF,W3,ret,Xd,Wqt];cases Wbj m.2[i].1<;>cases(decide (0<=m.2[i].2.1)&&decide (m.2[i].2.1<=m.1))<;>cases(decide (0<=m.2[i].2.2)&&decide (m.2[i].2.2<=99))<;>rfl)
  (λn v=>by simp[Zdv,WaO,Xn,We]) ()
 refine h1.trans ?_;rw[WaM (p:=λx=>!Wqt m.1 x) (E:=λ_=>some ((),(false,()))) m.2 0 () (λj x v k _=>rfl),WcF];have e:((Wj m.2)==(8:Int))=decide (m.2.length=8):=by
  grind [Wj]
 simp only[e,W3,ret,Xd];cases m.2.all (Wqt m.1)<;>cases decide (m.2.length=8)<;>simp
def wd0(v:Int):Wd:=(v,(0,0))
def Wkk(l:List Int):Mm:=(0,l.map wd0)
theorem WdE{α β R:Type}{body:Int->α->List β->(List β->Option R)->Option R}{K:Int->List β->Option R}{f:α->β}:∀(l:List α) (j:Nat) (o:List β),o.length+l.length<=1000000->
  (∀(j:Nat) x (v:List β) k,x∈l->body j x v k=bif WN (v.length+ [f x].length)then k (Xf v [f x])else none)->Wb9 body K l j o=K ((j+l.length:Nat):Int) (o++l.map f)
 | [],j,o,_,_=>by simp[Wb9]
 |x::l,j,o,h,hb=>by
  rw[Xs]at h;rw[Wb9,hb j x o _ (Xh ..),WE (by simp;omega)];simp only[Wc];rw[WdE l (j+1) _ (by grind [Xal]) λj y v k hy=>hb j y v k (Xe _ hy)];rw[Xs,show j+1+l.length=j+(l.length+1) by omega];simp
theorem Wjf{N:Nat}{l:List Int}(h:WeB l=true)(hN:1048576<N):Zb2 N l=some ((),(Wkk l,(true,()))):=by
 have hl:l.length=8:=by grind [WeB]
 unfold Zb2;simp only[Whj (show l.length<=1048576 by omega) hN,ret,Xd,h,Xx,We];have h1:=WV (l:=l) (V:=List Wd) (R:=Unit×(Mm×Ko)) (lp:=λn j v=>Zc1 N l (λaK bd aU=>(some ((),(((0:Int),aU),(true,()))))) n j v) (n:=N) (by omega)
  (body:=λj x v k=>bif WN (v.length+ [wd0 x].length)then k (Xf v [wd0 x])else none) (K:=λ_ v=>some ((),(((0:Int),v),(true,()))))
  (λn i v hi=>by simp only[Zc1,Wat hi,WC hi,WJ hi,Wt (show i<4611686018427387904 by omega),Wc,wd0])
  (λn v=>by simp[Zc1,WaO,Xn,We]) []
 refine h1.trans ?_;rw[WdE (f:=wd0) l 0 [] (by simp;omega) (λj x v k _=>rfl)];rfl
theorem Wz{m:Mm}(h:W0 m=true):m.2.length=8/\0<=m.1/\m.1<=1000000/\∀w∈m.2,Wqt m.1 w=true:=by
 simp_all [W0,Xi,Wh,Xac]
def tick(m:Mm):Mm×Int:=if m.1<1000000 then((m.1+1,m.2),m.1+1)else(m,0)
theorem Wne{N:Nat}{m:Mm}(h:W0 m=true)(hN:1048576<N):Znu N m=some ((),((tick m).1,((tick m).2,()))):=by
 obtain⟨h8,h0,h1,_⟩:=Wz h;have e:Zb5 N m=ret m:=by grind [Zb5,WE]
 unfold Znu tick;simp only[e,Wbd (show m.2.length<=1048576 by omega) hN,ret,Xd,h,Xx,We];by_cases hc:m.1<1000000
 .have e2:(m.1==1000000)=false:=by simp;omega
  have e3:Wm .i64 m.1 1=m.1+1:=WL (by unfold I64;omega)
  grind
 grind
abbrev Pb:=Int×Int×Int×Int
def WkG(p:Pb):Bool:=Waf p.1&&((decide (0<=p.2.1)&&decide (p.2.1<=4))&&((decide (0<=p.2.2.1)&&decide (p.2.2.1<=1000000))&&Wbj p.2.2.2))
theorem Wmw{N:Nat}{p:Pb}:Zla N p=ret (WkG p):=by
 unfold Zla WkG;simp only[WaN,W3,WaF,ret,Xd];cases Waf p.1<;>cases(decide (0<=p.2.1)&&decide (p.2.1<=4))<;>cases(decide (0<=p.2.2.1)&&decide (p.2.2.1<=1000000))<;>simp
def WW(m:Mm)(rv:Int)(p:Pb):Pb:=
 let w:=Xc m.2 (Xb p.1) (0,(0,0))
 bif p.2.1==0 then(bif w.2.2==0 then(bif decide (w.2.1<=rv)then(p.1,(1,(w.2.1,p.2.2.2)))else(p.1,(4,p.2.2)))else(p.1,(4,p.2.2)))
 else bif p.2.1==1 then(p.1,(2,(p.2.2.1,w.1)))
 else bif p.2.1==2 then(bif w.2.2==0 then(bif w.2.1==p.2.2.1 then(p.1,(3,p.2.2))else(p.1,(4,p.2.2)))else(p.1,(4,p.2.2)))
 else p
theorem Wwp{m:Mm}{p:Pb}(h:W0 m=true)(hp:WkG p=true):inb p.1 m.2.length=true:=by
 grind [Wz,WkG,Waf,inb]
theorem Wfh{N:Nat}{m:Mm}{rv:Int}{p:Pb}(h:W0 m=true)(hp:WkG p=true)(hN:1048576<N):Zdw N m rv p=ret (WW m rv p):=by
 have h1:=(Wz h).1;unfold Zdw WW;simp only[Wbd (show m.2.length<=1048576 by omega) hN,Wmw,ret,Xd,h,hp,Xx,We,Wwp h hp,Wc];generalize Xc m.2 (Xb p.1) (0,(0,0))=w;cases p.2.1==0<;>cases p.2.1==1<;>cases p.2.1==2<;>cases w.2.2==0<;>cases decide (w.2.1<=rv)<;>cases w.2.1==p.2.2.1<;>rfl
def WcB(l:List Rw)(c:Int):Nat->Option Int
 |0=>none
 |i+1=>if(Xc l i (0,0)).1=c then some (Xc l i (0,0)).2 else WcB l c i
def Wbg(l:List Rw)(c:Int):Option Int:=if Wa9 l=true then WcB l c l.length else none
def opI(o:Option Int):Option (Unit×Kl):=match o with
 |none=>some ((),((0:Int),(false,())))
 |some v=>some ((),(v,(true,())))
theorem Wjb{N:Nat}{l:List Rw}{c:Int}(hl:l.length<=1048576):∀(i n:Nat),i<n->i<=l.length->Zf7 N l c (λaB=>(some ((),(aB,(true,()))))) (λsL aK=>(some ((),((0:Int),(false,()))))) n ((i:Int) -1)=opI (WcB l c i)
 |i,0,h,_=>by omega
 |0,n+1,h,_=>rfl
 |i+1,n+1,h,hi=>by
  have e:((i+1:Nat):Int) -1=(i:Int):=by omega
  have e1:decide ((i:Int)>=0)=true:=by simp
  have e2:W6 .i64 (i:Int) 1=(i:Int) -1:=WaG (by unfold I64;omega);rw[e,Zf7,e1,WC (show i<l.length by omega),e2,WcB,Xj];simp only[Wc];by_cases hc:(Xc l i ((0:Int),(0:Int))).1=c
  .rw[Wb hc,beq_iff_eq.2 hc];rfl
  .rw[Wa hc,beq_eq_false_iff_ne.2 hc];exact Wjb hl i n (by omega) (by omega)
theorem WpH{α:Type}{l:List α}(hl:l.length<=1048576):W6 .i64 (Wj l) 1=((l.length:Nat):Int) -1:=by grind [Wj,WaG,I64]
theorem Wez{N:Nat}{l:List Rw}{c:Int}(hl:l.length<=1048576)(hN:1048576<N):Zgq N l c=opI (Wbg l c):=by
 unfold Zgq Wbg;simp only[WcA hl hN,ret,Xd];cases Wa9 l
 .rfl
 .simp only[Xx,We,Wav,WpH hl];exact Wjb hl l.length N (by omega) (Xn _)
end
section
def Wks(l:List Rw)(o:List Rw)(c:Nat):List Rw:=match Wbg l c with
 |none=>o
 |some v=>o++ [((c:Int),v)]
def WkC(l:List Rw):Nat->Nat->List Rw->List Rw
 |0,_,o=>o
 |j+1,c,o=>WkC l j (c+1) (Wks l o c)
def Wco(l:List Rw):List Rw:=WkC l 8 0 []
theorem Wg5{N:Nat}{l:List Rw}(hl:l.length<=1048576)(hN:1048576<N):∀(j n c:Nat) (o:List Rw),c+j=8->j<n->o.length<=c->Zfl N l (λaI aK aW=>(some ((),(aW,())))) n (c:Int) o=ret (WkC l j c o)
 |j,0,c,o,_,h,_=>by omega
 |0,n+1,c,o,h,_,_=>by
  have:c=8:=by omega
  subst this;rfl
 |j+1,n+1,c,o,h,h1,ho=>by
  have e:decide ((c:Int)<8)=true:=by simp;omega
  rw[Zfl,e,Wez hl hN,Wt (by omega),WkC,Wks];simp only[Wc];rcases Wbg l c with _|v
  .exact Wg5 hl hN j n (c+1) o (by omega) (by omega) (by omega)
  .have er:WN (o.length+ [((c:Int),v)].length)=true:=WE (by simp;omega);simp only[opI,Xd,Wc,er];exact Wg5 hl hN j n (c+1) _ (by omega) (by omega) (by simp;omega)
theorem Wmi{l:List Rw}(h:Wa9 l=false):∀(j c:Nat) (o:List Rw),WkC l j c o=o
 |0,_,_=>rfl
 |j+1,c,o=>by
  have e:Wbg l c=none:=by grind [Wbg]
  rw[WkC,Wks,e];exact Wmi h j (c+1) o
theorem WdR{N:Nat}{l:List Rw}(hl:l.length<=1048576)(hN:1048576<N):Zfw N l=ret (Wco l):=by
 unfold Zfw;simp only[WcA hl hN,ret,Xd];cases h:Wa9 l
 .grind [Wco,Wmi]
 .exact Wg5 hl hN 8 N 0 [] rfl (by omega) (by simp)
def fnd{α:Type}(p:α->Bool):List α->Nat->Option (Nat×α)
 | [],_=>none
 |x::l,j=>bif p x then some (j,x)else fnd p l (j+1)
theorem Wge{α V R:Type}{body:Int->α->V->(V->Option R)->Option R}{K:Int->V->Option R}{p:α->Bool}{E:Int->α->Option R}:∀(l:List α) (j:Nat) (v:V),(∀(j:Nat) x v k,x∈l->body j x v k=bif p x then E j x else k v)->
  Wb9 body K l j v=match fnd p l j with|some r=>E r.1 r.2|none=>K ((j+l.length:Nat):Int) v
 | [],j,v,_=>rfl
 |x::l,j,v,h=>by
  rw[Wb9,h j x v _ (Xh ..),fnd,Wge l (j+1) v λj y v k hy=>h j y v k (Xe _ hy)]
  grind
theorem WcW{α:Type}{p:α->Bool}:∀{l:List α} {j:Nat} {r:Nat×α},fnd p l j=some r->p r.2=true/\j<=r.1/\r.1<j+l.length/\l[r.1-j]?=some r.2
 | [],j,r,h=>by cases h
 |x::l,j,r,h=>by
  rw[fnd]at h;cases hp:p x
  .rw[hp]at h;obtain⟨h1,h2,h3,h4⟩:=WcW (l:=l) h
   grind
  grind
theorem WhT{α:Type}{p:α->Bool}:∀{l:List α} {j:Nat},fnd p l j=none->∀x∈l,p x=false
 | [],j,h=>by simp
 |x::l,j,h=>by
  rw[fnd]at h;cases hp:p x
  .rw[hp]at h;intro y hy;rcases Xr.1 hy with rfl|hy
   .exact hp
   .exact WhT h y hy
  simp_all
abbrev En:=Int×Int×Int
def ent(b:List En)(c:Int):Option (Nat×En):=fnd (λe=>e.1==c) b 0
theorem WfJ{N:Nat}{f:Y_Family}{c:Int}(hl:f.2.2.2.2.2.2.1.length<=1048576)(hN:1048576<N):Zca N f c=ret (match ent f.2.2.2.2.2.2.1 c with|some r=>(r.1:Int)|none=>-1):=by
 unfold Zca;show((Zn N f.2.2.2.2.2.2.1 c).bind _)=_;generalize f.2.2.2.2.2.2.1=b at hl;unfold Zn ent;have h1:=WV (l:=b) (V:=Unit) (R:=Kh×Kh) (lp:=λn j v=>Zf N b (λbM aY=>(some ((aY,()),(bM,())))) (λeE iv dD=>(some ((dD,()),((-1:Int),())))) n j c) (n:=N) (by omega)
  (body:=λj x v k=>bif x.1==c then some ((c,()),(j,()))else k v) (K:=λ_ v=>some ((c,()),((-1:Int),())))
  (λn i v hi=>by simp only[Zf,Zis,Wat hi,WC hi,WJ hi,Wt (show i<4611686018427387904 by omega),Wc,Xd])
  (λn v=>by simp[Zf,WaO,Xn,We]) ()
 rw[h1,Wge (p:=λe=>e.1==c) (E:=λj x=>some ((c,()),(j,()))) b 0 () (λj x v k _=>rfl)];cases fnd (λe:En=>e.1==c) b 0<;>rfl
theorem WbD{N:Nat}{l:List Int}(h:l.length<=1048576):Zq N l=ret l:=by
 grind [Zq,WE]
theorem WdG{N:Nat}{l:List Rw}(h:l.length<=1048576):Zbe N l=ret l:=by
 grind [Zbe,WE]
end
section
def Wxe(f:Y_Family)(k:Nat)(x:Y_KidRun):Y_Family:=U9 (Xl (Q9 f) k x) f
def again(f:Y_Family)(x:Y_KidRun):Y_KidRun:=(0,(0,(f.2.1,(x.2.2.2.1+1,(0,(0,(P4 f,([],([],([],(false,(0,(0,(0,0))))))))))))))
def WpN(x:Y_KidRun)(c:Int):Pb:=bif P10 x then Q11 x else(c,(0,(0,0)))
def WiU(m:Mm)(f:Y_Family)(x:Y_KidRun)(o:Int×Int×Int×Int):Y_Family×Y_KidRun:=
 match Wbg (P8 x) o.2.2.1 with
 |some v=>(f,S6 (Xl (P6 x) (Xb o.2.1) v) (S1 (x.2.1+1) x))
 |none=>match ent (P6 f) o.2.2.1 with
  |some r=>bif decide (r.2.2.2>x.2.2.1)then(f,again f x)else(f,S7 (P7 x++ [r.2]) (S6 (Xl (P6 x) (Xb o.2.1) r.2.2.1) (S1 (x.2.1+1) x)))
  |none=>
   bif (WW m f.1 (WpN x o.2.2.1)).2.1==4 then(S3 true f,U11 (WW m f.1 (WpN x o.2.2.1)) (S10 true x))else
   bif (WW m f.1 (WpN x o.2.2.1)).2.1==3 then(f,U14 0 (S13 0 (S12 0 (S11 0 (S10 false (S7 (P7 x++ [(o.2.2.1,((WW m f.1 (WpN x o.2.2.1)).2.2.2,-1))]) (S6 (Xl (P6 x) (Xb o.2.1) (WW m f.1 (WpN x o.2.2.1)).2.2.2) (S1 (x.2.1+1) x))))))))else
   (f,U11 (WW m f.1 (WpN x o.2.2.1)) (S10 true x))
structure ReadOk(m:Mm)(f:Y_Family)(x:Y_KidRun)(o:Int×Int×Int×Int):Prop where
 mem:W0 m=true
 regs:(P6 x).length=4
 famr:(P4 f).length=4
 rA:0<=o.2.1/\o.2.1<=3
 cB:Waf o.2.2.1=true
 seen:(P7 x).length<=1000
 wr:(P8 x).length<=1000
 buf:(P6 f).length<=1000
 ver:∀e∈P6 f,0<=e.2.2
 since:0<=x.2.2.1
 pc:0<=x.2.1/\x.2.1<=1000
 tries:0<=x.2.2.2.1/\x.2.2.2.1<=100000
 pb:P10 x=true->WkG (Q11 x)=true
theorem ReadOk.pbO{m:Mm}{f:Y_Family}{x:Y_KidRun}{o:Int×Int×Int×Int}(h:ReadOk m f x o):WkG (WpN x o.2.2.1)=true:=by
 unfold WpN;cases hb:P10 x
 .have:=h.cB
  grind [WkG,Wbj]
 .exact h.pb hb
theorem Wuv{x:Y_KidRun}(h:P10 x=true):S10 true x=x:=by rw[←h];rfl
theorem WcN{a:Int}(h:0<=a/\a<=1000000):Wm .i64 a 1=a+1:=WL (by unfold I64;omega)
theorem rgI{r:List Int}{a:Int}(h:r.length=4)(ha:0<=a/\a<=3):inb a r.length=true:=by grind [inb]
theorem WeI{N:Nat}{f:Y_Family}{k:Nat}{x:Y_KidRun}(hk:k<(Q9 f).length)(h:(P4 f).length=4)(ht:0<=x.2.2.2.1/\x.2.2.2.1<=100000):
  Zbb N (U9 (Xl (Q9 f) k x) f) (k:Int)=some ((Wxe f k (again f x),()),()):=by
 have e0:Zq N (P4 (U9 (Xl (Q9 f) k x) f))=ret (P4 f):=WbD (show(P4 f).length<=1048576 by omega);have e1:Q9 (U9 (Xl (Q9 f) k x) f)=Xl (Q9 f) k x:=rfl;have ii:k<(Xl (Q9 f) k x).length:=by simp_all
 unfold Zbb;rw[e0,e1];have e2:Xc (Xl (Q9 f) k x) (Xb (k:Int)) d_KidRun=x:=by simp_all
 rw[e2,WC ii,WcN (by omega),Xj];simp only[Wc,ret,Xd,Xdi];rfl
theorem Wmx{N:Nat}{m:Mm}{f:Y_Family}{k:Nat}{o:Int×Int×Int×Int}(hk:k<(Q9 f).length)(h:ReadOk m f (Q9 f)[k] o)(hN:1048576<N):
  Zhw N f (k:Int) o m=some ((Wxe (WiU m f (Q9 f)[k] o).1 k (WiU m f (Q9 f)[k] o).2,()),()):=by
 generalize hx:(Q9 f)[k]=x at h;have hw:=h.wr;have hs:=h.seen;have hb:=h.buf;have hr:=h.regs;have ex:Xc (Q9 f) (Xb (k:Int)) d_KidRun=x:=by rw[WJ hk,hx]
 unfold Zhw WiU;simp only[WD];rw[WC hk,ex,Xj,Wez (show(P8 x).length<=1048576 by omega) hN,WcN (by have:=h.pc;omega)];rcases Wbg (P8 x) o.2.2.1 with _|v
 .simp only[opI,Xd,We,Wc];have hE:Zca N (U9 (Xl (Q9 f) k x) f) o.2.2.1=ret (match ent (P6 f) o.2.2.1 with|some r=>(r.1:Int)|none=>-1):=WfJ (f:=U9 (Xl (Q9 f) k x) f) (show(P6 f).length<=1048576 by omega) hN;rw[hE,WeI hk h.famr h.tries];rcases he:ent (P6 f) o.2.2.1 with _|r
  .simp only[ret,Xd,show decide ((-1:Int)>=0)=false from rfl,We];have hp:=h.pbO;cases hc:P10 x
   .have ff:WpN x o.2.2.1=(o.2.2.1,(0,(0,0))):=by grind [WpN]
    have hn:Zeo N o.2.2.1=some ((),((o.2.2.1,(0,(0,0))),(true,()))):=by
     unfold Zeo;simp only[WaN,ret,Xd,h.cB,Xx,We]
    rw[ff]at hp⊢;simp only[Bool.not_false,Wc,hn,Wfh h.mem hp hN,ret,Xd,rgI hr h.rA];generalize WW m f.1 (o.2.2.1,(0,(0,0)))=q;rw[WE (by simp;omega)];cases q.2.1==4<;>cases q.2.1==3<;>rfl
   .have ff:WpN x o.2.2.1=Q11 x:=by grind [WpN]
    rw[ff]at hp⊢;simp only[Xx,We,Wfh h.mem hp hN,ret,Xd,rgI hr h.rA,Wc];generalize WW m f.1 (Q11 x)=q;rw[WE (by simp;omega),Wuv hc];cases q.2.1==4<;>cases q.2.1==3<;>rfl
  .have hm:=WcW he;have hi:r.1<(P6 f).length:=by omega
   have hg:(P6 f)[r.1]=r.2:=by
    simp_all
   have e2:decide (((r.1:Nat):Int)>=0)=true:=by simp
   simp only[ret,Xd,e2,Wc,WC hi,rgI hr h.rA];rw[WJ hi,hg,WE (by simp;omega)];cases decide (r.2.2.2>x.2.2.1)<;>rfl
 .simp only[opI,Xd,Wc,rgI hr h.rA];rfl
end
section
def WlU{α:Type}(p:Nat->α->Bool):Nat->List α->Bool
 |_,[]=>false
 |j,x::l=>p j x||WlU p (j+1) l
theorem WdA{α V R:Type}{body:Int->α->V->(V->Option R)->Option R}{K:Int->V->Option R}{p:Nat->α->Bool}{E:V->Option R}:∀(l:List α) (j:Nat) (v:V),(∀(j:Nat) x v k,x∈l->body j x v k=bif p j x then E v else k v)->
  Wb9 body K l j v=bif WlU p j l then E v else K ((j+l.length:Nat):Int) v
 | [],j,v,_=>rfl
 |x::l,j,v,h=>by
  rw[Wb9,h j x v _ (Xh ..),WdA l (j+1) v λj y v k hy=>h j y v k (Xe _ hy),WlU]
  grind
theorem WgJ{α:Type}{p:Nat->α->Bool}:∀{l:List α} {j:Nat},WlU p j l=true↔∃i,∃h:i<l.length,p (j+i) l[i]=true
 | [],j=>by simp[WlU]
 |x::l,j=>by
  rw[WlU,Xbw,WgJ];constructor
  .rintro(h|⟨i,hi,h⟩)
   .exact⟨0,by simp,by grind⟩
   .exact⟨i+1,by simp_all,by grind⟩
  grind
def opd(o:Opn):Int:=bif o.1==8 then 1 else bif o.1==9 then-1 else 0
theorem WhK(o:Opn):-1<=opd o/\opd o<=1:=by unfold opd;cases o.1==8<;>cases o.1==9<;>simp
def dep(l:List Opn)(j:Nat):Int:=((l.take j).map opd).sum
theorem Wdk(l:List Opn):dep l 0=0:=by simp[dep]
theorem WaQ{l:List Opn}{j:Nat}(h:j<l.length):dep l (j+1)=dep l j+opd l[j]:=by
 grind [dep,Xcd]
theorem Wn{α:Type}{l:List α}{j:Nat}(h:j<l.length)(d:α):Xc l j d=l[j]:=by simp[h]
theorem WdB(l:List Opn):∀j:Nat,-(j:Int)<=dep l j/\dep l j<=j
 |0=>by simp[dep]
 |j+1=>by
  have ih:=WdB l j;by_cases h:j<l.length
  .have:=WhK l[j]
   grind [WaQ]
  grind [dep,List.take_of_length_le]
def bal(l:List Opn):Bool:=!WlU (λj _=>decide (dep l (j+1)<0)) 0 l&&decide (dep l l.length=0)
theorem Wgw{N:Nat}{o:Opn}:Zir N o=ret (opd o):=by
 unfold Zir opd;cases o.1==8<;>cases o.1==9<;>rfl
theorem Ww9(x:Int):(x==(0:Int))=decide (x=0):=by by_cases h:x=0<;>simp[h]
theorem WiR{N:Nat}{l:List Opn}(hl:l.length<=1048576)(hN:1048576<N):Zcz N l=ret (bal l):=by
 unfold Zcz bal;have h1:=WV (l:=l) (V:=Unit) (R:=Unit×Ko) (lp:=λn j _=>Zbv N l (some ((),(false,()))) (λvY bd gK=>some ((),(vY==(0:Int),()))) n (dep l j.toNat) j) (n:=N) (by omega)
  (body:=λj _ v k=>bif decide (dep l (j.toNat+1)<0)then some ((),(false,()))else k v) (K:=λj _=>some ((),(dep l j.toNat==(0:Int),())))
  (λn i v hi=>by
   have hb:=WdB l i;have hs:=WaQ hi;have ho:=WhK l[i];have e:Wm .i64 (dep l i) (opd l[i])=dep l (i+1):=by rw[WL (by unfold I64;omega),hs]
   simp only[Zbv,Wat hi,WC hi,WJ hi,Wn hi,Wt (show i<4611686018427387904 by omega),Wc,Wgw,ret,Xd,Xj,e])
  (λn v=>by simp[Zbv,WaO,Xn,We]) ()
 have e0:dep l (Xb 0)=0:=Wdk l;simp only[e0]at h1;refine h1.trans ?_;rw[WdA (p:=λj _=>decide (dep l (j+1)<0)) (E:=λ_=>some ((),(false,()))) l 0 () (λj x v k _=>rfl)];rw[Xbb,Xj,Ww9];cases WlU (λj _=>decide (dep l (j+1)<0)) 0 l<;>rfl
theorem Wli{N:Nat}{l:List Opn}(hl:l.length<=1048576)(hN:1048576<N){i:Nat}(hi:i<=l.length):Zgs N l (i:Int)=ret (dep l i):=by
 unfold Zgs;have h1:=WV (l:=l) (V:=Unit) (R:=Unit×Kh) (lp:=λn j _=>Zby N (i:Int) l (λsJ bM iu=>some ((),(sJ,()))) n (dep l (min j.toNat i)) j) (n:=N) (by omega)
  (body:=λj _ v k=>k v) (K:=λj _=>some ((),(dep l (min j.toNat i),())))
  (λn j v hj=>by
   have hb:=WdB l j;have ho:=WhK l[j];simp only[Zby,Wat hj,WC hj,WJ hj,Wn hj,Wt (show j<4611686018427387904 by omega),Wc,Wgw,ret,Xd,Xj]
   grind [decide,min,Wm,dep,opd,WL,I64,WaQ])
  (λn v=>by simp[Zby,WaO,Xn,We]) ()
 have e0:dep l (min (Xb 0) i)=0:=by
  simp[min,Xb,Wdk]
 simp only[e0]at h1;refine h1.trans ?_;rw[Wkb (f:=λv _=>v) l 0 () (λj x v k _=>rfl),Xbb,Xj,Nat.min_eq_right hi]
theorem WoL{N:Nat}{l:List Opn}{a b:Nat}(fN:a<=b)(hb:b<=l.length)(hl:l.length<=1048576)(hN:1048576<N):
  Za1 N l (b:Int) (some ((),(false,()))) (λsH qM aK=>some ((),(sH==(0:Int),()))) N 0 (a:Int)=ret (bal ((l.take b).drop a)):=by
 have hlen:((l.take b).drop a).length=b-a:=by simp;omega
 unfold bal;have h1:=WV (l:=(l.take b).drop a) (V:=Unit) (R:=Unit×Ko) (lp:=λn j _=>Za1 N l (b:Int) (some ((),(false,()))) (λsH qM aK=>some ((),(sH==(0:Int),()))) n (dep ((l.take b).drop a) j.toNat) ((a+j.toNat:Nat):Int)) (n:=N) (by omega)
  (body:=λj _ v k=>bif decide (dep ((l.take b).drop a) (j.toNat+1)<0)then some ((),(false,()))else k v) (K:=λj _=>some ((),(dep ((l.take b).drop a) j.toNat==(0:Int),())))
  (λn i v hi=>by
   have hb':=WdB ((l.take b).drop a) i;have hs:=WaQ hi;have ei:((l.take b).drop a)[i]=l[a+i]:=by simp
   rw[ei]at hs;have gO:a+i<l.length:=by omega
   have e1:decide (((a+i:Nat):Int)<(b:Int))=true:=by simp;omega
   have e2:Wm .i64 ((a+i:Nat):Int) 1=((a+(i+1):Nat):Int):=by grind [WL,I64]
   have e3:Wm .i64 (dep ((l.take b).drop a) i) 1=dep ((l.take b).drop a) i+1:=WL (by unfold I64;omega);have e4:W6 .i64 (dep ((l.take b).drop a) i) 1=dep ((l.take b).drop a) i+ -1:=by grind [WaG,I64]
   simp only[Za1,e1,WC gO,WJ gO,Wn gO,e2,e3,e4,Wc,Xj];unfold opd at hs
   grind)
  (λn v=>by
   have e1:decide (((a+(((l.take b).drop a).length:Int).toNat:Nat):Int)<(b:Int))=false:=by simp_all
   simp only[Za1,e1,We]) ()
 have e0:dep ((l.take b).drop a) (Xb 0)=0:=Wdk _;simp only[e0]at h1;refine h1.trans ?_;rw[WdA (p:=λj _=>decide (dep ((l.take b).drop a) (j+1)<0)) (E:=λ_=>some ((),(false,()))) _ 0 () (λj x v k _=>rfl)];rw[Xbb,Xj,Ww9];cases WlU (λj _=>decide (dep ((l.take b).drop a) (j+1)<0)) 0 ((l.take b).drop a)<;>rfl
def Wik(l:List Opn)(i:Nat)(o:Opn):Bool:=decide (i+1+o.2.2.1.toNat<=l.length)&&bal ((l.take (i+1+o.2.2.1.toNat)).drop (i+1))
def frk(l:List Opn)(j:Nat):Nat:=(l.take j).countP λo=>o.1==11
theorem Web{l:List Opn}{j:Nat}(h:j<l.length):frk l (j+1)=frk l j+(l[j].1==11).toNat:=by
 unfold frk;rw[Xcd h,List.countP_append,List.countP_singleton];cases l[j].1==11<;>rfl
theorem WuZ(l:List Opn)(j:Nat):frk l j<=l.length:=Xco Xer (by simp;omega)
def WuG(l:List Opn)(i:Nat)(o:Opn):Bool:=
 !Wd1 o||((o.1==7)&& !Wik l i o)||((o.1==11)&&(decide (dep l i>0)||decide (frk l (i+1)>1)))||decide (dep l (i+1)<0)
def WnU(l:List Opn)(i:Nat)(o:Opn):Bool:=
 !Wd1 o||((o.1==7)&& !Wik l i o)||((o.1==11)&&(decide (frk l (i+1)>1)|| !decide (dep l i=0)))
def Wov(l:List Opn):Bool:=decide (l.length<=24)&&(bal l&& !WlU (WnU l) 0 l)
theorem WpS{l:List Opn}{i:Nat}{o:Opn}(hl:l.length<=24)(hi:i<l.length)(ho:Wd1 o=true)(h7:o.1=7):
  Wm .i64 ((i+1:Nat):Int) o.2.2.1=((i+1+o.2.2.1.toNat:Nat):Int)/\1<=o.2.2.1/\o.2.2.1<=20:=by
 obtain⟨k,a,b,c⟩:=o;simp only at h7;subst h7;have:(Waa a&&(decide (1<=b)&&decide (b<=20))&&(c==(0:Int)))=true:=ho;simp only[Xi,Wh]at this
 grind [WL,I64]
theorem WmV{N:Nat}{l:List Opn}{i:Nat}(hl:l.length<=24)(hN:1048576<N)(hi:i<l.length)(ho:Wd1 l[i]=true)(h7:l[i].1=7):Zhp N l (i:Int)=ret (Wik l i l[i]):=by
 obtain⟨e1,h1,h2⟩:=WpS hl hi ho h7;unfold Zhp Wik;simp only[WC hi,Wc,WJ hi,Wn hi,e1,Wt (show i<4611686018427387904 by omega)];by_cases h:i+1+l[i].2.2.1.toNat<=l.length
 .have e:decide (((i+1+l[i].2.2.1.toNat:Nat):Int)>Wj l)=false:=by simp[Wj];omega
  rw[e];simp only[We];rw[WoL (by omega) h (by omega) hN];simp[h]
 grind [decide,Wj]
theorem WoI{l:List Opn}:bal l=true↔(∀i,i<l.length->0<=dep l (i+1))/\dep l l.length=0:=by
 unfold bal;rw[Xi,Xaq,←Xfo,WgJ,Wh];simp_all
theorem Wmp(l:List Opn):(!WlU (WuG l) 0 l&&decide (dep l l.length=0))=(bal l&& !WlU (WnU l) 0 l):=by
 rw[Bool.eq_iff_iff,Xi,Xi,Xaq,Xaq,←Xfo,←Xfo,WgJ,WgJ,WoI,Wh];constructor
 .rintro⟨h1,h2⟩;have hd:∀i,i<l.length->0<=dep l (i+1):=λi hi=>by
   grind [dep,absurd,WuG]
  refine⟨⟨hd,h2⟩,?_⟩;rintro⟨i,hi,h⟩;refine h1 ⟨i,hi,?_⟩;have hdi:0<=dep l i:=by
   cases i with
   |zero=>rw[Wdk];omega
   |succ i=>grind
  rw[Xbb]at h⊢;unfold WnU at h;unfold WuG
  grind
 simp_all [Xbb,WuG,WnU,Xbw,Xi,Wh,Xaq,Ww]
theorem Whq{N:Nat}{l:List Opn}(hl:l.length<=1048576)(hN:1048576<N):Zgg N l=ret (Wov l):=by
 unfold Zgg Wov;by_cases h:l.length<=24
 .have e:decide (Wj l>24)=false:=by simp[Wj];omega
  rw[e];simp only[We];have h1:=WV (l:=l) (V:=Unit) (R:=Unit×Ko) (lp:=λn j _=>Za2 N l (some ((),(false,()))) (λvX mw zV eE=>some ((),(vX==(0:Int),()))) n (dep l j.toNat) ((frk l j.toNat:Nat):Int) j) (n:=N) (by omega)
   (body:=λj x v k=>bif WuG l j.toNat x then some ((),(false,()))else k v) (K:=λj _=>some ((),(dep l j.toNat==(0:Int),())))
   (λn i v hi=>by
    have hb:=WdB l i;have hs:=WaQ hi;have hf:=Web hi;have fe:=WuZ l i;have e3:Wm .i64 (dep l i) 1=dep l i+1:=WL (by unfold I64;omega);have e4:W6 .i64 (dep l i) 1=dep l i+ -1:=by grind [WaG,I64]
    have e5:Wm .i64 ((frk l i:Nat):Int) 1=((frk l i+1:Nat):Int):=by grind [WL,I64]
    simp only[Za2,Wat hi,WC hi,WJ hi,Wn hi,Wt (show i<4611686018427387904 by omega),Wc,Xj,WcT,ret,Xd,e3,e4,e5];unfold WuG;cases ho:Wd1 l[i]with
    |false=>rfl
    |true=>
     unfold opd at hs;simp only[Xx,We,Xfg];by_cases h8:l[i].1=8
     .simp_all
     .have b8:(l[i].1==8)=false:=by simp[h8]
      by_cases h9:l[i].1=9
      .simp_all
      .have b9:(l[i].1==9)=false:=by simp[h9]
       by_cases h7:l[i].1=7
       .have b7:(l[i].1==7)=true:=by simp[h7]
        have bA:(l[i].1==11)=false:=by simp[h7]
        have Aj:=WmV h hN hi ho h7;simp only[b8,b9,b7,bA,Wc,We,Xfn,Xax,Xfc,Xbu,Bool.or_false,Int.add_zero,Aj,ret,Xd]at hs hf⊢;simp only[hs,hf];cases Wik l i l[i]<;>rfl
       grind)
   (λn v=>by simp[Za2,WaO,Xn,We]) ()
  have e0:dep l (Xb 0)=0:=Wdk l;have e1:((frk l (Xb 0):Nat):Int)=0:=by simp[frk]
  simp only[e0,e1]at h1;refine h1.trans ?_;rw[WdA (p:=WuG l) (E:=λ_=>some ((),(false,()))) l 0 () (λj x v k _=>by rw[Xj])];rw[Xbb,Xj,Ww9,←Wmp];simp only[h,decide_true,Xbu];cases WlU (WuG l) 0 l<;>rfl
 grind [decide,Wj]
theorem Whn{N:Nat}{l:List Opn}(hl:l.length<=1048576)(hN:1048576<N):Zco N l=ret (Wov l):=by
 unfold Zco Wov;by_cases h:l.length<=24
 .have e:decide (Wj l>24)=false:=by simp[Wj];omega
  rw[e];simp only[We,WiR hl hN,ret,Xd,h,decide_true,Xbu];cases tB:bal l with
  |false=>rfl
  |true=>
   simp only[Xx,We,Xbu];have h1:=WV (l:=l) (V:=Unit) (R:=Unit×Ko) (lp:=λn j _=>Zbq N l (some ((),(false,()))) (λmx gV t22=>some ((),(true,()))) n ((frk l j.toNat:Nat):Int) j) (n:=N) (by omega)
    (body:=λj x v k=>bif WnU l j.toNat x then some ((),(false,()))else k v) (K:=λj _=>some ((),(true,())))
    (λn i v hi=>by
     have hf:=Web hi;have fe:=WuZ l i;have e5:Wm .i64 ((frk l i:Nat):Int) 1=((frk l i+1:Nat):Int):=by grind [WL,I64]
     simp only[Zbq,Wat hi,WC hi,WJ hi,Wn hi,Wc,Xj,Wfb,ret,Xd,e5];unfold WnU;cases ho:Wd1 l[i]with
     |false=>rfl
     |true=>
      simp only[Xx,We,Xfg];by_cases h7:l[i].1=7
      .have b7:(l[i].1==7)=true:=by simp[h7]
       have bA:(l[i].1==11)=false:=by simp[h7]
       obtain⟨en,h1,h2⟩:=WpS h hi ho h7;simp only[b7,bA,Wc,en,Wt (show i<4611686018427387904 by omega),Xfn,Xax,Xfc,Xbu,Bool.or_false]at hf⊢;simp only[hf];unfold Wik;by_cases hq:i+1+l[i].2.2.1.toNat<=l.length
       .have q1:decide (((i+1+l[i].2.2.1.toNat:Nat):Int)>Wj l)=false:=by simp[Wj];omega
        have q2:(((decide ((0:Int)<=((i+1+l[i].2.2.1.toNat:Nat):Int)))&&(decide (((i+1+l[i].2.2.1.toNat:Nat):Int)<=((Xa l):Int))))&&(decide ((0:Int)<=((i+1:Nat):Int)))&&(decide (((i+1:Nat):Int)<=((i+1+l[i].2.2.1.toNat:Nat):Int))))=true:=by simp;omega
        rw[q1,q2];simp only[We,Wc,Xj];rw[WiR (by simp;omega) hN];simp_all
       grind [decide,Wj]
      .have b7:(l[i].1==7)=false:=by simp[h7]
       by_cases fI:l[i].1=11
       .have bA:(l[i].1==11)=true:=by simp[fI]
        simp only[b7,bA,Wc,We,Bool.toNat_true,Xfc,Xbu,Xfg,Wli hl hN (Nat.le_of_lt hi),ret,Xd,Wt (show i<4611686018427387904 by omega)]at hf⊢;simp only[hf];have ef:decide (((frk l i+1:Nat):Int)>1)=decide (frk l i+1>1):=by grind
        have e0:(dep l i !=0)= !decide (dep l i=0):=by rw[bne,Ww9]
        rw[ef,e0];cases decide (frk l i+1>1)<;>cases decide (dep l i=0)<;>rfl
       .have bA:(l[i].1==11)=false:=by simp[fI]
        simp only[b7,bA,Wc,We,Xfn,Xax,Xfc,Xfg,Wt (show i<4611686018427387904 by omega)]at hf⊢;simp_all)
    (λn v=>by simp[Zbq,WaO,Xn,We]) ()
   have e1:((frk l (Xb 0):Nat):Int)=0:=by simp[frk]
   simp only[e1]at h1;refine h1.trans ?_;rw[WdA (p:=WnU l) (E:=λ_=>some ((),(false,()))) l 0 () (λj x v k _=>by rw[Xj])];cases WlU (WnU l) 0 l<;>rfl
 grind [decide,Wj]
end
section
def stk(l:List Opn):Nat->List Nat
 |0=>[]
 |j+1=>bif (l.getD j (0,0,0,0)).1==8 then stk l j++ [j]else bif (l.getD j (0,0,0,0)).1==9 then(stk l j).dropLast else stk l j
theorem Wjv{l:List Opn}{j:Nat}(h:j<l.length)(h8:l[j].1=8):stk l (j+1)=stk l j++ [j]:=by
 grind [stk,Wn]
theorem Wlz{l:List Opn}{j:Nat}(h:j<l.length)(h9:l[j].1=9):stk l (j+1)=(stk l j).dropLast:=by
 grind [stk,Wn]
theorem Weo{l:List Opn}{j:Nat}(h:j<l.length)(h8:l[j].1≠8)(h9:l[j].1≠9):stk l (j+1)=stk l j:=by
 grind [stk,Wn]
theorem Wtn{o:Opn}(h:o.1=8):opd o=1:=by unfold opd;simp[h]
theorem Wqi{o:Opn}(h:o.1=9):opd o= -1:=by unfold opd;simp[h]
theorem Wu6{o:Opn}(h8:o.1≠8)(h9:o.1≠9):opd o=0:=by
 grind [opd]
theorem Wbn{α:Type}(l:List α):l= []\/∃q x,l=q++ [x]:=by
 rcases List.eq_nil_or_concat l with h|⟨q,x,h⟩
 .grind
 simp_all
def Up(l:List Opn):Prop:=∀i,i<l.length->0<=dep l (i+1)
theorem Up.at{l:List Opn}(h:Up l){j:Nat}(hj:j<=l.length):0<=dep l j:=by
 cases j with
 |zero=>rw[Wdk];omega
 |succ j=>exact h j hj
theorem WbJ{l:List Opn}(h:Up l):∀j,j<=l.length->((stk l j).length:Int)=dep l j
 |0,_=>by rw[Wdk];rfl
 |j+1,hj=>by
  have hj':j<l.length:=hj;have ih:=WbJ h j (by omega);have hd:=WaQ hj';have hu:=h j hj'
  grind [Wjv,Wtn,Xz,Wlz,Wqi,Xds,Weo,Wu6]
theorem WhW{l:List Opn}:∀(j:Nat),j<=l.length->∀(s t:List Nat) (m:Nat),stk l j=s++m::t->
  m<j/\(∃h:m<l.length,l[m].1=8)/\stk l m=s/\∀i,m<i->i<=j->∃t',stk l i=s++m::t'
 |0,_,s,t,m,h=>by simp[stk]at h
 |j+1,hj,s,t,m,h=>by
  have hj':j<l.length:=hj;have ih:=WhW (l:=l) j (by omega);have next:∀t0,stk l j=s++m::t0->m<j+1/\(∃h:m<l.length,l[m].1=8)/\stk l m=s/\∀i,m<i->i<=j+1->∃t',stk l i=s++m::t':=λt0 h0=>by
   grind
  by_cases h8:l[j].1=8
  .rw[Wjv hj' h8]at h;rcases Wbn t with rfl|⟨t0,x,rfl⟩
   .obtain⟨e1,e2⟩:=Xdt (h:stk l j++ [j]=s++ [m]) rfl
    grind [Wjv]
   .have h2:stk l j++ [j]=(s++m::t0)++ [x]:=by rw[h,List.append_assoc,List.cons_append]
    obtain⟨e1,e2⟩:=Xdt h2 rfl
    grind [stk,Wjv]
  .by_cases h9:l[j].1=9
   .rw[Wlz hj' h9]at h;rcases Wbn (stk l j)with h0|⟨q,x,hq⟩
    .simp_all
    simp_all
   grind [Weo]
theorem WkE{l:List Opn}{a b:Nat}(fN:a<=b)(hb:b<=l.length)(tB:bal ((l.take b).drop a)=true):stk l b=stk l a:=by
 obtain⟨h1,h2⟩:=WoI.1 tB;have hlen:((l.take b).drop a).length=b-a:=by simp;omega
 have key:∀i,i<=b-a->∃t,stk l (a+i)=stk l a++t/\(t.length:Int)=dep ((l.take b).drop a) i:=by
  intro i
  induction i with
  |zero=>simp[Wdk]
  |succ i ih=>
   intro hi;obtain⟨t,wM,yI⟩:=ih (by omega);have gO:a+i<l.length:=by omega
   have sw:i<((l.take b).drop a).length:=by omega
   have hd:=WaQ sw;have ei:((l.take b).drop a)[i]=l[a+i]:=by simp
   rw[ei]at hd;have hu:=h1 i sw;by_cases h8:l[a+i].1=8
   .grind [Xay,Wjv,Wtn,Xz]
   .by_cases h9:l[a+i].1=9
    .grind [Wqi,Xay,Wlz,List.dropLast_append_of_ne_nil,Xds]
    grind [Xay,Weo,Wu6]
 obtain⟨t,wM,yI⟩:=key (b-a) (Xn _);simp_all
structure Mate(l:List Opn)(m k:Nat):Prop where
 lt:m<k
 len:k<l.length
 eq:dep l (k+1)=dep l m
 ne:∀i,m<=i->i<k->dep l (i+1)≠dep l m
 st:stk l (k+1)=stk l m
theorem Wr0{l:List Opn}(hu:Up l)(h0:dep l l.length=0){j m:Nat}{s:List Nat}(hj:j<=l.length)(hs:stk l j=s++ [m]):∃k,j<=k/\Mate l m k/\stk l m=s:=by
 obtain⟨a,⟨hm,h8⟩,c,d⟩:=WhW j hj s [] m hs;have wN:=WbJ hu m (by omega);have low:∀i,m<=i->i<j->dep l (i+1)≠dep l m:=λi h1 h2=>by
  grind [WbJ]
 have fy:=hu.at (show m<=l.length by omega);have ex:∀n i,l.length-i=n->j<=i->i<=l.length->(∀i',m<=i'->i'<i->dep l (i'+1)≠dep l m)->dep l m<dep l i->∃k,j<=k/\k<l.length/\dep l (k+1)=dep l m/\∀i',m<=i'->i'<k->dep l (i'+1)≠dep l m:=by
  intro n
  induction n with
  |zero=>grind
  |succ n ih=>
   intro i h1 h2 h3 h4 h5;have gO:i<l.length:=by omega
   by_cases he:dep l (i+1)=dep l m
   .grind
   .have hd:=WaQ gO;have ho:=WhK l[i]
    grind
 have mc:dep l m<dep l j:=by
  grind [WbJ]
 obtain⟨k,k1,k2,k3,k4⟩:=ex _ j rfl (Xn _) hj low mc;have gz:m<k:=by omega
 have pre:∀n i,i=m+1+n->i<=k->∃t,stk l i=s++m::t:=by
  intro n
  induction n with
  |zero=>grind
  |succ n ih=>
   intro i h1 h2;obtain⟨t,ht⟩:=ih (m+1+n) rfl (by omega);have e:i=(m+1+n)+1:=by omega
   have gO:m+1+n<l.length:=by omega
   by_cases g8:l[m+1+n].1=8
   .grind [Wjv]
   .by_cases g9:l[m+1+n].1=9
    .rcases Wbn t with rfl|⟨t0,x,rfl⟩
     .grind [Wlz,stk,WbJ]
     grind [Wlz,Xdu]
    grind [Weo]
 obtain⟨t,ht⟩:=pre (k-m-1) k (by omega) (Xn _);have yJ:=WbJ hu k (by omega);have Ak:=WaQ k2;rw[ht]at yJ;rw[c]at wN;simp at yJ;have aJ:=WhK l[k];have g9:l[k].1=9:=by
  grind [Wtn,Wu6]
 have Al:t= []:=List.eq_nil_of_length_eq_zero (by omega);subst Al;refine⟨k,k1,⟨gz,k2,k3,k4,?_⟩,c⟩
 grind [Wlz]
theorem Wpa{l:List Opn}{m i:Nat}:((dep l (i+1) -dep l m)==(0:Int))=decide (dep l (i+1)=dep l m):=by
 grind
theorem Wij{N:Nat}{l:List Opn}{m k:Nat}(hl:l.length<=1048576)(hN:1048576<N)(h8:∃h:m<l.length,l[m].1=8)(hm:Mate l m k):Zg3 N l (m:Int)=ret (k:Int):=by
 obtain⟨qS,h8⟩:=h8;unfold Zg3;have e1:W6 .i64 (Wj l) 1=(l.length:Int) -1:=WaG (by unfold I64 Wj;omega);have e2:(decide (0<=(m:Int))&&decide ((m:Int)<=(l.length:Int) -1))=true:=by simp;omega
 have e3:(l[m].1 !=8)=false:=by simp[h8]
 simp only[W3,ret,Xd,e1,e2,Xx,We,WC qS,Wc,WJ qS,e3];have key:∀(c n i:Nat),k-i=c->m<=i->i<=k->l.length-i<n->∀{R:Type} (K0:Int->Option R) (K1:Int->Int->Bool->Option R),Zdx N l K0 K1 n (dep l i-dep l m) (i:Int)=K0 k:=by
  intro c
  induction c with
  |zero=>
   intro n i h1 h2 h3 h4 R K0 K1;have:i=k:=by omega
   subst this;cases n with
   |zero=>omega
   |succ n=>
    have gO:=hm.len;have hd:=WaQ gO;have hb:=WdB l i;have kL:=WdB l m;have ho:=WhK l[i];have e:Wm .i64 (dep l i-dep l m) (opd l[i])=dep l (i+1) -dep l m:=by grind [WL,I64]
    simp only[Zdx,Wat gO,WC gO,WJ gO,Wc,Wgw,ret,Xd,e];rw[Wpa];simp[hm.eq]
  |succ c ih=>
   intro n i h1 h2 h3 h4 R K0 K1;cases n with
   |zero=>omega
   |succ n=>
    have hk:=hm.len;have gO:i<l.length:=by omega
    have hd:=WaQ gO;have hb:=WdB l i;have kL:=WdB l m;have ho:=WhK l[i];have e:Wm .i64 (dep l i-dep l m) (opd l[i])=dep l (i+1) -dep l m:=by grind [WL,I64]
    have hne:=hm.ne i h2 (by omega);simp only[Zdx,Wat gO,WC gO,WJ gO,Wc,Wgw,ret,Xd,e,Wpa,hne,decide_false,We,Wt (show i<4611686018427387904 by omega)];exact ih n (i+1) (by omega) (by omega) (by omega) (by omega) K0 K1
 have:=key (k-m) N m rfl (Xn _) (by have:=hm.lt;omega) (by omega) (R:=Unit×Kh) (λbd=>some ((),(bd,()))) (λsJ zY iu=>some ((),((-1:Int),())));simp_all
end
section
theorem WoS{N:Nat}{o:Opn}:∃t:Int,Zbt N o=ret t/\Zgr N o=ret t:=by
 unfold Zbt Zgr;rw[WcT,Wfb];simp only[ret,Xd];cases Wd1 o
 .simp_all
 .cases o.1==5<;>cases o.1==6<;>cases o.1==12<;>cases o.1==13<;>cases o.1==14<;>cases o.1==15<;>cases o.1==16<;>exact⟨_,rfl,rfl⟩
noncomputable def Wie(o:Opn):Int:=match Zbt 0 o with|some (_,(t,_))=>t|none=>0
theorem Wwz{N:Nat}{o:Opn}:Zbt N o=Zbt 0 o:=by
 unfold Zbt;rw[WcT,WcT]
theorem Wee{N:Nat}{o:Opn}:Zbt N o=ret (Wie o):=by
 rw[Wwz];obtain⟨t,h,_⟩:=WoS (N:=0) (o:=o);unfold Wie;rw[h]
theorem Wgk{N:Nat}{o:Opn}:Zgr N o=ret (Wie o):=by
 obtain⟨t,h,h2⟩:=WoS (N:=N) (o:=o);rw[h2,←h,Wee]
noncomputable def WeS(o:Opn):Bool:=(o.1==11)||(Wie o==2)
noncomputable def WfI(l:List Opn):Bool:=Wov l&& !l.any WeS
theorem Whw{N:Nat}{l:List Opn}(hl:l.length<=1048576)(hN:1048576<N):Zfk N l=ret (l.any λo=>o.1==11):=by
 unfold Zfk;have h1:=WV (l:=l) (V:=Unit) (R:=Unit×Ko) (lp:=λn j v=>Zch N l (some ((),(true,()))) (λi8 t9=>some ((),(false,()))) n j) (n:=N) (by omega)
  (body:=λj x v k=>bif x.1==11 then some ((),(true,()))else k v) (K:=λ_ v=>some ((),(false,())))
  (λn i v hi=>by simp only[Zch,Wat hi,WC hi,WJ hi,Wt (show i<4611686018427387904 by omega),Wc])
  (λn v=>by simp[Zch,WaO,Xn,We]) ()
 refine h1.trans ?_;rw[WaM (p:=λx:Opn=>x.1==11) (E:=λ_=>some ((),(true,()))) l 0 () (λj x v k _=>rfl)];cases l.any λo:Opn=>o.1==11<;>rfl
theorem Wom{N:Nat}{l:List Opn}(hl:l.length<=1048576)(hN:1048576<N):Zg1 N l=ret (WfI l):=by
 unfold Zg1 WfI;simp only[Whq hl hN,ret,Xd];cases Wov l with
 |false=>rfl
 |true=>
  simp only[Whw hl hN,ret,Xd,Xx,We,Xbu];have h1:=WV (l:=l) (V:=Unit) (R:=Unit×Ko) (lp:=λn j v=>Zdt N l (some ((),(false,()))) (λi8 t9=>some ((),(true,()))) n j) (n:=N) (by omega)
   (body:=λj x v k=>bif Wie x==2 then some ((),(false,()))else k v) (K:=λ_ v=>some ((),(true,())))
   (λn i v hi=>by simp only[Zdt,Wat hi,WC hi,WJ hi,Wt (show i<4611686018427387904 by omega),Wc,Wee,ret,Xd])
   (λn v=>by simp[Zdt,WaO,Xn,We]) ()
  (try simp only[]at h1)
  rw[h1,WaM (p:=λx=>Wie x==2) (E:=λ_=>some ((),(false,()))) l 0 () (λj x v k _=>rfl)];have e:l.any WeS=((l.any λo=>o.1==11)||l.any λo=>Wie o==2):=by
   grind [WeS,Wie]
  rw[e];cases l.any λo:Opn=>o.1==11<;>cases l.any λo=>Wie o==2<;>rfl
theorem Wox{N:Nat}{l:List Opn}(hl:l.length<=1048576)(hN:1048576<N):Zg2 N l=ret (WfI l):=by
 unfold Zg2 WfI;have h1:=WV (l:=l) (V:=Unit) (R:=Unit×Ko) (lp:=λn j v=>Zdu N l (some ((),(false,()))) (λaI aK=>((Zco N l).bind λcF=>(some ((),(cF.2.1,()))))) n j) (n:=N) (by omega)
  (body:=λj x v k=>bif WeS x then some ((),(false,()))else k v) (K:=λ_ v=>ret (Wov l))
  (λn i v hi=>by
   simp only[Zdu,Wat hi,WC hi,WJ hi,Wt (show i<4611686018427387904 by omega),Wc,Wgk,ret,Xd,WeS];cases l[i].1==11<;>rfl)
  (λn v=>by simp_all [Zdu,WaO,Xn,We,Whn,ret,Xd]) ()
 refine h1.trans ?_;rw[WaM (p:=WeS) (E:=λ_=>some ((),(false,()))) l 0 () (λj x v k _=>rfl)];cases l.any WeS<;>cases Wov l<;>rfl
def WdD(l:List Int):Bool:=decide (l.length=4)&&l.all Wbj
theorem Wdj{N:Nat}{l:List Int}(hl:l.length<=1048576)(hN:1048576<N):Zae N l 4=ret (WdD l):=by
 unfold Zae WdD;have h1:=WV (l:=l) (V:=Unit) (R:=Unit×Ko) (lp:=λn j v=>Zax N l 4 (some ((),(false,()))) (λi8 t9=>some ((),((Wj l)==(4:Int),()))) n j) (n:=N) (by omega)
  (body:=λj x v k=>bif !Wbj x then some ((),(false,()))else k v) (K:=λ_ v=>some ((),((Wj l)==(4:Int),())))
  (λn i v hi=>by simp only[Zax,Wat hi,WC hi,WJ hi,Wt (show i<4611686018427387904 by omega),Wc,WaF,ret,Xd])
  (λn v=>by simp[Zax,WaO,Xn,We]) ()
 refine h1.trans ?_;rw[WaM (p:=λx=>!Wbj x) (E:=λ_=>some ((),(false,()))) l 0 () (λj x v k _=>rfl),WcF];have e:((Wj l)==(4:Int))=decide (l.length=4):=by
  grind [Wj]
 rw[e];cases l.all Wbj<;>simp
end
section
section
variable{o:Opn}
theorem WrR(h:Wd1 o=true)(h1:1<=o.1)(h4:o.1<=4):Waa o.2.1=true/\(o.1=1->Wbj o.2.2.1=true)/\(o.1≠1->Waa o.2.2.1=true/\Waa o.2.2.2=true):=by
 obtain⟨k,a,b,c⟩:=o;simp only at h1 h4;have:k=1\/k=2\/k=3\/k=4:=by omega
 rcases this with rfl|rfl|rfl|rfl
 .have:(Waa a&&Wbj b&&(c==(0:Int)))=true:=h;simp_all
 all_goals
  have:(Waa a&&Waa b&&Waa c)=true:=h;simp_all
theorem WvW(h:Wd1 o=true)(h5:o.1=5):Waa o.2.1=true/\Waf o.2.2.1=true:=by
 obtain⟨k,a,b,c⟩:=o;simp only at h5;subst h5;have:(Waa a&&Waf b&&(c==(0:Int)))=true:=h;simp_all
theorem Wwe(h:Wd1 o=true)(h5:o.1=6):Waf o.2.1=true/\Waa o.2.2.1=true:=by
 obtain⟨k,a,b,c⟩:=o;simp only at h5;subst h5;have:(Waf a&&Waa b&&(c==(0:Int)))=true:=h;simp_all
theorem Wvm(h:Wd1 o=true)(h5:o.1=7):Waa o.2.1=true/\1<=o.2.2.1/\o.2.2.1<=20:=by
 obtain⟨k,a,b,c⟩:=o;simp only at h5;subst h5;have:(Waa a&&(decide (1<=b)&&decide (b<=20))&&(c==(0:Int)))=true:=h;simp_all
theorem Ww8(h:Wd1 o=true)(h5:o.1=8):Waa o.2.1=true:=by
 obtain⟨k,a,b,c⟩:=o;simp only at h5;subst h5;have:(Waa a&&(b==(0:Int))&&(c==(0:Int)))=true:=h;simp_all
theorem WoJ(h:Wd1 o=true):1<=o.1/\o.1<=16:=by
 by_cases hk:1<=o.1/\o.1<=16
 .exact hk
 .exfalso;have e:∀n:Int,1<=n->n<=16->(o.1==n)=false:=λn h1 h2=>by simp;omega
  simp_all [Wd1]
end
theorem Wbl{x:Int}{l:List Int}(h:Waa x=true)(hl:l.length=4):inb x l.length=true:=by
 grind [Waa,inb]
structure Vals(n:Nat)(l:List Int):Prop where
 len:l.length=n
 val:∀x∈l,0<=x/\x<=65535
theorem Vals.get{n:Nat}{l:List Int}(h:Vals n l)(i:Nat):0<=l.getD i 0/\l.getD i 0<=65535:=by
 by_cases hi:i<l.length
 .rw[Wn hi];exact h.val _ (Xp hi)
 simp_all
theorem Vals.set{n:Nat}{l:List Int}(h:Vals n l)(i:Nat){x:Int}(hx:0<=x/\x<=65535):Vals n (l.set i x):=
 ⟨by rw[Xab];exact h.len,λy hy=>by
  rcases List.mem_or_eq_of_mem_set hy with hy|hy
  .exact h.val y hy
  omega⟩
theorem WaD{x:Int}:Wbj x=true↔0<=x/\x<=65535:=by unfold Wbj;simp
theorem Wfl{l:List Int}:WdD l=true↔Vals 4 l:=by
 unfold WdD;rw[Xi,Wh,Xac];exact⟨λh=>⟨h.1,λx hx=>WaD.1 (h.2 x hx)⟩,λh=>⟨h.len,λx hx=>WaD.2 (h.val x hx)⟩⟩
theorem Wpm{l:List Int}:WeB l=true↔Vals 8 l:=by
 unfold WeB;rw[Xi,Wh,Xac];exact⟨λh=>⟨h.1,λx hx=>WaD.1 (h.2 x hx)⟩,λh=>⟨h.len,λx hx=>WaD.2 (h.val x hx)⟩⟩
def Wnf(o:Opn)(r:List Int):List Int:=
 bif o.1==1 then r.set o.2.1.toNat o.2.2.1 else
 bif o.1==2 then r.set o.2.1.toNat ((r.getD o.2.2.1.toNat 0+r.getD o.2.2.2.toNat 0)%65536)else
 bif o.1==3 then r.set o.2.1.toNat ((r.getD o.2.2.1.toNat 0-r.getD o.2.2.2.toNat 0+65536)%65536)else
 bif decide (r.getD o.2.2.1.toNat 0<r.getD o.2.2.2.toNat 0)then r.set o.2.1.toNat 1 else r.set o.2.1.toNat 0
theorem Wb4{x:Int}(h:0<=x):Whx x 65536=x%65536:=by grind [Whx,Xcy]
theorem WhS{o:Opn}{r:List Int}(h:Wd1 o=true)(h1:1<=o.1)(h4:o.1<=4)(hr:Vals 4 r):Vals 4 (Wnf o r):=by
 obtain⟨_,hv,_⟩:=WrR h h1 h4;unfold Wnf;cases e1:o.1==1
 .cases o.1==2
  .cases o.1==3
   .cases decide (r.getD o.2.2.1.toNat 0<r.getD o.2.2.2.toNat 0)
    .exact hr.set _ (by omega)
    .exact hr.set _ (by omega)
   .exact hr.set _ (by omega)
  .exact hr.set _ (by omega)
 .exact hr.set _ (WaD.1 (hv (by simp_all)))
section
variable{N:Nat}{o:Opn}{r:List Int}
theorem WhI(hN:1048576<N)(h:Wd1 o=true)(h1:1<=o.1)(h4:o.1<=4)(hr:Vals 4 r):Zly N o r=some ((),(Wnf o r,(true,()))):=by
 obtain⟨ha,hv,Am⟩:=WrR h h1 h4;unfold Zly Zq;have e0:WN r.length=true:=WE (by rw[hr.len];omega);have e4:decide (o.1>4)=false:=by simp;omega
 have e5:WdD r=true:=Wfl.2 hr;have ea:=Wbl ha hr.len;have ez:inz 65536=true:=rfl;have gb:=hr.get o.2.2.1.toNat;have gc:=hr.get o.2.2.2.toNat;simp only[e0,Wc,Xd,Wfb,ret,h,Xx,We,e4,Wdj (l:=r) (by rw[hr.len];omega) hN,e5,ea,ez];unfold Wnf;by_cases k1:o.1=1
 .simp_all
 .have b:(o.1==1)=false:=by simp[k1]
  obtain⟨hb,hc⟩:=Am k1;rw[b];simp only[We,Wbl hb hr.len,Wbl hc hr.len,Wc,Xab,ea];have s1:Wm .i64 (r.getD o.2.2.1.toNat 0) (r.getD o.2.2.2.toNat 0)=r.getD o.2.2.1.toNat 0+r.getD o.2.2.2.toNat 0:=WL (by unfold I64;omega);have s2:W6 .i64 (r.getD o.2.2.1.toNat 0) (r.getD o.2.2.2.toNat 0)=r.getD o.2.2.1.toNat 0-r.getD o.2.2.2.toNat 0:=WaG (by unfold I64;omega);have s3:Wm .i64 (r.getD o.2.2.1.toNat 0-r.getD o.2.2.2.toNat 0) 65536=r.getD o.2.2.1.toNat 0-r.getD o.2.2.2.toNat 0+65536:=WL (by unfold I64;omega);rw[s1,s2,s3,Wb4 (by omega),Wb4 (by omega)];cases o.1==2
  .cases o.1==3
   .simp only[We,WD,Xdi];cases decide (r.getD o.2.2.1.toNat 0<r.getD o.2.2.2.toNat 0)<;>rfl
   .rfl
  .rfl
end
def Wxl(c:List Int)(rows:List Rw):List Int:=rows.foldr (λr c=>c.set r.1.toNat r.2) c
def WfW(l:List Rw):Prop:=∀r∈l,(0<=r.1/\r.1<=7)/\0<=r.2/\r.2<=65535
theorem Wk1{l:List Rw}:l.all Wlr=true↔WfW l:=by
 simp[Xac,WfW,Wlr,Waf,Wbj]
theorem Wn8{c:List Int}(hc:Vals 8 c):∀{l:List Rw},WfW l->Vals 8 (Wxl c l)
 | [],_=>hc
 |r::l,h=>by
  have ih:=Wn8 hc (l:=l) λx hx=>h x (Xe _ hx);exact ih.set _ (h r (Xh ..)).2
theorem Wcv{N:Nat}{l:List Int}(h:l.length<=1048576):Zq N l=ret l:=by
 simp_all [Zq,Wuc,Wc]
end
section
structure Lin{α:Type}(cf:α->α->Int):Prop where
 irr:∀x,¬cf x x<0
 tr:∀x y z,cf x y<0->cf y z<0->cf x z<0
 nt:∀x y z,¬cf x y<0->¬cf y z<0->¬cf x z<0
theorem Wt5:Lin cfE:=⟨λx=>by unfold cfE;omega,λx y z=>by unfold cfE;omega,λx y z=>by unfold cfE;omega⟩
theorem Wor:Lin cfH:=⟨λx=>by rw[Wcd];omega,λx y z=>by simp only[Wcd];omega,λx y z=>by simp only[Wcd];omega⟩
def Ris{α:Type}(cf:α->α->Int)(l:List α):Prop:=l.Pairwise λa b=>cf a b<0
def Wfr{α:Type}(cf:α->α->Int):List α->α->List α
 | [],e=>[e]
 |x::l,e=>if cf x e<0 then x::Wfr cf l e else if cf e x<0 then e::x::l else e::l
def Ap{α:Type}(cf:α->α->Int)(x y:α):Prop:=cf x y<0\/cf y x<0
variable{α:Type}{cf:α->α->Int}
theorem Lin.ap(h:Lin cf){x y:α}(hn:¬Ap cf x y){z:α}:(cf x z<0↔cf y z<0)/\(cf z x<0↔cf z y<0):=by
 unfold Ap at hn;refine⟨⟨λa=>?_,λa=>?_⟩,⟨λa=>?_,λa=>?_⟩⟩
 .exact Classical.byContradiction λc=>h.nt x y z (λq=>hn (.inl q)) c a
 .exact Classical.byContradiction λc=>h.nt y x z (λq=>hn (.inr q)) c a
 .exact Classical.byContradiction λc=>h.nt z y x c (λq=>hn (.inr q)) a
 .exact Classical.byContradiction λc=>h.nt z x y c (λq=>hn (.inl q)) a
theorem WbC(hc:Lin cf){e x:α}:∀{l:List α},Ris cf l->(x∈Wfr cf l e↔x=e\/(x∈l/\Ap cf x e))
 | [],_=>by simp[Wfr]
 |y::l,h=>by
  have hl:=(Xy.1 h);unfold Wfr;by_cases h1:cf y e<0
  .rw[Wb h1,Xr,WbC hc hl.2,Xr];refine⟨?_,?_⟩
   .rintro(rfl|h|h)
    .exact .inr ⟨.inl rfl,.inl h1⟩
    .grind
    simp_all
   grind
  .rw[Wa h1];by_cases h2:cf e y<0
   .rw[Wb h2];simp only[Xr];refine⟨?_,?_⟩
    .rintro(h|rfl|h)
     .grind
     .exact .inr ⟨.inl rfl,.inr h2⟩
     .exact .inr ⟨.inr h,.inr (hc.tr _ _ _ h2 (hl.1 x h))⟩
    grind
   .rw[Wa h2];simp only[Xr];have hn:¬Ap cf y e:=by unfold Ap;omega
    refine⟨?_,?_⟩
    .rintro(h|h)
     .grind
     .exact .inr ⟨.inr h,.inr ((hc.ap hn).1.1 (hl.1 x h))⟩
    grind
theorem Wct(hc:Lin cf){e:α}:∀{l:List α},Ris cf l->Ris cf (Wfr cf l e)
 | [],_=>by simp[Wfr,Ris]
 |y::l,h=>by
  have hl:=(Xy.1 h);unfold Wfr;by_cases h1:cf y e<0
  .rw[Wb h1];refine Xy.2 ⟨λx hx=>?_,Wct hc hl.2⟩;rcases(WbC hc hl.2).1 hx with rfl|hx
   .exact h1
   simp_all
  .rw[Wa h1];by_cases h2:cf e y<0
   .rw[Wb h2];refine Xy.2 ⟨λx hx=>?_,h⟩;rcases Xr.1 hx with rfl|hx
    .exact h2
    .exact hc.tr _ _ _ h2 (hl.1 x hx)
   .rw[Wa h2];have hn:¬Ap cf y e:=by unfold Ap;omega
    exact Xy.2 ⟨λx hx=>(hc.ap hn).1.1 (hl.1 x hx),hl.2⟩
theorem Woe(hc:Lin cf){L M:List α}(hM:Ris cf M)(hL:L.Pairwise (Ap cf))(hm:∀x,x∈L↔x∈M):sortBy cf L=M:=by
 have hn:∀{l:List α},l.Pairwise (Ap cf)->l.Nodup:=λh=>h.imp λ{a b} fN=>by
  rintro rfl;unfold Ap at fN;have:=hc.irr a;omega
 have hM':M.Pairwise (Ap cf):=hM.imp λh=>.inl h;have hp:L.Perm M:=(List.perm_ext_iff_of_nodup (hn hL) (hn hM')).2 hm;unfold sortBy;have h1:=List.pairwise_mergeSort (le:=λx y=>!lessBy cf y x) (λa b c=>by
  simp only[lessBy,Xaq,Ww]
  exactλh1 h2=>hc.nt _ _ _ h2 h1) (λa b=>by
  simp only[lessBy,Xbw,Xaq,Ww];rcases Classical.em (cf b a<0)with h|h
  .exact .inr λh'=>hc.irr _ (hc.tr _ _ _ h h')
  omega) L
 refine List.Perm.eq_of_pairwise ?_ h1 (hM.imp λ{a b} h=>?_) ((Xgi _ _).trans hp)
 .intro a b ha hb h1 h2;simp only[lessBy,Xaq,Ww]at h1 h2;have Ao:a∈M:=(hm a).1 ((Xgi _ _).mem_iff.1 ha);obtain⟨i,hi,rfl⟩:=Xam Ao;obtain⟨j,hj,rfl⟩:=Xam hb;rcases Nat.lt_trichotomy i j with h|h|h
  .exact Wg (Xar.1 hM i j hi hj h) h2
  .grind
  .exact Wg (Xar.1 hM j i hj hi h) h1
 .simp only[lessBy,Xaq,Ww]
  exactλh'=>hc.irr _ (hc.tr _ _ _ h h')
theorem Wo8{r:α->α->Bool}{R:α->α->Prop}(hr:∀a b,R a b->r a b=true):∀{l:List α},l.Pairwise R->Wk3 r l=true
 | [],_=>rfl
 |x::l,h=>by
  have:=Xy.1 h;simp only[Wk3,Xi,Xac];exact⟨λy hy=>hr _ _ (this.1 y hy),Wo8 hr this.2⟩
theorem WpD(hc:Lin cf){rng:α->Bool}{N:Nat}{L M:List α}(hM:Ris cf M)(hL:L.Pairwise (Ap cf))(hm:∀x,x∈L↔x∈M)(hr:∀x∈L,rng x=true)(hl:L.length<=1048576):
  Zma rng cf N L=some ((M,()),()):=by
 grind [Zma,Xac,Wo8,Ap,apart,lessBy,decide_eq_true,Woe]
theorem WmJ(hc:Lin cf){L:List α}{e:α}{i:Nat}(hL:L.Pairwise (Ap cf))(hi:i<L.length)(hk:¬Ap cf L[i] e):(L.set i e).Pairwise (Ap cf)/\∀x,x∈L.set i e↔x=e\/(x∈L/\Ap cf x e):=by
 have wO:∀{z},Ap cf L[i] z↔Ap cf e z:=λ{z}=>by unfold Ap;rw[(hc.ap hk).1,(hc.ap hk).2]
 have Aq:∀{a b:α},Ap cf a b->Ap cf b a:=λh=>h.symm;have hG:=Xar.1 hL;refine⟨?_,λx=>⟨λhx=>?_,?_⟩⟩
 .rw[Xar]
  grind
 .obtain⟨j,hj,rfl⟩:=Xam hx
  grind
 .rintro(rfl|⟨hx,lz⟩)
  .grind [Xew]
  .obtain⟨j,hj,rfl⟩:=Xam hx;refine Xew.2 ⟨j,by simp_all,?_⟩;rw[Xao,Wa]
   grind
theorem WjX{L:List α}{e:α}(hL:L.Pairwise (Ap cf))(hk:∀x∈L,Ap cf x e):(L++ [e]).Pairwise (Ap cf)/\∀x,x∈L++ [e]↔x=e\/(x∈L/\Ap cf x e):=by
 grind
end
section
abbrev KM:=Int×Int×List Int
structure Kd where
 phase:Int:=0
 pc:Int:=0
 since:Int:=0
 tries:Int:=0
 pos:Int:=0
 out:Int:=0
 regs:List Int:=[]
 seen:List En:=[]
 writes:List Rw:=[]
 marks:List KM:=[]
 busy:Bool:=false
 pb:Pb:=(0,0,0,0)
def Kd.e(x:Kd):Y_KidRun:=(x.phase,x.pc,x.since,x.tries,x.pos,x.out,x.regs,x.seen,x.writes,x.marks,x.busy,x.pb)
structure Fm where
 rv:Int:=0
 clock:Int:=0
 owner:Int:=0
 lost:Bool:=false
 regs:List Int:=[]
 start:List Rw:=[]
 buf:List En:=[]
 order:List Int:=[]
 reads:List Rw:=[]
 kids:List Kd:=[]
def Fm.e(f:Fm):Y_Family:=(f.rv,f.clock,f.owner,f.lost,f.regs,f.start,f.buf,f.order,f.reads,f.kids.map Kd.e)
def zOp:Opn:=(0,0,0,0)
def opN(code:List Opn)(i:Int):Opn:=Xc code i.toNat zOp
def Wbu{α:Type}(l:List α)(i:Int)(d:α):α:=Xc l i.toNat d
def WjU{α:Type}(l:List α)(i:Int)(x:α):List α:=Xl l i.toNat x
def WhO{α:Type}(l:List α)(d:α):α:=Xc l (l.length-1) d
def Wiw(l:List Opn)(m:Nat):Nat:=((Xda l.length).find? λk=>decide (m<=k)&&decide (dep l (k+1)=dep l m)).getD 0
def Fm.again(f:Fm)(x:Kd):Kd:={since:=f.clock,tries:=x.tries+1,regs:=f.regs}
def WdM(m:Mm)(f:Fm)(x:Kd)(o:Opn):Fm×Kd:=
 match Wbg x.writes o.2.2.1 with
 |some v=>(f,{x with regs:=WjU x.regs o.2.1 v,pc:=x.pc+1})
 |none=>match ent f.buf o.2.2.1 with
  |some r=>if r.2.2.2>x.since then(f,f.again x)else(f,{x with regs:=WjU x.regs o.2.1 r.2.2.1,seen:=x.seen++ [r.2],pc:=x.pc+1})
  |none=>
   let p:=WW m f.rv (if x.busy then x.pb else(o.2.2.1,0,0,0))
   if p.2.1=4 then({f with lost:=true},{x with busy:=true,pb:=p})
   else if p.2.1=3 then(f,{x with regs:=WjU x.regs o.2.1 p.2.2.2,seen:=x.seen++ [(o.2.2.1,p.2.2.2,-1)],busy:=false,pb:=(0,0,0,0),pc:=x.pc+1})
   else(f,{x with busy:=true,pb:=p})
def Wib(x:Kd)(code:List Opn):Kd:=
 if x.marks.length=0 then{x with writes:=[],out:=2,phase:=1}else
 let q:=WhO x.marks (0,0,[])
 {x with marks:=x.marks.dropLast,regs:=WjU q.2.2 (opN code q.1).2.1 0,writes:=x.writes.take q.2.1.toNat,pc:=Wiw code q.1.toNat+1}
def WpB(m:Mm)(f:Fm)(x:Kd)(code:List Opn):Fm×Kd:=
 if x.pc>=code.length then(f,{x with out:=1,phase:=1})else
 let o:=opN code x.pc
 if o.1=5 then WdM m f x o else
 if o.1=10 then(f,Wib x code)else
 if o.1=6 then(f,{x with writes:=x.writes++ [(o.2.1,Wbu x.regs o.2.2.1 0)],pc:=x.pc+1})else
 if o.1=7 then(f,{x with pc:=(if Wbu x.regs o.2.1 0=0 then x.pc+o.2.2.1 else x.pc)+1})else
 if o.1=8 then(f,{x with marks:=x.marks++ [(x.pc,(x.writes.length:Int),x.regs)],pc:=x.pc+1})else
 if o.1=9 then(f,{x with marks:=x.marks.dropLast,regs:=WjU x.regs (opN code (WhO x.marks (0,0,[])).1).2.1 1,pc:=x.pc+1})else
 (f,{x with regs:=Wnf o x.regs,pc:=x.pc+1})
def Wbp(c:Int)(b:List En)(rows:List Rw):List En:=rows.foldl (λb r=>Wfr cfE b (r.1,r.2,c)) b
def WaX(l:List En):List Rw:=(l.filter λe=>decide (e.2.2= -1)).map λe=>(e.1,e.2.1)
def WcL(f:Fm)(x:Kd)(k:Nat):Fm×Kd:=
 ({f with clock:=f.clock+1,buf:=Wbp (f.clock+1) f.buf (Wco x.writes),reads:=f.reads++WaX x.seen,order:=f.order++ [(k:Int)],owner:=0},{x with phase:=3,pos:=0,marks:=[]})
def Wsf(b:List En)(c:Int):Int:=match ent b c with
 |some r=>r.2.2.2
 |none=>-1
def Wdu(m:Mm)(f:Fm)(x:Kd)(k:Nat)(code:List Opn):Fm×Kd:=
 if x.phase=0 then WpB m f x code else
 if x.phase=1 then(if f.owner=0 then({f with owner:=(k:Int)+1},{x with phase:=2})else(f,x))else
 if x.phase=2 then
  if x.pos=x.seen.length then WcL f x k else
  let s:=Wbu x.seen x.pos (0,0,0)
  if Wsf f.buf s.1=s.2.2 then(f,{x with pos:=x.pos+1})else({f with owner:=0},f.again x)
 else(f,x)
def Fm.put(q:Fm×Kd)(k:Nat):Fm:={q.1 with kids:=q.1.kids.set k q.2}
def Wbx(m:Mm)(f:Fm)(k:Nat)(code:List Opn):Fm:=
 if f.lost then f else Fm.put (Wdu m f (f.kids.getD k {}) k code) k
def War(rv:Int)(regs:List Int)(writes:List Rw)(kids:Nat):Fm:=
 {rv:=rv,regs:=regs,start:=Wco writes,buf:=(Wco writes).map λr=>(r.1,r.2,0),kids:=List.replicate kids {regs:=regs}}
def Wa2(f:Fm):Bool:=f.kids.all λx=>decide (x.phase=3)
def WfS(f:Fm):List Rw:=f.buf.map λe=>(e.1,e.2.1)
def WmE(x:Kd):Int:=if x.out=1/\WdD x.regs=true then Wbu x.regs 0 0 else 0
def Wed(f:Fm):List Int:=
 if WdD f.regs=true/\f.kids.length<=3 then f.kids.map WmE++f.regs.drop f.kids.length else []
structure KMk(code:List Opn)(pc:Nat)(marks:List KM)(wl:Nat):Prop where
 pcs:marks.map (·.1)=(stk code pc).map λm:Nat=>(m:Int)
 each:∀q∈marks,Vals 4 q.2.2/\0<=q.2.1/\q.2.1<=q.1/\q.2.1<=wl
 up:marks.Pairwise λa b=>a.2.1<=b.2.1
structure KOk(code:List Opn)(c n:Int)(x:Kd):Prop where
 pc:0<=x.pc/\x.pc<=code.length
 regs:Vals 4 x.regs
 rows:WfW x.writes
 wl:(x.writes.length:Int)<=x.pc
 sl:(x.seen.length:Int)<=x.pc
 since:0<=x.since/\x.since<=c
 tries:0<=x.tries/\x.tries<=n
 seen:∀e∈x.seen,(0<=e.1/\e.1<=7)/\(0<=e.2.1/\e.2.1<=65535)/\ -1<=e.2.2/\e.2.2<=x.since
 marks:x.phase=0->KMk code x.pc.toNat x.marks x.writes.length
 pos:0<=x.pos/\x.pos<=x.seen.length
 pb:x.busy=true->WkG x.pb=true
 phase:0<=x.phase/\x.phase<=3
 out:0<=x.out/\x.out<=2
structure FOk(codes:List (List Opn))(n:Int)(f:Fm):Prop where
 len:f.kids.length=codes.length
 regs:Vals 4 f.regs
 clock:0<=f.clock/\f.clock=f.order.length
 done:f.order.length=f.kids.countP λx=>decide (x.phase=3)
 bufR:Ris cfE f.buf
 bufE:∀e∈f.buf,(0<=e.1/\e.1<=7)/\(0<=e.2.1/\e.2.1<=65535)/\0<=e.2.2/\e.2.2<=f.clock
 readsL:f.reads.length<=24*f.order.length
 readsE:WfW f.reads
 owner:0<=f.owner/\f.owner<=f.kids.length
 kid:∀(k:Nat) (h:k<f.kids.length),KOk (codes.getD k []) f.clock n f.kids[k]
end
section
structure CC(l:List Opn):Prop where
 len:l.length<=24
 up:Up l
 z:dep l l.length=0
 ok:∀i (h:i<l.length),Wd1 l[i]=true/\1<=l[i].1/\l[i].1<=16
 sk:∀i (h:i<l.length),l[i].1=7->i+1+l[i].2.2.1.toNat<=l.length/\bal ((l.take (i+1+l[i].2.2.1.toNat)).drop (i+1))=true
 fk:∀i (h:i<l.length),l[i].1=11->dep l i=0/\frk l (i+1)<=1
structure KC(l:List Opn):Prop extends CC l where
 k10:∀i (h:i<l.length),l[i].1<=10
theorem Wrw{o:Opn}(h:Wd1 o=true)(fv:12<=o.1):Wie o=2:=by
 have uB:=WoJ h;have key:=Wee (N:=0) (o:=o);unfold Zbt at key;rw[WcT,h]at key;simp only[ret,Xd,Xx,We]at key;have e5:(o.1==5)=false:=by simp;omega
 have e6:(o.1==6)=false:=by simp;omega
 rw[e5,e6]at key;simp only[We]at key;have:o.1=12\/o.1=13\/o.1=14\/o.1=15\/o.1=16:=by omega
 rcases this with hk|hk|hk|hk|hk<;> · simp_all
theorem Wwh{l:List Opn}(h:Wov l=true):CC l:=by
 unfold Wov at h;simp only[Xi,Wh,Xaq]at h;obtain⟨h1,h2,h3⟩:=h;obtain⟨b1,b2⟩:=WoI.1 h2;have hb:∀i (hi:i<l.length),WnU l i l[i]=false:=λi hi=>by
  rw[Bool.eq_false_iff];intro hb;have:WlU (WnU l) 0 l=true:=WgJ.2 ⟨i,hi,by simp_all⟩;simp_all
 have aJ:∀i (hi:i<l.length),Wd1 l[i]=true:=λi hi=>by
  grind [WnU,Xdp,Xfd]
 refine⟨h1,b1,b2,λi hi=>⟨aJ i hi,WoJ (aJ i hi)⟩,λi hi h7=>?_,λi hi fI=>?_⟩
 .grind [WnU,Xdp,Xfd,Wik]
 grind [WnU,Xdp,Xfd]
theorem Wxr{l:List Opn}(h:WfI l=true):KC l:=by
 unfold WfI at h;simp only[Xi,Xaq]at h;have hc:=Wwh h.1;refine⟨hc,λi hi=>?_⟩;have cu:WeS l[i]=false:=by
  grind
 unfold WeS at cu;simp only[Xdp]at cu;by_cases cP:l[i].1<=10
 .exact cP
 .exfalso;by_cases fI:l[i].1=11
  .simp_all
  .have:=Wrw (hc.ok i hi).1 (by omega);simp_all
theorem Wp5{l:List Opn}{m k:Nat}(h:Mate l m k):Wiw l m=k:=by
 unfold Wiw;have:(Xda l.length).find? (λk=>decide (m<=k)&&decide (dep l (k+1)=dep l m))=some k:=by
  rw[List.find?_range_eq_some];have:=h.lt;refine⟨?_,List.mem_range.2 h.len,λj hj=>?_⟩
  .simp[h.eq];omega
  .simp only[Xaq,Bool.and_eq_false_iff,Ww];by_cases hm:m<=j
   .exact .inr (h.ne j hm hj)
   omega
 grind
theorem WfF{l:List Opn}{i:Int}(h0:0<=i)(h:i<l.length):∃(n:Nat) (hn:n<l.length),i=n/\opN l i=l[n]:=by
 grind [opN,Wn]
theorem WkP{l:List Opn}{n:Nat}(h:n<l.length):opN l (n:Int)=l[n]:=by
 grind [opN,Wn]
theorem WqH{α:Type}(q:List α)(x d:α):WhO (q++ [x]) d=x:=by unfold WhO;simp
theorem WhF{M:Type}{g:M->Int}{l:List Opn}{pc:Nat}{marks:List M}{d:M}(hc:CC l)(hp:pc<=l.length)(hm:marks.map g=(stk l pc).map λm:Nat=>(m:Int))(hne:marks.length≠0):
  ∃(m:Nat) (q:List M) (x:M),marks=q++ [x]/\WhO marks d=x/\g x=(m:Int)/\(∃hm:m<l.length,l[m].1=8)/\m<pc/\Mate l m (Wiw l m)/\pc<=Wiw l m/\stk l m=(stk l pc).dropLast/\q.map g=(stk l m).map λm:Nat=>(m:Int):=by
 rcases Wbn marks with h0|⟨q,x,hq⟩
 .simp_all
 .rw[hq,Xu,Xak,Xbp]at hm;rcases Wbn (stk l pc)with h0|⟨t,m,ht⟩
  .simp_all
  .rw[ht,Xu,Xak,Xbp]at hm;obtain⟨e1,e2⟩:=Xdt hm rfl;injection e2 with e2;obtain⟨k,k1,k2,k3⟩:=Wr0 hc.up hc.z hp ht;have k4:=Wp5 k2;obtain⟨hlt,h8,_,_⟩:=WhW pc hp t [] m ht
   grind [WqH,Xdu]
end
section
theorem WsN{α β:Type}(g:α->β)(l:List α)(i:Nat)(d:α):Xc (l.map g) i (g d)=g (l.getD i d):=by
 simp_all
theorem kdP(x:Kd):x.e.1=x.phase/\x.e.2.1=x.pc/\x.e.2.2.1=x.since/\x.e.2.2.2.1=x.tries/\P4 x.e=x.pos/\P5 x.e=x.out/\P6 x.e=x.regs/\P7 x.e=x.seen/\P8 x.e=x.writes/\P9 x.e=x.marks/\P10 x.e=x.busy:=⟨rfl,rfl,rfl,rfl,rfl,rfl,rfl,rfl,rfl,rfl,rfl⟩
theorem fmP(f:Fm):f.e.1=f.rv/\f.e.2.1=f.clock/\f.e.2.2.1=f.owner/\f.e.2.2.2.1=f.lost/\P4 f.e=f.regs/\P5 f.e=f.start/\P6 f.e=f.buf/\P7 f.e=f.order/\P8 f.e=f.reads/\Q9 f.e=f.kids.map Kd.e:=⟨rfl,rfl,rfl,rfl,rfl,rfl,rfl,rfl,rfl,rfl⟩
theorem U9e(f:Fm)(k:Nat)(x:Kd):U9 (Xl (f.kids.map Kd.e) k x.e) f.e=Fm.e {f with kids:=f.kids.set k x}:=by
 unfold U9 Fm.e;rw[Xfu]
theorem Wq5{f f':Fm}{k:Nat}{x':Kd}{y:Y_KidRun}{g:Y_Family}(hy:y=x'.e)(hg:g=f'.e)(hf:f'.kids=f.kids):
  some ((U9 (Xl (f.kids.map Kd.e) k y) g,()),())=some (((Fm.put (f',x') k).e,()),()):=by
 subst hy hg;rw[←hf,U9e];rfl
theorem WrU(m:Mm)(f:Fm)(x:Kd)(o:Opn):WiU m f.e x.e o=((WdM m f x o).1.e,(WdM m f x o).2.e):=by
 unfold WiU WdM;have h1:P8 x.e=x.writes:=rfl;have h2:P6 f.e=f.buf:=rfl;rw[h1,h2];rcases Wbg x.writes o.2.2.1 with _|v
 .rcases ent f.buf o.2.2.1 with _|r
  .have h3:WpN x.e o.2.2.1=if x.busy then x.pb else(o.2.2.1,0,0,0):=by
    unfold WpN;have:P10 x.e=x.busy:=rfl;rw[this];cases x.busy<;>rfl
   simp only[h3];have h4:f.e.1=f.rv:=rfl;rw[h4];generalize WW m f.rv (if x.busy then x.pb else(o.2.2.1,0,0,0))=p;by_cases e4:p.2.1=4
   .have:(p.2.1==4)=true:=by simp_all
    rw[Wb e4,this];rfl
   .have:(p.2.1==4)=false:=by simp_all
    rw[Wa e4,this];by_cases e3:p.2.1=3
    .have:(p.2.1==3)=true:=by simp_all
     rw[Wb e3,this];rfl
    .have:(p.2.1==3)=false:=by simp_all
     rw[Wa e3,this];rfl
  .simp only;have h5:x.e.2.2.1=x.since:=rfl;rw[h5];by_cases hv:r.2.2.2>x.since
   .rw[Wb hv,Wf hv];rfl
   .rw[Wa hv,Wx hv];rfl
 .rfl
theorem WqG(m:Mm)(f:Fm)(x:Kd)(o:Opn):(WdM m f x o).1.kids=f.kids:=by
 grind [WdM,Wbg,ent,WW]
variable{N:Nat}{codes:List (List Opn)}{n:Int}{f:Fm}{k:Nat}{code:List Opn}{m:Mm}{x:Kd}
theorem FOk.buf8(h:FOk codes n f):f.buf.length<=8:=by
 have:∀(l:List En) (c:Int),Ris cfE l->(∀e∈l,c<=e.1/\e.1<=7)->(l.length:Int)<=8-c\/l= []:=by
  intro l
  induction l with
  |nil=>simp_all
  |cons a l ih=>
   intro c hr hb;left;have h1:=Xy.1 hr;have ha:=hb a (Xh ..);rcases ih (a.1+1) h1.2 (λe he=>⟨by grind [cfE],(hb e (Xe _ he)).2⟩)with h|h
   .grind
   grind
 rcases this f.buf 0 h.bufR (λe he=>by have:=(h.bufE e he).1;omega)with h|h
 .omega
 simp_all
theorem Wrk(hF:FOk codes n f)(hx:KOk code f.clock n x)(bb:KC code)(hm:W0 m=true)(hn:n<=100000){o:Opn}(hA:Waa o.2.1=true)(hB:Waf o.2.2.1=true):ReadOk m f.e x.e o where
 mem:=hm
 regs:=hx.regs.len
 famr:=hF.regs.len
 rA:=by grind [Waa]
 cB:=hB
 seen:=by have:=hx.sl;have:=hx.pc;have:=bb.len;show x.seen.length<=1000;omega
 wr:=by have:=hx.wl;have:=hx.pc;have:=bb.len;show x.writes.length<=1000;omega
 buf:=by have:=hF.buf8;show f.buf.length<=1000;omega
 ver:=λe he=>(hF.bufE e he).2.2.1
 since:=hx.since.1
 pc:=by have:=hx.pc;have:=bb.len;show 0<=x.pc/\x.pc<=1000;omega
 tries:=by have:=hx.tries;show 0<=x.tries/\x.tries<=100000;omega
 pb:=hx.pb
theorem WG{α:Type}{a b:Int}{x y:α}:(bif a==b then x else y)=if a=b then x else y:=by
 simp_all
theorem WaP{α:Type}{p:Prop}[Decidable p]{x y:α}:(bif decide p then x else y)=if p then x else y:=by
 simp_all
theorem WlQ(bb:KC code)(hx:KOk code f.clock n x)(h0:x.phase=0)(hN:1048576<N):Zhe N x.e code=some (((Wib x code).e,()),()):=by
 unfold Zhe Wib;obtain⟨k0,k1,k2,k3,k4,k5,k6,k7,k8,k9,k10⟩:=kdP x;have aL:=hx.pc;have hlen:=bb.len;have hM:=hx.marks h0;simp only[WD,k9,k8,k1,WG];by_cases hz:x.marks.length=0
 .rw[Wb (by unfold Wj;omega),Wb hz];rfl
 .rw[Wa (by unfold Wj;omega),Wa hz];obtain⟨j,q,y,e1,e2,e3,⟨hj,h8⟩,qq,cg,gh,e5,e6⟩:=WhF (d:=((0,0,[]):KM)) bb.toCC (show x.pc.toNat<=code.length by omega) hM.pcs hz;have wN:x.marks.length=q.length+1:=by grind
  have Ar:q.length<=24:=by
   have:=Wl Xa e6;simp only[Xae]at this;have h2:=WbJ bb.up j (by omega);have h3:=(WdB code j).2;omega
  have i1:W6 .i64 (Wj x.marks) 1=(q.length:Int):=by grind [WpH]
  have hy:y∈x.marks:=by grind
  obtain⟨y1,y2,y3,y4⟩:=hM.each y hy;have g1:Xc x.marks (Xb (q.length:Int)) ((0,0,[]):KM)=y:=by grind
  have t1:Xat (Xb (q.length:Int)) x.marks=x.marks.dropLast:=by rw[e1];simp
  have qr:=hx.wl;rw[i1,Wad,Wf (show q.length<x.marks.length by omega)];simp only[Wc,g1,t1,e2];have b1:((decide ((0:Int)<=(q.length:Int))&&decide ((q.length:Int)<=(x.marks.length:Int)))&&decide ((q.length:Int)<=((Xb (q.length:Int):Nat):Int)))=true:=by
   simp;omega
  rw[b1];simp only[Wc];rw[WbD (by rw[y1.len];omega)];simp only[ret,Xd];rw[e3,Wad,Wf hj];have o1:Xc code (Xb ((j:Nat):Int)) ((0,0,0,0):Opn)=code[j]:=WJ hj _;have o2:opN code ((j:Nat):Int)=code[j]:=WkP hj;have hr:=Ww8 (bb.ok j hj).1 h8;simp only[Wc,o1,o2];rw[Wbl hr y1.len];have b2:(decide ((0:Int)<=y.2.1)&&decide (y.2.1<=(x.writes.length:Int)))=true:=by simp;omega
  rw[b2];simp only[Wc];rw[WdG (by grind),Wij (by omega) hN ⟨hj,h8⟩ cg];simp only[ret,Xd];rw[WcN (by have:=cg.len;omega),Xj];rfl
theorem WoC(hk:k<f.kids.length)(hm:W0 m=true)(bb:KC code)(hF:FOk codes n f)(aR:codes.getD k []=code)(aQ:f.kids[k]=x)(h0:x.phase=0)(hn:n<=100000)(hN:1048576<N):
  Zie N f.e (k:Int) code m=some (((Fm.put (WpB m f x code) k).e,()),()):=by
 have hx:=hF.kid k hk;rw[aR,aQ]at hx;obtain⟨k0,k1,k2,k3,k4,k5,k6,k7,k8,k9,k10⟩:=kdP x;obtain⟨f0,f1,f2,f3,f4,f5,f6,f7,f8,f9⟩:=fmP f;have aL:=hx.pc;have hlen:=bb.len;have qr:=hx.wl;have e2:Xc (f.kids.map Kd.e) (Xb (k:Int)) d_KidRun=x.e:=by
  simp_all
 have e3:U9 (Xl (f.kids.map Kd.e) (Xb (k:Int)) x.e) f.e=f.e:=by
  rw[Xj,U9e,←aQ,Xaz]
 unfold Zie WpB;simp only[WD,f9,Xae];rw[Wad,Wf hk];simp only[Wc,e2,e3,k1,k6,k8,k9,WaP,WG,show Wj code=(code.length:Int)from rfl];by_cases fy:x.pc>=code.length
 .rw[Wb fy,Wb fy];rw[Xj];exact Wq5 rfl rfl rfl
 .rw[Wa fy,Wa fy];obtain⟨j,hj,ej,eo⟩:=WfF (l:=code) aL.1 (by omega);have wP:Xc code (Xb x.pc) ((0,0,0,0):Opn)=opN code x.pc:=rfl;have im:inb x.pc code.length=true:=by grind [Wad,decide_eq_true]
  rw[im];obtain⟨ok,o1,je⟩:=bb.ok j hj;have cr:=bb.k10 j hj;simp only[Wc,wP];rw[←eo]at ok o1 cr;generalize opN code x.pc=o at*;have df:=hx.regs.len;rw[Xj];rw[WcN (show 0<=x.pc/\x.pc<=1000000 by omega)];by_cases h5:o.1=5
  .rw[Wb h5,Wb h5];have:=WvW ok h5;have lC:=Wrk hF hx bb hm hn this.1 this.2;have e4:(Q9 f.e)[k]'(by simp_all)=x.e:=by
    simp_all
   have:=Wmx (m:=m) (o:=o) (f:=f.e) (k:=k) (by simp_all) (by simp_all) hN;rw[this];simp only[Xd,e4,WrU];unfold Wxe;have iW:=WqG m f x o;rw[show Q9 (WdM m f x o).1.e=f.kids.map Kd.e by rw[←iW];rfl];exact Wq5 rfl rfl iW
  .rw[Wa h5,Wa h5];by_cases cP:o.1=10
   .rw[Wb cP,Wb cP,WlQ bb hx h0 hN];exact Wq5 rfl rfl rfl
   .rw[Wa cP,Wa cP];by_cases h6:o.1=6
    .rw[Wb h6,Wb h6];rw[Wbl (Wwe ok h6).2 df,WE (by simp;omega)];exact Wq5 rfl rfl rfl
    .rw[Wa h6,Wa h6];by_cases h7:o.1=7
     .rw[Wb h7,Wb h7];have h:=Wvm ok h7;rw[Wbl h.1 df,WL (a:=x.pc) (b:=o.2.2.1) (by unfold I64;omega),WcN (a:=x.pc+o.2.2.1) (by omega)];by_cases hg:Xc x.regs (Xb o.2.1) 0=0
      .rw[Wb hg,Wb (show Wbu x.regs o.2.1 0=0 from hg)];simp only[Wc];exact Wq5 rfl rfl rfl
      .rw[Wa hg,Wa (show¬Wbu x.regs o.2.1 0=0 from hg)];simp only[Wc];exact Wq5 rfl rfl rfl
     .rw[Wa h7,Wa h7];by_cases h8:o.1=8
      .rw[Wb h8,Wb h8];rw[WbD (by omega)];have qS:x.marks.length<=24:=by
        have:=Wl Xa (hx.marks h0).pcs;simp only[Xae]at this;have h2:=WbJ bb.up x.pc.toNat (by omega);have h3:=(WdB code x.pc.toNat).2;omega
       simp only[ret,Xd];rw[WE (by simp;omega)];exact Wq5 rfl rfl rfl
      .rw[Wa h8,Wa h8];by_cases h9:o.1=9
       .rw[Wb h9,Wb h9];have hM:=hx.marks h0;have hz:x.marks.length≠0:=by
         intro hz;have h1:=Wl Xa hM.pcs;simp only[Xae,hz]at h1;have h2:=WbJ bb.up j (by omega);have h3:=bb.up j hj
         grind [WaQ,Wqi,Xj]
        obtain⟨i,q,y,e1,qs,As,⟨hi,Au⟩,qq,cg,gh,e5,e6⟩:=WhF (d:=((0,0,[]):KM)) bb.toCC (show x.pc.toNat<=code.length by omega) hM.pcs hz;have wN:x.marks.length=q.length+1:=by grind
        have qS:x.marks.length<=24:=by
         have:=Wl Xa (hx.marks h0).pcs;simp only[Xae]at this;have h2:=WbJ bb.up x.pc.toNat (by omega);have h3:=(WdB code x.pc.toNat).2;omega
        have i1:W6 .i64 (Wj x.marks) 1=(q.length:Int):=by grind [WpH]
        have g1:Xc x.marks (Xb (q.length:Int)) ((0,0,[]):KM)=y:=by grind
        have t1:Xat (Xb (q.length:Int)) x.marks=x.marks.dropLast:=by rw[e1];simp
        rw[i1,Wad,Wf (show q.length<x.marks.length by omega)];have b1:(decide ((0:Int)<=(q.length:Int))&&decide ((q.length:Int)<=(x.marks.length:Int)))=true:=by simp;omega
        rw[b1];simp only[Wc,g1,t1,qs];rw[As,Wad,Wf hi];have o1:Xc code (Xb ((i:Nat):Int)) ((0,0,0,0):Opn)=opN code (i:Int):=rfl;have hr:=Ww8 (bb.ok i hi).1 Au;rw[←WkP hi]at hr;simp only[Wc,o1];rw[Wbl hr df];exact Wq5 rfl rfl rfl
       .rw[Wa h9,Wa h9];rw[WhI hN ok (by omega) (by omega) hx.regs];exact Wq5 rfl rfl rfl
end
section
theorem WjO{l:List Rw}{c v:Int}:∀(i:Nat),i<=l.length->WcB l c i=some v->(c,v)∈l
 |0,_,h=>by simp[WcB]at h
 |i+1,hi,h=>by
  unfold WcB at h;rw[Wn (show i<l.length by omega)]at h;by_cases hc:l[i].1=c
  .grind
  .rw[Wa hc]at h;exact WjO i (by omega) h
theorem WiA{l:List Rw}{c v:Int}(h:Wbg l c=some v):Wa9 l=true/\(c,v)∈l:=by
 unfold Wbg at h;by_cases hr:Wa9 l=true
 .rw[Wb hr]at h;exact⟨hr,WjO _ (Xn _) h⟩
 simp_all
theorem WpT(l:List Rw):∀(j c:Nat) (o:List Rw),WkC l j c o=o++(Xgu c j).filterMap λc:Nat=>(Wbg l (c:Int)).map λv=>((c:Int),v)
 |0,c,o=>by simp[WkC]
 |j+1,c,o=>by
  rw[WkC,WpT l j,List.range'_succ,List.filterMap_cons];unfold Wks;cases h:Wbg l (c:Int)<;>simp
theorem Wiv(l:List Rw):Wco l=(Xgu 0 8).filterMap λc:Nat=>(Wbg l (c:Int)).map λv=>((c:Int),v):=by simp[Wco,WpT]
theorem WoV{l:List Rw}{r:Rw}:r∈Wco l↔(0<=r.1/\r.1<=7)/\Wbg l r.1=some r.2:=by
 rw[Wiv,List.mem_filterMap];constructor
 .rintro⟨c,hc,h⟩;rw[Xgs]at hc;cases hl:Wbg l (c:Int)with
  |none=>simp_all
  |some v=>
   grind
 .rintro⟨h0,h⟩;refine⟨r.1.toNat,Xgs.2 (by omega),?_⟩
  grind
theorem WoE(l:List Rw):(Wco l).Pairwise λa b=>a.1<b.1:=by
 rw[Wiv,List.pairwise_filterMap];refine List.Pairwise.imp ?_ (List.pairwise_lt_range' (s:=0) (n:=8));simp_all
theorem Wfo(l:List Rw):(Wco l).length<=8:=by
 grind [Wiv,Xco,List.length_filterMap_le]
theorem WeP{l:List Rw}:WfW (Wco l):=by
 intro r hr;obtain⟨h0,h1⟩:=WoV.1 hr;obtain⟨h2,h3⟩:=WiA h1;unfold Wa9 at h2;simp only[Xi]at h2;have:=(Wk1.1 h2.2) _ h3;omega
end
section
theorem We8{p:Pb}:WkG p=true↔(0<=p.1/\p.1<=7)/\(0<=p.2.1/\p.2.1<=4)/\(0<=p.2.2.1/\p.2.2.1<=1000000)/\0<=p.2.2.2/\p.2.2.2<=65535:=by
 simp[WkG,Waf,Wbj,Xi,Wh]
theorem WeD{c:Int}{w:Wd}:Wqt c w=true↔(0<=w.1/\w.1<=65535)/\(0<=w.2.1/\w.2.1<=c)/\0<=w.2.2/\w.2.2<=99:=by
 simp[Wqt,Wbj,Xi,Wh]
theorem WsU{m:Mm}(h:W0 m=true){c:Int}(hc:0<=c/\c<=7):Wqt m.1 (Wbu m.2 c (0,0,0))=true:=by
 grind [Wz,Wbu,Wn,Xp]
theorem WlW{m:Mm}{rv:Int}{p:Pb}(hm:W0 m=true)(hp:WkG p=true):WkG (WW m rv p)=true/\(WW m rv p).1=p.1:=by
 have dv:=We8.1 hp;have hw:=WsU hm dv.1;rw[WeD]at hw;obtain⟨h8,h0,h1,_⟩:=Wz hm;unfold WW;simp only[WG,WaP];have Ai:Wqt m.1 (Xc m.2 (Xb p.1) (0,0,0))=true:=WsU hm dv.1
 grind [WeD,We8]
section
variable{code:List Opn}{pc cE wl kZ:Nat}{ms q:List KM}{y:KM}{c c' n n':Int}{x:Kd}{f:Fm}{m:Mm}{codes:List (List Opn)}{k:Nat}
theorem KMk.mono(h:KMk code pc ms wl)(hs:stk code cE=stk code pc)(hw:wl<=kZ):KMk code cE ms kZ:=
 ⟨by rw[hs];exact h.pcs,λq hq=>by have:=h.each q hq;grind,h.up⟩
theorem KMk.begin(h:KMk code pc ms wl)(hp:pc<code.length)(h8:code[pc].1=8){regs:List Int}(hr:Vals 4 regs)(hw:wl<=pc):KMk code (pc+1) (ms++ [((pc:Int),(wl:Int),regs)]) wl:=by
 refine⟨?_,?_,?_⟩
 .rw[Wjv hp h8,Xu,Xu,h.pcs];rfl
 .intro q hq;rcases Xm.1 hq with hq|hq
  .exact h.each q hq
  simp_all
 .refine Xah.2 ⟨h.up,List.pairwise_singleton _ _,λa ha b hb=>?_⟩;rw[Xaf]at hb;subst hb;exact(h.each a ha).2.2.2
theorem KMk.drop(h:KMk code pc ms wl)(rq:ms=q++ [y])(hs:stk code cE=(stk code pc).dropLast)(hw:y.2.1<=kZ):KMk code cE q kZ:=by
 subst rq;have h1:=h.pcs;refine⟨?_,λa ha=>?_,(Xah.1 h.up).1⟩
 .grind
 .have h2:=h.each a (List.mem_append_left _ ha);have h3:=(Xah.1 h.up).2.2 a ha y (by simp)
  grind
theorem KOk.wk(h:KOk code c n x)(hc:c<=c')(hn:n<=n'):KOk code c' n' x:=
 {h with since:=by have:=h.since;omega,tries:=by have:=h.tries;omega}
theorem Wo3(h:KOk code c n x)(hc:c=f.clock)(hf:Vals 4 f.regs)(h0:0<=f.clock):KOk code c (n+1) (f.again x) where
 pc:=⟨Xo _,by show(0:Int)<=_;omega⟩
 regs:=hf
 rows:=λr hr=>by cases hr
 wl:=Xo _
 sl:=Xo _
 since:=by show 0<=f.clock/\f.clock<=c;omega
 tries:=by have:=h.tries;show 0<=x.tries+1/\x.tries+1<=n+1;omega
 seen:=λe he=>by cases he
 marks:=λ_=>⟨by show([]:List KM).map _=(stk code 0).map _;rfl,(λq hq=>by cases hq),List.Pairwise.nil⟩
 pos:=⟨Xo _,Xo _⟩
 pb:=λh=>by cases h
 phase:=by show(0:Int)<=0/\(0:Int)<=3;omega
 out:=by show(0:Int)<=0/\(0:Int)<=2;omega
theorem KMk.len(hc:CC code)(h:KMk code pc ms wl)(hp:pc<=code.length):(ms.length:Int)=dep code pc:=by
 have:=Wl Xa h.pcs;simp only[Xae]at this;rw[this,WbJ hc.up pc hp]
theorem KOk.on(aG:CC code)(h:KOk code c n x)(h0:x.phase=0){i:Nat}(hi:i<code.length)(aL:x.pc=i){regs:List Int}{seen:List En}{writes:List Rw}{marks:List KM}{busy:Bool}{pb:Pb}{cE:Nat}(hp:cE<=code.length)(hlt:i<cE)(hr:Vals 4 regs)(hrow:WfW writes)(qr:writes.length<=x.writes.length+1)(hsl:seen.length<=x.seen.length+1)
  (hs:∀e∈seen,(0<=e.1/\e.1<=7)/\(0<=e.2.1/\e.2.1<=65535)/\ -1<=e.2.2/\e.2.2<=x.since) (hse:x.seen.length<=seen.length) (hm:KMk code cE marks writes.length) (hb:busy=true->WkG pb=true):
  KOk code c n {x with regs:=regs,seen:=seen,writes:=writes,marks:=marks,busy:=busy,pb:=pb,pc:=(cE:Int)}:=
 {h with
  pc:=by simp_all
  regs:=hr
  rows:=hrow
  wl:=by have:=h.wl;grind
  sl:=by have:=h.sl;grind
  seen:=hs
  marks:=λ_=>by simp_all
  pos:=by have:=h.pos;grind
  pb:=hb}
theorem WtW(aG:CC code)(hF:FOk codes n f)(h:KOk code f.clock n x)(h0:x.phase=0){i:Nat}(hi:i<code.length)(aL:x.pc=i)(h5:code[i].1=5)(hm:W0 m=true):
  KOk code f.clock (n+1) (WdM m f x code[i]).2/\((WdM m f x code[i]).1=f\/(WdM m f x code[i]).1={f with lost:=true}):=by
 have aJ:=WvW (aG.ok i hi).1 h5;have hB:0<=code[i].2.2.1/\code[i].2.2.1<=7:=by grind [Waf]
 have hM:=h.marks h0;rw[aL,Xj]at hM;have aH:stk code (i+1)=stk code i:=Weo hi (by omega) (by omega);have bZ:x.pc+1=((i+1:Nat):Int):=by omega
 unfold WdM;cases hl:Wbg x.writes code[i].2.2.1 with
 |some v=>
  have hv:=h.rows _ (WiA hl).2;refine⟨?_,.inl rfl⟩;simp only[bZ];exact(KOk.on aG h h0 hi aL (by omega) (by omega) (h.regs.set _ hv.2) h.rows (by omega) (by omega) h.seen (by omega) (hM.mono aH (by omega)) h.pb).wk (by omega) (by omega)
 |none=>
  simp only;cases he:ent f.buf code[i].2.2.1 with
  |some r=>
   simp only;have hr:=WcW he;have nj:r.2∈f.buf:=by
    grind
   have ip:=hF.bufE _ nj;split
   .exact⟨Wo3 h rfl hF.regs hF.clock.1,.inl rfl⟩
   .refine⟨?_,.inl rfl⟩;simp only[bZ];refine(KOk.on aG h h0 hi aL (by omega) (by omega) (h.regs.set _ ip.2.1) h.rows (by omega) (by simp) (λe dV=>?_) (by simp) (hM.mono aH (by omega)) h.pb).wk (by omega) (by omega);rcases Xm.1 dV with dV|dV
    .exact h.seen e dV
    grind
  |none=>
   simp only;have gX:WkG (if x.busy=true then x.pb else(code[i].2.2.1,0,0,0))=true:=by
    split
    .exact h.pb ‹_›
    grind [We8]
   have ca:=WlW (rv:=f.rv) hm gX;generalize WW m f.rv (if x.busy=true then x.pb else(code[i].2.2.1,0,0,0))=p at*;have hp:=We8.1 ca.1;split
   .refine⟨?_,.inr rfl⟩;exact KOk.wk (n:=n) {h with pb:=λ_=>ca.1} (by omega) (by omega)
   .split
    .refine⟨?_,.inl rfl⟩;simp only[bZ];refine(KOk.on aG h h0 hi aL (by omega) (by omega) (h.regs.set _ hp.2.2.2) h.rows (by omega) (by simp) (λe dV=>?_) (by simp) (hM.mono aH (by omega)) (λh=>by cases h)).wk (by omega) (by omega);rcases Xm.1 dV with dV|dV
     .exact h.seen e dV
     .rw[Xaf]at dV;subst dV;exact⟨hB,hp.2.2.2,by simp,by have:=h.since;grind⟩
    .refine⟨?_,.inl rfl⟩;exact KOk.wk (n:=n) {h with pb:=λ_=>ca.1} (by omega) (by omega)
theorem WvQ(bb:KC code)(hF:FOk codes n f)(h:KOk code f.clock n x)(h0:x.phase=0)(hm:W0 m=true):
  KOk code f.clock (n+1) (WpB m f x code).2/\((WpB m f x code).1=f\/(WpB m f x code).1={f with lost:=true}):=by
 have aG:=bb.toCC;unfold WpB;split
 .refine⟨?_,.inl rfl⟩;exact KOk.wk (n:=n) {h with marks:=λh=>by simp_all,phase:=by simp_all,out:=by simp_all} (by omega) (by omega)
 .obtain⟨i,hi,aL,ho⟩:=WfF (l:=code) h.pc.1 (by omega);simp only[ho];obtain⟨ok,o1,je⟩:=bb.ok i hi;have cr:=bb.k10 i hi;have hM:=h.marks h0;rw[aL,Xj]at hM;have bZ:x.pc+1=((i+1:Nat):Int):=by omega
  have qr:x.writes.length<=i:=by have:=h.wl;omega
  split
  .grind [WtW]
  .split
   .refine⟨?_,.inl rfl⟩;unfold Wib;split
    .refine KOk.wk (n:=n) {h with rows:=(λr hr=>by cases hr),wl:=by simp_all,marks:=λh=>by simp_all,phase:=by simp_all,out:=by simp_all} (by omega) (by omega)
    .obtain⟨j,q,y,e1,e2,e3,⟨hj,h8⟩,qq,cg,gh,e5,e6⟩:=WhF (d:=((0,0,[]):KM)) aG (show i<=code.length by omega) hM.pcs ‹_›;obtain⟨y1,y2,y3,y4⟩:=hM.each y (by grind);simp only[e2,e3,Xj,←Int.natCast_succ];have hl:=cg.len;have ht:(Xat y.2.1.toNat x.writes).length=y.2.1.toNat:=by simp_all
     refine(KOk.on aG h h0 hi aL (cE:=Wiw code j+1) (by omega) (by omega) (y1.set _ (by omega)) (λr hr=>h.rows r (List.mem_of_mem_take hr)) (by omega) (by omega) h.seen (by omega) ?_ h.pb).wk (by omega) (by omega);rw[show x.marks.dropLast=q by grind];exact hM.drop e1 (by rw[cg.st];exact e5) (by omega)
   .split
    .refine⟨?_,.inl rfl⟩;have hk:=Wwe ok ‹_›;have aH:stk code (i+1)=stk code i:=Weo hi (by omega) (by omega);simp only[bZ];refine(KOk.on aG h h0 hi aL (by omega) (by omega) h.regs (λr hr=>?_) (by simp) (by omega) h.seen (by omega) (hM.mono aH (by simp)) h.pb).wk (by omega) (by omega);rcases Xm.1 hr with hr|hr
     .exact h.rows r hr
     .rw[Xaf]at hr;subst hr;have:=hk.1;unfold Waf at this;exact⟨by simp_all,h.regs.get _⟩
    .split
     .refine⟨?_,.inl rfl⟩;obtain⟨s1,s2⟩:=bb.sk i hi ‹_›;have hk:=Wvm ok ‹_›;have aH:stk code (i+1)=stk code i:=Weo hi (by omega) (by omega);have qu:stk code (i+1+code[i].2.2.1.toNat)=stk code i:=by grind [WkE]
      by_cases hg:Wbu x.regs code[i].2.1 0=0
      .simp only[Wb hg,show x.pc+code[i].2.2.1+1=((i+1+code[i].2.2.1.toNat:Nat):Int) by omega];exact(KOk.on aG h h0 hi aL s1 (by omega) h.regs h.rows (by omega) (by omega) h.seen (by omega) (hM.mono qu (by omega)) h.pb).wk (by omega) (by omega)
      .simp only[Wa hg,bZ];exact(KOk.on aG h h0 hi aL (by omega) (by omega) h.regs h.rows (by omega) (by omega) h.seen (by omega) (hM.mono aH (by omega)) h.pb).wk (by omega) (by omega)
     .split
      .refine⟨?_,.inl rfl⟩;simp only[bZ];rw[aL];exact(KOk.on aG h h0 hi aL (by omega) (by omega) h.regs h.rows (by omega) (by omega) h.seen (by omega) (hM.begin hi ‹_› h.regs qr) h.pb).wk (by omega) (by omega)
      .split
       .refine⟨?_,.inl rfl⟩;have hz:x.marks.length≠0:=by
         have h1:=hM.len aG (by omega);have h3:=aG.up i hi
         grind [WaQ,Wqi]
        obtain⟨j,q,y,e1,e2,e3,⟨hj,h8⟩,qq,cg,gh,e5,e6⟩:=WhF (d:=((0,0,[]):KM)) aG (show i<=code.length by omega) hM.pcs hz;obtain⟨y1,y2,y3,y4⟩:=hM.each y (by grind);simp only[bZ];refine(KOk.on aG h h0 hi aL (by omega) (by omega) (h.regs.set _ (by omega)) h.rows (by omega) (by omega) h.seen (by omega) ?_ h.pb).wk (by omega) (by omega);rw[show x.marks.dropLast=q by grind];exact hM.drop e1 (Wlz hi ‹_›) (by omega)
       .refine⟨?_,.inl rfl⟩;have aH:stk code (i+1)=stk code i:=Weo hi (by omega) (by omega);simp only[bZ];exact(KOk.on aG h h0 hi aL (by omega) (by omega) (WhS ok (by omega) (by omega) h.regs) h.rows (by omega) (by omega) h.seen (by omega) (hM.mono aH (by omega)) h.pb).wk (by omega) (by omega)
end
end
section
def Wf4(c:Int)(v:List En)(r:Rw):List En:=match ent v r.1 with
 |some a=>v.set a.1 (r.1,r.2,c)
 |none=>v++ [(r.1,r.2,c)]
theorem Wm6(c:Int)(v:List En)(r:Rw):(Wf4 c v r).length<=v.length+1:=by
 unfold Wf4;split<;>simp
theorem apE{a b:En}:Ap cfE a b↔a.1≠b.1:=by unfold Ap cfE;omega
theorem Wr8{c:Int}{L M:List En}{r:Rw}(hL:L.Pairwise (Ap cfE))(hM:Ris cfE M)(hm:∀x,x∈L↔x∈M):
  (Wf4 c L r).Pairwise (Ap cfE)/\Ris cfE (Wfr cfE M (r.1,r.2,c))/\∀x,x∈Wf4 c L r↔x∈Wfr cfE M (r.1,r.2,c):=by
 have key:(Wf4 c L r).Pairwise (Ap cfE)/\∀x,x∈Wf4 c L r↔x=(r.1,r.2,c)\/(x∈L/\Ap cfE x (r.1,r.2,c)):=by
  unfold Wf4 ent;cases he:fnd (λe:En=>e.1==r.1) L 0 with
  |some a=>
   obtain⟨h1,h2,h3,h4⟩:=WcW he;simp only[Xbb,Xdj]at h3 h4
   grind [Xq,WmJ,Wt5,apE]
  |none=>
   grind [WhT,WjX,apE]
 refine⟨key.1,Wct Wt5 hM,λx=>?_⟩;rw[key.2 x,WbC Wt5 hM,hm]
theorem WrA{c:Int}:∀{rows:List Rw} {L M:List En},L.Pairwise (Ap cfE)->Ris cfE M->(∀x,x∈L↔x∈M)->
  (rows.foldl (Wf4 c) L).Pairwise (Ap cfE)/\Ris cfE (Wbp c M rows)/\∀x,x∈rows.foldl (Wf4 c) L↔x∈Wbp c M rows
 | [],_,_,hL,hM,hm=>⟨hL,hM,hm⟩
 |r::rows,L,M,hL,hM,hm=>by
  obtain⟨a,b,d⟩:=Wr8 (c:=c) (r:=r) hL hM hm;exact WrA (rows:=rows) a b d
theorem Wm0{c:Int}:∀(rows:List Rw) (L:List En),(rows.foldl (Wf4 c) L).length<=L.length+rows.length
 | [],L=>by simp
 |r::rows,L=>by
  have:=Wm0 (c:=c) rows (Wf4 c L r)
  grind [Wm6,Xs]
theorem WeH{c:Int}{P:En->Prop}:∀{rows:List Rw} {M:List En},Ris cfE M->(∀x∈M,P x)->(∀r∈rows,P (r.1,r.2,c))->∀x∈Wbp c M rows,P x
 | [],_,_,h,_=>h
 |r::rows,M,hM,h,hr=>by
  refine WeH (rows:=rows) (Wct Wt5 hM) (λx hx=>?_) λr' h'=>hr r' (Xe _ h');rcases(WbC Wt5 hM).1 hx with rfl|h'
  .simp_all
  simp_all
theorem WpC{R:Type}{N:Nat}{k4:Int}{b7 b8 b9:Int}{aN:Bool}{bA cn bO dy cS aY:Int}{iw:Bool}{da dD dz iy:Int}{bY:List Kc}{cK:List Int}{db:List Kc}{iz:List Int}{dx:List Kc}{fR:List Y_KidRun}{iA:Nat}{fS:List Int}{fT:List Kb}{fU:List Kc}{cW:List Kk}{K0:Int->Bool->Kr->Option R}(hN:1048576<N)(wQ:bY.length<=8):
  ∀(d j n:Nat) (v:List En),j+d=bY.length->d<n->v.length<=100+j->
  Zar N k4 (Wj bY) b7 b8 b9 aN bA cn bO dy cS aY iw da dD dz iy bY cK db iz dx fR iA fS fT fU cW K0 n (j:Int) v=K0 (bY.length:Int) false ((bY.drop j).foldl (Wf4 b8) v)
 |0,j,n+1,v,hj,hn,hv=>by
  simp_all [Zar,WaO,Xn,We,Xdh,List.foldl_nil]
 |d+1,j,n+1,v,hj,hn,hv=>by
  have hlt:j<bY.length:=by omega
  have mS:=WfJ (N:=N) (f:=(b7,(b8,(b9,(aN,(cK,(db,(v,(iz,(dx,Xl fR iA (bA,(cn,(bO,(dy,(cS,(aY,(fS,(fT,(fU,(cW,(iw,(da,(dD,(dz,iy)))))))))))))))))))))))) (c:=bY[j].1) (by grind) hN;have hs:=Wm6 b8 v bY[j];have bi:∀v',v'=Wf4 b8 v bY[j]->Zar N k4 (Wj bY) b7 b8 b9 aN bA cn bO dy cS aY iw da dD dz iy bY cK db iz dx fR iA fS fT fU cW K0 n ((j+1:Nat):Int) v'=K0 (bY.length:Int) false ((bY.drop j).foldl (Wf4 b8) v):=λv' Av=>by
   subst Av;rw[WpC hN wQ d (j+1) n _ (by omega) (by omega) (by omega),Xck hlt,List.foldl_cons]
  simp only[Zar,WD,Wat hlt,WC hlt,WJ hlt,Wt (show j<4611686018427387904 by omega),Wc,mS,ret,Xd];have hd:ent v bY[j].1=ent v bY[j].1:=rfl;unfold Wf4 at bi;cases he:ent v bY[j].1 with
  |some a=>
   rw[he]at bi;obtain⟨h1,h2,h3,h4⟩:=WcW he;rw[Xbb]at h3;simp only[Wf (show((a.1:Int)>=0) by omega),Wc];rw[Wad,Wf h3];simp only[Wc,Xj];exact bi _ rfl
  |none=>
   rw[he]at bi;simp only[show decide ((-1:Int)>=0)=false from rfl,We];rw[WE (by simp;omega)];simp only[Wc,Xal];exact bi _ rfl
 |_,_,0,_,_,h,_=>by omega
theorem Wk0{R:Type}{N:Nat}{jP cH eS eT:Int}{eU:Bool}{eV fi fj fm fo jR:Int}{jS:Bool}{jT jU jV jW:Int}{dg:List Kb}{jX:List Int}{jY:List Kc}{jZ:List Kb}{j8:List Int}{j9:List Y_KidRun}{ka:Nat}{eW:List Int}{eX:List Kc}{eY:List Kk}{K0:Int->Bool->Kw->Option R}(yK:dg.length<=1000):
  ∀(d j n:Nat) (v:List Rw),j+d=dg.length->d<n->v.length<=1000+j->
  Za0 N jP (Wj dg) cH eS eT eU eV fi fj fm fo jR jS jT jU jV jW dg jX jY jZ j8 j9 ka eW eX eY K0 n (j:Int) v=K0 (dg.length:Int) false (v++WaX (dg.drop j))
 |0,j,n+1,v,hj,hn,hv=>by
  have:j=dg.length:=by omega
  subst this;simp only[Za0,WaO (Xn dg.length),We,Xdh,WaX,List.filter_nil,Xbp,List.append_nil]
 |d+1,j,n+1,v,hj,hn,hv=>by
  have hlt:j<dg.length:=by omega
  have he:WaX (dg.drop j)=if dg[j].2.2= -1 then(dg[j].1,dg[j].2.1)::WaX (dg.drop (j+1))else WaX (dg.drop (j+1)):=by
   rw[Xck hlt];unfold WaX
   grind
  simp only[Za0,WD,Wat hlt,WC hlt,WJ hlt,Wt (show j<4611686018427387904 by omega),Wc,WG];rw[he];by_cases h:dg[j].2.2= -1
  .rw[Wb h,Wb h,WE (by simp;omega)];simp only[Wc];rw[Wk0 yK d (j+1) n _ (by omega) (by omega) (by simp;omega)];simp
  .rw[Wa h,Wa h];rw[Wk0 yK d (j+1) n _ (by omega) (by omega) (by omega)]
 |_,_,0,_,_,h,_=>by omega
variable{N:Nat}{codes:List (List Opn)}{n:Int}{f:Fm}{k:Nat}{code:List Opn}{m:Mm}{x:Kd}
theorem Ww0{l:List En}(h:Ris cfE l):l.Pairwise (Ap cfE):=h.imp λh=>.inl h
theorem Wkt(hk:k<f.kids.length)(h3:f.kids.length<=3)(mT:code.length<=24)(hF:FOk codes n f)(aR:codes.getD k []=code)(aQ:f.kids[k]=x)(hN:1048576<N):
  Zdc N f.e (k:Int)=some (((Fm.put (WcL f x k) k).e,()),()):=by
 have hx:=hF.kid k hk;rw[aR,aQ]at hx;obtain⟨f0,f1,f2,f3,f4,f5,f6,f7,f8,f9⟩:=fmP f;have aL:=hx.pc;have qr:=hx.wl;have hsl:=hx.sl;have hb8:=hF.buf8;have qv:f.order.length<=3:=by
  have h1:=hF.done
  grind
 have jC:=hF.readsL;have e2:Xc (f.kids.map Kd.e) (Xb (k:Int)) d_KidRun=x.e:=by
  simp_all
 unfold Zdc;simp only[f9,Xae];rw[Wad,Wf hk];simp only[Wc,e2];have en:Zfw N x.e.2.2.2.2.2.2.2.2.1=ret (Wco x.writes):=WdR (show x.writes.length<=1048576 by omega) hN;rw[en];simp only[ret,Xd];have iT:=Wfo x.writes;rw[show(0:Int)=((0:Nat):Int)from rfl];rw[WpC (bY:=Wco x.writes) hN iT (Wco x.writes).length 0 N _ (by omega) (by omega) (by grind)];simp only[Xch];have hP6:P6 f.e=f.buf:=rfl;have hcl:Wm .i64 f.e.2.1 1=f.clock+1:=WcN (by have:=hF.clock;omega);rw[hP6,hcl];obtain⟨i1,i2,i3⟩:=WrA (c:=f.clock+1) (rows:=Wco x.writes) (Ww0 hF.bufR) hF.bufR (λx=>Iff.rfl);unfold Zag;have fe:=Wm0 (c:=f.clock+1) (Wco x.writes) f.buf;rw[WpD (rng:=WwA) (N:=N) Wt5 i2 i1 i3 (λe he=>?_) (by omega)]
 .simp only[Xd];have hP7:P7 x.e=x.seen:=rfl;rw[show(Kd.e x).2.2.2.2.2.2.2.1=x.seen from rfl];rw[Wk0 (dg:=x.seen) (by omega) x.seen.length 0 N _ (by omega) (by omega) (by grind)];rw[WE (by grind)];simp only[Wc,Xch];have hU:∀(g:Fm) (y:Kd),U6 (Xl (f.kids.map Kd.e) k y.e) (S5 (f.reads++WaX x.seen) (S4 (f.order++ [(k:Int)]) (S3 (Wbp (f.clock+1) f.buf (Wco x.writes)) f.e.2.2.2)))=(f.lost,f.regs,f.start,Wbp (f.clock+1) f.buf (Wco x.writes),f.order++ [(k:Int)],f.reads++WaX x.seen,(f.kids.set k y).map Kd.e):=λg y=>by
   rw[Xfu];rfl
  rw[Xj];exact Wl (λz=>some (((f.rv,(f.clock+1,((0:Int),z))),()),())) (hU f {x with phase:=3,pos:=0,marks:=[]})
 .have h1:=(i3 e).1 he;have:=WeH (P:=λe=>0<=e.1/\e.1<=7) hF.bufR (λe he=>(hF.bufE e he).1) (λr hr=>(WoV.1 hr).1) e h1
  grind [WwA,WuA]
theorem Wnj(hk:k<f.kids.length)(hF:FOk codes n f)(hx:KOk code f.clock n x)(aQ:f.kids[k]=x)(hn:n<=100000)(o:Int):
  Zbb N (Fm.e {f with owner:=o}) (k:Int)=some (((Fm.put ({f with owner:=o},f.again x) k).e,()),()):=by
 have h:=WeI (N:=N) (f:=Fm.e {f with owner:=o}) (k:=k) (x:=x.e) (by show k<(f.kids.map Kd.e).length;simp_all) hF.regs.len (by have:=hx.tries;show 0<=x.tries/\x.tries<=100000;omega);have e3:U9 (Xl (Q9 (Fm.e {f with owner:=o})) k x.e) (Fm.e {f with owner:=o})=Fm.e {f with owner:=o}:=by
  have:=U9e {f with owner:=o} k x;rw[←aQ]at this;simp only[Xaz]at this;rw[←aQ];exact this
 rw[e3]at h;rw[h];exact Wl (λz=>some ((z,()),())) (U9e {f with owner:=o} k (f.again x))
theorem Wk9(hk:k<f.kids.length)(h3:f.kids.length<=3)(hm:W0 m=true)(bb:KC code)(hF:FOk codes n f)(aR:codes.getD k []=code)(hn:n<=100000)(hN:1048576<N):
  Zhx N f.e (k:Int) code m=some (((Wbx m f k code).e,()),()):=by
 obtain⟨x,aQ⟩:∃x,f.kids[k]=x:=⟨_,rfl⟩;have hx:=hF.kid k hk;rw[aR,aQ]at hx;obtain⟨f0,f1,f2,f3,f4,f5,f6,f7,f8,f9⟩:=fmP f;obtain⟨k0,k1,k2,k3,k4,k5,k6,k7,k8,k9,k10⟩:=kdP x;have hsl:=hx.sl;have aL:=hx.pc;have mT:=bb.len;have e2:Xc (f.kids.map Kd.e) (Xb (k:Int)) d_KidRun=x.e:=by
  simp_all
 have e3:U9 (Xl (f.kids.map Kd.e) (Xb (k:Int)) x.e) f.e=f.e:=by
  rw[Xj,U9e,←aQ,Xaz]
 have e4:Fm.put (f,x) k=f:=by unfold Fm.put;simp only;rw[←aQ,Xaz]
 unfold Zhx Wbx Wdu;simp only[WD,f9,f3,Xae];rw[Wh2];by_cases bJ:f.lost=true
 .rw[Wb bJ,Wb bJ]
 rw[Wa bJ,Wa bJ];rw[Wad,Wf hk];simp only[Wc,We,e2,e3,k0,k4,k7,f2,WG,Wn hk,aQ];by_cases h0:x.phase=0
 .rw[Wb h0,Wb h0,WoC hk hm bb hF aR aQ h0 hn hN];rfl
 .rw[Wa h0,Wa h0];by_cases h1:x.phase=1
  .rw[Wb h1,Wb h1];by_cases ho:f.owner=0
   .rw[Wb ho,Wb ho,WcN (by omega),Xj];exact Wq5 rfl rfl rfl
   simp_all
  .rw[Wa h1,Wa h1];by_cases h2:x.phase=2
   .rw[Wb h2,Wb h2];unfold Wj;by_cases hp:x.pos=(x.seen.length:Int)
    .rw[Wb hp,Wb hp,Wkt hk h3 mT hF aR aQ hN];rfl
    .rw[Wa hp,Wa hp];have hpos:=hx.pos;have im:inb x.pos x.seen.length=true:=by grind [inb]
     rw[im];have hg:Xc x.seen (Xb x.pos) ((0,0,0):En)=Wbu x.seen x.pos (0,0,0):=rfl;simp only[Wc,hg];have mS:=WfJ (N:=N) (f:=f.e) (c:=(Wbu x.seen x.pos (0,0,0)).1) (by show f.buf.length<=1048576;have:=hF.buf8;omega) hN;rw[show f.e.2.2.2.2.2.2.1=f.buf from rfl]at mS;rw[mS];simp only[ret,Xd,f6];have hsz:S2 (0:Int) f.e=Fm.e {f with owner:=0}:=rfl;have gG:Zbb N (U9 (Xl (f.kids.map Kd.e) (Xb (k:Int)) x.e) (S2 0 f.e)) (k:Int)=some (((Fm.put ({f with owner:=0},f.again x) k).e,()),()):=by
      grind [U9e,Xj,U9,Xl,Kd.e,Fm.e,Xaz,Wnj]
     unfold Wsf;have tC:Wm .i64 x.pos 1=x.pos+1:=WcN (by omega);rw[tC];cases he:ent f.buf (Wbu x.seen x.pos (0,0,0)).1 with
     |some a=>
      obtain⟨g1,g2,g3,g4⟩:=WcW he;rw[Xbb]at g3;rw[Xdj,Xq g3]at g4;injection g4 with g4;simp only[Wf (show((a.1:Int)>=0) by omega),Wc];rw[Wad,Wf g3];simp only[Wc,WJ g3,g4];by_cases hv:a.2.2.2=(Wbu x.seen x.pos (0,0,0)).2.2
      .rw[Wb hv,Wb hv,Xj];exact Wq5 rfl rfl rfl
      simp_all
     |none=>
      simp only[show decide ((-1:Int)>=0)=false from rfl,We];by_cases hv:(-1:Int)=(Wbu x.seen x.pos (0,0,0)).2.2
      .rw[Wb hv,Wb hv,Xj];exact Wq5 rfl rfl rfl
      simp_all
   simp_all
end
section
section
variable{codes:List (List Opn)}{n:Int}{f f':Fm}{k:Nat}{code:List Opn}{m:Mm}{x y:Kd}
theorem FOk.len3(h:FOk codes n f)(h3:codes.length<=3):f.order.length<=3:=by
 have h1:=h.done;have:=Xer (p:=λx:Kd=>decide (x.phase=3)) (l:=f.kids);have:=h.len;omega
theorem FOk.put1(h:FOk codes n f)(hk:k<f.kids.length)(aR:codes.getD k []=code){o:Int}{l:Bool}(ho:0<=o/\o<=f.kids.length)(hy:KOk code f.clock (n+1) y)(hp:f.kids[k].phase≠3)(Aw:y.phase≠3):
  FOk codes (n+1) (Fm.put ({f with owner:=o,lost:=l},y) k) where
 len:=by show(f.kids.set k y).length=_;rw[Xab];exact h.len
 regs:=h.regs
 clock:=h.clock
 done:=by
  show f.order.length=(f.kids.set k y).countP _;rw[Xgx hk,Wa (by simp_all),Wa (by simp_all)];exact h.done
 bufR:=h.bufR
 bufE:=h.bufE
 readsL:=h.readsL
 readsE:=h.readsE
 owner:=by show 0<=o/\o<=((f.kids.set k y).length:Int);simp_all
 kid:=λi hi=>by
  change i<(f.kids.set k y).length at hi;rw[Xab]at hi;show KOk (codes.getD i []) f.clock (n+1) (f.kids.set k y)[i];rw[Xao];by_cases he:k=i
  .simp_all
  .rw[Wa he];exact(h.kid i hi).wk (by omega) (by omega)
theorem FOk.wk(h:FOk codes n f){n':Int}(hn:n<=n'):FOk codes n' f:=
 {h with kid:=λk hk=>(h.kid k hk).wk (by omega) hn}
theorem Wla(h:∀e∈x.seen,(0<=e.1/\e.1<=7)/\(0<=e.2.1/\e.2.1<=65535)/\ -1<=e.2.2/\e.2.2<=x.since):WfW (WaX x.seen):=by
 intro r hr;unfold WaX at hr
 grind
theorem Wnq(l:List En):(WaX l).length<=l.length:=by
 simp[WaX,Xae,List.length_filter_le]
theorem WhD{c:Int}:∀{rows:List Rw} {M:List En},Ris cfE M->Ris cfE (Wbp c M rows)
 | [],_,h=>h
 |r::rows,M,h=>WhD (rows:=rows) (Wct Wt5 h)
theorem Wsd(hF:FOk codes n f)(hk:k<f.kids.length)(bb:code.length<=24)(aR:codes.getD k []=code)(aQ:f.kids[k]=x)(h2:x.phase=2):
  FOk codes (n+1) (Fm.put (WcL f x k) k):=by
 have hx:=hF.kid k hk;rw[aR,aQ]at hx;have hc:=hF.clock;unfold WcL Fm.put;refine{len:=?_,regs:=hF.regs,clock:=?_,done:=?_,bufR:=WhD hF.bufR,bufE:=?_,readsL:=?_,readsE:=?_,owner:=?_,kid:=?_}
 .simp only[Xab];exact hF.len
 .grind
 .simp only[Xz,List.length_singleton];rw[Xgx hk,aQ,Wa (by simp[h2]),Wb (by simp),←hF.done];rfl
 .simp only;refine WeH hF.bufR (λe he=>?_) λr hr=>?_
  .have:=hF.bufE e he;omega
  .have:=WeP r hr;grind
 .have h1:=hF.readsL;have h2:=Wnq x.seen;have h3:=hx.sl;have h4:=hx.pc
  grind
 .intro r hr;rcases Xm.1 hr with hr|hr
  .exact hF.readsE r hr
  .exact Wla hx.seen r hr
 .simp_all
 .intro i hi;simp only[Xab]at hi;simp only[Xao];by_cases he:k=i
  .subst he;rw[Wb rfl,aR];refine KOk.wk (c:=f.clock) (n:=n) ?_ (by omega) (by omega);exact{hx with marks:=(λh=>by simp_all),pos:=⟨Xo _,by simp_all⟩,phase:=by simp_all}
  .rw[Wa he];exact(hF.kid i hi).wk (by omega) (by omega)
theorem Wlk(hk:k<f.kids.length)(hm:W0 m=true)(bb:KC code)(hF:FOk codes n f)(aR:codes.getD k []=code):FOk codes (n+1) (Wbx m f k code):=by
 obtain⟨x,aQ⟩:∃x,f.kids[k]=x:=⟨_,rfl⟩;have hx:=hF.kid k hk;rw[aR,aQ]at hx;have e4:Fm.put (f,x) k=f:=by unfold Fm.put;simp only;rw[←aQ,Xaz]
 have hFw:=hF.wk (show n<=n+1 by omega);unfold Wbx Wdu;split
 .exact hFw
 rw[Wn hk,aQ];split
 .rename_i h0;obtain⟨h1,h2⟩:=WvQ bb hF hx h0 hm;have hnp:(WpB m f x code).2.phase≠3:=by
   grind [WpB,WdM,Wib,Fm.again]
  have:=h1;have key:∀q:Fm×Kd,(q.1=f\/q.1={f with lost:=true})->KOk code f.clock (n+1) q.2->q.2.phase≠3->FOk codes (n+1) (Fm.put q k):=by
   rintro⟨g,y⟩ hg hy hp;simp only at hg hy hp;rcases hg with rfl|rfl
   .exact FOk.put1 (o:=g.owner) (l:=g.lost) hF hk aR hF.owner hy (by simp_all) hp
   .exact FOk.put1 (o:=f.owner) (l:=true) hF hk aR hF.owner hy (by simp_all) hp
  simp_all
 .split
  .rename_i h1;split
   .refine FOk.put1 (o:=(k:Int)+1) (l:=f.lost) hF hk aR (by omega) ?_ (by simp_all) (by simp_all);refine KOk.wk (c:=f.clock) (n:=n) ?_ (by omega) (by omega);exact{hx with marks:=(λh=>by simp_all),phase:=by simp_all}
   simp_all
  .split
   .rename_i h2;split
    .exact Wsd hF hk bb.len aR aQ h2
    .simp only;split
     .refine FOk.put1 (o:=f.owner) (l:=f.lost) hF hk aR hF.owner ?_ (by simp_all) (by simp_all);refine KOk.wk (c:=f.clock) (n:=n) ?_ (by omega) (by omega);exact{hx with pos:=by(have:=hx.pos;grind)}
     .refine FOk.put1 (o:=0) (l:=f.lost) hF hk aR (by omega) (Wo3 hx rfl hF.regs hF.clock.1) (by simp_all) (by show(0:Int)≠3;omega)
   simp_all
theorem Wro{rv:Int}{regs:List Int}{writes:List Rw}(hr:Vals 4 regs)(hn:0<=n):FOk codes n (War rv regs writes codes.length) where
 len:=by simp[War]
 regs:=hr
 clock:=by simp[War]
 done:=by
  simp only[War,List.length_nil];rw[List.countP_replicate,Wa (by simp)]
 bufR:=by
  grind [Ris,War,WoE,cfE]
 bufE:=λe he=>by
  obtain⟨r,hr,rfl⟩:=List.mem_map.1 he;have:=WeP r hr
  grind [War]
 readsL:=by simp[War]
 readsE:=λr hr=>by cases hr
 owner:=by simp[War]
 kid:=λk hk=>by
  simp only[War,List.getElem_replicate];exact{pc:=by simp,regs:=hr,rows:=(λr hr=>by cases hr),wl:=by simp,sl:=by simp,since:=by simp,tries:=by simp;omega,seen:=(λe he=>by cases he),marks:=(λ_=>⟨by simp[stk],(λq hq=>by cases hq),List.Pairwise.nil⟩),pos:=by simp,pb:=(λh=>by cases h),phase:=by simp,out:=by simp}
end
end
end Go.Sx
