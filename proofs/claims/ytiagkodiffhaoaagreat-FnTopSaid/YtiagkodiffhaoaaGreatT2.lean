/- What each Go function computes, as a Lean function. -/
import Derived.Test.YtiagkodiffhaoaaGreatT
open Int renaming toNat->Xb
open List renaming replicate->Xp,length->Xa,getD->Xc,append->Xh,set->Xi,take->bM
namespace Go.Sx
variable(N:Nat)
noncomputable section
set_option linter.unusedVariables false
def Zvz(a:List Ka)(c:List Kaf)(b lE:List Int)(d:List Int×List Int×Int):Option Ky:=Ze N N a c b lE d
def Ck(a:List Ka×List Kaf)(d:List Int)(c:List Int×List Int×Int):Option Ky:=(y9 N a).bind λe=>bif !e.2.1 then(some ((),(0,([]:List Int),([]:List Int),([]:List Int),0),()))else((vJ N c).bind λf=>bif !f.2.1 then(some ((),(0,([]:List Int),([]:List Int),([]:List Int),0),()))else(vW N d (Wi a.2)).bind λb=>bif !b.2.2.1 then(some ((),(0,([]:List Int),([]:List Int),([]:List Int),0),()))else bif ((decide ((0:Int)<=4))&&(decide ((4:Int)<=4)))&&(WH (Xb 4))then((Zvz N a.1 a.2 b.2.1 (Xp (Xb 4) 0) c).bind λg=>ret g.2.1)else none)
def AY{R:Type}(c:List Kq)(g:List Ki)(l:Option R)(a:Int->Bool->Kac->Int->Ki->Ki->Option R):Nat->Int->Kac->Int->Ki->Ki->Option R
  |0,_,_,_,_,_=>none
  |n+1,b,f,j,i,h=>bif decide (b<(Wi c))then(Wm ((bif inb b (Xa c)then(bif inb b (Xa g)then((Ck N (Xc c (Xb b) (([]:List Ka),([]:List Kaf))) (Xc g (Xb b) ([]:List Int)) (i,h,j)).bind λd=>bif d.2.1.1==0 then l else(rE N d.2.1.2.2).bind λe=>bif WH ((Xa f)+(Xa ([d.2.1])))then(AY c g l a n (Ws .i64 b 1) (Xh f ([d.2.1])) e.2.1.2.2 e.2.1.1 e.2.1.2.1)else none)else none)else none):Option R) λk=>dL k k)else(a b (decide (b<(Wi c))) f j i h)
def ET(c:List Kq)(b:List Ki)(d:List Int×List Int×Int):Option (Unit×Kal):=bif (Wi b) !=(Wi c)then(some ((),([]:List Ke),(([]:List Int),([]:List Int),0),()))else((vJ N d).bind λi=>bif !i.2.1 then(some ((),([]:List Ke),(([]:List Int),([]:List Int),0),()))else(rE N d).bind λa=>AY N c b (some ((),([]:List Ke),(([]:List Int),([]:List Int),0),())) (λk j h e f g=>some ((),h,(f,g,e),())) N 0 ([]:List Ke) a.2.1.2.2 a.2.1.1 a.2.1.2.1)
def vz{R:Type}(N:Nat)(f:Kg×List Kq×List Kb)(e:Y_World)(d:List Int)(a:Int->Bool->Kai->(List Ki)->Option R):Nat->Int->Kai->(List Ki)->Option R
  |0,_,_,_=>none
  |n+1,c,g,aN=>bif decide (c<(Wi d))then(bif inb c (Xa d)then(Wm (Xc d (Xb c) 0) λh=>bif inb h (Xa f.2.1)then(Wm (Xc f.2.1 (Xb h) (([]:List Ka),([]:List Kaf))) λb=>bif WH ((Xa g)+(Xa ([b])))then(bif inb c (Xa d)then(bif inb h (Xa (P5 e))then(bif WH ((Xa aN)+(Xa ([(Xc (P5 e) (Xb h) d_Root).2.2.2.2.2.2.2.2.2.2.2.2.2.2.2.2.2.1])))then(vz N f e d a n (Ws .i64 c 1) (Xh g ([b])) (Xh aN ([(Xc (P5 e) (Xb h) d_Root).2.2.2.2.2.2.2.2.2.2.2.2.2.2.2.2.2.1])))else none)else none)else none)else none)else none)else none)else(a c (decide (c<(Wi d))) g aN)
def FM(a:Kg×List Kq×List Kb)(b:Y_World):Option (Unit×Kal):=(yR N a).bind λo3=>bif !o3.2.1 then(some ((),([]:List Ke),(([]:List Int),([]:List Int),0),()))else(bif (Wi (P5 b)) !=(Wi a.2.1)then(some ((),([]:List Ke),(([]:List Int),([]:List Int),0),()))else(wc N b).bind λf=>vz N a b f.2.1 (λh g d e=>(ET N d e a.1).bind λc=>some ((),c.2.1,c.2.2.1,())) N 0 ([]:List Kq) ([]:List Ki))
def vA{R:Type}(N:Nat)(b a:List Int)(c:Option R)(d:Ka0 R):Nat->Int->Option R
  |0,_=>none
  |n+1,i5=>bif decide (i5<(Wi b))then(bif inb i5 (Xa b)then(bif inb i5 (Xa a)then(bif (Xc b (Xb i5) 0) !=(Xc a (Xb i5) 0)then c else vA N b a c d n (Ws .i64 i5 1))else none)else none)else(d i5 (decide (i5<(Wi b))))
def tA(d a:List Int):Option Kh:=bif (Wi d) !=(Wi a)then(ret false)else(vA N d a (ret false) (λb c=>ret true) N 0)
def BZ{R:Type}(N:Nat)(a:Y_World)(b:Option R)(c:Ka0 R):Nat->Int->Option R
  |0,_=>none
  |n+1,i2=>bif decide (i2<(Wi a.2.2.2.2.2.1))then(bif inb i2 (Xa a.2.2.2.2.2.1)then(bif (Xc a.2.2.2.2.2.1 (Xb i2) d_Root).1 !=8 then b else BZ N a b c n (Ws .i64 i2 1))else none)else(c i2 (decide (i2<(Wi a.2.2.2.2.2.1))))
def Cz(a:Y_World):Option Kh:=BZ N a (ret false) (λb c=>ret true) N 0
def BW{R:Type}(N:Nat)(a:Int×List Kb)(c:Ka1 R):Nat->Int->Ki->Option R
  |0,_,_=>none
  |n+1,b,l5=>bif decide (b<(Wi a.2))then(bif inb b (Xa a.2)then(bif WH ((Xa l5)+(Xa ([(Xc a.2 (Xb b) ((0:Int),(0:Int),(0:Int))).1])))then(BW N a c n (Ws .i64 b 1) (Xh l5 ([(Xc a.2 (Xb b) (0,0,0)).1])))else none)else none)else(c b (decide (b<(Wi a.2))) l5)
def FN(a:Int×List Kb):Option Kag:=(FY N a).bind λc=>bif !c.2.1 then(some ((),([]:List Int),()))else(BW N a (λe d b=>ret b) N 0 ([]:List Int))
def vX(N:Nat)(a:Int):Option (Unit×(Int×Kk)):=bif a==0 then(some ((),(-1:Int),0,()))else(bif inz 65536 then(bif inz 65536 then(some ((),kc .i64 (ah .i64 a 1) 65536,cj (ah .i64 a 1) 65536,()))else none)else none)
def FO(a:Int):Option Kh:=(ir N a 0 7).bind λb=>ret b.2.1
def MO(a:Int):Option Kx:=(FO N a).bind λb=>bif !b.2.1 then(some ((),(-1:Int),()))else(bif inz 4 then(some ((),cj (Ws .i64 (fg .i64 a 7) 3) 4,()))else none)
def yC{R:Type}(b:List Int)(g:Option R)(a:Int->Bool->Ko->Option R):Nat->Int->Ko->Option R
  |0,_,_=>none
  |n+1,f,l4=>bif decide (f<(Wi b))then(bif inb f (Xa b)then((ir N (Xc b (Xb f) 0) 0 524288).bind λe=>bif !e.2.1 then g else bif inb f (Xa b)then((vX N (Xc b (Xb f) 0)).bind λc=>bif decide (c.2.1<0)then(yC b g a n (Ws .i64 f 1) l4)else bif inb c.2.1 (Xa l4)then(bif Xc l4 (Xb c.2.1) false then g else(MO N c.2.1).bind λd=>bif inz 4 then(bif d.2.1 !=(kc .i64 f 4)then g else bif inb c.2.1 (Xa l4)then(yC b g a n (Ws .i64 f 1) (Xi l4 (Xb c.2.1) true))else none)else none)else none)else none)else none)else(a f (decide (f<(Wi b))) l4)
def Cc(a:List Int):Option Kh:=bif (Wi a) !=16 then(ret false)else(bif ((decide ((0:Int)<=8))&&(decide ((8:Int)<=8)))&&(WH (Xb 8))then(yC N a (ret false) (λd b c=>ret true) N 0 (Xp (Xb 8) false))else none)
def yO{R:Type}(d:List Int)(b:Int)(e:Int->Option R)(a:Ka0 R):Nat->Int->Option R
  |0,_=>none
  |n+1,i5=>bif decide (i5<(Wi d))then(bif inb i5 (Xa d)then((vX N (Xc d (Xb i5) 0)).bind λc=>bif c.2.1==b then(bif decide (b>=0)then(e i5)else yO d b e a n (Ws .i64 i5 1))else yO d b e a n (Ws .i64 i5 1))else none)else(a i5 (decide (i5<(Wi d))))
def Ct(c:List Int)(b:Int):Option Kx:=yO N c b (λa=>ret a) (λe d=>some ((),(-1:Int),())) N 0
def NL(a:List Int)(b:Int):Option (Unit×Kn):=(Cc N a).bind λo3=>bif !o3.2.1 then(some ((),0,false,()))else((FO N b).bind λd=>bif !d.2.1 then(some ((),0,false,()))else(Ct N a b).bind λe=>bif decide (e.2.1<0)then(some ((),0,false,()))else(Ct N a b).bind λc=>bif inb c.2.1 (Xa a)then((vX N (Xc a (Xb c.2.1) 0)).bind λf=>some ((),f.2.2.1,true,()))else none)
def B5{R:Type}(c:List Int)(a:Ka1 R):Nat->Int->Ki->Option R
  |0,_,_=>none
  |n+1,d,l5=>bif decide (d<8)then((NL N c d).bind λb=>bif b.2.2.1 then(bif WH ((Xa l5)+(Xa ([(Ws .i64 b.2.1 (1:Int))])))then(B5 c a n (Ws .i64 d 1) (Xh l5 ([(Ws .i64 b.2.1 1)])))else none)else bif WH ((Xa l5)+(Xa ([b.2.1])))then(B5 c a n (Ws .i64 d 1) (Xh l5 ([b.2.1])))else none)else(a d (decide (d<8)) l5)
def FU(a:List Int):Option Kag:=(Cc N a).bind λc=>bif !c.2.1 then(some ((),([]:List Int),()))else(B5 N a (λe d b=>ret b) N 0 ([]:List Int))
def EZ(c a:List Int×List Int×Int):Option Kh:=(tA N c.1 a.1).bind λo3=>bif o3.2.1 then((tA N c.2.1 a.2.1).bind λb=>bif b.2.1 then(ret (c.2.2==a.2.2))else ret false)else(ret false)
def vx{R:Type}(c:Y_World)(b:List Int)(d:List Ke)(f:Int)(e h:List Int)(j:Option R)(a:Ka0 R):Nat->Int->Option R
  |0,_=>none
  |n+1,i6=>bif decide (i6<(Wi b))then(bif inb i6 (Xa b)then(bif inb (Xc b (Xb i6) 0) (Xa (P5 c))then(bif inb i6 (Xa d)then(Wm (Xc d (Xb i6) (0,([]:List Int),([]:List Int),([]:List Int),0)) λi=>bif i.1 !=(Xc (P5 c) (Xb (Xc b (Xb i6) 0)) d_Root).2.2.2.2.2.2.2.1 then j else bif inb i6 (Xa d)then((tA N i.2.1 (Xc (P5 c) (Xb (Xc b (Xb i6) 0)) d_Root).2.2.2.2.2.2.2.2.2.2.2.2.1).bind λg=>bif !g.2.1 then j else vx c b d f e h j a n (Ws .i64 i6 1))else none)else none)else none)else none)else(a i6 (decide (i6<(Wi b))))
def E0(c:Kg×List Kq×List Kb)(a:Y_World):Option Kh:=(yR N c).bind λo3=>bif !o3.2.1 then(ret false)else(bif (Wi (P5 a)) !=(Wi c.2.1)then(ret false)else(wc N a).bind λd=>(FM N c a).bind λb=>bif (Wi b.2.1) !=(Wi d.2.1)then(ret false)else vx N a d.2.1 b.2.1 b.2.2.1.2.2 b.2.2.1.1 b.2.2.1.2.1 (ret false) (λj i=>(Cz N a).bind λf=>bif !f.2.1 then(ret true)else(FN N a.2.2.1).bind λg=>(FU N a.2.2.2.1.1).bind λe=>(EZ N b.2.2.1 (g.2.1,e.2.1,a.2.2.2.1.2)).bind λh=>ret h.2.1) N 0)
def sP{R:Type}(N:Nat)(b:Int)(c:Y_World)(d:List Int)(e:Option R)(a:Ka0 R):Nat->Int->Option R
  |0,_=>none
  |n+1,k7=>bif decide (k7<b)then(bif inb b (Xa d)then(bif inb (Xc d (Xb b) 0) (Xa (P5 c))then(bif inb k7 (Xa d)then(bif inb (Xc d (Xb k7) 0) (Xa (P5 c))then(bif (Xc (P5 c) (Xb (Xc d (Xb b) 0)) d_Root).1==8 then(bif decide ((Xc (P5 c) (Xb (Xc d (Xb b) 0)) d_Root).2.2.2.2.2.2.2.2.2.2.1<(Xc (P5 c) (Xb (Xc d (Xb k7) 0)) d_Root).2.2.2.2.2.2.2.2.2.1)then e else sP N b c d e a n (Ws .i64 k7 1))else sP N b c d e a n (Ws .i64 k7 1))else none)else none)else none)else none)else(a k7 (decide (k7<b)))
def A3{R:Type}(a:Y_World)(d:List Int)(e:Option R)(f:Ka0 R):Nat->Int->Option R
  |0,_=>none
  |n+1,i3=>bif decide (i3<(Wi d))then(sP N i3 a d e (λb c=>A3 a d e f n (Ws .i64 i3 1)) N 0)else(f i3 (decide (i3<(Wi d))))
def Fi(a:Y_World):Option Kh:=(wc N a).bind λb=>A3 N a b.2.1 (ret false) (λd c=>ret true) N 0
def N6(b:Kg×List Kq×List Kb)(a:Y_World):Option Kh:=bif (Wi a.2.2.2.2.2.1)==(Wi b.2.1)then((FL N b a).bind λo3=>bif o3.2.1 then((E0 N b a).bind λc=>bif c.2.1 then((Fi N a).bind λd=>ret d.2.1)else ret false)else ret false)else(ret false)
def yT{R:Type}(d:List Kb)(c:Kg×List Kq×List Kb)(o:Ka3 R):Nat->Int->Int->Int->Int->Int->Kw->Ki->Kw->(List Y_Root)->Kaj->Option R
  |0,_,_,_,_,_,_,_,_,_,_=>none
  |n+1,b,f,l,k,h,g,i,j,e,a=>bif decide (b<(Wi c.2.2))then(bif inb b (Xa d)then((ES N (f,l,(k,g),(i,h),j,e,a) c (Xc d (Xb b) (0,0,0))).bind λm=>yT d c o n (Ws .i64 b 1) m.1.1.1 m.1.1.2.1 m.1.1.2.2.1.1 m.1.1.2.2.2.1.2 m.1.1.2.2.1.2 m.1.1.2.2.2.1.1 (P4 m.1.1) (P5 m.1.1) (Q6 m.1.1))else none)else(o b (decide (b<(Wi c.2.2))) f l k h g i j e a)
def F2(a:Kg×List Kq×List Kb):Option (Unit×(Y_World×Unit)):=(B8 N a).bind λp=>bif !p.2.1 then(ret d_World)else(Wm (((B3 N a.1.2.1).bind λo3=>bif ((decide ((0:Int)<=(Wi a.2.1)))&&(decide ((Wi a.2.1)<=(Wi a.2.1))))&&(WH (Xb (Wi a.2.1)))then((Ch N a.1.1).bind λe=>yT N a.2.2 a (λB C s q t u g v w x r=>some ((),(s,q,(t,g),(v,u),w,x,r),())) N 0 0 0 e.2.1.1 a.1.2.2 e.2.1.2 o3.2.1 ([]:List Kb) (Xp (Xb (Wi a.2.1)) d_Root) ([]:List Kr))else none):Option (Unit×(Y_World×Unit))) λb=>Wm ((bif ((decide ((0:Int)<=(Wi a.2.1)))&&(decide ((Wi a.2.1)<=(Wi a.2.1))))&&(WH (Xb (Wi a.2.1)))then((B3 N a.1.2.1).bind λf=>(Ch N a.1.1).bind λd=>yT N a.2.2 a (λz A l m n y k h i j o=>some ((),(l,m,(n,k),(h,y),i,j,o),())) N 0 0 0 d.2.1.1 a.1.2.2 d.2.1.2 f.2.1 ([]:List Kb) (Xp (Xb (Wi a.2.1)) d_Root) ([]:List Kr))else none):Option (Unit×(Y_World×Unit))) λc=>dL b (dL b (dL c (dL c (dL b c)))))
def Tn(N:Nat)(a:Y_Root):Option Kh:=some ((),a.1 !=8,())
def Zl{R:Type}(c:List Y_Root)(d:Int->Option R)(a:Ka0 R):Nat->Int->Option R
  |0,_=>none
  |n+1,t4=>bif decide (t4<(Wi c))then(bif inb t4 (Xa c)then((Tn N (Xc c (Xb t4) d_Root)).bind λb=>bif b.2.1 then(d t4)else Zl c d a n (Ws .i64 t4 1))else none)else(a t4 (decide (t4<(Wi c))))
def Z1(b:List Y_Root):Option Kx:=Zl N b (λa=>ret a) (λd c=>some ((),(-1:Int),())) N 0
def SI(b:List Y_Root):Option Kh:=(Z1 N b).bind λa=>some ((),decide (a.2.1>=0),())
def IM(b:Y_World):Option Kh:=(SI N b.2.2.2.2.2.1).bind λa=>ret (!a.2.1)
def A5{R:Type}(p d:Int)(j:List Kq)(oE:Int)(e:Kg×List Kq×List Kb)(q r s t:Int)(a:Ka3 R):Nat->Int->Int->Int->Int->Int->Kw->Ki->Kw->(List Y_Root)->Kaj->Option R
  |0,_,_,_,_,_,_,_,_,_,_=>none
  |n+1,b,f,g,h,i,k,l,m,o,qw=>Wm (Wi (Xc j (Xb d) (([]:List Ka),([]:List Kaf))).2) λu=>bif decide (b<u)then((ES N (f,g,(h,k),(l,i),m,o,qw) e (2,d,b)).bind λc=>A5 p d j oE e q r s t a n (Ws .i64 b 1) c.1.1.1 c.1.1.2.1 c.1.1.2.2.1.1 c.1.1.2.2.2.1.2 c.1.1.2.2.1.2 c.1.1.2.2.2.1.1 (P4 c.1.1) (P5 c.1.1) (Q6 c.1.1))else(a b (decide (b<u)) f g h i k l m o qw)
def yo{R:Type}(e:Int)(d:List Kq)(c:Kg×List Kq×List Kb)(m o k p:Int)(a:Ka3 R):Nat->Int->Int->Int->Int->Int->Kw->Ki->Kw->(List Y_Root)->Kaj->Option R
  |0,_,_,_,_,_,_,_,_,_,_=>none
  |n+1,b,q,r,l,h,f,j,g,i,gT=>bif decide (b<(Wi c.2.1))then(bif inb b (Xa d)then((ES N (q,r,(l,f),(j,h),g,i,gT) c (1,b,0)).bind λD=>A5 N e b d (Wi c.2.1) c m o k p (λB C u v w x y z s A t=>yo e d c m o k p a n (Ws .i64 b 1) u v w x y z s A t) N 0 D.1.1.1 D.1.1.2.1 D.1.1.2.2.1.1 D.1.1.2.2.2.1.2 D.1.1.2.2.1.2 D.1.1.2.2.2.1.1 (P4 D.1.1) (P5 D.1.1) (Q6 D.1.1))else none)else(a b (decide (b<(Wi c.2.1))) q r l h f j g i gT)
def yp{R:Type}(i:Kg×List Kq×List Kb)(x:Ka3 R):Nat->Int->Int->Int->Int->Int->Kw->Ki->Kw->(List Y_Root)->Kaj->Option R
  |0,_,_,_,_,_,_,_,_,_,_=>none
  |n+1,w,e,g,f,a,b,d,h,c,bd=>(IM N (e,g,(f,b),(d,a),h,c,bd)).bind λt=>bif !t.2.1 then(bif decide (w<6000)then(yo N (Ws .i64 w 1) i.2.1 i 0 0 0 0 (λu v j k l m o p q r s=>yp i x n (Ws .i64 w 1) j k l m o p q r s) N 0 e g f a b d h c bd)else x w (decide (w<6000)) e g f a b d h c bd)else(x w false e g f a b d h c bd)
def yU(a:Kg×List Kq×List Kb):Option (Unit×(Y_World×Kk)):=(B8 N a).bind λc=>bif !c.2.1 then(some ((),d_World,0,()))else((F2 N a).bind λo3=>yp N a (λb m e f d g h i j k l=>some ((),(e,f,(d,h),(i,g),j,k,l),b,())) N 0 o3.2.1.1 o3.2.1.2.1 o3.2.1.2.2.1.1 o3.2.1.2.2.2.1.2 o3.2.1.2.2.1.2 o3.2.1.2.2.2.1.1 (P4 o3.2.1) (P5 o3.2.1) (Q6 o3.2.1))
def BX{R:Type}(N:Nat)(b:List Kb)(c:Int)(a:Ka1 R):Nat->Int->Ki->Option R
  |0,_,_=>none
  |n+1,d,l6=>bif decide (d<c)then(bif inb d (Xa b)then(bif WH ((Xa l6)+(Xa ([(Xc b (Xb d) ((0:Int),(0:Int),(0:Int))).1])))then(BX N b c a n (Ws .i64 d 1) (Xh l6 ([(Xc b (Xb d) (0,0,0)).1])))else none)else none)else(a d (decide (d<c)) l6)
def FC(a:Int×List Kb):Option Kag:=(qa N a).bind λc=>bif !c.2.1 then(some ((),([]:List Int),()))else(BX N a.2 (Wi a.2) (λe d b=>ret b) N 0 ([]:List Int))
def yP{R:Type}(c:List Int)(a:Ka1 R):Nat->Int->Ki->Option R
  |0,_,_=>none
  |n+1,d,l5=>bif decide (d<8)then((B9 N c d).bind λb=>bif b.2.2.1 then(bif WH ((Xa l5)+(Xa ([(Ws .i64 b.2.1 (1:Int))])))then(yP c a n (Ws .i64 d 1) (Xh l5 ([(Ws .i64 b.2.1 1)])))else none)else bif WH ((Xa l5)+(Xa ([(0:Int)])))then(yP c a n (Ws .i64 d 1) (Xh l5 ([0])))else none)else(a d (decide (d<8)) l5)
def FW(a:List Int):Option Kag:=(tl N a).bind λc=>bif !c.2.1 then(some ((),([]:List Int),()))else(yP N a (λd e b=>ret b) N 0 ([]:List Int))
def MY(a:List Int):Option (Unit×(Kah×Unit)):=(FQ N a).bind λb=>(NZ N a 200).bind λo3=>(II N b.2.1 (Ws .i64 40 o3.2.1)).bind λc=>ret c.2.1
def Mb{R:Type}(N:Nat)(c:List Int)(b:Int)(d:Int->Option R)(a:Ka0 R):Nat->Int->Option R
  |0,_=>none
  |n+1,t6=>bif decide (t6<(Wi c))then(bif inb t6 (Xa c)then(bif b==(Xc c (Xb t6) 0)then(d t6)else Mb N c b d a n (Ws .i64 t6 1))else none)else(a t6 (decide (t6<(Wi c))))
def Me(b:List Int)(c:Int):Option Kx:=Mb N b c (λa=>ret a) (λd e=>some ((),(-1:Int),())) N 0
def SM(a:List Int)(b:Int):Option Kh:=(Me N a b).bind λo3=>some ((),decide (o3.2.1>=0),())
def Ml{R:Type}(e:List Int)(b:Int)(f:Option R)(a:Ka0 R):Nat->Int->Option R
  |0,_=>none
  |n+1,t7=>bif decide (t7<(Wi e))then(bif inb t7 (Xa e)then((Zj N (Xc e (Xb t7) 0) 0 (ah .i64 b 1)).bind λc=>bif !c.2.1 then f else bif (decide ((0:Int)<=t7))&&(decide (t7<=((Xa e):Int)))then((SM N (bM (Xb t7) e) (Xc e (Xb t7) 0)).bind λd=>bif d.2.1 then f else Ml e b f a n (Ws .i64 t7 1))else none)else none)else(a t7 (decide (t7<(Wi e))))
def Fx(b:List Int)(a:Int):Option Kh:=Ml N b a (ret false) (λd c=>ret true) N 0
def vC(a:List Int×List Int×Int):Option (Unit×Kaa):=(Zg N a.1).bind λb=>(Zg N a.2.1).bind λo3=>some ((),(b.2.1,o3.2.1,a.2.2),())
def Ia{R:Type}(c:List Int)(b:Int)(a:Ka1 R):Nat->Int->Ki->Option R
  |0,_,_=>none
  |n+1,e,l7=>bif decide (e<b)then((SM N c e).bind λd=>bif !d.2.1 then(bif WH ((Xa l7)+(Xa ([e])))then(Ia c b a n (Ws .i64 e 1) (Xh l7 ([e])))else none)else Ia c b a n (Ws .i64 e 1) l7)else(a e (decide (e<b)) l7)
def B6(a:List Int)(c:Int):Option Kag:=(Zg N a).bind λo3=>Ia N a c (λd e b=>ret b) N 0 o3.2.1
def wd(N:Nat)(a:Int×Int×Int×Int)(c:List Int)(b:List Int×List Int×Int):Option ((Ki×Kaa)×Unit):=bif a.1==5 then(bif inb a.2.2.1 (Xa b.1)then(bif inb a.2.1 (Xa c)then(some ((Xi c (Xb a.2.1) (Xc b.1 (Xb a.2.2.1) 0),b,()),()))else none)else none)else(bif a.1==6 then(bif inb a.2.2.1 (Xa c)then(bif inb a.2.1 (Xa b.1)then(some ((c,(Xi b.1 (Xb a.2.1) (Xc c (Xb a.2.2.1) 0),b.2),()),()))else none)else none)else bif a.1==12 then(bif inb a.2.1 (Xa b.2.1)then(bif inb a.2.2.1 (Xa c)then(bif inb a.2.1 (Xa b.2.1)then(bif inz 65536 then(bif inb a.2.2.2 (Xa c)then(some ((Xi c (Xb a.2.2.2) (cj (Xc b.2.1 (Xb a.2.1) 0) 65536),(b.1,Xi b.2.1 (Xb a.2.1) (Ws .i64 (Xc c (Xb a.2.2.1) 0) 1),b.2.2),()),()))else none)else none)else none)else none)else none)else bif a.1==13 then(bif inb a.2.2.1 (Xa b.2.1)then(bif inz 65536 then(bif inb a.2.1 (Xa c)then(some ((Xi c (Xb a.2.1) (cj (Xc b.2.1 (Xb a.2.2.1) 0) 65536),b,()),()))else none)else none)else none)else bif a.1==14 then(bif inb a.2.1 (Xa b.2.1)then(bif inz 65536 then(bif inb a.2.2.1 (Xa c)then(bif inb a.2.1 (Xa b.2.1)then(some ((Xi c (Xb a.2.2.1) (cj (Xc b.2.1 (Xb a.2.1) 0) 65536),(b.1,Xi b.2.1 (Xb a.2.1) 0,b.2.2),()),()))else none)else none)else none)else none)else bif a.1==15 then(bif inb a.2.1 (Xa c)then(bif inz 65536 then(some ((c,(b.1,b.2.1,cj (Ws .i64 b.2.2 (Xc c (Xb a.2.1) 0)) 65536),()),()))else none)else none)else bif a.1==16 then(bif inb a.2.1 (Xa c)then(some ((Xi c (Xb a.2.1) b.2.2,b,()),()))else none)else some ((c,b,()),()))
def p9{R:Type}(N:Nat)(u:Kaf->Kab->Ki->Ki->Kg->Option Ky)(i:List Ka)(f:List Kaf)(h:List Int)(a g:Int)(x:List Int×List Int×Int)(j m l:Int)(z:List Ke)(v w y:List Int)(t:Int->Bool->Ki->Ki->Option R):Nat->Int->Ki->Ki->Option R
  |0,_,_,_=>none
  |n+1,k,o,iD=>bif decide (k<g)then(bif inb k (Xa w)then(Wm (Xc w (Xb k) 0) λs=>Wm (Xi o (Xb s) 0) λb=>Wm (Xc f (Xb s) ([]:List Ka)) λe=>Wm (Ws .i64 k 1) λc=>dL (bif inb s (Xa f)then(bif ((decide ((0:Int)<=8))&&(decide ((8:Int)<=8)))&&(WH (Xb 8))then((u e ([]:List Kaf) ([]:List Int) v (iD,Xp (Xb 8) 0,0)).bind λd=>bif inb s (Xa o)then(bif d.2.1.1==1 then(bif inb 0 (Xa d.2.1.2.1)then(bif inb s (Xa b)then(Wm b λp=>p9 N u i f h a g x j m l z v w y t n c (Xi p (Xb s) (Xc d.2.1.2.1 (Xb 0) 0)) d.2.1.2.2.1)else none)else none)else p9 N u i f h a g x j m l z v w y t n c b d.2.1.2.2.1)else none)else none)else none) (dL (bif inb s (Xa f)then(bif ((decide ((0:Int)<=8))&&(decide ((8:Int)<=8)))&&(WH (Xb 8))then((u e ([]:List Kaf) ([]:List Int) v (iD,Xp (Xb 8) 0,0)).bind λd=>bif inb s (Xa o)then(bif d.2.1.1==1 then(bif inb 0 (Xa d.2.1.2.1)then(bif inb s (Xa b)then(Wm b λq=>p9 N u i f h a g x j m l z v w y t n c (Xi q (Xb s) (Xc d.2.1.2.1 (Xb 0) 0)) d.2.1.2.2.1)else none)else none)else p9 N u i f h a g x j m l z v w y t n c b d.2.1.2.2.1)else none)else none)else none) (bif inb s (Xa f)then(bif ((decide ((0:Int)<=8))&&(decide ((8:Int)<=8)))&&(WH (Xb 8))then((u e ([]:List Kaf) ([]:List Int) v (iD,Xp (Xb 8) 0,0)).bind λd=>bif inb s (Xa o)then(bif d.2.1.1==1 then(bif inb 0 (Xa d.2.1.2.1)then(bif inb s (Xa b)then(Wm b λr=>p9 N u i f h a g x j m l z v w y t n c (Xi r (Xb s) (Xc d.2.1.2.1 (Xb 0) 0)) d.2.1.2.2.1)else none)else none)else p9 N u i f h a g x j m l z v w y t n c b d.2.1.2.2.1)else none)else none)else none)))else none)else(t k (decide (k<g)) o iD)
def nv{R:Type}(B:Kaf->Kab->Ki->Ki->Kg->Option Ky)(i:List Ka)(o:List Kaf)(l:List Int)(a:List Int×List Int×Int)(z:Int->Ki->Ki->Ki->Option R)(A:Int->Bool->Ki->Int->Kac->Ki->Ki->Option R):Nat->Int->Ki->Int->Kac->Ki->Ki->Option R
  |0,_,_,_,_,_,_=>none
  |n+1,q,k,m,h,r,p=>bif decide (q<(Wi i))then(Wm (Xc i (Xb q) (0,0,0,0)) λy=>Wm (Ws .i64 q 1) λd=>bif inb q (Xa i)then(Wm ((bif y.1==7 then(bif inb y.2.1 (Xa k)then(bif (Xc k (Xb y.2.1) 0)==0 then(nv B i o l a z A n (Ws .i64 (Ws .i64 q y.2.2.1) 1) k m h r p)else nv B i o l a z A n d k m h r p)else none)else Wm (ah .i64 (Wi h) 1) λb=>bif y.1==8 then((Zg N k).bind λs=>(vC N (r,p,m)).bind λj=>bif WH ((Xa h)+(Xa ([(q,s.2.1,j.2.1)])))then(nv B i o l a z A n d k m (Xh h ([(q,s.2.1,j.2.1)])) r p)else none)else Wm (Xc h (Xb b) (0,([]:List Int),([]:List Int),([]:List Int),0)) λc=>Wm (Xc i (Xb c.1) (0,0,0,0)) λg=>bif y.1==9 then(bif inb b (Xa h)then(bif ((decide ((0:Int)<=b))&&(decide (b<=((Xa h):Int))))&&(decide (b<=((Xb b):Int)))then(bif inb c.1 (Xa i)then(bif inb g.2.1 (Xa k)then(nv B i o l a z A n d (Xi k (Xb g.2.1) 1) m (bM (Xb b) h) r p)else none)else none)else none)else none)else bif y.1==10 then(bif (Wi h)==0 then((vC N a).bind λj=>z j.2.1.2.2 k j.2.1.1 j.2.1.2.1)else bif inb b (Xa h)then(bif ((decide ((0:Int)<=b))&&(decide (b<=((Xa h):Int))))&&(decide (b<=((Xb b):Int)))then(bif inb c.1 (Xa i)then(bif inb g.2.1 (Xa c.2.1)then((tL N i c.1).bind λj=>nv B i o l a z A n (Ws .i64 j.2.1 1) (Xi c.2.1 (Xb g.2.1) 0) c.2.2.2.2 (bM (Xb b) h) c.2.2.1 c.2.2.2.1)else none)else none)else none)else none)else bif y.1==11 then((Zg N k).bind λt=>(B6 N l (Wi o)).bind λs=>p9 N B i o l q (Wi s.2.1) a 0 0 m h t.2.1 s.2.1 p (λw x u v=>nv B i o l a z A n d u m h v p) N 0 k r)else(wd N y k (r,p,m)).bind λj=>nv B i o l a z A n d j.1.1 j.1.2.1.2.2 h j.1.2.1.1 j.1.2.1.2.1):Option R) λe=>Wm (((ze N y k).bind λj=>nv B i o l a z A n d j.2.1 m h r p):Option R) λf=>bif y.1==1 then(bif y.1==1 then f else e)else bif y.1==2 then(bif y.1==2 then f else e)else bif y.1==3 then(bif y.1==3 then f else e)else bif y.1==4 then f else e)else none)else(A q (decide (q<(Wi i))) k m h r p)
def rz:Nat->Kaf->Kab->Ki->Ki->Kg->Option Ky
  |0,_,_,_,_,_=>none
  |m+1,b,d,c,lE,eS=>(Zg N lE).bind λe=>(vC N eS).bind λa=>nv N (rz m) b d c eS (λi j k l=>some ((),(2,j,k,l,i),())) (λo p n f q g h=>some ((),(1,n,g,h,f),())) N 0 e.2.1 a.2.1.2.2 ([]:List Ke) a.2.1.1 a.2.1.2.1
def Zv0(a:List Ka)(c:List Kaf)(b lE:List Int)(d:List Int×List Int×Int):Option Ky:=rz N N a c b lE d
def N1(a:List Ka×List Kaf)(b:List Int)(c:List Int×List Int×Int):Option Ky:=(Cj N a).bind λd=>bif !d.2.1 then(some ((),(0,([]:List Int),([]:List Int),([]:List Int),0),()))else((Fx N b (Wi a.2)).bind λe=>bif !e.2.1 then(some ((),(0,([]:List Int),([]:List Int),([]:List Int),0),()))else(Fh N c).bind λf=>bif !f.2.1 then(some ((),(0,([]:List Int),([]:List Int),([]:List Int),0),()))else bif ((decide ((0:Int)<=4))&&(decide ((4:Int)<=4)))&&(WH (Xb 4))then((Zv0 N a.1 a.2 b (Xp (Xb 4) 0) c).bind λg=>ret g.2.1)else none)
def IE(N:Nat)(b:Y_Root):Option Kh:=bif b.1==8 then(ret true)else(Wm ((bif b.1==5 then(bif (P20 b).2.2.1==4 then(ret true)else some ((),(P20 b).2.2.1==5,()))else ret false):Option Kh) λa=>bif b.1==6 then(bif b.1==6 then(some ((),(P7 b) !=0,()))else a)else bif b.1==7 then(some ((),(P7 b) !=0,()))else a)
def IF(a:Y_Root):Option Kx:=(IE N a).bind λb=>bif !b.2.1 then(ret 0)else(bif a.1==5 then(ret a.2.2.2.2.2.2.2.2.2.2.2.2.2.2.2.2.2.2.2.2.1.2.2.2.2.1)else ret a.2.2.2.2.2.2.2.2.1)
def NM(c a:Y_Root):Option Kx:=(IF N c).bind λe=>(IF N a).bind λd=>bif decide (e.2.1<d.2.1)then(some ((),(-1:Int),()))else(bif decide (e.2.1>d.2.1)then(ret 1)else Wm ((bif decide ((P10 c)<(P10 a))then(some ((),(-1:Int),()))else bif decide ((P10 c)>(P10 a))then(ret 1)else ret 0):Option Kx) λf=>Wm ((bif e.2.1==(P4 c)then(bif d.2.1 !=(P4 a)then(ret 1)else f)else f):Option Kx) λb=>bif e.2.1 !=(P4 c)then(bif d.2.1==(P4 a)then(some ((),(-1:Int),()))else b)else b)
def NN(b a:Int)(d:Y_World):Option ((Y_World×Unit)×Kk):=bif inb b (Xa d.2.2.2.2.2.1)then(bif inb a (Xa d.2.2.2.2.2.1)then((NM N (Xc d.2.2.2.2.2.1 (Xb b) d_Root) (Xc d.2.2.2.2.2.1 (Xb a) d_Root)).bind λc=>some ((d,()),c.2.1,()))else none)else none
def Zr{R:Type}(e g h:Int)(a:Int->Bool->Ki->Y_World->Option R):Nat->Int->Ki->Y_World->Option R
  |0,_,_,_=>none
  |n+1,c,b,cu=>bif decide (c>e)then(bif inb c (Xa b)then(Wm (ah .i64 c 1) λi=>bif inb i (Xa b)then((NN N (Xc b (Xb c) 0) (Xc b (Xb i) 0) cu).bind λd=>bif decide (d.2.1<0)then(bif inb i (Xa b)then(bif inb c (Xa b)then(bif inb c (Xa b)then(bif inb i (Xa (Xi b (Xb c) (Xc b (Xb i) 0)))then(Wm (Xi b (Xb c) (Xc b (Xb i) 0)) λf=>Zr e g h a n i (Xi f (Xb i) (Xc b (Xb c) 0)) d.1.1)else none)else none)else none)else none)else a c (decide (d.2.1<0)) b d.1.1)else none)else none)else(a c false b cu)
def Zk{R:Type}(c b:Int)(a:Int->Bool->Ki->Y_World->Option R):Nat->Int->Ki->Y_World->Option R
  |0,_,_,_=>none
  |n+1,i,d,b9=>bif decide (i<b)then(Zr N c b i (λg h f e=>Zk c b a n (Ws .i64 i 1) f e) N i d b9)else(a i (decide (i<b)) d b9)
def Zx(c:List Int)(h a:Int)(d:Y_World):Option ((Ki×(Y_World×Unit))×Unit):=Zk N h a (λf g b e=>some ((b,e,()),())) N (Ws .i64 h 1) c d
def H7{R:Type}(b:Int)(a:Int->Int->Bool->Ki->Y_World->Option R):Nat->Int->Int->Ki->Y_World->Option R
  |0,_,_,_,_=>none
  |n+1,c,f,d,b9=>bif decide (f<=b)then((Zx N d c f b9).bind λe=>H7 b a n f (Ws .i64 f 20) e.1.1 e.1.2.1)else(a c f (decide (f<=b)) d b9)
def SL{R:Type}(N:Nat)(b d:Int)(c:List Int)(a:Y_World)(e:Option R):Nat->Option R
  |0=>none
  |n+1=>bif decide ((fg .i64 2 d)<=b)then none else e
def H8{R:Type}(d:Int)(b:List Int)(c:Y_World)(a:Ka0 R):Nat->Int->Option R
  |0,_=>none
  |n+1,blockSize25=>bif decide (blockSize25<d)then(SL N d blockSize25 b c (bif decide ((Ws .i64 0 blockSize25)<d)then none else H8 d b c a n (fg .i64 blockSize25 2)) N)else(a blockSize25 (decide (blockSize25<d)))
def H9(f:List Int)(c:Int)(g:Y_World):Option ((Ki×(Y_World×Unit))×Unit):=H7 N c (λe i j d h=>(Zx N d e c h).bind λb=>H8 N c b.1.1 b.1.2.1 (λa k=>some ((b.1.1,b.1.2.1,()),())) N 20) N 0 20 f g
def Ma(a:List Int)(b:Y_World):Option ((Ki×(Y_World×Unit))×Unit):=(H9 N a (Wi a) b).bind λo3=>some ((o3.1.1,o3.1.2.1,()),())
def yQ{R:Type}(c:List Y_Root)(b:Y_World)(a:Ka1 R):Nat->Int->Ki->Option R
  |0,_,_=>none
  |n+1,e,l6=>bif decide (e<(Wi b.2.2.2.2.2.1))then(bif inb e (Xa c)then((IE N (Xc c (Xb e) d_Root)).bind λd=>bif d.2.1 then(bif WH ((Xa l6)+(Xa ([e])))then(yQ c b a n (Ws .i64 e 1) (Xh l6 ([e])))else none)else yQ c b a n (Ws .i64 e 1) l6)else none)else(a e (decide (e<(Wi b.2.2.2.2.2.1))) l6)
def Cu(a:Y_World):Option Kag:=yQ N a.2.2.2.2.2.1 a (λd e b=>(Ma N b a).bind λc=>ret c.1.1) N 0 ([]:List Int)
def A0{R:Type}(g:List Ki)(c:List Kq)(l:Option R)(a:Int->Bool->Int->Kac->Ki->Ki->Option R):Nat->Int->Int->Kac->Ki->Ki->Option R
  |0,_,_,_,_,_=>none
  |n+1,b,j,f,h,i=>bif decide (b<(Wi c))then(bif inb b (Xa c)then(Wm ((bif inb b (Xa g)then((N1 N (Xc c (Xb b) (([]:List Ka),([]:List Kaf))) (Xc g (Xb b) ([]:List Int)) (h,i,j)).bind λd=>bif d.2.1.1==0 then l else bif WH ((Xa f)+(Xa ([d.2.1])))then((vC N d.2.1.2.2).bind λe=>A0 g c l a n (Ws .i64 b 1) e.2.1.2.2 (Xh f ([d.2.1])) e.2.1.1 e.2.1.2.1)else none)else none):Option R) λk=>dL k k)else none)else(a b (decide (b<(Wi c))) j f h i)
def EU(c:List Kq)(b:List Ki)(d:List Int×List Int×Int):Option (Unit×Kal):=bif (Wi c) !=(Wi b)then(some ((),([]:List Ke),(([]:List Int),([]:List Int),0),()))else((Fh N d).bind λi=>bif !i.2.1 then(some ((),([]:List Ke),(([]:List Int),([]:List Int),0),()))else(vC N d).bind λa=>A0 N b c (some ((),([]:List Ke),(([]:List Int),([]:List Int),0),())) (λk j f g h e=>some ((),g,(h,e,f),())) N 0 a.2.1.2.2 ([]:List Ke) a.2.1.1 a.2.1.2.1)
def E1{R:Type}(N:Nat)(g:List Int)(h:Int)(f:Kg×List Kq×List Kb)(d:Y_World)(a:Int->Bool->Kai->(List Ki)->Option R):Nat->Int->Kai->(List Ki)->Option R
  |0,_,_,_=>none
  |n+1,c,e,ak=>bif decide (c<h)then(bif inb c (Xa g)then(Wm (Xc g (Xb c) 0) λi=>bif inb i (Xa f.2.1)then(Wm (Xc f.2.1 (Xb i) (([]:List Ka),([]:List Kaf))) λb=>bif WH ((Xa e)+(Xa ([b])))then(bif inb i (Xa (P5 d))then(bif WH ((Xa ak)+(Xa ([(Xc (P5 d) (Xb i) d_Root).2.2.2.2.2.2.2.2.2.2.2.2.2.2.2.2.2.1])))then(E1 N g h f d a n (Ws .i64 c 1) (Xh e ([b])) (Xh ak ([(Xc (P5 d) (Xb i) d_Root).2.2.2.2.2.2.2.2.2.2.2.2.2.2.2.2.2.1])))else none)else none)else none)else none)else none)else(a c (decide (c<h)) e ak)
def FD(a:Kg×List Kq×List Kb)(b:Y_World):Option (Unit×Kal):=(B8 N a).bind λo3=>bif !o3.2.1 then(some ((),([]:List Ke),(([]:List Int),([]:List Int),0),()))else(bif (Wi (P5 b)) !=(Wi a.2.1)then(some ((),([]:List Ke),(([]:List Int),([]:List Int),0),()))else(Cu N b).bind λd=>E1 N d.2.1 (Wi d.2.1) a b (λg h f e=>(EU N f e a.1).bind λc=>some ((),c.2.1,c.2.2.1,())) N 0 ([]:List Kq) ([]:List Ki))
def EH{R:Type}(N:Nat)(c b:List Int)(d:Option R)(a:Ka0 R):Nat->Int->Option R
  |0,_=>none
  |n+1,t6=>bif decide (t6<(Wi c))then(bif inb t6 (Xa c)then(bif inb t6 (Xa b)then(bif (Xc c (Xb t6) 0) !=(Xc b (Xb t6) 0)then d else EH N c b d a n (Ws .i64 t6 1))else none)else none)else(a t6 (decide (t6<(Wi c))))
def yn(a b:List Int):Option Kh:=bif (Wi a) !=(Wi b)then(ret false)else(EH N a b (ret false) (λd c=>ret true) N 0)
def MG(c a:List Int×List Int×Int):Option Kh:=(yn N c.1 a.1).bind λo3=>bif o3.2.1 then((yn N c.2.1 a.2.1).bind λb=>bif b.2.1 then(ret (c.2.2==a.2.2))else ret false)else(ret false)
def EI{R:Type}(e:List Int)(f:Int)(c:Y_World)(d:List Ke)(j:Int)(i g:List Int)(l:Option R)(a:Ka0 R):Nat->Int->Option R
  |0,_=>none
  |n+1,t8=>bif decide (t8<f)then(bif inb t8 (Xa e)then(bif inb t8 (Xa d)then(Wm (Xc e (Xb t8) 0) λk=>bif inb k (Xa (P5 c))then(Wm (Xc d (Xb t8) (0,([]:List Int),([]:List Int),([]:List Int),0)) λb=>bif b.1 !=(Xc (P5 c) (Xb k) d_Root).2.2.2.2.2.2.2.1 then l else bif inb t8 (Xa d)then(bif inb k (Xa (P5 c))then((yn N b.2.1 (Xc (P5 c) (Xb k) d_Root).2.2.2.2.2.2.2.2.2.2.2.2.1).bind λh=>bif !h.2.1 then l else EI e f c d j i g l a n (Ws .i64 t8 1))else none)else none)else none)else none)else none)else(a t8 (decide (t8<f)))
def E2(d:Kg×List Kq×List Kb)(a:Y_World):Option Kh:=(B8 N d).bind λo3=>bif !o3.2.1 then(ret false)else(bif (Wi (P5 a)) !=(Wi d.2.1)then(ret false)else(Cu N a).bind λc=>(FD N d a).bind λb=>bif (Wi b.2.1) !=(Wi c.2.1)then(ret false)else EI N c.2.1 (Wi c.2.1) a b.2.1 b.2.2.1.2.2 b.2.2.1.1 b.2.2.1.2.1 (ret false) (λj i=>(IM N a).bind λf=>bif !f.2.1 then(ret true)else(FC N a.2.2.1).bind λe=>(FW N a.2.2.2.1.1).bind λg=>(MG N b.2.2.1 (e.2.1,g.2.1,a.2.2.2.1.2)).bind λh=>ret h.2.1) N 0)
def AP{R:Type}(N:Nat)(e d:List Int)(f c:Int)(b:Y_World)(h:Option R)(a:Ka0 R):Nat->Int->Option R
  |0,_=>none
  |n+1,dC=>Wm (bM (Xb c) e) λg=>bif decide (dC<(Wi g))then(bif inb dC (Xa g)then(bif (Xc (P5 b) (Xb (Xc d (Xb c) 0)) d_Root).1==8 then(bif inb (Xc g (Xb dC) 0) (Xa (P5 b))then(bif decide ((Xc (P5 b) (Xb (Xc d (Xb c) 0)) d_Root).2.2.2.2.2.2.2.2.2.2.1<(Xc (P5 b) (Xb (Xc g (Xb dC) 0)) d_Root).2.2.2.2.2.2.2.2.2.1)then h else AP N e d f c b h a n (Ws .i64 dC 1))else none)else AP N e d f c b h a n (Ws .i64 dC 1))else none)else(a dC (decide (dC<(Wi g))))
def AS{R:Type}(f:List Int)(b:Int)(c:Y_World)(g:Option R)(a:Ka0 R):Nat->Int->Option R
  |0,_=>none
  |n+1,t6=>bif decide (t6<b)then(bif inb t6 (Xa f)then(bif inb (Xc f (Xb t6) 0) (Xa c.2.2.2.2.2.1)then(bif (decide ((0:Int)<=t6))&&(decide (t6<=((Xa f):Int)))then(AP N f f b t6 c g (λd e=>AS f b c g a n (Ws .i64 t6 1)) N 0)else none)else none)else none)else(a t6 (decide (t6<b)))
def Fj(b:Y_World):Option Kh:=(Cu N b).bind λa=>AS N a.2.1 (Wi a.2.1) b (ret false) (λc d=>ret true) N 0
def Zmq(b:List Int):Option Kh:=(Ts N b).bind λd=>bif d.2.1 then(ret true)else((MY N b).bind λo3=>(yU N o3.2.1).bind λa=>(yR N o3.2.1).bind λe=>bif !e.2.1 then(bif (Wi a.2.1.2.2.2.2.2.1)==0 then(ret (a.2.2.1==0))else ret false)else(N6 N o3.2.1 a.2.1).bind λf=>bif f.2.1 then((Cz N a.2.1).bind λg=>bif g.2.1 then((wc N a.2.1).bind λh=>bif (Wi h.2.1)==(Wi o3.2.1.2.1)then((E2 N o3.2.1 a.2.1).bind λi=>bif i.2.1 then((Fj N a.2.1).bind λc=>ret c.2.1)else ret false)else ret false)else ret false)else ret false)
end
end Go.Sx
