/- Plain laws of the Lean functions. -/
import Derived.Test.YthfplagpoopmcaaGreatMW2
open List renaming mem_cons→Xq,cons_append→Xaq,getD→Xc,drop_eq_getElem_cons→Xbm,append_assoc→Xax,length→Xb,drop→Xco,append→Xt,foldl_cons→Xct,range→Xbt,map_cons→Xag,append_nil→Xcf,length_cons→Xn,replicate→Xr,nil_append→Xbn,length_append→Xo,length_nil→Xae,map_nil→Xbu
open Nat renaming le_refl→Xm
open Int renaming toNat_natCast→Xk,toNat→Xa,eq_ofNat_of_zero_le→Xfg
open Bool renaming and_eq_true→Xg,not_false→Xcm
open Option renaming bind_some→Xd
namespace Go.Sx
set_option linter.unusedVariables false
set_option linter.unusedSimpArgs false
section
def Woe(x:List UInt8):List Kh->List Kh
 | []=>[x]
 |h::t=>(x++h)::t
def spl(c:UInt8):List UInt8->List Kh
 | []=>[[]]
 |x::l=>if x=c then []::spl c l else Woe [x] (spl c l)
theorem Wrc(c:UInt8):∀l,spl c l≠ []
 | []=>by simp[spl]
 |x::l=>by
  rw[spl];split
  .simp
  .cases spl c l<;>simp[Woe]
theorem WoV(a b:List UInt8)(l:List Kh):Woe a (Woe b l)=Woe (a++b) l:=by cases l<;>simp[Woe]
theorem Wm2{l:List Kh}(h:l≠ []):Woe [] l=l:=by cases l<;>simp_all [Woe]
theorem WpN{c:UInt8}:∀{x:List UInt8} (y:List UInt8),c∉x->spl c (x++c::y)=x::spl c y
 | [],y,_=>by simp[spl]
 |z::x,y,h=>by
  simp only[Xq,not_or]at h;rw[Xaq,spl,Wc (λe=>h.1 e.symm),WpN y h.2,Woe];rfl
variable{N:Nat}
theorem Wqk{R:Type}{s:List UInt8}{c:UInt8}{K0:Int->Int->Bool->List Kh->Option R}(hs:s.length<=1048576):∀(d i from_ n:Nat) (l:List Kh),i+d=s.length->d<n->from_<=i->l.length<=i->
  ∃f l',Zbm N s (c.toNat:Int) K0 n (from_:Int) (i:Int) l=K0 ((f:Nat):Int) (s.length:Int) false l'/\f<=s.length/\l'++ [s.drop f]=l++Woe ((s.take i).drop from_) (spl c (s.drop i))/\l'.length<=s.length:=by
 intro d
 induction d with
 |zero=>
  intro i fr n l h1 h2 h3 h4;obtain⟨n,rfl⟩:∃m,n=m+1:=⟨n-1,by omega⟩;have hi:i=s.length:=by omega
  subst hi;refine⟨fr,l,?_,h3,?_,h4⟩
  .simp only[Zbm,WaC (Xm _),Wf]
  .simp[spl,Woe]
 |succ d ih=>
  intro i fr n l h1 h2 h3 h4;obtain⟨n,rfl⟩:∃m,n=m+1:=⟨n-1,by omega⟩;have hi:i<s.length:=by omega
  have hg:Xc s i (0:UInt8)=s[i]:=WP hi _;have e1:s.drop i=s[i]::s.drop (i+1):=Xbm hi;simp only[Zbm,Wan hi,WD hi,Wa,Wt (show i<4611686018427387904 by omega),Xk,hg];by_cases hc:s[i]=c
  .have hb:(((s[i].toNat:Nat):Int)==((c.toNat:Nat):Int))=true:=by rw[hc];simp
   have hx:((decide ((0:Int)<=(i:Int))&&decide ((i:Int)<=((s.length:Nat):Int)))&&decide ((0:Int)<=(fr:Int))&&decide ((fr:Int)<=(i:Int)))=true:=by simp;omega
   rw[hb,Wa,hx,Wa,WK (by simp;omega),Wa];obtain⟨f,l',q1,q2,q3,q4⟩:=ih (i+1) (i+1) n (l++ [(s.take i).drop fr]) (by omega) (by omega) (Xm _) (by simp;omega);refine⟨f,l',q1,q2,?_,q4⟩;rw[q3,e1,spl,We hc];have e2:(s.take (i+1)).drop (i+1)= []:=by simp
   rw[e2,Wm2 (Wrc _ _),Xax];simp[Woe]
  .have hb:(((s[i].toNat:Nat):Int)==((c.toNat:Nat):Int))=false:=by
    rw[beq_eq_false_iff_ne];intro e;exact hc (UInt8.toNat_inj.1 (by omega))
   rw[hb,Wf];obtain⟨f,l',q1,q2,q3,q4⟩:=ih (i+1) fr n l (by omega) (by omega) (by omega) (by omega);refine⟨f,l',q1,q2,?_,q4⟩;rw[q3,e1,spl,Wc hc,WoV];congr 2;rw[List.take_add_one,List.getElem?_eq_getElem hi];simp only[Option.toList_some];rw[List.drop_append_of_le_length (by simp;omega)]
theorem WoF{s:List UInt8}{c:UInt8}(hs:s.length<=1048576)(hN:1048576<N):Zdm N s (c.toNat:Int)=ret (spl c s):=by
 unfold Zdm;obtain⟨f,l',q1,q2,q3,q4⟩:=Wqk (N:=N) (s:=s) (c:=c) (K0:=λck uC eJ bf=>
  (bif (decide ((0:Int)<=ck))&&(decide (ck<=((Xb s):Int)))then
 (bif WV ((Xb bf)+(Xb ([(Xco (Xa ck) s)])))then
 (some ((),(Xt bf ([(Xco (Xa ck) s)]),())))else none)else none)) hs s.length 0 0 N [] (by omega) (by omega) (by omega) (by simp)
 refine q1.trans ?_;have hx:(decide ((0:Int)<=(f:Int))&&decide ((f:Int)<=((s.length:Nat):Int)))=true:=by simp;omega
 simp only[hx,Wa,Xk];rw[WK (by simp;omega),Wa];have:l'++ [s.drop f]=spl c s:=by
  rw[q3];simp[Wm2 (Wrc _ _)]
 rw[show Xt l' [Xco f s]=l'++ [s.drop f]from rfl,this]
end
section
theorem ln0(a b:Int):Za 1600001 (([0,0,0,0,0,0,0,0],[0,0,0,0,0,0,0,0],0),[],[]) [99,101,108,108,32,50,32,49,48,48]=some (((([0,0,100,0,0,0,0,0],[0,0,0,0,0,0,0,0],0),[],[]),()),([111,107],())):=by kernel_rfl
theorem ln1(a b:Int):Za 1600001 (([0,0,100,0,0,0,0,0],[0,0,0,0,0,0,0,0],0),[],[]) [114,111,111,116]=some (((([0,0,100,0,0,0,0,0],[0,0,0,0,0,0,0,0],0),[([],[])],[]),()),([111,107],())):=by kernel_rfl
theorem ln2(a b:Int):Za 1600001 (([0,0,100,0,0,0,0,0],[0,0,0,0,0,0,0,0],0),[([],[])],[]) [114,101,97,100,32,48,32,50]=some (((([0,0,100,0,0,0,0,0],[0,0,0,0,0,0,0,0],0),[([(5,0,2,0)],[])],[]),()),([111,107],())):=by kernel_rfl
theorem ln4(a b:Int):Za 1600001 (([0,0,100,0,0,0,0,0],[0,0,0,0,0,0,0,0],0),[([(5,0,2,0),(1,1,a,0)],[])],[]) [97,100,100,32,48,32,48,32,49]=some (((([0,0,100,0,0,0,0,0],[0,0,0,0,0,0,0,0],0),[([(5,0,2,0),(1,1,a,0),(2,0,0,1)],[])],[]),()),([111,107],())):=by kernel_rfl
theorem ln5(a b:Int):Za 1600001 (([0,0,100,0,0,0,0,0],[0,0,0,0,0,0,0,0],0),[([(5,0,2,0),(1,1,a,0),(2,0,0,1)],[])],[]) [119,114,105,116,101,32,50,32,48]=some (((([0,0,100,0,0,0,0,0],[0,0,0,0,0,0,0,0],0),[([(5,0,2,0),(1,1,a,0),(2,0,0,1),(6,2,0,0)],[])],[]),()),([111,107],())):=by kernel_rfl
theorem ln6(a b:Int):Za 1600001 (([0,0,100,0,0,0,0,0],[0,0,0,0,0,0,0,0],0),[([(5,0,2,0),(1,1,a,0),(2,0,0,1),(6,2,0,0)],[])],[]) [114,111,111,116]=some (((([0,0,100,0,0,0,0,0],[0,0,0,0,0,0,0,0],0),[([(5,0,2,0),(1,1,a,0),(2,0,0,1),(6,2,0,0)],[]),([],[])],[]),()),([111,107],())):=by kernel_rfl
theorem ln7(a b:Int):Za 1600001 (([0,0,100,0,0,0,0,0],[0,0,0,0,0,0,0,0],0),[([(5,0,2,0),(1,1,a,0),(2,0,0,1),(6,2,0,0)],[]),([],[])],[]) [114,101,97,100,32,48,32,50]=some (((([0,0,100,0,0,0,0,0],[0,0,0,0,0,0,0,0],0),[([(5,0,2,0),(1,1,a,0),(2,0,0,1),(6,2,0,0)],[]),([(5,0,2,0)],[])],[]),()),([111,107],())):=by kernel_rfl
theorem ln9(a b:Int):Za 1600001 (([0,0,100,0,0,0,0,0],[0,0,0,0,0,0,0,0],0),[([(5,0,2,0),(1,1,a,0),(2,0,0,1),(6,2,0,0)],[]),([(5,0,2,0),(1,1,b,0)],[])],[]) [97,100,100,32,48,32,48,32,49]=some (((([0,0,100,0,0,0,0,0],[0,0,0,0,0,0,0,0],0),[([(5,0,2,0),(1,1,a,0),(2,0,0,1),(6,2,0,0)],[]),([(5,0,2,0),(1,1,b,0),(2,0,0,1)],[])],[]),()),([111,107],())):=by kernel_rfl
theorem WtB(a b:Int):Za 1600001 (([0,0,100,0,0,0,0,0],[0,0,0,0,0,0,0,0],0),[([(5,0,2,0),(1,1,a,0),(2,0,0,1),(6,2,0,0)],[]),([(5,0,2,0),(1,1,b,0),(2,0,0,1)],[])],[]) [119,114,105,116,101,32,50,32,48]=some (((([0,0,100,0,0,0,0,0],[0,0,0,0,0,0,0,0],0),[([(5,0,2,0),(1,1,a,0),(2,0,0,1),(6,2,0,0)],[]),([(5,0,2,0),(1,1,b,0),(2,0,0,1),(6,2,0,0)],[])],[]),()),([111,107],())):=by kernel_rfl
theorem Wtt(a b:Int):Za 1600001 (([0,0,100,0,0,0,0,0],[0,0,0,0,0,0,0,0],0),[([(5,0,2,0),(1,1,a,0),(2,0,0,1),(6,2,0,0)],[]),([(5,0,2,0),(1,1,b,0),(2,0,0,1),(6,2,0,0)],[])],[]) [115,101,116,32,51,32,49]=some (((([0,0,100,0,0,0,0,0],[0,0,0,0,0,0,0,0],0),[([(5,0,2,0),(1,1,a,0),(2,0,0,1),(6,2,0,0)],[]),([(5,0,2,0),(1,1,b,0),(2,0,0,1),(6,2,0,0),(1,3,1,0)],[])],[]),()),([111,107],())):=by kernel_rfl
theorem Wtm(a b:Int):Za 1600001 (([0,0,100,0,0,0,0,0],[0,0,0,0,0,0,0,0],0),[([(5,0,2,0),(1,1,a,0),(2,0,0,1),(6,2,0,0)],[]),([(5,0,2,0),(1,1,b,0),(2,0,0,1),(6,2,0,0),(1,3,1,0)],[])],[]) [112,117,116,32,53,32,51,32,50]=some (((([0,0,100,0,0,0,0,0],[0,0,0,0,0,0,0,0],0),[([(5,0,2,0),(1,1,a,0),(2,0,0,1),(6,2,0,0)],[]),([(5,0,2,0),(1,1,b,0),(2,0,0,1),(6,2,0,0),(1,3,1,0),(12,5,3,2)],[])],[]),()),([111,107],())):=by kernel_rfl
end
section
def WqL(l:List Rw):Nat->Nat->List Rw->List Rw
 |0,_,o=>o
 |j+1,c,o=>WqL l j (c+1) (match Wfa l (c:Int) l.length with
  |some v=>o++ [((c:Int),v)]
  |none=>o)
def WsY(l:List Rw):List Rw:=WqL l 8 0 []
def Wrp(who rv:Int)(puts reads:List Rw):Cm:=
 {who:=who,rv:=rv,phase:=if(WsY puts).length=0 then 2 else 1,puts:=WsY puts,reads:=(WsY reads).map (·.1)}
def Woy(w:Wo)(x:Rt)(k:Nat):Wo×Rt:=
 if x.writes.length=0/\(Wft w.holds ((k:Int)+1)).length=0 then WnQ w {x with fate:=1,stamp:=x.rv} k
 else(w,{x with fate:=1,cm:=Wrp ((k:Int)+1) x.rv x.writes x.reads,phase:=5})
def Wpq(w:Wo)(x:Rt)(k:Nat)(p:Pg):Wo×Rt:=
 if x.doomed=false/\x.phase=1/\x.pc>=p.1.length then Woy w x k else WiQ w x k p
def Wl5(s:Sc)(w0:Wo)(a:Ac):Wo:=
 if a.1=1/\0<=a.2.1/\a.2.1<w0.roots.length then Wo.put (Wpq {w0 with now:=w0.now+1} (w0.roots.getD a.2.1.toNat rt0) a.2.1.toNat (s.2.1.getD a.2.1.toNat pg0)) a.2.1.toNat
 else Wnu s w0 a
def WqX(s:Sc)(k:Nat):Nat->Nat->Wo->Wo
 |0,_,w=>w
 |d+1,j,w=>WqX s k d (j+1) (Wl5 s w (2,(k:Int),(j:Int)))
def Wkm(s:Sc):Nat->Nat->Wo->Wo
 |0,_,w=>w
 |d+1,i,w=>Wkm s d (i+1) (WqX s i (s.2.1.getD i pg0).2.length 0 (Wl5 s w (1,(i:Int),0)))
def Wir(s:Sc):Nat->Wo->Wo×Nat
 |0,w=>(w,0)
 |d+1,w=>if Wmg w=true then(w,0)else((Wir s d (Wkm s s.2.1.length 0 w)).1,(Wir s d (Wkm s s.2.1.length 0 w)).2+1)
variable{s:Sc}{w:Wo}{n:Int}{a:Ac}{l:List Rw}
theorem Wmq(h:WaD l=true):∀(j c:Nat) (o:List Rw),WqL l j c o=WgC l j c o
 |0,_,_=>rfl
 |j+1,c,o=>by
  rw[WqL,WgC,Wmq h j];unfold Who Wb1;rw[We h];cases Wfa l (c:Int) l.length<;>rfl
theorem Wp0(h:WaD l=true):WsY l=WcI l:=Wmq h 8 0 []
theorem Wjv(h:WOk s.2.1 n w):Wl5 s w a=Wnu s w a:=by
 unfold Wl5;split
 .rename_i hc;obtain⟨h1,h2,h3⟩:=hc;have hk:a.2.1.toNat<w.roots.length:=by omega
  have hp:=WmD h.progs (show a.2.1.toNat<s.2.1.length by rw[←h.len];exact hk);have hx:=h.root a.2.1.toNat hk;unfold Wnu;simp only;rw[We ⟨h2,h3⟩,We h1];unfold Wp7;congr 1;show Wpq _ (w.roots.getD a.2.1.toNat rt0) _ _=WiQ _ (w.roots.getD a.2.1.toNat rt0) _ _;rw[WP hk];unfold Wpq;split
  .rename_i hd;obtain⟨d1,d2,d3⟩:=hd;obtain⟨z1,z2,z3,z4,z5,z6⟩:=(hx.live (by omega)).sz hp.code;unfold WiQ;rw[Wc (by simp[d1]),Wc (by omega),We d2];unfold Wqa;rw[We d3];unfold Wg1 Woy Wgb Wrp;rw[Wp0 z5,Wp0 z6];rfl
  .rfl
 .rfl
theorem Wmn{k:Nat}:∀(d j:Nat) (n:Int) (w:Wo),WOk s.2.1 n w->WqX s k d j w=Wdg s k d j w
 |0,_,_,_,_=>rfl
 |d+1,j,n,w,h=>by
  rw[WqX,Wdg,Wjv h];exact Wmn d (j+1) (n+1) _ (Wcq h)
theorem WjT:∀(d i:Nat) (n:Int) (w:Wo),i+d=s.2.1.length->WOk s.2.1 n w->Wkm s d i w=WaY s d i w
 |0,_,_,_,_,_=>rfl
 |d+1,i,n,w,hi,h=>by
  rw[Wkm,WaY,Wjv h,Wmn _ _ _ _ (Wcq h)];exact WjT d (i+1) _ _ (by omega) (Wgf _ _ _ _ (Wcq h))
theorem Wlc:∀(d:Nat) (n:Int) (w:Wo),WOk s.2.1 n w->Wir s d w=Wc9 s d w
 |0,_,_,_=>rfl
 |d+1,n,w,h=>by
  obtain⟨n1,a,b,c⟩:=WgE s.2.1.length 0 n w (by omega) h;rw[Wir,Wc9,WjT _ _ _ _ (by omega) h,Wlc d n1 _ c]
theorem WmA:∀(l:List Ac) (n:Int) (w:Wo),WOk s.2.1 n w->l.foldl (Wl5 s) w=l.foldl (Wnu s) w
 | [],_,_,_=>rfl
 |a::l,n,w,h=>by
  rw[Xct,Xct,Wjv h];exact WmA l (n+1) _ (Wcq h)
theorem Wtn(h:Wm8 s=true):Wc9 s 6000 (Wn3 s)=Wir s 6000 (s.2.2.foldl (Wl5 s) (Wp2 s)):=by
 rw[WmA s.2.2 0 _ (WlC h)];exact(Wlc 6000 _ _ (Wm0 h)).symm
end
section
def prA(a:Int):Pg:=([(5,0,2,0),(1,1,a,0),(2,0,0,1),(6,2,0,0)],[])
def prB(b:Int):Pg:=([(5,0,2,0),(1,1,b,0),(2,0,0,1),(6,2,0,0),(1,3,1,0),(12,5,3,2)],[])
def scr(a b:Int):Sc:=(([0,0,100,0,0,0,0,0],[0,0,0,0,0,0,0,0],0),[prA a,prB b],[(1,0,0),(1,1,0),(1,0,0),(1,1,0)])
noncomputable def wF(a b:Int):Wo×Nat:=Wir (scr a b) 6000 ((scr a b).2.2.foldl (Wl5 (scr a b)) (Wp2 (scr a b)))
theorem WqS(a b:Int):(Xc (wF a b).1.e.2.2.1.2 (Xa 2) ((0:Int),((0:Int),(0:Int)))).1=((100+a)%65536+b)%65536:=by kernel_rfl
theorem WsB(a b:Int):inb 2 (Xb (wF a b).1.e.2.2.1.2)=true:=by kernel_rfl
end
section
def dT(a:Nat):List UInt8:=if a<10 then [UInt8.ofNat (48+a)]else if a<100 then [UInt8.ofNat (48+a/10),UInt8.ofNat (48+a%10)]else [UInt8.ofNat (48+a/100),UInt8.ofNat (48+a/10%10),UInt8.ofNat (48+a%10)]
noncomputable def Wti(a:Nat):Bool:=match Zf3 1600001 (a:Int)with
 |some ((),(s,()))=>decide (s=dT a)
 |none=>false
noncomputable def Wth(a:Nat):Bool:=match Zfv 1600001 ([115,101,116,32,49,32]++dT a)with
 |some ((),((k,(x,(y,z))),(b,())))=>b&&(k==1&&(x==1&&(y==(a:Int)&&z==0)))
 |none=>false
noncomputable def Wtf(a:Nat):Bool:=match Zr 1600001 (a:Int)with
 |some ((),(s,()))=>decide (s=dT a)
 |none=>false
theorem Wts:(Xbt 611).all Wti=true:=by kernel_rfl
theorem Wtu:(Xbt 611).all Wtf=true:=by kernel_rfl
theorem Wtw:(Xbt 256).all Wth=true:=by kernel_rfl
theorem Wty:(Xbt 256).all (λa=>Wof (prA (a:Int)))=true:=by kernel_rfl
theorem Wto:(Xbt 256).all (λa=>Wof (prB (a:Int)))=true:=by kernel_rfl
theorem Wit{f:Nat->Bool}{m:Nat}(h:(Xbt m).all f=true){a:Nat}(ha:a<m):f a=true:=List.all_eq_true.1 h a (List.mem_range.2 ha)
theorem Wpc{a:Nat}(ha:a<611):Zf3 1600001 (a:Int)=some ((),(dT a,())):=by
 have h:=Wit Wts ha;unfold Wti at h;split at h
 .rename_i s hs;rw[hs,WN h]
 .cases h
theorem Wsg{a:Nat}(ha:a<611):Zr 1600001 (a:Int)=some ((),(dT a,())):=by
 have h:=Wit Wtu ha;unfold Wtf at h;split at h
 .rename_i s hs;rw[hs,WN h]
 .cases h
theorem Wsc{a:Nat}(ha:a<256):Zfv 1600001 ([115,101,116,32,49,32]++dT a)=some ((),((1,(1,((a:Int),0))),(true,()))):=by
 have h:=Wit Wtw ha;unfold Wth at h;split at h
 .rename_i k x y z b hs;simp only[Xg,beq_iff_eq]at h;obtain⟨rfl,rfl,rfl,rfl,rfl⟩:=h;exact hs
 .cases h
theorem WsF{a b:Nat}(ha:a<256)(hb:b<256){l:List Ac}(hl:l.length<=400):Wm8 (([0,0,100,0,0,0,0,0],[0,0,0,0,0,0,0,0],0),[prA a,prB b],l)=true:=by
 have h1:=Wit Wty ha;have h2:=Wit Wto hb;have h3:WrZ ([0,0,100,0,0,0,0,0],[0,0,0,0,0,0,0,0],0)=true:=by kernel_rfl
 unfold Wm8;simp only[h3,List.all_cons,h1,h2,List.all_nil,Wb hl];rfl
theorem Wms{a:Nat}(ha:a<256){d:Sc}{d':Sc}(h:Zh9 1600001 d (1,(1,((a:Int),0)))=some ((d',()),([111,107],()))):Za 1600001 d ([115,101,116,32,49,32]++dT a)=some ((d',()),([111,107],())):=by
 unfold Za;rw[Wsc ha];simp only[Xd,Wa,h]
end
section
variable{a b:Nat}
theorem WsC{l:List Ac}(hl:l.length<=400):SB (([0,0,100,0,0,0,0,0],[0,0,0,0,0,0,0,0],0),[prA a,prB b],l):=by
 refine⟨by simp,by simp,by simp,λp hp=>?_,by simp only;omega⟩;simp only[Xq,List.not_mem_nil,or_false]at hp;rcases hp with rfl|rfl<;>exact⟨by simp[prA,prB],by simp[prA,prB],by simp[prA,prB]⟩
theorem okr(ha:a<256)(hb:b<256){l:List Ac}(hl:l.length<=400):Zs 1600001 (([0,0,100,0,0,0,0,0],[0,0,0,0,0,0,0,0],0),[prA a,prB b],l)=ret true:=by
 rw[Wcp (WsC hl) (by omega),WsF ha hb hl]
theorem st0(ha:a<256)(hb:b<256):Za 1600001 (([0,0,100,0,0,0,0,0],[0,0,0,0,0,0,0,0],0),[prA a,prB b],[]) [115,116,101,112,32,48]=some (((([0,0,100,0,0,0,0,0],[0,0,0,0,0,0,0,0],0),[prA a,prB b],[(1,0,0)]),()),([111,107],())):=by
 have h:=okr ha hb (l:=[]) (by simp);have e:Za 1600001 (([0,0,100,0,0,0,0,0],[0,0,0,0,0,0,0,0],0),[prA a,prB b],[]) [115,116,101,112,32,48]=(Zv 1600001 (([0,0,100,0,0,0,0,0],[0,0,0,0,0,0,0,0],0),[prA a,prB b],[]) [115,116,101,112] 0).bind (λo=>some ((o.1.1,()),(o.2.1,()))):=by kernel_rfl
 rw[e];unfold Zv Zas;rw[h];show _=_;kernel_rfl
theorem st1(ha:a<256)(hb:b<256):Za 1600001 (([0,0,100,0,0,0,0,0],[0,0,0,0,0,0,0,0],0),[prA a,prB b],[(1,0,0)]) [115,116,101,112,32,49]=some (((([0,0,100,0,0,0,0,0],[0,0,0,0,0,0,0,0],0),[prA a,prB b],[(1,0,0),(1,1,0)]),()),([111,107],())):=by
 have h:=okr ha hb (l:=[(1,0,0)]) (by simp);have e:Za 1600001 (([0,0,100,0,0,0,0,0],[0,0,0,0,0,0,0,0],0),[prA a,prB b],[(1,0,0)]) [115,116,101,112,32,49]=(Zv 1600001 (([0,0,100,0,0,0,0,0],[0,0,0,0,0,0,0,0],0),[prA a,prB b],[(1,0,0)]) [115,116,101,112] 1).bind (λo=>some ((o.1.1,()),(o.2.1,()))):=by kernel_rfl
 rw[e];unfold Zv Zas;rw[h];show _=_;kernel_rfl
theorem st2(ha:a<256)(hb:b<256):Za 1600001 (([0,0,100,0,0,0,0,0],[0,0,0,0,0,0,0,0],0),[prA a,prB b],[(1,0,0),(1,1,0)]) [115,116,101,112,32,48]=some (((([0,0,100,0,0,0,0,0],[0,0,0,0,0,0,0,0],0),[prA a,prB b],[(1,0,0),(1,1,0),(1,0,0)]),()),([111,107],())):=by
 have h:=okr ha hb (l:=[(1,0,0),(1,1,0)]) (by simp);have e:Za 1600001 (([0,0,100,0,0,0,0,0],[0,0,0,0,0,0,0,0],0),[prA a,prB b],[(1,0,0),(1,1,0)]) [115,116,101,112,32,48]=(Zv 1600001 (([0,0,100,0,0,0,0,0],[0,0,0,0,0,0,0,0],0),[prA a,prB b],[(1,0,0),(1,1,0)]) [115,116,101,112] 0).bind (λo=>some ((o.1.1,()),(o.2.1,()))):=by kernel_rfl
 rw[e];unfold Zv Zas;rw[h];show _=_;kernel_rfl
theorem st3(ha:a<256)(hb:b<256):Za 1600001 (([0,0,100,0,0,0,0,0],[0,0,0,0,0,0,0,0],0),[prA a,prB b],[(1,0,0),(1,1,0),(1,0,0)]) [115,116,101,112,32,49]=some (((([0,0,100,0,0,0,0,0],[0,0,0,0,0,0,0,0],0),[prA a,prB b],[(1,0,0),(1,1,0),(1,0,0),(1,1,0)]),()),([111,107],())):=by
 have h:=okr ha hb (l:=[(1,0,0),(1,1,0),(1,0,0)]) (by simp);have e:Za 1600001 (([0,0,100,0,0,0,0,0],[0,0,0,0,0,0,0,0],0),[prA a,prB b],[(1,0,0),(1,1,0),(1,0,0)]) [115,116,101,112,32,49]=(Zv 1600001 (([0,0,100,0,0,0,0,0],[0,0,0,0,0,0,0,0],0),[prA a,prB b],[(1,0,0),(1,1,0),(1,0,0)]) [115,116,101,112] 1).bind (λo=>some ((o.1.1,()),(o.2.1,()))):=by kernel_rfl
 rw[e];unfold Zv Zas;rw[h];show _=_;kernel_rfl
theorem drn(ha:a<256)(hb:b<256):Zal 1600001 (scr a b)=some ((),((wF a b).1.e,(((wF a b).2:Int),()))):=by
 have ho:Wm8 (scr a b)=true:=WsF ha hb (by simp);rw[WnW (s:=scr a b) (WsC (by simp)) (by omega)];have e:dr (scr a b)=((wF a b).1.e,((wF a b).2:Int)):=by
  unfold dr;rw[We ho,Wtn ho];unfold wF;exact rfl
 rw[e]
theorem fa0(ha:a<256)(hb:b<256):Za 1600001 (scr a b) [102,97,116,101,32,48]=some ((scr a b,()),([49],())):=by
 have h:Zs 1600001 (scr a b)=ret true:=okr ha hb (by simp);have e:Za 1600001 (scr a b) [102,97,116,101,32,48]=(Zv 1600001 (scr a b) [102,97,116,101] 0).bind (λo=>some ((o.1.1,()),(o.2.1,()))):=by kernel_rfl
 rw[e];unfold Zv;rw[h,drn ha hb];show _=_;kernel_rfl
theorem fa1(ha:a<256)(hb:b<256):Za 1600001 (scr a b) [102,97,116,101,32,49]=some ((scr a b,()),([49],())):=by
 have h:Zs 1600001 (scr a b)=ret true:=okr ha hb (by simp);have e:Za 1600001 (scr a b) [102,97,116,101,32,49]=(Zv 1600001 (scr a b) [102,97,116,101] 1).bind (λo=>some ((o.1.1,()),(o.2.1,()))):=by kernel_rfl
 rw[e];unfold Zv;rw[h,drn ha hb];show _=_;kernel_rfl
theorem fi5(ha:a<256)(hb:b<256):Za 1600001 (scr a b) [102,105,110,100,32,53]=some ((scr a b,()),([50],())):=by
 have h:Zs 1600001 (scr a b)=ret true:=okr ha hb (by simp);have e:Za 1600001 (scr a b) [102,105,110,100,32,53]=(Zv 1600001 (scr a b) [102,105,110,100] 5).bind (λo=>some ((o.1.1,()),(o.2.1,()))):=by kernel_rfl
 rw[e];unfold Zv;rw[h,drn ha hb];show _=_;kernel_rfl
theorem tot(ha:a<256)(hb:b<256):Za 1600001 (scr a b) [116,111,116,97,108]=some ((scr a b,()),([48],())):=by
 have h:Zs 1600001 (scr a b)=ret true:=okr ha hb (by simp);have e:Za 1600001 (scr a b) [116,111,116,97,108]=(Zf4 1600001 (scr a b) [116,111,116,97,108]).bind (λo=>some ((o.1.1,()),(o.2.1,()))):=by kernel_rfl
 rw[e];unfold Zf4;rw[h,drn ha hb];show _=_;kernel_rfl
theorem va2(ha:a<256)(hb:b<256):Za 1600001 (scr a b) [118,97,108,117,101,32,50]=some ((scr a b,()),(dT (100+a+b),())):=by
 have h:Zs 1600001 (scr a b)=ret true:=okr ha hb (by simp);have e:Za 1600001 (scr a b) [118,97,108,117,101,32,50]=(Zv 1600001 (scr a b) [118,97,108,117,101] 2).bind (λo=>some ((o.1.1,()),(o.2.1,()))):=by kernel_rfl
 have hc:=WqS a b;have hi:=WsB a b;have hr:=drn ha hb;generalize wF (a:Int) (b:Int)=W at hc hi hr;rw[show((100+(a:Int))%65536+b)%65536=((100+a+b:Nat):Int) by omega]at hc;have hd:=Wsg (a:=100+a+b) (by omega);rw[←hc]at hd;rw[e];unfold Zv;rw[h,hr];simp only[ret,Xd,Wa,show Zaa 1600001 2=some ((),(true,()))from by kernel_rfl,show Zc 1600001 2 0 (WC .i64 (Wh (scr a b).2.1) 1)=some ((),(false,()))from by kernel_rfl,show seq [118,97,108,117,101] [115,116,101,112]=false from by kernel_rfl,show seq [118,97,108,117,101] [100,111,111,109]=false from by kernel_rfl,show seq [118,97,108,117,101] [112,104,97,115,101]=false from by kernel_rfl,show seq [118,97,108,117,101] [102,97,116,101]=false from by kernel_rfl,show seq [118,97,108,117,101] [118,97,108,117,101]=true from by kernel_rfl,Wf,Bool.not_true,Xcm,hi,hd]
end
section
abbrev Ln:=List UInt8×Sc×List UInt8
def Chn:Sc->List Ln->Prop
 |_,[]=>True
 |d,x::r=>(x.1≠ []/\(10:UInt8)∉x.1)/\x.2.2.length<=1000/\Za 1600001 d x.1=some ((x.2.1,()),(x.2.2,()))/\Chn x.2.1 r
def outs:List Ln->List UInt8
 | []=>[]
 |x::r=>x.2.2++10::outs r
def jn:List Kh->List UInt8
 | []=>[]
 |t::l=>t++10::jn l
theorem Wrm:∀(l:List Kh),(∀t∈l,(10:UInt8)∉t)->spl 10 (jn l)=l++ [[]]
 | [],_=>by simp[jn,spl]
 |t::l,h=>by
  rw[jn,WpN _ (h t (List.mem_cons_self ..)),Wrm l λx hx=>h x (List.mem_cons_of_mem _ hx)];rfl
theorem Wrt:∀(r:List Ln) (d:Sc),Chn d r->∀t∈r.map (·.1),(10:UInt8)∉t
 | [],_,_=>by simp
 |x::r,d,h=>by
  intro t ht;simp only[Xag,Xq]at ht;rcases ht with rfl|ht
  .exact h.1.2
  .exact Wrt r _ h.2.2.2 t ht
theorem Wos:∀(r:List Ln) (L:List Kh) (j n:Nat) (d:Sc) (out:List UInt8),L.length=j+r.length->L.drop j=r.map (·.1)->L.length<=80->Chn d r->r.length<n->out.length+1001*r.length<=1000000000->
  Zay 1600001 (Wh L) L (λjp dR nm iG fv db fw qX=>(some ((),(jp,())):Option (Unit×(List UInt8×Unit)))) n out (j:Int) d.1.2.2 d.1.1 d.1.2.1 d.2.1 d.2.2=some ((),(out++outs r,()))
 | [],L,j,n,d,out,h1,h2,h3,h4,h5,h6=>by
  obtain⟨n,rfl⟩:∃m,n=m+1:=⟨n-1,by omega⟩;have:j=L.length:=by simpa using h1.symm
  subst this;simp only[Zay,WaC (Xm _),Wf,outs,Xcf]
 |x::r,L,j,n,d,out,h1,h2,h3,h4,h5,h6=>by
  obtain⟨n,rfl⟩:∃m,n=m+1:=⟨n-1,by omega⟩;simp only[Xn]at h1 h5 h6;have hj:j<L.length:=by omega
  obtain⟨⟨c1,c0⟩,c2,c3,c4⟩:=h4;rw[Xbm hj,Xag,List.cons.injEq]at h2;have hg:Xc L (Xa (j:Int)) ([]:List UInt8)=x.1:=(WH hj _).trans h2.1;have hs:seq x.1 ([]:List UInt8)=false:=by
   cases hx:x.1 with
   |nil=>exact Ww hx c1
   |cons a l=>rfl
  simp only[Zay,Wan hj,WD hj,hg,hs,Xcm,Wa];rw[show(((d.1.1,(d.1.2.1,d.1.2.2)),(d.2.1,d.2.2)):Sc)=d from rfl,c3];simp only[Xd];rw[WlJ (by omega),Wa,WlJ (by simp;omega),Wa,Wt (show j<4611686018427387904 by omega)];rw[Wos r L (j+1) n x.2.1 _ (by omega) h2.2 h3 c4 (by omega) (by simp;omega)];simp[outs]
def sc0:Sc:=((Xr 8 0,Xr 8 0,0),[],[])
theorem WmM{r:List Ln}(h:Chn sc0 r)(hr:r.length<=80)(hl:(jn (r.map (·.1))).length<=20000):Zf7 1600001 (jn (r.map (·.1)))=some ((),(outs r,())):=by
 unfold Zf7;have hs:Zdm 1600001 (jn (r.map (·.1))) (10:Int)=ret (r.map (·.1)++ [[]]):=by
  have:=WoF (N:=1600001) (s:=jn (r.map (·.1))) (c:=10) (by omega) (by omega);rw[Wrm _ (Wrt r _ h)]at this;exact this
 rw[hs];have hi:WC .i64 (Wh (r.map (·.1)++ [[]])) 1=((r.length:Nat):Int):=by
  unfold Wh;rw[WaA (by simp[I64];omega)];simp
 have e1:inb ((r.length:Nat):Int) (r.map (·.1)++ [([]:List UInt8)]).length=true:=by unfold inb;simp;omega
 have e2:Xc (r.map (·.1)++ [([]:List UInt8)]) (Xa ((r.length:Nat):Int)) []= []:=by simp
 have e3:(decide ((0:Int)<=((r.length:Nat):Int))&&decide (((r.length:Nat):Int)<=(((r.map (·.1)++ [([]:List UInt8)]).length:Nat):Int)))=true:=by simp;omega
 have e4:List.take (Xa ((r.length:Nat):Int)) (r.map (·.1)++ [([]:List UInt8)])=r.map (·.1):=by simp
 simp only[ret,Xd,hi,e1,e2,e3,e4,Wa,show seq ([]:List UInt8) []=true from rfl,WcD];rw[show decide (Wh (jn (r.map (·.1)))>20000)=false from Ws (by unfold Wh;omega),Wf,show decide (Wh (r.map (·.1))>80)=false from Ws (by unfold Wh;simp;omega),Wf];rw[show(((decide ((0:Int)<=(8:Int)))&&(decide ((8:Int)<=(8:Int))))&&(WV (Xa (8:Int))))=true from rfl,Wa,Wa];have:=Wos r (r.map (·.1)) 0 1600001 sc0 [] (by simp) (by simp) (by simpa using hr) h (by omega) (by simp;omega);exact this
end
section
theorem Wq7{N:Nat}{code:List Int}(hw:∀x∈code,0<=x/\x<=255)(hl:code.length<=1048576){i:Nat}(hi:i<=1000):∃v,Zf2 N code (i:Int)=ret v/\0<=v/\v<=255:=by
 unfold Zf2;by_cases h:i<code.length
 .have hx:=hw _ (List.getElem_mem h);refine⟨code[i],?_,hx⟩;simp only[Wan h,WD h,WH h,Wa];rw[WdK (by unfold I64;omega)]
 .have e:decide ((i:Int)<Wh code)=false:=by simp[Wh];omega
  have m1:Wp4 .i64 (i:Int) 37=(i:Int)*37:=Wg0 (by unfold I64;omega);have m2:Wp4 .i64 (Wh code) 11=(code.length:Int)*11:=Wg0 (by unfold I64 Wh;omega);have m3:Wl .i64 ((i:Int)*37) ((code.length:Int)*11)=(i:Int)*37+(code.length:Int)*11:=W3 (by unfold I64;omega);rw[e,m1,m2,m3];refine⟨_,rfl,?_⟩;have:Wfi ((i:Int)*37+(code.length:Int)*11) 256=((i:Int)*37+(code.length:Int)*11)%256:=by unfold Wfi;exact Int.tmod_eq_emod_of_nonneg (by omega)
  rw[this];omega
theorem Wtx:(Xbt 611).all (λa=>decide ((10:UInt8)∉dT a)&&decide ((dT a).length<=3))=true:=by kernel_rfl
theorem WoX{a:Nat}(ha:a<611):(10:UInt8)∉dT a/\(dT a).length<=3:=by
 have h:=Wit Wtx ha;simpa using h
theorem Wsz{a:Nat}(ha:a<256):[115,101,116,32,49,32]++dT a≠ []/\(10:UInt8)∉ [115,101,116,32,49,32]++dT a:=by
 have:=(WoX (show a<611 by omega)).1;refine⟨by simp,?_⟩;simp only[List.mem_append,not_or];exact⟨by decide,this⟩
theorem cxv{d d':Sc}{t o:List UInt8}{r:List Ln}(h1:(decide (t≠ [])&&decide ((10:UInt8)∉t))=true)(h2:o.length<=1000)(h:Za 1600001 d t=some ((d',()),(o,())))(hr:Chn d' r):Chn d ((t,d',o)::r):=by
 simp only[Xg,Wg]at h1;exact⟨h1,h2,h,hr⟩
theorem cx{d d':Sc}{t o:List UInt8}{r:List Ln}(h1:(decide (t≠ [])&&decide ((10:UInt8)∉t)&&decide (o.length<=1000))=true)(h:Za 1600001 d t=some ((d',()),(o,())))(hr:Chn d' r):Chn d ((t,d',o)::r):=by
 rw[Xg]at h1;exact cxv h1.1 (WN h1.2) h hr
theorem cxs{a:Nat}(ha:a<256){d d':Sc}{r:List Ln}(h:Za 1600001 d ([115,101,116,32,49,32]++dT a)=some ((d',()),([111,107],())))(hr:Chn d' r):Chn d (([115,101,116,32,49,32]++dT a,d',[111,107])::r):=
 ⟨Wsz ha,by simp,h,hr⟩
def bld(a b:Nat):List Ln:=[([99,101,108,108,32,50,32,49,48,48],(([0,0,100,0,0,0,0,0],[0,0,0,0,0,0,0,0],0),[],[]),[111,107]),
 ([114,111,111,116],(([0,0,100,0,0,0,0,0],[0,0,0,0,0,0,0,0],0),[([],[])],[]),[111,107]),
 ([114,101,97,100,32,48,32,50],(([0,0,100,0,0,0,0,0],[0,0,0,0,0,0,0,0],0),[([(5,0,2,0)],[])],[]),[111,107]),
 ([115,101,116,32,49,32]++dT a,(([0,0,100,0,0,0,0,0],[0,0,0,0,0,0,0,0],0),[([(5,0,2,0),(1,1,(a:Int),0)],[])],[]),[111,107]),
 ([97,100,100,32,48,32,48,32,49],(([0,0,100,0,0,0,0,0],[0,0,0,0,0,0,0,0],0),[([(5,0,2,0),(1,1,(a:Int),0),(2,0,0,1)],[])],[]),[111,107]),
 ([119,114,105,116,101,32,50,32,48],(([0,0,100,0,0,0,0,0],[0,0,0,0,0,0,0,0],0),[([(5,0,2,0),(1,1,(a:Int),0),(2,0,0,1),(6,2,0,0)],[])],[]),[111,107]),
 ([114,111,111,116],(([0,0,100,0,0,0,0,0],[0,0,0,0,0,0,0,0],0),[([(5,0,2,0),(1,1,(a:Int),0),(2,0,0,1),(6,2,0,0)],[]),([],[])],[]),[111,107]),
 ([114,101,97,100,32,48,32,50],(([0,0,100,0,0,0,0,0],[0,0,0,0,0,0,0,0],0),[([(5,0,2,0),(1,1,(a:Int),0),(2,0,0,1),(6,2,0,0)],[]),([(5,0,2,0)],[])],[]),[111,107]),
 ([115,101,116,32,49,32]++dT b,(([0,0,100,0,0,0,0,0],[0,0,0,0,0,0,0,0],0),[([(5,0,2,0),(1,1,(a:Int),0),(2,0,0,1),(6,2,0,0)],[]),([(5,0,2,0),(1,1,(b:Int),0)],[])],[]),[111,107]),
 ([97,100,100,32,48,32,48,32,49],(([0,0,100,0,0,0,0,0],[0,0,0,0,0,0,0,0],0),[([(5,0,2,0),(1,1,(a:Int),0),(2,0,0,1),(6,2,0,0)],[]),([(5,0,2,0),(1,1,(b:Int),0),(2,0,0,1)],[])],[]),[111,107]),
 ([119,114,105,116,101,32,50,32,48],(([0,0,100,0,0,0,0,0],[0,0,0,0,0,0,0,0],0),[([(5,0,2,0),(1,1,(a:Int),0),(2,0,0,1),(6,2,0,0)],[]),([(5,0,2,0),(1,1,(b:Int),0),(2,0,0,1),(6,2,0,0)],[])],[]),[111,107]),
 ([115,101,116,32,51,32,49],(([0,0,100,0,0,0,0,0],[0,0,0,0,0,0,0,0],0),[([(5,0,2,0),(1,1,(a:Int),0),(2,0,0,1),(6,2,0,0)],[]),([(5,0,2,0),(1,1,(b:Int),0),(2,0,0,1),(6,2,0,0),(1,3,1,0)],[])],[]),[111,107]),
 ([112,117,116,32,53,32,51,32,50],(([0,0,100,0,0,0,0,0],[0,0,0,0,0,0,0,0],0),[([(5,0,2,0),(1,1,(a:Int),0),(2,0,0,1),(6,2,0,0)],[]),([(5,0,2,0),(1,1,(b:Int),0),(2,0,0,1),(6,2,0,0),(1,3,1,0),(12,5,3,2)],[])],[]),[111,107]),
 ([115,116,101,112,32,48],(([0,0,100,0,0,0,0,0],[0,0,0,0,0,0,0,0],0),[prA a,prB b],[(1,0,0)]),[111,107]),
 ([115,116,101,112,32,49],(([0,0,100,0,0,0,0,0],[0,0,0,0,0,0,0,0],0),[prA a,prB b],[(1,0,0),(1,1,0)]),[111,107]),
 ([115,116,101,112,32,48],(([0,0,100,0,0,0,0,0],[0,0,0,0,0,0,0,0],0),[prA a,prB b],[(1,0,0),(1,1,0),(1,0,0)]),[111,107]),
 ([115,116,101,112,32,49],(([0,0,100,0,0,0,0,0],[0,0,0,0,0,0,0,0],0),[prA a,prB b],[(1,0,0),(1,1,0),(1,0,0),(1,1,0)]),[111,107])]
def qry(a b:Nat):List Ln:=[([102,97,116,101,32,48],scr a b,[49]),
 ([102,97,116,101,32,49],scr a b,[49]),
 ([118,97,108,117,101,32,50],scr a b,dT (100+a+b)),
 ([102,105,110,100,32,53],scr a b,[50]),
 ([116,111,116,97,108],scr a b,[48])]
variable{a b:Nat}
theorem WrF(ha:a<256)(hb:b<256):Chn (scr a b) (qry a b):=
 cx (by decide) (fa0 ha hb) (
 cx (by decide) (fa1 ha hb) (
 cxv (by decide) (by have:=(WoX (show 100+a+b<611 by omega)).2;omega) (va2 ha hb) (
 cx (by decide) (fi5 ha hb) (
 cx (by decide) (tot ha hb) (trivial)))))
theorem WoK(ha:a<256)(hb:b<256){r:List Ln}(h:Chn (scr a b) r):Chn sc0 (bld a b++r):=
 cx (by decide) (ln0 a b) (
 cx (by decide) (ln1 a b) (
 cx (by decide) (ln2 a b) (
 cxs ha (Wms ha (by kernel_rfl)) (
 cx (by decide) (ln4 a b) (
 cx (by decide) (ln5 a b) (
 cx (by decide) (ln6 a b) (
 cx (by decide) (ln7 a b) (
 cxs hb (Wms hb (by kernel_rfl)) (
 cx (by decide) (ln9 a b) (
 cx (by decide) (WtB a b) (
 cx (by decide) (Wtt a b) (
 cx (by decide) (Wtm a b) (
 cx (by decide) (st0 ha hb) (
 cx (by decide) (st1 ha hb) (
 cx (by decide) (st2 ha hb) (
 cx (by decide) (st3 ha hb) (h)))))))))))))))))
theorem Wm7(r:List Ln):jn ((bld a b++r).map (·.1))=(([99,101,108,108,32,50,32,49,48,48,10]++([114,111,111,116,10,114,101,97,100,32,48,32,50,10,115,101,116,32,49,32]++dT a++ [10,97,100,100,32,48,32,48,32,49,10,119,114,105,116,101,32,50,32,48,10]))++([114,111,111,116,10,114,101,97,100,32,48,32,50,10,115,101,116,32,49,32]++dT b++ [10,97,100,100,32,48,32,48,32,49,10,119,114,105,116,101,32,50,32,48,10,115,101,116,32,51,32,49,10,112,117,116,32,53,32,51,32,50,10]))++ [115,116,101,112,32,48,10,115,116,101,112,32,49,10,115,116,101,112,32,48,10,115,116,101,112,32,49,10]++jn (r.map (·.1)):=by
 simp only[bld,Xaq,Xbn,Xag,jn,Xax]
theorem Wrn:jn ((qry a b).map (·.1))= [102,97,116,101,32,48,10,102,97,116,101,32,49,10,118,97,108,117,101,32,50,10,102,105,110,100,32,53,10,116,111,116,97,108,10]:=rfl
def ok9:List UInt8:=[111,107,10,111,107,10,111,107,10]
def okR:List UInt8:=[111,107,10,111,107,10,111,107,10,111,107,10,111,107,10,111,107,10,111,107,10,111,107,10,111,107,10,111,107,10,111,107,10,111,107,10,111,107,10,111,107,10]
theorem Wtz(y:List UInt8):Zhz 1600001 [111,107,10,111,107,10,111,107,10] (ok9++y)=some ((),(true,())):=by
 have p1:decide ((9:Int)<=((ok9++y).length:Int))=true:=by simp only[Wg,Xo,ok9,Xn,Xae];omega
 unfold Zhz;rw[show Wh ([111,107,10,111,107,10,111,107,10]:List UInt8)=9 from rfl,show decide ((9:Int)<=Wh (ok9++y))=true from p1,p1];rfl
theorem WoD(r:List Ln):outs (bld a b++r)=ok9++(okR++outs r):=rfl
theorem WrN:outs (qry a b)= [49,10,49,10]++dT (100+a+b)++ [10,50,10,48,10]:=by
 simp only[qry,outs,Xaq,Xbn,Xax]
theorem WpC{code:List Int}(hw:∀x∈code,0<=x/\x<=255):Zeo 1600001 code=ret true:=by
 unfold Zeo Zlq;simp only[Xd,WcD];by_cases hb:code.length<=1048576
 .have e0:decide (Wh code>1048576)=false:=by simp[Wh];omega
  obtain⟨v0,q0,a0,a1⟩:=Wq7 (N:=1600001) hw hb (i:=0) (by omega);obtain⟨v1,q1,b0,b1⟩:=Wq7 (N:=1600001) hw hb (i:=1) (by omega);obtain⟨a,rfl⟩:=Xfg a0;obtain⟨b,rfl⟩:=Xfg b0;have ha:a<256:=by omega
  have hb:b<256:=by omega
  have vA:Zf2 1600001 code 0=ret (a:Int):=q0;have vC:Zf2 1600001 code 1=ret (b:Int):=q1;have la:=(WoX (show a<611 by omega)).2;have lb:=(WoX (show b<611 by omega)).2;have lc:=(WoX (show 100+a+b<611 by omega)).2;have k1:=WmM (WoK ha hb (WrF ha hb)) (by simp[bld,qry]) (by rw[Wm7,Wrn];simp only[Xo,Xn,Xae];omega);have k2:=WmM (WoK ha hb (r:=[]) trivial) (by simp[bld]) (by rw[Wm7];simp only[Xo,Xn,Xae,Xbu,jn];omega);rw[Wm7,Wrn,WoD,WrN]at k1;rw[Wm7,WoD]at k2;simp only[Xbu,jn,outs,Xcf]at k2;have hi:Wl .i64 (Wl .i64 (100:Int) (a:Int)) (b:Int)=((100+a+b:Nat):Int):=by
   rw[W3 (a:=100) (b:=(a:Int)) (by unfold I64;omega),W3 (by unfold I64;omega)];omega
  have hd:=Wpc (a:=100+a+b) (by omega);rw[e0,vA,vC];simp only[Wf,ret,Xd,Wpc (show a<611 by omega),Wpc (show b<611 by omega)];have aa:∀x y:List UInt8,x.length<=1000->y.length<=1000->Wdh x y=true:=λx y h1 h2=>WlJ (by omega);rw[aa _ _ (by first|omega|(simp only[Xo,Xn,Xae];omega)) (by first|omega|(simp only[Xo,Xn,Xae];omega)),Wa];rw[aa _ _ (by first|omega|(simp only[Xo,Xn,Xae];omega)) (by first|omega|(simp only[Xo,Xn,Xae];omega)),Wa];rw[aa _ _ (by first|omega|(simp only[Xo,Xn,Xae];omega)) (by first|omega|(simp only[Xo,Xn,Xae];omega)),Wa];rw[aa _ _ (by first|omega|(simp only[Xo,Xn,Xae];omega)) (by first|omega|(simp only[Xo,Xn,Xae];omega)),Wa];rw[aa _ _ (by first|omega|(simp only[Xo,Xn,Xae];omega)) (by first|omega|(simp only[Xo,Xn,Xae];omega)),Wa];rw[aa _ _ (by first|omega|(simp only[Xo,Xn,Xae];omega)) (by first|omega|(simp only[Xo,Xn,Xae];omega)),Wa];rw[aa _ _ (by first|omega|(simp only[Xo,Xn,Xae];omega)) (by first|omega|(simp only[Xo,Xn,Xae];omega)),Wa];rw[aa _ _ (by first|omega|(simp only[Xo,Xn,Xae];omega)) (by first|omega|(simp only[Xo,Xn,Xae];omega)),Wa];have l9:ok9.length=9:=rfl;have lR:okR.length=42:=rfl;rw[k1,k2];simp only[Xd,hi,hd];rw[aa _ _ (by first|omega|(simp only[Xo,Xn,Xae];omega)) (by first|omega|(simp only[Xo,Xn,Xae];omega)),Wa];rw[aa _ _ (by first|omega|(simp only[Xo,Xn,Xae];omega)) (by first|omega|(simp only[Xo,Xn,Xae];omega)),Wa];rw[aa _ _ (by first|omega|(simp only[Xo,Xn,Xae];omega)) (by first|omega|(simp only[Xo,Xn,Xae];omega)),Wa];rw[show∀u v x y z:List UInt8,u++(v++(x++y++z))=u++v++x++y++z fromλu v x y z=>by simp only[Xax]]
  rw[WqP,Wj4,Wa];rw[show∀u v x y z:List UInt8,u++v++x++y++z=u++(v++x++y++z)fromλu v x y z=>by simp only[Xax],Wtz];rfl
 .have e0:decide (Wh code>1048576)=true:=by simp[Wh];omega
  rw[e0];rfl
theorem law_FnDeskWorks(d:Wea [.v (.slice (.int .u8)) false])(hw:WmE [.v (.slice (.int .u8)) false] d):∃N o,Zeo N d.1=some (o,(true,())):=
 ⟨1600001,(),WpC (λx hx=>bounds_u8 (hw.1.2 x hx))⟩
end
end Go.Sx
