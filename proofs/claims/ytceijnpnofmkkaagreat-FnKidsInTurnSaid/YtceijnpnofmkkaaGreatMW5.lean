/- Plain laws of the Lean functions. -/
import Derived.Test.YtceijnpnofmkkaaGreatMW4
open List renaming getElem_of_mem→Xam,all_eq_true→Xac,getElem_mem→Xp,foldl_cons→Xbz,getD→Xc,all_cons→Xcf,set_getElem_self→Xaz,length_set→Xab,getElem_set_self→Xep,set_set→Xdi,getElem_set→Xao,countP_cons→Xbt,getElem_set_ne→Xey,foldl_append→Xeg,mem_cons_self→Xh,mem_singleton→Xaf,length_cons→Xs,getElem_replicate→Xbe,getElem_map→Xej,append_eq→Xal,length_map→Xae,getD_eq_getElem?_getD→Xag,getElem?_map→Xan,getElem?_eq_getElem→Xq,countP_nil→Xhb,length→Xa,mem_cons→Xr,not_mem_nil→Xei
open Nat renaming le_refl→Xn,add_zero→Xax,zero_add→Xbb,zero_le→Xbk
open Option renaming bind_some→Xd
open Bool renaming not_true→Xx,false_eq_true→Xbg,and_eq_true→Xi
open Int renaming toNat→Xb,toNat_natCast→Xj,le_refl→Xo
namespace Go.Sx
set_option linter.unusedVariables false
set_option linter.unusedSimpArgs false
section
variable{w:Wo}{n:Int}{x y:Rt}{k:Nat}{p:Pg}{f g:Fm}{m:Mm}
theorem Wn2(h2:x.phase=2):Wv p x=if x.fam.lost=true then(x.undos.length:Int)+3 else 73-3*x.pc+WlS x.fam+Wbf x:=by unfold Wv;rw[Wa (by omega),Wb h2]
theorem Wvv{i:Nat}(hR:FmR f i g){b:Int}(hb:0<=b)(h:∀(j:Nat) (h:j<f.kids.length) (h':j<g.kids.length),WaJ g.kids[j]=1->fP g g.kids[j]+fQ g<=b):WlS g<=b:=by
 refine WkT hb λz hz hu=>?_;obtain⟨j,hj,he⟩:=Xam hz;rw[←he]at hu⊢;exact h j (by rw[←hR.len];exact hj) hj hu
theorem WiG(hp:POk p)(hx:ROk p n x)(ht:RT x)(h2:x.phase=2)(hl:x.fam.lost≠true)(ho:Wa2 x.fam≠true)(hm:W0 m=true):
  Wv p {x with fam:=Wcw m p.2 p.2.length 0 x.fam}<Wv p x:=by
 have hL:=hx.live (by omega);have hs:=hL.spare;have hlen:=hp.code.len;obtain⟨f1,f2,f3⟩:=hL.fork h2;have hT:=(ht.fam h2).resolve_left hl;have mT:∀c∈p.2,c.length<=24:=λc hc=>(hp.kids c hc).toCC.len;have hR:=WsY hm hp.kids hp.k3 p.2.length 0 n x.fam (by omega) f3 hT;have h1:1<=WlS x.fam:=by
  have:∃z∈x.fam.kids,z.phase≠3:=by
   apply Classical.byContradiction;intro bQ;apply ho;unfold Wa2;rw[Xac];intro z hz;by_cases h3:z.phase=3
   .simpa using h3
   .exact Wg ⟨z,hz,h3⟩ bQ
  obtain⟨z,hz,uG⟩:=this;obtain⟨j,hj,he⟩:=Xam hz;have hu:WaJ x.fam.kids[j]=1:=WcQ (by rw[he];exact uG);have a:=WxF f3 mT hT hj hu;have b:=WnT (f:=x.fam) _ (Xp hj) hu;unfold WlS;omega
 rw[Wn2 h2,Wa hl,Wn2 (x:={x with fam:=Wcw m p.2 p.2.length 0 x.fam}) h2];show(if(Wcw m p.2 p.2.length 0 x.fam).lost=true then(x.undos.length:Int)+3 else 73-3*x.pc+WlS (Wcw m p.2 p.2.length 0 x.fam)+Wbf x)<_;split
 .unfold Wbf;omega
 .rename_i iT;have hR:=hR.resolve_left iT;have:WlS (Wcw m p.2 p.2.length 0 x.fam)<=WlS x.fam-1:=Wvv hR (by omega) λj h h' hu=>by
   obtain⟨a1,a2,a3⟩:=hR.p j h h' hu;have b:=WnT (f:=x.fam) _ (Xp h) a1;rcases a3 (by omega)with c|⟨_,k,hk,_⟩
   .unfold WlS;omega
   .omega
  omega
end
section

end
section
section
variable{N:Nat}{s:Sc}{p:Pg}{w:Wo}{n:Int}{a:Ac}{k:Nat}
theorem Wuy{R:Type}{K0:Int->Bool->Int->Int->Int->Int->Kr->Kj->Kr->(List Y_Root)->Kaa->Option R}(hl:s.2.2.length<=1000)(hN:1048576<N):
  ∀(d j n:Nat) (m:Int) (w:Wo),j+d=s.2.2.length->d<n->WOk s.2.1 m w->m+d<=90000->
  Za4 N s.2.2 s K0 n (j:Int) w.now w.token w.mem.1 w.shelf.2 w.mem.2 w.shelf.1 w.holds (w.roots.map Rt.e) w.hist=
   (λv:Wo=>K0 (s.2.2.length:Int) false v.now v.token v.mem.1 v.shelf.2 v.mem.2 v.shelf.1 v.holds (v.roots.map Rt.e) v.hist) ((s.2.2.drop j).foldl (Wde s) w):=by
 intro d
 induction d with
 |zero=>
  intro j n m w hj hn h hm;obtain⟨n,rfl⟩:∃n',n=n'+1:=⟨n-1,by omega⟩;have:j=s.2.2.length:=by omega
  subst this;simp only[Za4,WaO (Xn _),We,List.drop_length,List.foldl_nil]
 |succ d ih=>
  intro j n m w hj hn h hm;obtain⟨n,rfl⟩:∃n',n=n'+1:=⟨n-1,by omega⟩;have hlt:j<s.2.2.length:=by omega
  have hw:(w.now,(w.token,((w.mem.1,w.mem.2),((w.shelf.1,w.shelf.2),(w.holds,(w.roots.map Rt.e,w.hist))))))=w.e:=rfl;simp only[Za4,Wat hlt,WC hlt,WJ hlt,Wt (show j<4611686018427387904 by omega),Wc,hw];rw[WoD h (by omega) hN,List.drop_eq_getElem_cons hlt,Xbz];exact ih (j+1) n (m+1) _ (by omega) (by omega) (WcH h) (by omega)
theorem Wte(hb:SB s)(hN:1048576<N):Zj1 N s=ret (if WlL s=true then(Weq s).e else d_World):=by
 unfold Zj1;rw[WfE hb hN];simp only[ret,Xd];cases hs:WlL s with
 |false=>rfl
 |true=>
  obtain⟨h1,h2,h3,h4⟩:=Wet hs;have h0:=Wii hs;have gz:=Wvb s.2.1 (by omega);simp only[Xx,We,Wav];rw[Whc h1.map.1 h1.map.2 hN,Wjf (Wpm.2 h1.cells) hN];simp only[ret,Xd,gz,Wc,WgF];have ge:=Wuy (s:=s) (N:=N) (K0:=λpe wc pf pg pi pj gL pm pn po pq=>(some ((),((pf,(pg,((pi,gL),((pm,pj),(pn,(po,pq)))))),())):Option (Unit×(Y_World×Unit)))) (by have:=hb.acts;omega) hN s.2.2.length 0 N 0 (Wer s) (by omega) (by omega) h0 (by omega);rw[Wp0];have qH:((Wer s).roots.map Rt.e)=List.replicate s.2.1.length d_Root:=by
   unfold Wer;simp only[List.map_replicate];rfl
  rw[qH]at ge;refine ge.trans ?_;rw[List.drop_zero];rfl
end
variable{N:Nat}{s:Sc}{w:Wo}{n:Int}{a:Ac}
end
section
def Wcy(s:Sc)(k:Nat):Nat->Nat->Wo->Wo
 |0,_,w=>w
 |d+1,j,w=>Wcy s k d (j+1) (Wde s w (2,(k:Int),(j:Int)))
def Wa0(s:Sc):Nat->Nat->Wo->Wo
 |0,_,w=>w
 |d+1,i,w=>Wa0 s d (i+1) (Wcy s i (s.2.1.getD i pg0).2.length 0 (Wde s w (1,(i:Int),0)))
def WfR(w:Wo):Bool:=w.roots.all λx=>decide (x.phase=8)
def WaV(s:Sc):Nat->Wo->Wo×Nat
 |0,w=>(w,0)
 |d+1,w=>if WfR w=true then(w,0)else((WaV s d (Wa0 s s.2.1.length 0 w)).1,(WaV s d (Wa0 s s.2.1.length 0 w)).2+1)
variable{s:Sc}{w v:Wo}{n:Int}{k:Nat}{N:Nat}
theorem WlR:∀(d j:Nat) (n:Int) (w:Wo),WOk s.2.1 n w->WOk s.2.1 (n+d) (Wcy s k d j w)
 |0,_,n,w,h=>by rw[Wcy];simpa using h
 |d+1,j,n,w,h=>by
  have:=WlR d (j+1) (n+1) _ (WcH (a:=(2,(k:Int),(j:Int))) h);rw[Wcy,show n+((d+1:Nat):Int)=n+1+(d:Int) by omega];exact this
theorem Wvi{R:Type}{rounds:Int}{b1 b2 b3 b4:Int}{kj:Int}{K0:Int->Bool->Int->Int->Int->Int->List Kb->List Int->List Kb->List Y_Root->List Kn->Option R}(hN:1048576<N)(hk:k<s.2.1.length)(h3:s.2.1[k].2.length<=3):
  ∀(d j fuel:Nat) (n:Int) (w:Wo),j+d=s.2.1[k].2.length->d<fuel->WOk s.2.1 n w->n+d<=99999->
  Zcc N rounds (k:Int) s.2.1 kj s b1 b2 b3 b4 K0 fuel (j:Int) w.now w.token w.mem.1 w.shelf.2 w.mem.2 w.shelf.1 w.holds (w.roots.map Rt.e) w.hist=
  K0 (s.2.1[k].2.length:Int) false (Wcy s k d j w).now (Wcy s k d j w).token (Wcy s k d j w).mem.1 (Wcy s k d j w).shelf.2 (Wcy s k d j w).mem.2 (Wcy s k d j w).shelf.1 (Wcy s k d j w).holds ((Wcy s k d j w).roots.map Rt.e) (Wcy s k d j w).hist:=by
 intro d;have bt:Xc s.2.1 (Xb (k:Int)) (([]:List Ka),([]:List Ky))=s.2.1[k]:=WJ hk _
 induction d with
 |zero=>
  intro j fuel n w hj hf hw hn;obtain⟨f,rfl⟩:∃f,fuel=f+1:=⟨fuel-1,by omega⟩;have:decide ((j:Int)<Wj s.2.1[k].2)=false:=Wx (by unfold Wj;omega);simp only[Zcc,WD,bt,this,We,Wcy];rw[show(j:Int)=(s.2.1[k].2.length:Int) by omega]
 |succ d ih=>
  intro j fuel n w hj hf hw hn;obtain⟨f,rfl⟩:∃f,fuel=f+1:=⟨fuel-1,by omega⟩;have:decide ((j:Int)<Wj s.2.1[k].2)=true:=Wf (by unfold Wj;omega);have hr:=WoD (a:=(2,(k:Int),(j:Int))) hw (by omega) hN;simp only[Zcc,WD,bt,this,Wc];rw[show((w.now,(w.token,((w.mem.1,w.mem.2),((w.shelf.1,w.shelf.2),(w.holds,(w.roots.map Rt.e,w.hist)))))):Y_World)=w.e from rfl,hr];simp only[Xd,Wt (show j<4611686018427387904 by omega)];rw[Wcy];exact ih (j+1) f (n+1) _ (by omega) (by omega) (WcH hw) (by omega)
theorem pk3(h:WOk s.2.1 n w){i:Nat}(hi:i<s.2.1.length):(s.2.1.getD i pg0).2.length<=3:=(Wgv h.progs hi).k3
theorem WnA:∀(d i:Nat) (n:Int) (w:Wo),i+d=s.2.1.length->WOk s.2.1 n w->∃n',n<=n'/\n'<=n+4*d/\WOk s.2.1 n' (Wa0 s d i w)
 |0,_,n,w,hi,h=>⟨n,by omega,by omega,by rw[Wa0];exact h⟩
 |d+1,i,n,w,hi,h=>by
  have h1:=WlR (k:=i) (s.2.1.getD i pg0).2.length 0 (n+1) _ (WcH (a:=(1,(i:Int),0)) h);have h3:=pk3 h (i:=i) (by omega);obtain⟨n',a,b,c⟩:=WnA d (i+1) _ _ (by omega) h1;exact⟨n',by omega,by omega,by rw[Wa0];exact c⟩
theorem Wub{R:Type}{rounds:Int}{b1 b2 b3 b4:Int}{K0:Int->Bool->Int->Int->Int->Int->List Kb->List Int->List Kb->List Y_Root->List Kn->Option R}(hN:1048576<N)(ku:s.2.1.length<=4):
  ∀(d i fuel:Nat) (n:Int) (w:Wo),i+d=s.2.1.length->d<fuel->WOk s.2.1 n w->n+4*d<=99999->
  Zbo N rounds s.2.1 s b1 b2 b3 b4 K0 fuel (i:Int) w.now w.token w.mem.1 w.shelf.2 w.mem.2 w.shelf.1 w.holds (w.roots.map Rt.e) w.hist=
  K0 (s.2.1.length:Int) false (Wa0 s d i w).now (Wa0 s d i w).token (Wa0 s d i w).mem.1 (Wa0 s d i w).shelf.2 (Wa0 s d i w).mem.2 (Wa0 s d i w).shelf.1 (Wa0 s d i w).holds ((Wa0 s d i w).roots.map Rt.e) (Wa0 s d i w).hist:=by
 intro d
 induction d with
 |zero=>
  intro i fuel n w hi hf hw hn;obtain⟨f,rfl⟩:∃f,fuel=f+1:=⟨fuel-1,by omega⟩;have:i=s.2.1.length:=by omega
  subst this;simp only[Zbo,WaO (Xn _),We,Wa0]
 |succ d ih=>
  intro i fuel n w hi hf hw hn;obtain⟨f,rfl⟩:∃f,fuel=f+1:=⟨fuel-1,by omega⟩;have hlt:i<s.2.1.length:=by omega
  have hr:=WoD (a:=(1,(i:Int),0)) hw (by omega) hN;have hg:s.2.1.getD i pg0=s.2.1[i]:=Wn hlt _;have h3:=pk3 hw hlt;rw[hg]at h3;have y0:=WcH (a:=(1,(i:Int),0)) hw;have hk:=Wvi (R:=R) (rounds:=rounds) (b1:=b1) (b2:=b2) (b3:=b3) (b4:=b4) (kj:=Wj s.2.1)
   (K0:=λwe wg pt pu px py pA pB pC pD pE=>(Zbo N rounds s.2.1 s b1 b2 b3 b4 K0 f (Wm .i64 (i:Int) (1:Int)) pt pu px py pA pB pC pD pE)) hN hlt h3 s.2.1[i].2.length 0 N (n+1) _ (by omega) (by omega) y0 (by omega)
  have aJ:=WlR (k:=i) s.2.1[i].2.length 0 (n+1) _ y0;simp only[Zbo,Wat hlt,WC hlt,Wc];rw[show((w.now,(w.token,((w.mem.1,w.mem.2),((w.shelf.1,w.shelf.2),(w.holds,(w.roots.map Rt.e,w.hist)))))):Y_World)=w.e from rfl,hr];simp only[Xd];refine hk.trans ?_;simp only[Wt (show i<4611686018427387904 by omega)];rw[Wa0,hg];exact ih (i+1) f _ _ (by omega) (by omega) aJ (by omega)
theorem Wpb(hl:w.roots.length<=4)(hN:1048576<N):Znv N w.e=ret (WfR w):=by
 unfold Znv Zat Zx;have e1:w.e.2.2.2.2.2.1=w.roots.map Rt.e:=rfl;rw[e1];have hb:(w.roots.map Rt.e).length<=4:=by simpa using hl
 have h1:=WV (l:=w.roots.map Rt.e) (V:=Unit) (R:=Unit×Kh) (lp:=λn j _=>Zk N (w.roots.map Rt.e) (λaI=>(some ((),(aI,())))) (λaK bd=>(some ((),((-1:Int),())))) n j) (n:=N) (by omega)
  (body:=λj x v k=>bif (x.1 !=8)then some ((),(j,()))else k v) (K:=λ_ v=>some ((),((-1:Int),())))
  (λn i u hi=>by
   simp only[Zk,Zn3,Wat hi,WC hi,WJ hi,Wt (show i<4611686018427387904 by omega),Wc,Xd])
  (λn u=>by simp only[Zk,WaO (Xn _),We]) ()
 have h2:∀(l:List Y_Root) (j:Nat),∃r:Int,Wb9 (λ(j:Int) (x:Y_Root) (v:Unit) (k:Unit->Option Kt)=>bif (x.1 !=8)then some ((),(j,()))else k v) (λ_ v=>some ((),((-1:Int),()))) l j ()=some ((),(r,()))/\(decide (r>=0)= !(l.all λx=>x.1==8)):=λl=>by
  induction l with
  |nil=>intro j;exact⟨-1,rfl,rfl⟩
  |cons x l ih=>
   intro j;rw[Wb9];cases hx:x.1==8 with
   |true=>
    have:(x.1 !=8)=false:=by rw[bne,hx];rfl
    simp only[this,We];obtain⟨r,a,b⟩:=ih (j+1);exact⟨r,a,by rw[b,Xcf,hx];rfl⟩
   |false=>
    have:(x.1 !=8)=true:=by rw[bne,hx];rfl
    simp only[this,Wc];exact⟨j,rfl,by rw[Xcf,hx];simp⟩
 obtain⟨r,a,b⟩:=h2 (w.roots.map Rt.e) 0;rw[h1.trans a];simp only[Xd,b,Bool.not_not];have:((w.roots.map Rt.e).all λx=>x.1==8)=WfR w:=by
  unfold WfR;rw[List.all_map];congr 1
 rw[this]
theorem WtU{R:Type}{K0:Int->Bool->Int->Int->Int->Int->List Kb->List Int->List Kb->List Y_Root->List Kn->Option R}(hN:1048576<N)(ku:s.2.1.length<=4):
  ∀(d r fuel:Nat) (n:Int) (w:Wo),r+d=6000->d<fuel->WOk s.2.1 n w->n+16*d<=99999->
  Zbp N s K0 fuel (r:Int) w.now w.token w.mem.1 w.shelf.2 w.mem.2 w.shelf.1 w.holds (w.roots.map Rt.e) w.hist=
  (λv:Wo×Nat=>K0 ((r+v.2:Nat):Int) false v.1.now v.1.token v.1.mem.1 v.1.shelf.2 v.1.mem.2 v.1.shelf.1 v.1.holds (v.1.roots.map Rt.e) v.1.hist) (WaV s d w):=by
 intro d
 induction d with
 |zero=>
  intro r fuel n w hr hf hw hn;obtain⟨f,rfl⟩:∃f,fuel=f+1:=⟨fuel-1,by omega⟩;have hl:w.roots.length<=4:=by rw[hw.len];exact ku
  simp only[Zbp];rw[show((w.now,(w.token,((w.mem.1,w.mem.2),((w.shelf.1,w.shelf.2),(w.holds,(w.roots.map Rt.e,w.hist)))))):Y_World)=w.e from rfl,Wpb hl hN];have h6:decide ((r:Int)<6000)=false:=Wx (by omega);simp only[ret,Xd,h6,We,WaV,Xax];cases WfR w<;>rfl
 |succ d ih=>
  intro r fuel n w hr hf hw hn;obtain⟨f,rfl⟩:∃f,fuel=f+1:=⟨fuel-1,by omega⟩;have hl:w.roots.length<=4:=by rw[hw.len];exact ku
  simp only[Zbp];rw[show((w.now,(w.token,((w.mem.1,w.mem.2),((w.shelf.1,w.shelf.2),(w.holds,(w.roots.map Rt.e,w.hist)))))):Y_World)=w.e from rfl,Wpb hl hN];have h6:decide ((r:Int)<6000)=true:=Wf (by omega);simp only[ret,Xd,h6,Wc,WaV];cases ho:WfR w with
  |true=>rfl
  |false=>
   simp only[Bool.not_false,Wc,Xbg,Waw];obtain⟨n',a,b,c⟩:=WnA s.2.1.length 0 n w (by omega) hw;have ge:=Wub (s:=s) (R:=R) (rounds:=Wm .i64 (r:Int) 1) (b1:=0) (b2:=0) (b3:=0) (b4:=0)
    (K0:=λwj wm pF pG pH pI pJ pK pL pM pN=>(Zbp N s K0 f (Wm .i64 (r:Int) (1:Int)) pF pG pH pI pJ pK pL pM pN)) hN ku s.2.1.length 0 N n w (by omega) (by omega) hw (by omega)
   refine ge.trans ?_;simp only[Wt (show r<4611686018427387904 by omega)];rw[ih (r+1) f n' _ (by omega) (by omega) c (by omega)];simp only[show r+1+(WaV s d (Wa0 s s.2.1.length 0 w)).2=r+((WaV s d (Wa0 s s.2.1.length 0 w)).2+1) by omega]
theorem Wq9(hb:SB s)(hN:1048576<N)(aJ:WlL s=true):Zce N s=some ((),((WaV s 6000 (Weq s)).1.e,(((WaV s 6000 (Weq s)).2:Int),()))):=by
 obtain⟨h1,h2,h3,h4⟩:=Wet aJ;have hW:=WlC aJ;have hp:=Wte hb hN;unfold Zce;rw[WfE hb hN,aJ];simp only[ret,Xd,Xx,We];rw[hp,Wb aJ];simp only[ret,Xd];have hlen:(s.2.2.length:Int)<=400:=by omega
 have:=WtU (s:=s) (N:=N) (K0:=λdI wn pO pP pQ pR pS pT pU pV pW=>(some ((),((pO,(pP,((pQ,pS),((pT,pR),(pU,(pV,pW)))))),(dI,()))):Option (Unit×(Y_World×Kh)))) hN (by omega) 6000 0 N _ (Weq s) (by omega) (by omega) hW (by omega);refine this.trans ?_;simp only[Xbb];rfl
end
section
variable{s:Sc}{w v:Wo}{n:Int}{x y:Rt}{k:Nat}{p:Pg}{f g:Fm}{m:Mm}{o:Opn}
def Wc8(p:Pg)(x:Rt):Int:=if x.phase<=4 then Wv p x-292 else Wv p x
def WwE(p:Pg)(x y:Rt):Prop:=y.phase=1\/y.phase=2\/y.phase=8\/y.phase=3\/(y.phase=6/\y.fate=0)\/(y.phase=5/\Wv p y<=x.undos.length+36)
theorem Wlo:(WO x).phase=3\/((WO x).phase=6/\(WO x).fate=0):=by
 unfold WO;split
 .exact .inr ⟨rfl,rfl⟩
 .exact .inl rfl
theorem Wj4(hl:RLive p n x)(hk:k<=8){out:Int}:WwE p x (Waq w x k out).2:=by
 unfold Waq;simp only;generalize (if out=2 then []else x.writes)=rows;split
 .exact .inr (.inr (.inl rfl))
 .have hc:CmOk (Wan ((k:Int)+1) x.rv rows x.reads):=WkX (by omega) hl.rv;have:=(Wgr hc).2.1;have e:Wv p ({x with fate:=out,cm:=Wan ((k:Int)+1) x.rv rows x.reads,phase:=5}:Rt)=Wab (Wan ((k:Int)+1) x.rv rows x.reads)+x.undos.length+3:=rfl;refine .inr (.inr (.inr (.inr (.inr ⟨rfl,?_⟩))));show Wv p ({x with fate:=out,cm:=Wan ((k:Int)+1) x.rv rows x.reads,phase:=5}:Rt)<=_;rw[e];omega
theorem Wtr(hl:RLive p n x)(h1:x.phase=1)(hk:k<=8):WwE p x (Wdy w x k p).2:=by
 have one:∀y:Rt,y.phase=1->WwE p x y:=λy h=>.inl h;have cf:∀z:Rt,WwE p x (WO z):=λz=>by
  rcases Wlo (x:=z)with h|h
  .exact .inr (.inr (.inr (.inl h)))
  .exact .inr (.inr (.inr (.inr (.inl h))))
 unfold Wdy;split
 .exact Wj4 hl hk
 .simp only;generalize opN p.1 x.pc=o;split
  .show WwE p x (WcM w x o);unfold WcM;cases Wbg x.writes o.2.2.1 with
   |some v=>exact one _ h1
   |none=>
    simp only;generalize WW w.mem x.rv _=b;split
    .exact cf _
    .split<;>exact one _ h1
  .split
   .unfold WbT;split
    .exact Wj4 hl hk
    .split<;>exact one _ h1
   .split
    .exact .inr (.inl rfl)
    .split
     .unfold WbR;cases Wa4 w.holds ((k:Int)+1) (WaK o).1 (WaK o).2 with
      |none=>exact cf _
      |some hs=>exact one _ h1
     .repeat' split
      all_goals exact one _ h1
theorem Wrt(hp:POk p)(hx:ROk p n x)(ht:RT x)(hg:RGd m x):1<=Wc8 p x:=by
 have iO:=(WbY hp hx ht).2.2;have aX:=hg.ph;have hs:=hg.sp;unfold Wc8;by_cases h1:x.phase=1
 .have:=WeG hp.code (hx.live (by omega)) ht h1;rw[Wb (by omega)];omega
 by_cases h2:x.phase=2
 .have hl:=hx.live (by omega);have aL:=hl.pc;have hlen:=hp.code.len;have h0:=Wpn x.fam x.fam.kids;rw[Wb (by omega),Wn2 h2,Wa (by rw[(hg.fam h2).lost];simp)];unfold WlS Wbf;omega
 .rw[Wa (by omega)];exact iO (by omega)
theorem Wxg(hp:POk p)(hx:ROk p n x)(lW:RX x)(ht:RT x)(hk:k<=8)(hg:RGd w.mem x)(hh:∀e∈w.holds,e.1=(k:Int)+1)(hm:W0 w.mem=true)(hb:LB w k x)(bR:w.mem.1<1000000):
  (WB w x k p).2.phase=8\/(RGd (WB w x k p).1.mem (WB w x k p).2/\(Wc8 p (WB w x k p).2<Wc8 p x\/(x.phase=2/\x.fam.lost≠true/\Wa2 x.fam≠true/\(WB w x k p).2=x))):=by
 rcases Wue hp hx hg ht hh hm hb bR with h8|hy
 .exact .inl h8
 refine .inr ⟨hy,?_⟩;have aX:=hg.ph;have xg:=hy.ph;rcases Wj6 (w:=w) hp hx lW ht hk (by omega)with hlt|hwt
 .left;have hs:=hg.sp;by_cases h1:x.phase=1
  .have hl:=hx.live (by omega);have ho:=Wtr (w:=w) hl h1 hk;have qF:=WeG hp.code hl ht h1;have e:WB w x k p=Wdy w x k p:=by
    unfold WB;rw[Wa (by rw[hg.dm];simp),Wa (by omega),Wb h1]
   rw[e]at hy xg hlt⊢;have mq:=hy.ft;unfold Wc8;rw[Wb (show x.phase<=4 by omega)];rcases ho with h|h|h|h|h|h
   .rw[Wb (by omega)];omega
   .rw[Wb (by omega)];omega
   .omega
   .omega
   .exact Wg h.2 (mq (by omega))
   .rw[Wa (by omega)];omega
  by_cases h2:x.phase=2
  .have e:(WB w x k p).2=WbG x:=by
    unfold WB;rw[Wa (by rw[hg.dm];simp),Wa (by omega),Wa h1,Wb h2]
   rw[e]at hlt⊢;have e2:(WbG x).phase<=4:=by
    unfold WbG;rw[Wa (by rw[(hg.fam h2).lost];simp)];split
    .show(1:Int)<=4;omega
    .omega
   unfold Wc8;rw[Wb e2,Wb (by omega)];omega
  .unfold Wc8;rw[Wa (show¬x.phase<=4 by omega)];split<;>omega
 .exact .inr hwt
theorem WvB{z:Kd}{j:Nat}{c:List Opn}(h:z.phase=3):Wdu m f z j c=(f,z):=by
 unfold Wdu;rw[Wa (by omega),Wa (by omega),Wa (by omega)]
theorem WqT(h:Wa2 f=true){j:Nat}(hj:j<f.kids.length){c:List Opn}:Wbx m f j c=f:=by
 unfold Wbx;split
 .rfl
 .have h3:f.kids[j].phase=3:=by
   unfold Wa2 at h;rw[Xac]at h;simpa using h _ (Xp hj)
  rw[show f.kids.getD j {}=f.kids[j]from Wn hj _,WvB h3];unfold Fm.put;simp only;rw[Xaz]
variable{codes:List (List Opn)}
theorem Wix(h:Wa2 f=true):∀(d i:Nat),i+d=f.kids.length->Wcw m codes d i f=f
 |0,_,_=>rfl
 |d+1,i,hi=>by rw[Wcw,WqT h (by omega)];exact Wix h d (i+1) (by omega)
theorem Wl0(hm:W0 m=true)(bb:∀c∈codes,KC c)(h3:codes.length<=3):∀(d i:Nat) (n:Int) (f:Fm),i+d=codes.length->FOk codes n f->(∀(j:Nat) (h:j<f.kids.length),KT f j f.kids[j])->FGd m f->FGd m (Wcw m codes d i f)
 |0,_,_,_,_,_,_,hg=>hg
 |d+1,i,n,f,hi,hF,hT,hg=>by
  have hlen:=hF.len;have hc:KC (codes.getD i []):=by rw[Wn (show i<codes.length by omega) _];exact bb _ (Xp _)
  have za:=Wt2 (k:=i) hF hT hg (by omega) hc;rw[Wcw];refine Wl0 hm bb h3 d (i+1) (n+1) _ (by omega) (Wlk (by omega) hm hc hF rfl) ?_ za;rcases WpF hm bb h3 hF hT (k:=i) (by omega)with h|h
  .rw[za.lost]at h;cases h
  .exact h
def Wap(m:Mm)(p:Pg)(d i:Nat)(x:Rt):Rt:=if x.phase=2 then{x with fam:=Wcw m p.2 d i x.fam}else x
theorem Wpv:∀(d j:Nat) (w:Wo) (hk:k<w.roots.length),j+d=(s.2.1.getD k pg0).2.length->
  Wcy s k d j w={w with now:=w.now+d,roots:=w.roots.set k (Wap w.mem (s.2.1.getD k pg0) d j w.roots[k])}
 |0,j,w,hk,hj=>by
  have:Wap w.mem (s.2.1.getD k pg0) 0 j w.roots[k]=w.roots[k]:=by
   unfold Wap;split<;>rfl
  rw[Wcy,this,Xaz];simp
 |d+1,j,w,hk,hj=>by
  rw[Wcy];have hb:0<=(k:Int)/\(k:Int)<w.roots.length:=by omega
  have hg:w.roots.getD k rt0=w.roots[k]:=Wn hk _;have e:Wde s w (2,(k:Int),(j:Int))={w with now:=w.now+1,roots:=w.roots.set k (Wap w.mem (s.2.1.getD k pg0) 1 j w.roots[k])}:=by
   unfold Wde;simp only[Xj];rw[Wb hb,Wa (by omega),Wb trivial,hg];unfold Wap;by_cases h2:w.roots[k].phase=2
   .rw[Wb ⟨h2,by omega,by omega⟩,Wb h2];rfl
   .rw[Wa (λh=>h2 h.1),Wa h2,Xaz]
  have cu:k<(Wde s w (2,(k:Int),(j:Int))).roots.length:=by rw[e];show k<(w.roots.set k _).length;rw[Xab];exact hk
  rw[Wpv d (j+1) _ cu (by omega)];have e1:(Wde s w (2,(k:Int),(j:Int))).roots[k]=Wap w.mem (s.2.1.getD k pg0) 1 j w.roots[k]:=by
   simp only[e,Xep]
  rw[e1,e];simp only[Xdi];have e2:Wap w.mem (s.2.1.getD k pg0) d (j+1) (Wap w.mem (s.2.1.getD k pg0) 1 j w.roots[k])=Wap w.mem (s.2.1.getD k pg0) (d+1) j w.roots[k]:=by
   unfold Wap;by_cases h2:w.roots[k].phase=2
   .rw[Wb h2,Wb h2,Wb h2];rfl
   .rw[Wa h2,Wa h2,Wa h2]
  rw[e2];congr 1;omega
end
section
variable{s:Sc}{w v:Wo}{n:Int}{x y:Rt}{k:Nat}{p:Pg}{f g:Fm}{m:Mm}{o:Opn}
theorem WqR(h0:x.phase≠0)(hz:(WB w x k p).2.phase=0):(WB w x k p).2.tries=x.tries+1:=by
 unfold WB at hz⊢;by_cases hd:x.doomed=true/\1<=x.phase/\x.phase<=4
 .rw[Wb hd]at hz;exact Wg (show(6:Int)=0 from hz) (by omega)
 rw[Wa hd,Wa h0]at hz⊢;by_cases h1:x.phase=1
 .rw[Wb h1]at hz;have cl:∀out,(Waq w x k out).2.phase≠0:=λout=>by
   unfold Waq;simp only;generalize (if out=2 then []else x.writes)=rows;split
   .show(8:Int)≠0;omega
   .show(5:Int)≠0;omega
  have:(Wdy w x k p).2.phase≠0:=by
   unfold Wdy;split
   .exact cl _
   .simp only;generalize opN p.1 x.pc=o;split
    .exact(WkF h1).1
    .split
     .unfold WbT;split
      .exact cl _
      .split<;>(show x.phase≠0;omega)
     .split
      .show(2:Int)≠0;omega
      .split
       .unfold WbR;cases Wa4 w.holds ((k:Int)+1) (WaK o).1 (WaK o).2 with
        |none=>exact WcY.1
        |some hs=>exact h0
       .repeat' split
        all_goals exact h0
  exact Wg hz this
 rw[Wa h1]at hz⊢;by_cases h2:x.phase=2
 .rw[Wb h2]at hz;have:(WbG x).phase≠0:=by
   unfold WbG;split
   .show(6:Int)≠0;omega
   .split
    .show(1:Int)≠0;omega
    .exact h0
  exact Wg hz this
 rw[Wa h2]at hz⊢;by_cases h3:x.phase=3
 .rw[Wb h3]at hz;have:(Wa3 w x).2.phase≠0:=by
   unfold Wa3;split
   .exact h0
   .show(4:Int)≠0;omega
  exact Wg hz this
 rw[Wa h3]at hz⊢;by_cases h4:x.phase=4
 .rw[Wb h4]at hz;have:(WaH w x).phase≠0:=by
   unfold WaH;simp only;split
   .split
    .show(6:Int)≠0;omega
    .exact h0
   .show(1:Int)≠0;omega
  exact Wg hz this
 rw[Wa h4]at hz⊢;by_cases h5:x.phase=5
 .rw[Wb h5]at hz;have:(W8 w x k).2.phase≠0:=by
   unfold W8;split
   .simp only;split
    .show(6:Int)≠0;omega
    .exact h0
   .show(Wae {x with cm:=(Wq w.mem x.cm).2}).phase≠0;unfold Wae;split
    .show(6:Int)≠0;omega
    .split
     .show(if x.fate=2 then(6:Int)else 7)≠0;split<;>omega
     .exact h0
  exact Wg hz this
 rw[Wa h5]at hz⊢;by_cases h6:x.phase=6
 .rw[Wb h6]at hz;split at hz
  .exact Wg hz h0
  .exact Wg (show(7:Int)=0 from hz) (by omega)
 rw[Wa h6]at hz⊢;by_cases h7:x.phase=7
 .rw[Wb h7]at hz⊢;split at hz
  .rw[Wb ‹_›]
  .exact Wg (show(8:Int)=0 from hz) (by omega)
 .rw[Wa h7]at hz;exact Wg hz h0
structure WI(s:Sc)(n:Int)(w:Wo):Prop where
 ok:WOk s.2.1 n w
 wx:WX w
 lx:LX w
 wt:WT w
 tx:TX w
theorem WI.act(h:WI s n w)(a:Ac):WI s (n+1) (Wde s w a):=
 ⟨WcH h.ok,(Wgs h.ok h.wx).1,WnX h.ok h.wx h.lx,WrZ h.ok h.wt,WrC h.ok h.lx h.tx⟩
theorem WI.kids:∀(d j:Nat) (n:Int) (w:Wo),WI s n w->WI s (n+d) (Wcy s k d j w)
 |0,_,n,w,h=>by rw[Wcy];simpa using h
 |d+1,j,n,w,h=>by
  have:=WI.kids d (j+1) (n+1) _ (h.act (2,(k:Int),(j:Int)));rw[Wcy,show n+((d+1:Nat):Int)=n+1+(d:Int) by omega];exact this
def WuW(s:Sc)(k:Nat)(w:Wo):Wo:=Wcy s k (s.2.1.getD k pg0).2.length 0 (Wde s w (1,(k:Int),0))
theorem WI.blk(h:WI s n w):WI s (n+1+(s.2.1.getD k pg0).2.length) (WuW s k w):=WI.kids _ _ _ _ (h.act _)
theorem WwK(h:WOk s.2.1 n w)(hk:k<w.roots.length):WuW s k w=
  (λq:Wo×Rt=>{q.1 with now:=q.1.now+(s.2.1.getD k pg0).2.length,roots:=w.roots.set k (Wap q.1.mem (s.2.1.getD k pg0) (s.2.1.getD k pg0).2.length 0 q.2)}) (WB {w with now:=w.now+1} w.roots[k] k (s.2.1.getD k pg0)):=by
 have hr:=WhJ h hk;have hb:0<=(k:Int)/\(k:Int)<w.roots.length:=by omega
 have e:Wde s w (1,(k:Int),0)=Wo.put (WB {w with now:=w.now+1} w.roots[k] k (s.2.1.getD k pg0)) k:=by
  unfold Wde;simp only[Xj];rw[Wb hb,Wb trivial];unfold Wid;rw[Wn (show k<({w with now:=w.now+1}:Wo).roots.length from hk)]
 unfold WuW;rw[e];generalize WB {w with now:=w.now+1} w.roots[k] k (s.2.1.getD k pg0)=q at*;have cu:k<(Wo.put q k).roots.length:=by show k<(q.1.roots.set k q.2).length;rw[Xab,hr];exact hk
 rw[Wpv _ _ _ cu (by omega)];have e1:(Wo.put q k).roots[k]=q.2:=Xep ..;rw[e1];unfold Wo.put;simp only[Xdi,hr]
theorem Wmr{d i:Nat}:(Wap m p d i x).phase=x.phase/\(Wap m p d i x).tries=x.tries:=by
 unfold Wap;split<;>exact⟨rfl,rfl⟩
theorem Wc9{d i:Nat}(h:x.phase≠2):Wap m p d i x=x:=by unfold Wap;rw[Wa h]
theorem Wrj(hp:POk p)(hx:ROk p n x)(ht:RT x)(hm:W0 m=true):Wv p (Wap m p p.2.length 0 x)<=Wv p x:=by
 by_cases h2:x.phase=2
 .obtain⟨f1,f2,f3⟩:=(hx.live (by omega)).fork h2;unfold Wap;rw[Wb h2];by_cases hl:x.fam.lost=true
  .rw[Wea _ _ _ hl];exact Xo _
  by_cases ho:Wa2 x.fam=true
  .rw[Wix ho _ _ (by rw[f3.len];omega)];exact Xo _
  .have:=WiG hp hx ht h2 hl ho hm;omega
 .rw[Wc9 h2];exact Xo _
structure BK(w v:Wo)(k:Nat)(p:Pg)(x y:Rt):Prop where
 tok:v.token=w.token\/(v.token=(k:Int)+1/\w.token=0/\x.phase=0/\y.phase=0)\/(w.token=(k:Int)+1/\v.token=0/\y.phase=8)
 mem:x.phase≠5->v.mem=w.mem
 done:x.phase=8->y=x
 idle:x.phase=0->(y=x/\(w.token=0->v.token=(k:Int)+1)/\(w.token=(k:Int)+1->Wac k w.roots 0=false))\/
  (y.phase=1/\Wv p y=785/\y.tries=x.tries/\v.token=w.token/\(w.token=0/\x.tries<3\/w.token=(k:Int)+1/\Wac k w.roots 0=true/\RGd v.mem y/\Wc8 p y=493))
 live:1<=x.phase/\x.phase<=7->y.phase=8\/(y.phase=0/\y.tries=x.tries+1)\/((1<=y.phase/\y.phase<=7)/\y.tries=x.tries/\Wv p y<Wv p x)
 keep:x.phase≠0->x.phase≠8->y.phase≠0->y.tries=x.tries
 good:x.phase≠0->x.phase≠8->RGd w.mem x->(∀e∈w.holds,e.1=(k:Int)+1)->y.phase=8\/(RGd v.mem y/\Wc8 p y<Wc8 p x)
theorem WqW(h:WI s n w)(hk:k<w.roots.length)(h0:w.roots[k].phase=0)(ho:Wac k w.roots 0=true){t b:Int}{r:List Int}:
  RGd w.mem {phase:=1,tries:=t,rv:=w.mem.1,began:=b,regs:=r}:=by
 refine⟨rfl,rfl,.inl rfl,λ_=>⟨λi a c=>⟨?_,?_⟩,λh=>by cases h⟩,λh=>by(change (1:Int)=2 at h;omega),λh=>by(change (1:Int)=5 at h;omega),λh=>by(change (1:Int)=5\/(1:Int)=6\/(1:Int)=7 at h;omega)⟩
 .rcases h.lx.ow i a c with e|⟨j,hj,e⟩
  .exact e
  .have h5:w.roots[j].phase≠5:=by
    by_cases dU:j=k
    .subst dU;omega
    .rcases Wd8 ho j hj (by omega)with e|e<;>omega
   exact Wg e ((h.lx.root j hj).no h5 i a c)
 .have:=Wd2 h.ok.mem ⟨a,c⟩;unfold Wqt at this;simp only[Xi,Wh]at this;exact this.2.1.2
theorem WwB(h:WI s n w)(hk:k<w.roots.length)(hn:n<=99999):∃y,(WuW s k w).roots=w.roots.set k y/\BK w (WuW s k w) k (s.2.1.getD k pg0) w.roots[k] y:=by
 have ku:=h.ok.l4;have hlen:=h.ok.len;have hp:POk (s.2.1.getD k pg0):=Wgv h.ok.progs (by omega);have hx:=h.ok.root k hk;have lW:=h.wx k hk;have ht:=h.wt.root k hk;have bR:=h.wt.clk;have qC:=h.ok.now;have xh:=hx.phase;have aG:0<=(s.2.1.getD k pg0).2.length:=Xbk _;rw[WwK h.ok hk];generalize dv:s.2.1.getD k pg0=p at*;have hq:=WhY (w:={w with now:=w.now+1}) (k:=k) hp ⟨h.ok.mem,h.ok.shelf,h.ok.holds⟩ hx (by omega) h.ok.n0;have zb:=Wpx (w:={w with now:=w.now+1}) (k:=k) (p:=p) ht;have mf:=Wnp (w:={w with now:=w.now+1}) (x:=w.roots[k]) (k:=k) (p:=p);have uL:=WlA (w:={w with now:=w.now+1}) (x:=w.roots[k]) (k:=k) (p:=p);have hz:=WqR (w:={w with now:=w.now+1}) (x:=w.roots[k]) (k:=k) (p:=p);have tV:=Wj6 (w:={w with now:=w.now+1}) (k:=k) hp hx lW ht (by omega);have jj:LB {w with now:=w.now+1} k w.roots[k]:=⟨(h.lx.root k hk).cm,(h.lx.root k hk).no,(h.lx.root k hk).hd,(h.lx.root k hk).tk⟩;have vR:=λhg hh=>Wxg (w:={w with now:=w.now+1}) (k:=k) hp hx lW ht (by omega) hg hh h.ok.mem jj (show w.mem.1<1000000 by omega);have bz:w.roots[k].phase=0->WB {w with now:=w.now+1} w.roots[k] k p=Wdf {w with now:=w.now+1} w.roots[k] k:=λh0=>by
  unfold WB;rw[Wa (by omega),Wb h0]
 refine⟨_,rfl,?_⟩;have aX:=Wmr (m:=(WB {w with now:=w.now+1} w.roots[k] k p).1.mem) (p:=p) (x:=(WB {w with now:=w.now+1} w.roots[k] k p).2) (d:=p.2.length) (i:=0);have hle:=Wrj hp hq.root zb hq.mem;have hne:=Wc9 (m:=(WB {w with now:=w.now+1} w.roots[k] k p).1.mem) (p:=p) (x:=(WB {w with now:=w.now+1} w.roots[k] k p).2) (d:=p.2.length) (i:=0);constructor
 .show(WB {w with now:=w.now+1} w.roots[k] k p).1.token=w.token\/_;rcases uL.tok with e|⟨e1,e2,e3,e4⟩|⟨e1,e2,e3⟩
  .exact .inl e
  .exact .inr (.inl ⟨e1,e2,e3,by rw[aX.1];exact e4⟩)
  .exact .inr (.inr ⟨e1,e2,by rw[aX.1];exact e3⟩)
 .intro h5;rcases mf with e|e
  .exact e
  .exact Wg e.1 h5
 .intro h8;have e:=uL.done h8;rw[e];exact Wc9 (by show w.roots[k].phase≠2;omega)
 .intro h0;rw[bz h0];unfold Wdf;by_cases a1:w.token≠0/\w.token≠(k:Int)+1
  .rw[Wb a1];exact .inl ⟨Wc9 (by show w.roots[k].phase≠2;omega),λh=>Wg h a1.1,λh=>Wg h a1.2⟩
  rw[Wa a1];by_cases a2:w.roots[k].tries>=3/\w.token=0
  .rw[Wb a2];exact .inl ⟨Wc9 (by show w.roots[k].phase≠2;omega),λ_=>rfl,λh=>by have:=a2.2;omega⟩
  rw[Wa a2];by_cases a3:w.token=(k:Int)+1/\Wac k w.roots 0=false
  .rw[Wb a3];exact .inl ⟨Wc9 (by show w.roots[k].phase≠2;omega),λh=>by have:=a3.1;omega,λ_=>a3.2⟩
  rw[Wa a3];right;have e:∀m,Wap m p p.2.length 0 ({phase:=1,tries:=w.roots[k].tries,rv:=w.mem.1,began:=w.now+1,regs:=[0,0,0,0]}:Rt)={phase:=1,tries:=w.roots[k].tries,rv:=w.mem.1,began:=w.now+1,regs:=[0,0,0,0]}:=λm=>Wc9 (by show(1:Int)≠2;omega);have tW:Wv p ({phase:=1,tries:=w.roots[k].tries,rv:=w.mem.1,began:=w.now+1,regs:=[0,0,0,0]}:Rt)=785:=by
   rw[Wci rfl];have:Wep p 0=382:=by
    have e0:frk p.1 0=0:=rfl;unfold Wep;rw[show(0:Int).toNat=0 from rfl,e0];rfl
   have e1:Wbf ({phase:=1,tries:=w.roots[k].tries,rv:=w.mem.1,began:=w.now+1,regs:=[0,0,0,0]}:Rt)=328:=rfl;rw[e1];show 75-3*0-0+Wep p 0+328=785;omega
  refine⟨?_,?_,?_,rfl,?_⟩
  .show(Wap w.mem p p.2.length 0 ({phase:=1,tries:=w.roots[k].tries,rv:=w.mem.1,began:=w.now+1,regs:=[0,0,0,0]}:Rt)).phase=1;rw[e]
  .show Wv p (Wap w.mem p p.2.length 0 ({phase:=1,tries:=w.roots[k].tries,rv:=w.mem.1,began:=w.now+1,regs:=[0,0,0,0]}:Rt))=785;rw[e];exact tW
  .show(Wap w.mem p p.2.length 0 ({phase:=1,tries:=w.roots[k].tries,rv:=w.mem.1,began:=w.now+1,regs:=[0,0,0,0]}:Rt)).tries=_;rw[e]
  .by_cases h0:w.token=0
   .exact .inl ⟨h0,by omega⟩
   .have lG:w.token=(k:Int)+1:=by omega
    have ov:Wac k w.roots 0=true:=by
     cases hc:Wac k w.roots 0 with
     |true=>rfl
     |false=>exact Wg ⟨lG,hc⟩ a3
    refine .inr ⟨lG,ov,?_,?_⟩
    .show RGd w.mem (Wap w.mem p p.2.length 0 ({phase:=1,tries:=w.roots[k].tries,rv:=w.mem.1,began:=w.now+1,regs:=[0,0,0,0]}:Rt));rw[e];exact WqW h hk ‹_› ov
    .show Wc8 p (Wap w.mem p p.2.length 0 ({phase:=1,tries:=w.roots[k].tries,rv:=w.mem.1,began:=w.now+1,regs:=[0,0,0,0]}:Rt))=493;rw[e];unfold Wc8;rw[Wb (by show(1:Int)<=4;omega),tW];rfl
 .intro az;show(Wap (WB {w with now:=w.now+1} w.roots[k] k p).1.mem p p.2.length 0 (WB {w with now:=w.now+1} w.roots[k] k p).2).phase=8\/_;rw[aX.1,aX.2];have A5:=hq.root.phase;by_cases qw:(WB {w with now:=w.now+1} w.roots[k] k p).2.phase=0
  .exact .inr (.inl ⟨qw,hz (by omega) qw⟩)
  by_cases hz8:(WB {w with now:=w.now+1} w.roots[k] k p).2.phase=8
  .exact .inl hz8
  refine .inr (.inr ⟨by omega,uL.try1 (by omega) (by omega) qw,?_⟩);rcases tV az with hl|⟨h2,hl,ho,e⟩
  .omega
  .rw[e];rcases mf with em|em
   .rw[em];have:=WiG hp hx ht h2 hl ho h.ok.mem;unfold Wap;rw[Wb h2];exact this
   .omega
 .intro h0 h8 tT;simp only[aX.1]at tT;rw[aX.2];exact uL.try1 h0 h8 tT
 .intro h0 h8 hg hh;rcases vR hg hh with e8|⟨gq,kC⟩
  .exact .inl (by rw[aX.1];exact e8)
  right;generalize WB {w with now:=w.now+1} w.roots[k] k p=q at*;show RGd q.1.mem (Wap q.1.mem p p.2.length 0 q.2)/\Wc8 p (Wap q.1.mem p p.2.length 0 q.2)<Wc8 p w.roots[k];refine⟨?_,?_⟩
  .by_cases h2:q.2.phase=2
   .unfold Wap;rw[Wb h2];obtain⟨f1,f2,f3⟩:=(hq.root.live (by omega)).fork h2;have hT:=(zb.fam h2).resolve_left (by rw[(gq.fam h2).lost];simp);exact⟨gq.dm,gq.sp,gq.ph,gq.run,λ_=>Wl0 hq.mem hp.kids hp.k3 _ _ _ _ (by omega) f3 hT (gq.fam h2),λh5=>gq.cm h5,gq.ft⟩
   .rw[hne h2];exact gq
  .have A6:Wc8 p (Wap q.1.mem p p.2.length 0 q.2)<=Wc8 p q.2:=by
    unfold Wc8;rw[aX.1];split<;>omega
   rcases kC with hl|⟨h2,hl,ho,e⟩
   .omega
   .rw[e]at A6⊢;rcases mf with em|em
    .rw[em];have:=WiG hp hx ht h2 hl ho h.ok.mem;have ek:Wap w.mem p p.2.length 0 w.roots[k]={w.roots[k]with fam:=Wcw w.mem p.2 p.2.length 0 w.roots[k].fam}:=by unfold Wap;rw[Wb h2]
     show Wc8 p (Wap w.mem p p.2.length 0 w.roots[k])<_;unfold Wc8;rw[Wmr.1,Wb (by omega),Wb (by omega),ek];exact Int.sub_lt_sub_right this 292
    .omega
end
section
variable{s:Sc}{w v:Wo}{n:Int}{x y:Rt}{k i:Nat}{p:Pg}
def WhX(s:Sc)(j:Nat):Pg:=s.2.1.getD j pg0
structure RJ(w:Wo)(p:Pg)(j:Nat)(x y:Rt):Prop where
 done:x.phase=8->y=x
 idle:x.phase=0->y=x\/(y.phase=1/\Wv p y=785/\y.tries=x.tries/\(x.tries<3\/w.token=(j:Int)+1))
 live:1<=x.phase/\x.phase<=7->y.phase=8\/(y.phase=0/\y.tries=x.tries+1)\/((1<=y.phase/\y.phase<=7)/\y.tries=x.tries/\Wv p y<Wv p x)
def Wwm(w v:Wo)(p:Pg)(k i:Nat)(x y:Rt):Prop:=
 (i<=k->x.phase≠0->RGd w.mem x->RGd v.mem x)/\
 (k<i->(x.phase=0->(y=x/\∃(j:Nat) (h:j<w.roots.length),j≠k/\1<=w.roots[j].phase/\w.roots[j].phase<=7)\/(y.phase=1/\RGd v.mem y/\Wc8 p y=493))/\(x.phase≠0->RGd w.mem x->RGd v.mem y/\Wc8 p y<Wc8 p x))
structure Rd(s:Sc)(w v:Wo)(i:Nat):Prop where
 len:v.roots.length=w.roots.length
 rest:∀(j:Nat) (h:j<w.roots.length) (h':j<v.roots.length),i<=j->v.roots[j]=w.roots[j]
 did:∀(j:Nat) (h:j<w.roots.length) (h':j<v.roots.length),j<i->RJ w (WhX s j) j w.roots[j] v.roots[j]
 tk0:w.token=0->(v.token=0/\∀(j:Nat) (h:j<w.roots.length) (h':j<v.roots.length),j<i->w.roots[j].phase=0->v.roots[j].phase=1)\/
  ∃(k:Nat) (h:k<w.roots.length) (h':k<v.roots.length),k<i/\v.token=(k:Int)+1/\w.roots[k].phase=0/\v.roots[k].phase=0
 tk1:∀(k:Nat) (h:k<w.roots.length) (h':k<v.roots.length),w.token=(k:Int)+1->
  (v.token=(k:Int)+1/\(∀(j:Nat) (h:j<w.roots.length) (h':j<v.roots.length),j≠k->w.roots[j].phase=0->v.roots[j]=w.roots[j])/\Wwm w v (WhX s k) k i w.roots[k] v.roots[k])\/
  (k<i/\w.roots[k].phase≠0/\v.roots[k].phase=8/\(v.token=0\/∃(j:Nat) (h:j<w.roots.length) (h':j<v.roots.length),j<i/\j≠k/\v.token=(j:Int)+1/\v.roots[j].phase=0/\w.roots[j].phase≠8))
theorem Rd.refl:Rd s w w 0:=
 ⟨rfl,λ_ _ _ _=>rfl,λj _ _ h=>Wg h (by omega),λh=>.inl ⟨h,λj _ _ h=>Wg h (by omega)⟩,λk h _ ht=>.inl ⟨ht,λ_ _ _ _ _=>rfl,λ_ _ h=>h,λh=>Wg h (by omega)⟩⟩
theorem WeC:∀{l:List Rt} {i:Nat},Wac k l i=false->∃(j:Nat) (h:j<l.length),i+j≠k/\l[j].phase≠0/\l[j].phase≠8
 | [],i,h=>by cases h
 |x::l,i,h=>by
  rw[Wac]at h;by_cases hx:i≠k/\x.phase≠0/\x.phase≠8
  .exact⟨0,by simp,by simpa using hx.1,hx.2.1,hx.2.2⟩
  .have:(decide (i=k)||(decide (x.phase=0)||decide (x.phase=8)))=true:=by
    simp only[Bool.or_eq_true,Wh];by_cases h1:i=k
    .exact .inl h1
    .by_cases h2:x.phase=0
     .exact .inr (.inl h2)
     .by_cases h3:x.phase=8
      .exact .inr (.inr h3)
      .exact Wg ⟨h1,h2,h3⟩ hx
   rw[this,Bool.true_and]at h;obtain⟨j,hj,a,b⟩:=WeC h;exact⟨j+1,by simpa using hj,by omega,by simpa using b⟩
theorem Ws5(h:LX w)(ho:∀(j:Nat) (hj:j<w.roots.length),j≠k->w.roots[j].phase=0\/w.roots[j].phase=8):∀e∈w.holds,e.1=(k:Int)+1:=λe he=>by
 obtain⟨j,hj,e1⟩:=h.hd e he;by_cases dU:j=k
 .subst dU;exact e1
 .have:=(h.root j hj).hd e he e1;rcases ho j hj dU with h0|h8
  .exact Wg h0 this.1
  .exact Wg h8 this.2
theorem Rd.step(h0:WI s n w)(hv:∃n',n'<=99999/\WI s n' v)(hR:Rd s w v i)(hi:i<w.roots.length):Rd s w (WuW s i v) (i+1):=by
 obtain⟨n',xo,hV⟩:=hv;have az:=hR.len;have tX:i<v.roots.length:=by omega
 obtain⟨y,hy,hB⟩:=WwB hV tX xo;change BK v (WuW s i v) i (WhX s i) v.roots[i] y at hB;have xi:=hR.rest i hi tX (Xn _);have xh:=(hV.ok.root i tX).phase;have jv:=hV.lx.tk;have hUl:=(hV.blk (k:=i)).lx;generalize WuW s i v=u at*;have hlu:u.roots.length=v.roots.length:=by rw[hy,Xab]
 have hg:∀(j:Nat) (h:j<u.roots.length) (h':j<v.roots.length),u.roots[j]=if i=j then y else v.roots[j]:=λj h h'=>by
  simp only[hy,Xao]
 have nR:∀(h:i<u.roots.length),u.roots[i]=y:=λh=>by rw[hg i h tX,Wb rfl]
 have mX:∀(j:Nat) (h:j<u.roots.length) (h':j<v.roots.length),j≠i->u.roots[j]=v.roots[j]:=λj h h' hne=>by rw[hg j h h',Wa (λe=>hne e.symm)]
 rw[xi]at hB;have hRJ:RJ w (WhX s i) i w.roots[i] y:=by
  refine⟨hB.done,λkx=>?_,hB.live⟩;rcases hB.idle kx with⟨e,_⟩|⟨e1,e2,e3,e4,e5⟩
  .exact .inl e
  .refine .inr ⟨e1,e2,e3,?_⟩;rcases e5 with⟨_,e5⟩|⟨e5,_⟩
   .exact .inl e5
   .right;by_cases lu:w.token=0
    .rcases hR.tk0 lu with⟨a,_⟩|⟨k,a1,a2,a3,a4,a5,a6⟩
     .omega
     .omega
    .obtain⟨k,hk,ek⟩:=h0.lx.tk.resolve_left lu;rcases hR.tk1 k hk (by omega) ek with⟨a,_⟩|⟨_,_,_,a|⟨j,_,_,a0,_,a,_⟩⟩
     .omega
     .omega
     .omega
 constructor
 .omega
 .intro j h h' hij;rw[mX j h' (by omega) (by omega)];exact hR.rest j h (by omega) (by omega)
 .intro j h h' hij;by_cases hj:j=i
  .subst hj;rw[nR h'];exact hRJ
  .rw[mX j h' (by omega) hj];exact hR.did j h (by omega) (by omega)
 .intro lu;rcases hR.tk0 lu with⟨a,b⟩|⟨k,a1,a2,a3,a4,a5,a6⟩
  .rcases hB.tok with e|⟨e1,e2,e3,e4⟩|⟨e1,_⟩
   .refine .inl ⟨by omega,λj h h' ml hz=>?_⟩;by_cases hj:j=i
    .subst hj;rw[nR h'];rcases hB.idle hz with⟨_,e2,_⟩|⟨e1,_⟩
     .have:=e2 a;omega
     .exact e1
    .rw[mX j h' (by omega) hj];exact b j h (by omega) (by omega) hz
   .exact .inr ⟨i,hi,by omega,by omega,e1,e3,by rw[nR];exact e4⟩
   .omega
  .right;have ll:k≠i:=by omega
   refine⟨k,a1,by omega,by omega,?_,a5,by rw[mX k _ a2 ll];exact a6⟩;rcases hB.tok with e|⟨e1,e2,e3,e4⟩|⟨e1,_⟩
   .omega
   .omega
   .omega
 .intro k hk cu nS;have lw:k<v.roots.length:=by omega
  rcases hR.tk1 k hk lw nS with⟨a,b,c1,c2⟩|⟨a1,a2,a3,a4⟩
  .by_cases lq:i=k
   .subst lq;rw[nR cu];rcases hB.tok with e|⟨_,e2,_⟩|⟨e1,e2,e3⟩
    .refine .inl ⟨by omega,λj h h' hne hz=>by rw[mX j h' (by omega) hne];exact b j h (by omega) hne hz,λh=>Wg h (by omega),λ_=>⟨λhz=>?_,λky hg0=>?_⟩⟩
     .rcases hB.idle hz with⟨f1,_,f3⟩|⟨f1,f2,f3,f4,f5⟩
      .obtain⟨j,hj,j1,j2,j3⟩:=WeC (f3 a);have tY:j<w.roots.length:=by omega
       refine .inl ⟨f1,j,tY,by omega,?_⟩;have aX:=(h0.ok.root j tY).phase;have n0:w.roots[j].phase≠0:=λhz=>j2 (by rw[b j tY hj (by omega) hz];exact hz);have n8:w.roots[j].phase≠8:=λhz=>by
        by_cases ml:j<i
        .have:=(hR.did j tY hj ml).done hz;exact j3 (by rw[this];exact hz)
        .have:=hR.rest j tY hj (by omega);exact j3 (by rw[this];exact hz)
       omega
      .right;rcases f5 with⟨f5,_⟩|⟨_,_,f5,f6⟩
       .omega
       .exact⟨f1,f5,f6⟩
     .have n8:w.roots[i].phase≠8:=λh8=>by
       have:=(hUl.root i cu).tk (by omega);rw[nR cu,hB.done h8]at this;exact this.2 h8
      have uM:=Ws5 (k:=i) hV.lx (λj hj hne=>hV.tx.t2 i lw a (by rw[xi];exact ky) j hj hne);rcases hB.good ky n8 (c1 (Xn _) ky hg0) uM with h8|nW
      .have:=(hUl.root i cu).tk (by omega);rw[nR cu]at this;exact Wg h8 this.2
      .exact nW
    .omega
    .refine .inr ⟨by omega,λhz=>?_,e3,.inl e2⟩;rcases hB.idle hz with⟨f1,_⟩|⟨f1,_⟩
     .rw[f1]at e3;omega
     .omega
   .have ll:k≠i:=λe=>lq e.symm;have jv:u.token=(k:Int)+1:=by
     rcases hB.tok with e|⟨_,e2,_⟩|⟨e1,e2,e3⟩<;>omega
    have hmem:v.roots[k].phase≠0->u.mem=v.mem:=λky=>by
     have:=hV.tx.t2 k lw a ky i tX lq;rw[xi]at this;exact hB.mem (by omega)
    rw[mX k cu lw ll];refine .inl ⟨jv,λj h h' hne hz=>?_,λhle ky hg0=>?_,λhlt=>?_⟩
    .by_cases hj:j=i
     .subst hj;rw[nR h'];rcases hB.idle hz with⟨f1,_⟩|⟨f1,f2,f3,f4,f5⟩
      .exact f1
      .omega
     .rw[mX j h' (by omega) hj];exact b j h (by omega) hne hz
    .have e:=hR.rest k hk lw (by omega);rw[hmem (by rw[e];exact ky)];exact c1 (by omega) ky hg0
    .obtain⟨d1,d2⟩:=c2 (by omega);refine⟨λhz=>?_,λky hg0=>?_⟩
     .rcases d1 hz with d|⟨d3,d4,d5⟩
      .exact .inl d
      .exact .inr ⟨d3,by rw[hmem (by omega)];exact d4,d5⟩
     .obtain⟨d3,d4⟩:=d2 ky hg0;have:=d3.ph;exact⟨by rw[hmem (by omega)];exact d3,d4⟩
  .right;have ll:k≠i:=by omega
   refine⟨by omega,a2,by rw[mX k cu lw ll];exact a3,?_⟩;rcases a4 with a4|⟨j,j1,j2,j3,j4,j5,j6,j7⟩
   .rcases hB.tok with e|⟨e1,e2,e3,e4⟩|⟨e1,e2,e3⟩
    .exact .inl (by omega)
    .exact .inr ⟨i,hi,by omega,by omega,λe=>ll e.symm,e1,by rw[nR];exact e4,by omega⟩
    .omega
   .right;refine⟨j,j1,by omega,by omega,j4,?_,by rw[mX j _ j2 (by omega)];exact j6,j7⟩;rcases hB.tok with e|⟨e1,e2,e3,e4⟩|⟨e1,e2,e3⟩<;>omega
end
section
variable{s:Sc}{w v:Wo}{n:Int}{x y:Rt}{k i:Nat}{p:Pg}
theorem WpM(h0:WI s n w):∀(d i:Nat) (n':Int) (v:Wo),i+d=s.2.1.length->WI s n' v->n'+4*d<=99999->Rd s w v i->Rd s w (Wa0 s d i v) s.2.1.length/\∃m,m<=n'+4*d/\WI s m (Wa0 s d i v)
 |0,i,n',v,hi,hV,hn,hR=>by
  rw[Wa0,show s.2.1.length=i by omega];exact⟨hR,n',by omega,hV⟩
 |d+1,i,n',v,hi,hV,hn,hR=>by
  have A7:=h0.ok.len;have hB:=hR.step h0 ⟨n',by omega,hV⟩ (by omega);have h3:=pk3 hV.ok (i:=i) (by omega);have hW:=hV.blk (k:=i);obtain⟨a,m,hm,b⟩:=WpM h0 d (i+1) _ _ (by omega) hW (by omega) hB;rw[Wa0];exact⟨a,m,by omega,b⟩
def WgR(x:Rt):Bool:=decide (x.phase≠8)
def Wjd(l:List Rt):Int:=(l.countP WgR:Nat)
theorem WrD:∀(l l':List Rt),l'.length=l.length->(∀(j:Nat) (h:j<l.length) (h':j<l'.length),WgR l'[j]=true->WgR l[j]=true)->l'.countP WgR<=l.countP WgR
 | [],[],_,_=>Xn _
 | [],_::_,h,_=>by simp at h
 |_::_,[],h,_=>by simp at h
 |x::l,y::l',h,hp=>by
  have ih:=WrD l l' (by simpa using h) λj h1 h2 hu=>hp (j+1) (by simpa using h1) (by simpa using h2) hu;have h0:WgR y=true->WgR x=true:=hp 0 (by simp) (by simp);rw[Xbt,Xbt];by_cases hy:WgR y=true
  .rw[Wb hy,Wb (h0 hy)];omega
  .rw[Wa hy];omega
theorem Wr1:∀(l l':List Rt),l'.length=l.length->(∀(j:Nat) (h:j<l.length) (h':j<l'.length),WgR l'[j]=true->WgR l[j]=true)->∀(k:Nat) (h:k<l.length) (h':k<l'.length),WgR l[k]=true->WgR l'[k]=false->l'.countP WgR+1<=l.countP WgR
 | [],_,_,_,k,h,_,_,_=>by simp at h
 |_::_,[],h,_,_,_,_,_,_=>by simp at h
 |x::l,y::l',h,hp,k,hk,cu,h1,h2=>by
  have h0:WgR y=true->WgR x=true:=hp 0 (by simp) (by simp);have hq:∀(j:Nat) (h:j<l.length) (h':j<l'.length),WgR l'[j]=true->WgR l[j]=true:=λj h1 h2 hu=>hp (j+1) (by simpa using h1) (by simpa using h2) hu;rw[Xbt,Xbt];cases k with
  |zero=>
   have hx:WgR x=true:=h1;have hy:WgR y=false:=h2;have:=WrD l l' (by simpa using h) hq;rw[Wb hx,hy];simp;omega
  |succ k=>
   have ih:=Wr1 l l' (by simpa using h) hq k (by simpa using hk) (by simpa using cu) h1 h2;by_cases hy:WgR y=true
   .rw[Wb hy,Wb (h0 hy)];omega
   .rw[Wa hy];omega
theorem Wk6{l:List Rt}{k:Nat}(h:k<l.length)(hu:l[k].phase≠8):Wjd (l.set k {phase:=8})+1<=Wjd l:=by
 have:=Wr1 l (l.set k {phase:=8}) (by simp) (λj h1 h2 hu=>by
  rw[Xao]at hu;split at hu
  .cases hu
  .exact hu) k h (by simpa using h) (by unfold WgR;simpa using hu) (by rw[Xep];rfl)
 unfold Wjd;omega
theorem WsO(l:List Rt):0<=Wjd l:=Int.natCast_nonneg _
theorem Wvu{l:List Rt}{k:Nat}(h:k<l.length)(hu:l[k].phase≠8):1<=Wjd l:=by
 have:=Wk6 h hu;have:=WsO (l.set k {phase:=8});omega
theorem Wv1{l:List Rt}{k j:Nat}(h:k<l.length)(hj:j<l.length)(hne:k≠j)(hu:l[k].phase≠8)(hv:l[j].phase≠8):2<=Wjd l:=by
 have:=Wk6 h hu;have:=Wvu (l:=l.set k {phase:=8}) (k:=j) (by simpa using hj) (by rw[Xey hne];exact hv);omega
theorem Wxu{l:List Rt}{k j i:Nat}(h:k<l.length)(hj:j<l.length)(hi:i<l.length)(h1:k≠j)(h2:k≠i)(h3:j≠i)(hu:l[k].phase≠8)(hv:l[j].phase≠8)(hw:l[i].phase≠8):3<=Wjd l:=by
 have:=Wk6 h hu;have:=Wv1 (l:=l.set k {phase:=8}) (k:=j) (j:=i) (by simpa using hj) (by simpa using hi) h3 (by rw[Xey h1];exact hv) (by rw[Xey h2];exact hw);omega
theorem WwS(l:List Rt)(h:l.length<=4):Wjd l<=4:=by
 have:l.countP WgR<=l.length:=List.countP_le_length;unfold Wjd;omega
def tr2(x:Rt):Int:=if x.tries<=2 then 786*(2-x.tries)else 0
def tr3(x:Rt):Int:=if x.tries<=3 then 786*(3-x.tries)else 0
def Bpt(p:Pg)(x:Rt):Int:=if x.phase=0 then tr3 x else if x.phase=8 then 0 else Wv p x+tr2 x
def KP(m:Mm)(p:Pg)(x:Rt)(K:Int):Prop:=(x.phase=0->494<=K)/\(x.phase≠0->Wv p x+494<=K\/(RGd m x/\Wc8 p x<=K))
def ex3(u:Int):Int:=if u>=3 then 808*(u-2)else 0
def ex4(u:Int):Int:=if u>=4 then 808*(u-3)else 0
def exD(u D:Int):Int:=if u>=3 then D else 0
structure Bd(s:Sc)(N:Int)(w:Wo):Prop where
 free:w.token=0->∀(r:Nat) (h:r<w.roots.length),w.roots[r].phase≠8->Bpt (WhX s r) w.roots[r]+495*Wjd w.roots+ex3 (Wjd w.roots)<=N
 held:∀(k:Nat) (h:k<w.roots.length),w.token=(k:Int)+1->∃K D:Int,KP w.mem (WhX s k) w.roots[k] K/\0<=D/\K<=N/\
  (∀(j:Nat) (h:j<w.roots.length),j≠k->1<=w.roots[j].phase->w.roots[j].phase<=7->Wv (WhX s j) w.roots[j]<=D)/\
  ∀(r:Nat) (h:r<w.roots.length),r≠k->w.roots[r].phase≠8->Bpt (WhX s r) w.roots[r]+K+exD (Wjd w.roots) D+495*(Wjd w.roots-1)+ex4 (Wjd w.roots)<=N
theorem Wo0(hp:POk p)(hx:ROk p n x)(ht:RT x):0<=Bpt p x/\Bpt p x<=2380/\(x.phase=0->Bpt p x<=2358)/\(1<=x.phase->x.phase<=7->1<=Bpt p x):=by
 have h8:=WbY hp hx ht;have lT:=hx.tries;have aX:=hx.phase;unfold Bpt tr2 tr3;by_cases h0:x.phase=0
 .rw[Wb h0];split<;>omega
 .rw[Wa h0];by_cases nZ:x.phase=8
  .rw[Wb nZ];omega
  .rw[Wa nZ];have:=h8.2.2 (by omega);split<;>omega
theorem RJ.b{j:Nat}(h:RJ w p j x y)(hp:POk p)(hx:ROk p n x)(ht:RT x)(hw:w.token≠(j:Int)+1):Bpt p y<=Bpt p x/\(1<=x.phase->x.phase<=7->Bpt p y<Bpt p x)/\(y.phase=1->x.phase=0->Bpt p y<Bpt p x):=by
 have h8:=WbY hp hx ht;have lT:=hx.tries;have aX:=hx.phase;have e0:∀z:Rt,z.phase=0->Bpt p z=tr3 z:=λz h=>by unfold Bpt;rw[Wb h]
 have e8:∀z:Rt,z.phase=8->Bpt p z=0:=λz h=>by unfold Bpt;rw[Wa (by omega),Wb h]
 have el:∀z:Rt,1<=z.phase->z.phase<=7->Bpt p z=Wv p z+tr2 z:=λz h h'=>by unfold Bpt;rw[Wa (by omega),Wa (by omega)]
 have tT:=(Wo0 hp hx ht).1;by_cases h0:x.phase=0
 .rcases h.idle h0 with e|⟨e1,e2,e3,e4⟩
  .subst e;exact⟨Xo _,λh=>by omega,λh=>by omega⟩
  .rw[e0 x h0,el y (by omega) (by omega)];have:x.tries<3:=by omega
   unfold tr2 tr3;rw[e3];split<;>split<;>omega
 by_cases nZ:x.phase=8
 .have e:=h.done nZ;subst e;exact⟨Xo _,λ_ h=>by omega,λh=>by omega⟩
 .have hl:=h.live (by omega);have:=h8.2.2 (by omega);rw[el x (by omega) (by omega)];have yI:0<=tr2 x:=by unfold tr2;split<;>omega
  rcases hl with e|⟨e1,e2⟩|⟨e1,e2,e3⟩
  .rw[e8 y e];omega
  .rw[e0 y e1];have:tr3 y=tr2 x:=by unfold tr2 tr3;rw[e2];split<;>split<;>omega
   omega
  .rw[el y e1.1 e1.2];have:tr2 y=tr2 x:=by unfold tr2;rw[e2]
   omega
end
section
variable{s:Sc}{w v:Wo}{n m N:Int}{x y:Rt}{k i:Nat}{p:Pg}
theorem wpg(h:WI s n w){j:Nat}(hj:j<w.roots.length):POk (WhX s j)/\ROk (WhX s j) n w.roots[j]/\RT w.roots[j]:=
 ⟨Wgv h.ok.progs (by rw[←h.ok.len];exact hj),h.ok.root j hj,h.wt.root j hj⟩
theorem Bd.round(h0:WI s n w)(hv:WI s m v)(hR:Rd s w v s.2.1.length)(hb:Bd s N w):Bd s (N-1) v:=by
 have A7:=h0.ok.len;have az:=hv.ok.len;have dB:∀{j:Nat},j<v.roots.length->j<w.roots.length:=λh=>by omega
 have A8:∀{j:Nat},j<w.roots.length->j<v.roots.length:=λh=>by omega
 have hJ:∀(j:Nat) (h:j<v.roots.length),RJ w (WhX s j) j (w.roots[j]'(dB h)) v.roots[j]:=λj h=>hR.did j (dB h) h (by omega);have eN:∀(j:Nat) (h:j<v.roots.length),v.roots[j].phase≠8->(w.roots[j]'(dB h)).phase≠8:=λj h hu hd=>hu (by rw[(hJ j h).done hd];exact hd);have nT:∀(j:Nat) (h:j<w.roots.length) (h':j<v.roots.length),WgR v.roots[j]=true->WgR w.roots[j]=true:=λj h h' hu=>by
  unfold WgR at hu⊢;simp only[Wh]at hu⊢;exact eN j h' hu
 have A9:Wjd v.roots<=Wjd w.roots:=by have:=WrD w.roots v.roots (by omega) nT;unfold Wjd;omega
 have xj:∀(k:Nat) (h:k<v.roots.length),(w.roots[k]'(dB h)).phase≠8->v.roots[k].phase=8->Wjd v.roots+1<=Wjd w.roots:=λk h a b=>by
  have:=Wr1 w.roots v.roots (by omega) nT k (dB h) h (by unfold WgR;simpa using a) (by unfold WgR;simpa using b);unfold Wjd;omega
 have uA:=WwS w.roots (by have:=h0.ok.l4;omega);have hcv0:=WsO v.roots;have hB:∀(j:Nat) (h:j<v.roots.length),w.token≠(j:Int)+1->Bpt (WhX s j) v.roots[j]<=Bpt (WhX s j) (w.roots[j]'(dB h))/\(1<=(w.roots[j]'(dB h)).phase->(w.roots[j]'(dB h)).phase<=7->Bpt (WhX s j) v.roots[j]<Bpt (WhX s j) (w.roots[j]'(dB h)))/\(v.roots[j].phase=1->(w.roots[j]'(dB h)).phase=0->Bpt (WhX s j) v.roots[j]<Bpt (WhX s j) (w.roots[j]'(dB h))):=λj h ht=>by
  obtain⟨a,b,c⟩:=wpg h0 (dB h);exact(hJ j h).b a b c ht
 have hB0:∀(j:Nat) (h:j<w.roots.length),0<=Bpt (WhX s j) w.roots[j]/\(1<=w.roots[j].phase->w.roots[j].phase<=7->1<=Bpt (WhX s j) w.roots[j]):=λj h=>by
  obtain⟨a,b,c⟩:=wpg h0 h;have:=Wo0 a b c;exact⟨this.1,this.2.2.2⟩
 have iO:∀(j:Nat) (h:j<v.roots.length),Wv (WhX s j) v.roots[j]<=808:=λj h=>by
  obtain⟨a,b,c⟩:=wpg hv h;exact(WbY a b c).2.1
 have tZ:∀(k:Nat) (h:k<v.roots.length),v.roots[k].phase=0->KP v.mem (WhX s k) v.roots[k] 494:=λk h hz=>⟨λ_=>Xo _,λh=>Wg hz h⟩;have aX:∀(j:Nat) (h:j<w.roots.length),0<=w.roots[j].phase/\w.roots[j].phase<=8:=λj h=>(h0.ok.root j h).phase;by_cases lu:w.token=0
 .have hF:=hb.free lu;rcases hR.tk0 lu with⟨a,b⟩|⟨k,hk,cu,_,a,b,c⟩
  .refine⟨λ_ r hr hu=>?_,λk hk nU=>by omega⟩;have h1:=hF r (dB hr) (eN r hr hu);obtain⟨g1,g2,g3⟩:=hB r hr (by omega);have hlt:Bpt (WhX s r) v.roots[r]<Bpt (WhX s r) (w.roots[r]'(dB hr)):=by
    by_cases hz:(w.roots[r]'(dB hr)).phase=0
    .exact g3 (b r (dB hr) hr (by omega) hz) hz
    .have:=aX r (dB hr);exact g2 (by omega) (by have:=eN r hr hu;omega)
   unfold ex3 at h1⊢;split at h1<;>split<;>omega
  .have wY:=hF k hk (by omega);have wS:=(hB0 k hk).1;have qT:=Wvu hk (show w.roots[k].phase≠8 by omega);refine⟨λhz=>by omega,λk' mY nU=>?_⟩;have:k'=k:=by omega
   subst this;refine⟨494,808,tZ k' mY c,by omega,?_,λj hj _ _ _=>iO j hj,λr hr hne hu=>?_⟩
   .unfold ex3 at wY;split at wY<;>omega
   .have h1:=hF r (dB hr) (eN r hr hu);have g1:=(hB r hr (by omega)).1;unfold ex3 at h1;unfold exD ex4;split at h1<;>split<;>split<;>omega
 .obtain⟨k,hk,nS⟩:=h0.lx.tk.resolve_left lu;have lw:k<v.roots.length:=A8 hk;obtain⟨K,D,hK,hD0,hKN,hD,hS⟩:=hb.held k hk nS;have ry:w.roots[k].phase≠8:=((h0.lx.root k hk).tk nS).2;have hKP:=hJ k lw;rcases hR.tk1 k hk lw nS with⟨a,b,_,c⟩|⟨_,a1,a2,a3⟩
  .have ua:w.roots[k].phase≠0->1<=w.roots[k].phase/\w.roots[k].phase<=7:=λh=>by have:=aX k hk;omega
   obtain⟨c1,c2⟩:=c (by omega);have Ba:v.roots[k].phase≠8:=((hv.lx.root k lw).tk a).2;refine⟨λhz=>by omega,λk' mY nU=>?_⟩;have:k'=k:=by omega
   subst this;have hBr:∀(r:Nat) (h:r<v.roots.length),r≠k'->_:=λr h hne=>hB r h (by omega);by_cases cx:∃(j:Nat) (h:j<w.roots.length),j≠k'/\1<=w.roots[j].phase/\w.roots[j].phase<=7
   .obtain⟨j,hj,dU,j1,j7⟩:=cx;have hD1:1<=D:=by
     have h1:=hD j hj dU j1 j7;obtain⟨e1,e2,e3⟩:=wpg h0 hj;have:=(WbY e1 e2 e3).2.2 ⟨j1,j7⟩;omega
    have hz:w.roots[k'].phase=0:=by
     apply Classical.byContradiction;intro ky;rcases h0.tx.t2 k' hk nS ky j hj dU with e|e<;>omega
    have ux:2<=Wjd w.roots:=Wv1 hk hj (λe=>dU e.symm) (by omega) (by omega);have hSj:=hS j hj dU (by omega);have hBj:=(hB0 j hj).2 j1 j7;refine⟨K,D-1,?_,by omega,?_,λi hi lq i1 i7=>?_,λr hr hne hu=>?_⟩
    .have hK0:=hK.1 hz;rcases c1 hz with⟨e,_⟩|⟨e1,e2,e3⟩
     .rw[e];exact⟨λ_=>hK0,λh=>Wg hz h⟩
     .exact⟨λh=>by omega,λ_=>.inr ⟨e2,by omega⟩⟩
    .unfold exD ex4 at hSj;split at hSj<;>split at hSj<;>omega
    .have rD:i<w.roots.length:=dB hi;have hzi:w.roots[i].phase≠0:=λh=>by
      have:=b i rD hi lq h;rw[this]at i1;omega
     have h8i:w.roots[i].phase≠8:=eN i hi (by omega);have hp:=aX i rD;have hd:=hD i rD lq (by omega) (by omega);rcases(hJ i hi).live (by omega)with e|⟨e,_⟩|⟨_,_,e⟩
     .omega
     .omega
     .omega
    .have h1:=hS r (dB hr) hne (eN r hr hu);obtain⟨g1,g2,g3⟩:=hBr r hr hne;by_cases hrj:r=j
     .subst hrj;have:=g2 j1 j7;unfold exD ex4 at h1⊢;split at h1<;>split at h1<;>split<;>split<;>omega
     .have xJ:=Wxu hk hj (dB hr) (λe=>dU e.symm) (λe=>hne e.symm) (λe=>hrj e.symm) ry (by omega) (eN r hr hu);unfold exD ex4 at h1⊢;split at h1<;>split at h1<;>split<;>split<;>omega
   .have bQ:∀(j:Nat) (h:j<w.roots.length),j≠k'->w.roots[j].phase=0\/w.roots[j].phase=8:=λj h hne=>by
     have hp:=aX j h;by_cases h1:w.roots[j].phase=0\/w.roots[j].phase=8
     .exact h1
     .exact Wg ⟨j,h,hne,by omega,by omega⟩ cx
    refine⟨K-1,D,?_,hD0,by omega,λi hi lq i1 i7=>?_,λr hr hne hu=>?_⟩
    .by_cases hz:w.roots[k'].phase=0
     .have hK0:=hK.1 hz;rcases c1 hz with⟨_,e⟩|⟨e1,e2,e3⟩
      .exact Wg e cx
      .exact⟨λh=>by omega,λ_=>.inr ⟨e2,by omega⟩⟩
     .have gt:=hKP.live (ua hz);obtain⟨e1,e2,e3⟩:=wpg h0 hk;have h1:=(WbY e1 e2 e3).2.2 (ua hz);by_cases hg:RGd w.mem w.roots[k']
      .obtain⟨d1,d2⟩:=c2 hz hg;have hdp:=d1.ph;refine⟨λh=>by omega,λ_=>?_⟩;rcases hK.2 hz with lG|⟨_,lG⟩
       .rcases gt with e|⟨e,_⟩|⟨_,_,e⟩
        .omega
        .omega
        .exact .inl (by omega)
       .exact .inr ⟨d1,by omega⟩
      .have lG:=(hK.2 hz).resolve_right (λh=>hg h.1);rcases gt with e|⟨e,_⟩|⟨e0,_,e⟩
       .exact Wg e Ba
       .exact⟨λ_=>by omega,λh=>Wg e h⟩
       .exact⟨λh=>by omega,λ_=>.inl (by omega)⟩
    .exfalso;have rD:i<w.roots.length:=dB hi;rcases bQ i rD lq with e|e
     .have:=b i rD hi lq e;rw[this]at i1;omega
     .have:=(hJ i hi).done e;rw[this]at i7;omega
    .have h1:=hS r (dB hr) hne (eN r hr hu);have g1:=(hBr r hr hne).1;unfold exD ex4 at h1⊢;split at h1<;>split at h1<;>split<;>split<;>omega
  .have hK1:1<=K:=by
    obtain⟨e1,e2,e3⟩:=wpg h0 hk;have h1:=(WbY e1 e2 e3).1;rcases hK.2 a1 with h|⟨h,h'⟩
    .omega
    .have:=Wrt e1 e2 e3 h;omega
   have hcl:=xj k lw ry a2;rcases a3 with a3|⟨j,hj,hj',_,dU,a4,a5,a6⟩
   .refine⟨λ_ r hr hu=>?_,λk' cu nU=>by omega⟩;have lR:r≠k:=λe=>by subst e;exact hu a2
    have h1:=hS r (dB hr) lR (eN r hr hu);have g1:=(hB r hr (by omega)).1;unfold exD ex4 at h1;unfold ex3;split at h1<;>split at h1<;>split<;>omega
   .refine⟨λhz=>by omega,λk' mY nU=>?_⟩;have:k'=j:=by omega
    subst this;have hSj:=hS k' hj dU a6;have hBj:=(hB0 k' hj).1;have ux:2<=Wjd w.roots:=Wv1 hk hj (λe=>dU e.symm) ry a6;refine⟨494,808,tZ k' mY a5,by omega,?_,λi hi _ _ _=>iO i hi,λr hr hne hu=>?_⟩
    .unfold exD ex4 at hSj;split at hSj<;>split at hSj<;>omega
    .have lR:r≠k:=λe=>by subst e;exact hu a2
     have h1:=hS r (dB hr) lR (eN r hr hu);have g1:=(hB r hr (by omega)).1;unfold exD ex4 at h1⊢;split at h1<;>split at h1<;>split<;>split<;>omega
theorem Bd.start(h0:WI s n w):Bd s 5976 w:=by
 have uA:=WwS w.roots (by have:=h0.ok.l4;have:=h0.ok.len;omega);have oc:=WsO w.roots;have hBd:∀(j:Nat) (h:j<w.roots.length),_:=λj h=>Wo0 (wpg h0 h).1 (wpg h0 h).2.1 (wpg h0 h).2.2;have iO:∀(j:Nat) (h:j<w.roots.length),Wv (WhX s j) w.roots[j]<=808:=λj h=>(WbY (wpg h0 h).1 (wpg h0 h).2.1 (wpg h0 h).2.2).2.1;refine⟨λ_ r hr hu=>?_,λk hk nU=>?_⟩
 .have:=(hBd r hr).2.1;unfold ex3;split<;>omega
 .by_cases hz:w.roots[k].phase=0
  .refine⟨494,808,⟨λ_=>Xo _,λh=>Wg hz h⟩,by omega,by omega,λj hj _ _ _=>iO j hj,λr hr hne hu=>?_⟩;have:=(hBd r hr).2.1;unfold exD ex4;split<;>split<;>omega
  .have uM:=h0.tx.t2 k hk nU hz;refine⟨1302,0,⟨λh=>Wg h hz,λ_=>.inl (by have:=iO k hk;omega)⟩,by omega,by omega,λj hj hne j1 j7=>?_,λr hr hne hu=>?_⟩
   .rcases uM j hj hne with e|e<;>omega
   .have kM:w.roots[r].phase=0:=(uM r hr hne).resolve_right hu;have:=(hBd r hr).2.2.1 kM;unfold exD ex4;split<;>split<;>omega
theorem Bd.pos(h0:WI s n w)(hb:Bd s N w)(ho:WfR w≠true):1<=N:=by
 have vD:∃(r:Nat) (h:r<w.roots.length),w.roots[r].phase≠8:=by
  apply Classical.byContradiction;intro bQ;apply ho;unfold WfR;rw[Xac];intro z hz;obtain⟨j,hj,he⟩:=Xam hz;by_cases h8:z.phase=8
  .simpa using h8
  .exact Wg ⟨j,hj,by rw[he];exact h8⟩ bQ
 obtain⟨r,hr,hu⟩:=vD;have hBd:∀(j:Nat) (h:j<w.roots.length),_:=λj h=>Wo0 (wpg h0 h).1 (wpg h0 h).2.1 (wpg h0 h).2.2;have qT:=Wvu hr hu;by_cases lu:w.token=0
 .have:=hb.free lu r hr hu;have h1:=(hBd r hr).1;unfold ex3 at this;split at this<;>omega
 .obtain⟨k,hk,nS⟩:=h0.lx.tk.resolve_left lu;obtain⟨K,D,hK,hD0,hKN,hD,hS⟩:=hb.held k hk nS;have:1<=K:=by
   by_cases hz:w.roots[k].phase=0
   .have:=hK.1 hz;omega
   .obtain⟨e1,e2,e3⟩:=wpg h0 hk;have h1:=(WbY e1 e2 e3).1;rcases hK.2 hz with h|⟨h,h'⟩
    .omega
    .have:=Wrt e1 e2 e3 h;omega
  omega
theorem WjC:∀(d:Nat) (n:Int) (w:Wo),WI s n w->n+16*d<=99999->Bd s d w->WfR (WaV s d w).1=true/\(WaV s d w).2<=d/\∃m,WI s m (WaV s d w).1
 |0,n,w,h,hn,hb=>by
  have ho:WfR w=true:=by
   apply Classical.byContradiction;intro ho;have:=hb.pos h ho;omega
  rw[WaV];exact⟨ho,Xn _,n,h⟩
 |d+1,n,w,h,hn,hb=>by
  rw[WaV];by_cases ho:WfR w=true
  .rw[Wb ho];exact⟨ho,Xbk _,n,h⟩
  .rw[Wa ho];have ku:=h.ok.l4;obtain⟨hR,m,hm,hW⟩:=WpM h s.2.1.length 0 n w (by omega) h (by omega) Rd.refl;have hb':=hb.round h hW hR;obtain⟨a,b,c⟩:=WjC d m _ hW (by omega) (by rw[show(d:Int)=((d+1:Nat):Int) -1 by omega];exact hb');exact⟨a,by show _+1<=d+1;omega,c⟩
theorem Bd.mono(h:Bd s n w)(hN:n<=N):Bd s N w:=⟨λh0 r hr hu=>by have:=h.free h0 r hr hu;omega,λk hk nU=>by
 obtain⟨K,D,a,b,c,d,e⟩:=h.held k hk nU;exact⟨K,D,a,b,by omega,d,λr hr hne hu=>by have:=e r hr hne hu;omega⟩⟩
theorem WtC(aJ:WlL s=true):WI s s.2.2.length (Weq s):=by
 have hN:=Wii aJ;have hX:WX (Wer s):=WuP;have hL:=WsF aJ;have hT:WT (Wer s):=Wsn;have h:=Wrf s.2.2 _ _ hN hX hL;exact⟨WlC aJ,(Wnb s.2.2 _ _ hN hX).1,h,Wrh s.2.2 _ _ hN hT,Wsw s.2.2 _ _ hN hX hL Wsi⟩
theorem Wqj(aJ:WlL s=true):WfR (WaV s 6000 (Weq s)).1=true/\(WaV s 6000 (Weq s)).2<=6000/\∃m,WI s m (WaV s 6000 (Weq s)).1:=by
 obtain⟨h1,h2,h3,h4⟩:=Wet aJ;have h:=WtC aJ;exact WjC 6000 _ _ h (by have:=h4;omega) ((Bd.start h).mono (by omega))
end
section
variable{N:Nat}{s:Sc}{w:Wo}{n:Int}
end
section
variable{s:Sc}{w v:Wo}{n m:Int}{x y:Rt}{k i:Nat}{p:Pg}{a:Ac}{N:Nat}{o:Opn}
theorem Wkl:∀(d j:Nat) (w:Wo),∃l:List Ac,l.length=d/\Wcy s k d j w=l.foldl (Wde s) w
 |0,_,w=>⟨[],rfl,rfl⟩
 |d+1,j,w=>by
  obtain⟨l,h,e⟩:=Wkl d (j+1) (Wde s w (2,(k:Int),(j:Int)));exact⟨(2,(k:Int),(j:Int))::l,by simp[h],by rw[Wcy,e];rfl⟩
theorem Wi6:∀(d i:Nat) (w:Wo),(∀j:Nat,j<i+d->(s.2.1.getD j pg0).2.length<=3)->∃l:List Ac,l.length<=4*d/\Wa0 s d i w=l.foldl (Wde s) w
 |0,_,w,_=>⟨[],Xn _,rfl⟩
 |d+1,i,w,h=>by
  obtain⟨l1,h1,e1⟩:=Wkl (s:=s) (k:=i) (s.2.1.getD i pg0).2.length 0 (Wde s w (1,(i:Int),0));obtain⟨l2,h2,e2⟩:=Wi6 d (i+1) (Wcy s i (s.2.1.getD i pg0).2.length 0 (Wde s w (1,(i:Int),0))) (λj hj=>h j (by omega));have h3:=h i (by omega);refine⟨(1,(i:Int),0)::l1++l2,by simp;omega,?_⟩;rw[Wa0,e2,e1,List.cons_append,Xbz,Xeg]
theorem Wiq(hl:s.2.1.length<=4)(h3:∀j:Nat,j<s.2.1.length->(s.2.1.getD j pg0).2.length<=3):∀(d:Nat) (w:Wo),∃l:List Ac,l.length<=16*d/\(WaV s d w).1=l.foldl (Wde s) w
 |0,w=>⟨[],Xbk _,rfl⟩
 |d+1,w=>by
  rw[WaV];split
  .exact⟨[],Xbk _,rfl⟩
  .obtain⟨l1,a1,e1⟩:=Wi6 s.2.1.length 0 w (λj hj=>h3 j (by omega));obtain⟨l2,a2,e2⟩:=Wiq hl h3 d (Wa0 s s.2.1.length 0 w);refine⟨l1++l2,by simp;omega,?_⟩;show(WaV s d (Wa0 s s.2.1.length 0 w)).1=_;rw[e2,e1,Xeg]
theorem Wkg(aJ:WlL s=true):∃l:List Ac,(s.2.2++l).length<=99999/\(WaV s 6000 (Weq s)).1=(s.2.2++l).foldl (Wde s) (Wer s):=by
 obtain⟨h1,h2,h3,h4⟩:=Wet aJ;have hW:=WlC aJ;obtain⟨l,a,e⟩:=Wiq (s:=s) (by omega) (λj hj=>(Wgv hW.progs hj).k3) 6000 (Weq s);refine⟨l,by simp;omega,?_⟩;rw[e,Xeg];rfl
theorem WvJ(h8:x.phase≠8)(hz:(WB w x k p).2.phase=8):(WB w x k p).2.undos= []:=by
 unfold WB at hz⊢;by_cases hd:x.doomed=true/\1<=x.phase/\x.phase<=4
 .rw[Wb hd]at hz;exact Wg (show(6:Int)=8 from hz) (by omega)
 rw[Wa hd]at hz⊢;have cf:∀z:Rt,(WO z).phase≠8:=λz=>WcY.2.2;by_cases h0:x.phase=0
 .rw[Wb h0]at hz;have:(Wdf w x k).2.phase≠8:=by
   unfold Wdf;split
   .exact h8
   .split
    .exact h8
    .split
     .exact h8
     .show(1:Int)≠8;omega
  exact Wg hz this
 rw[Wa h0]at hz⊢;by_cases h1:x.phase=1
 .rw[Wb h1]at hz⊢;have cl:∀out,(Waq w x k out).2.phase=8->(Waq w x k out).2.undos= []:=λout=>by
   unfold Waq;simp only;generalize (if out=2 then []else x.writes)=rows;split
   .exactλ_=>rfl
   .intro h;exact Wg (show(5:Int)=8 from h) (by omega)
  revert hz;unfold Wdy;split
  .exact cl _
  .simp only;generalize opN p.1 x.pc=o;split
   .intro h;exact Wg h (WkF h1).2.2
   .split
    .unfold WbT;split
     .exact cl _
     .split
      .intro h;exact Wg h h8
      .intro h;exact Wg h h8
    .split
     .intro h;exact Wg (show(2:Int)=8 from h) (by omega)
     .split
      .unfold WbR;cases Wa4 w.holds ((k:Int)+1) (WaK o).1 (WaK o).2 with
       |none=>intro h;exact Wg h (cf _)
       |some hs=>intro h;exact Wg h h8
      .repeat' split
       all_goals(intro h;exact Wg h h8)
 rw[Wa h1]at hz⊢;by_cases h2:x.phase=2
 .rw[Wb h2]at hz;have:(WbG x).phase≠8:=by
   unfold WbG;split
   .show(6:Int)≠8;omega
   .split
    .show(1:Int)≠8;omega
    .exact h8
  exact Wg hz this
 rw[Wa h2]at hz⊢;by_cases h3:x.phase=3
 .rw[Wb h3]at hz;have:(Wa3 w x).2.phase≠8:=by
   unfold Wa3;split
   .exact h8
   .show(4:Int)≠8;omega
  exact Wg hz this
 rw[Wa h3]at hz⊢;by_cases h4:x.phase=4
 .rw[Wb h4]at hz;have:(WaH w x).phase≠8:=by
   unfold WaH;simp only;split
   .split
    .show(6:Int)≠8;omega
    .exact h8
   .show(1:Int)≠8;omega
  exact Wg hz this
 rw[Wa h4]at hz⊢;by_cases h5:x.phase=5
 .rw[Wb h5]at hz;have:(W8 w x k).2.phase≠8:=by
   unfold W8;split
   .simp only;split
    .show(6:Int)≠8;omega
    .exact h8
   .show(Wae {x with cm:=(Wq w.mem x.cm).2}).phase≠8;unfold Wae;split
    .show(6:Int)≠8;omega
    .split
     .show(if x.fate=2 then(6:Int)else 7)≠8;split<;>omega
     .exact h8
  exact Wg hz this
 rw[Wa h5]at hz⊢;by_cases h6:x.phase=6
 .rw[Wb h6]at hz;split at hz
  .exact Wg hz h8
  .exact Wg (show(7:Int)=8 from hz) (by omega)
 rw[Wa h6]at hz⊢;by_cases h7:x.phase=7
 .rw[Wb h7]at hz⊢;split at hz
  .exact Wg (show(0:Int)=8 from hz) (by omega)
  .rw[Wa ‹_›];rfl
 .rw[Wa h7]at hz;exact Wg hz h8
def DX(w:Wo):Prop:=∀(k:Nat) (h:k<w.roots.length),w.roots[k].phase=8->w.roots[k].undos= []
theorem Ws4{q:Wo×Rt}{w0:Wo}(hx:DX w0)(hr:q.1.roots=w0.roots)(hq:q.2.phase=8->q.2.undos= []):DX (Wo.put q k):=λi hi=>by
 change i<(q.1.roots.set k q.2).length at hi;have dZ:i<w0.roots.length:=by rw[Xab,hr]at hi;exact hi
 show((q.1.roots.set k q.2)[i]'hi).phase=8->((q.1.roots.set k q.2)[i]'hi).undos= [];rw[Xao];split
 .exact hq
 .simp only[hr];exact hx i dZ
theorem Wvz(h:WOk s.2.1 n w)(hx:DX w):DX (Wde s w a):=by
 have cy:DX {w with now:=w.now+1}:=hx;unfold Wde;simp only;split
 .rename_i hb;have hk:a.2.1.toNat<w.roots.length:=by omega
  rw[Wn hk];split
  .unfold Wid;rw[Wn (show a.2.1.toNat<({w with now:=w.now+1}:Wo).roots.length from hk)];refine Ws4 (w0:={w with now:=w.now+1}) cy (WhJ h hk) λhz=>?_;by_cases h8:w.roots[a.2.1.toNat].phase=8
   .have:=(WlA (w:={w with now:=w.now+1}) (x:=w.roots[a.2.1.toNat]) (k:=a.2.1.toNat) (p:=s.2.1.getD a.2.1.toNat pg0)).done h8;change (WB {w with now:=w.now+1} w.roots[a.2.1.toNat] a.2.1.toNat (s.2.1.getD a.2.1.toNat pg0)).2.undos= [];rw[this];exact hx _ hk h8
   .exact WvJ h8 hz
  .split
   .split
    .exact Ws4 (w0:={w with now:=w.now+1}) cy rfl (λhz=>hx _ hk hz)
    .exact cy
   .split
    .split
     .exact Ws4 (w0:={w with now:=w.now+1}) cy rfl (λhz=>hx _ hk hz)
     .exact cy
    .exact cy
 .exact cy
theorem WsT:∀(l:List Ac) (n:Int) (w:Wo),WOk s.2.1 n w->DX w->DX (l.foldl (Wde s) w)
 | [],n,w,h,hx=>hx
 |a::l,n,w,h,hx=>WsT l (n+1) _ (WcH (a:=a) h) (Wvz (a:=a) h hx)
structure Rest(w:Wo):Prop where
 done:∀x∈w.roots,x.phase=8
 mem:W0 w.mem=true
 own:∀c∈w.mem.2,c.2.2=0
 holds:w.holds= []
 token:w.token=0
 undos:∀x∈w.roots,x.undos= []
theorem Wu9(h:WI s n w)(hd:DX w)(ho:WfR w=true):Rest w:=by
 have h8:∀(k:Nat) (h:k<w.roots.length),w.roots[k].phase=8:=λk hk=>by
  unfold WfR at ho;rw[Xac]at ho;simpa using ho _ (Xp hk)
 have nZ:∀x∈w.roots,x.phase=8:=λx hx=>by
  obtain⟨j,hj,e⟩:=Xam hx;rw[←e];exact h8 j hj
 obtain⟨m8,_,_,_⟩:=Wz h.ok.mem;refine⟨nZ,h.ok.mem,λc hc=>?_,?_,?_,λx hx=>?_⟩
 .obtain⟨j,hj,e⟩:=Xam hc;have qD:owner w.mem (j:Int)=w.mem.2[j].2.2:=by unfold owner Ws Wbu;rw[Xj,Wn hj]
  rw[←e,←qD];rcases h.lx.ow (j:Int) (by omega) (by omega)with e|⟨k,hk,e⟩
  .exact e
  .exact Wg e ((h.lx.root k hk).no (by rw[h8 k hk];omega) (j:Int) (by omega) (by omega))
 .cases hh:w.holds with
  |nil=>rfl
  |cons e l=>
   obtain⟨k,hk,e1⟩:=h.lx.hd e (by rw[hh];exact Xh ..);exact Wg (h8 k hk) ((h.lx.root k hk).hd e (by rw[hh];exact Xh ..) e1).2
 .rcases h.lx.tk with e|⟨k,hk,e⟩
  .exact e
  .exact Wg (h8 k hk) ((h.lx.root k hk).tk e).2
 .obtain⟨j,hj,e⟩:=Xam hx;rw[←e];exact hd j hj (h8 j hj)
theorem WqC(aJ:WlL s=true):Rest (WaV s 6000 (Weq s)).1/\WfR (WaV s 6000 (Weq s)).1=true/\(WaV s 6000 (Weq s)).2<=6000/\∃m,WI s m (WaV s 6000 (Weq s)).1:=by
 obtain⟨a,b,m,c⟩:=Wqj aJ;obtain⟨l,_,e⟩:=Wkg aJ;have hd:DX (WaV s 6000 (Weq s)).1:=by
  rw[e];exact WsT _ 0 _ (Wii aJ) λk h h8=>by simp[Wer]
 exact⟨Wu9 c hd a,a,b,m,c⟩
end
section
variable{b:Int->Int}{s:Sc}{w v:Wo}{n:Int}{x y:Rt}{k:Nat}{d:KPg}{D:Nat->KPg}{a:Ac}
structure KW(b:Int->Int)(D:Nat->KPg)(w:Wo):Prop where
 root:∀(k:Nat) (h:k<w.roots.length),KR b w.mem w.hist (WcK w.roots) (D k) k w.roots[k]
 hist:∀h∈w.hist,∃(k:Nat) (a:Int),k<w.roots.length/\h.2.1=(k:Int)+1/\pick h.2.2 0=some ((D k).f a)/\RC b w.mem w.hist (WcK w.roots) (h.1-1) 0 a
 cnt:∀(k:Nat) (h:k<w.roots.length),(cmK w.roots[k]->w.hist.countP (λh=>decide (h.2.1=(k:Int)+1))=1)/\(¬cmK w.roots[k]->w.hist.countP (λh=>decide (h.2.1=(k:Int)+1))=0)
 dist:w.hist.Pairwise λa c=>a.1≠c.1
theorem Wwi{q:Wo×Rt}(ok:∀i,i<w.roots.length->KPgOk (D i))(h:KW b D w)(hk:k<w.roots.length)(hr:q.1.roots=w.roots)(hK:Keep b w.mem w.hist (WcK w.roots) q.1.mem q.1.hist (Wdw (WcK w.roots) k (cmX q.2)))(hm:Mono b w.mem w.hist q.1.mem q.1.hist)(h1:w.mem.1<=q.1.mem.1)(hq:QK b w w.roots[k] k (D k) q (Wdw (WcK w.roots) k (cmX q.2))):KW b D (Wo.put q k):=by
 have hlen:(q.1.roots.set k q.2).length=w.roots.length:=by rw[Xab,hr]
 have ie:WcK (Wo.put q k).roots=Wdw (WcK w.roots) k (cmX q.2):=by
  show WcK (q.1.roots.set k q.2)=_;rw[hr,WgK hk]
 have bt:∀(i:Nat) (hi:i<w.roots.length),(q.1.roots.set k q.2)[i]'(by rw[hlen];exact hi)=if k=i then q.2 else w.roots[i]:=λi hi=>by
  rw[Xao];simp only[hr]
 obtain⟨q2,q3⟩:=hq;have cC:∀e∈w.hist,e∈q.1.hist:=λe he=>by
  rcases q3 with⟨g,_⟩|⟨_,_,_,g,_⟩<;>rw[g]
  .exact he
  .exact List.mem_append_left _ he
 refine⟨λi hi=>?_,λe he=>?_,λi hi=>?_,?_⟩
 .change i<(q.1.roots.set k q.2).length at hi;have dZ:i<w.roots.length:=by rw[←hlen];exact hi
  rw[ie];show KR b q.1.mem q.1.hist _ (D i) i ((q.1.roots.set k q.2)[i]'hi);rw[bt i dZ];by_cases e:k=i
  .subst e;rw[Wb rfl];exact q2
  .rw[Wa e];exact(h.root i dZ).keep (ok i dZ) hK.2 hm h1 cC
 .rw[ie];show∃(j:Nat) (a:Int),j<(q.1.roots.set k q.2).length/\_;rw[hlen];have old:e∈w.hist->∃(j:Nat) (a:Int),j<w.roots.length/\e.2.1=(j:Int)+1/\pick e.2.2 0=some ((D j).f a)/\RC b q.1.mem q.1.hist (Wdw (WcK w.roots) k (cmX q.2)) (e.1-1) 0 a:=λhe=>by
   obtain⟨j,a,e1,e2,e3,e4⟩:=h.hist e he;exact⟨j,a,e1,e2,e3,hK.2 _ _ _ e4⟩
  change e∈q.1.hist at he;rcases q3 with⟨g1,g2⟩|⟨a,wv,l,g1,g2,g3,g4,g5,g6⟩
  .rw[g1]at he;exact old he
  .rw[g1]at he;rcases List.mem_append.1 he with he|he
   .exact old he
   .rw[Xaf]at he;subst he;exact⟨k,a,hk,rfl,g2,g3⟩
 .change i<(q.1.roots.set k q.2).length at hi;have dZ:i<w.roots.length:=by rw[←hlen];exact hi
  show(cmK ((q.1.roots.set k q.2)[i]'hi)->List.countP (λh=>decide (h.2.1=(i:Int)+1)) q.1.hist=1)/\(¬cmK ((q.1.roots.set k q.2)[i]'hi)->List.countP (λh=>decide (h.2.1=(i:Int)+1)) q.1.hist=0);rw[bt i dZ];obtain⟨o1,o2⟩:=h.cnt i dZ;rcases q3 with⟨g1,g2⟩|⟨a,wv,l,g1,g2,g3,g4,g5,g6⟩
  .rw[g1];by_cases e:k=i
   .subst e;rw[Wb rfl,g2];exact⟨o1,o2⟩
   .rw[Wa e];exact⟨o1,o2⟩
  .rw[g1,List.countP_append,List.countP_singleton];by_cases e:k=i
   .subst e;rw[Wb rfl];simp only[decide_true,Wav];exact⟨λ_=>by rw[o2 g4],λz=>Wg g5 z⟩
   .rw[Wa e];have:decide ((k:Int)+1=(i:Int)+1)=false:=Wx (by omega);simp only[this,Xbg,Waw,Xax];exact⟨o1,o2⟩
 .show q.1.hist.Pairwise λa c=>a.1≠c.1;rcases q3 with⟨g1,g2⟩|⟨a,wv,l,g1,g2,g3,g4,g5,g6⟩
  .rw[g1];exact h.dist
  .rw[g1,List.pairwise_append];refine⟨h.dist,List.pairwise_singleton ..,λe he e' jO=>?_⟩;rw[Xaf]at jO;subst jO;exact g6 e he
theorem WrE(h:KW b D w)(hk:k<w.roots.length)(hb:KR b w.mem w.hist (WcK w.roots) (D k) k y)(hc:cmX y=cmX w.roots[k])(hi:cmK y↔cmK w.roots[k]):KW b D (Wo.put ({w with now:=w.now+1},y) k):=by
 have hs:Wdw (WcK w.roots) k (cmX y)=WcK w.roots:=by
  rw[hc,←Wk2 hk];funext j;unfold Wdw;split
  .rename_i e;rw[e]
  .rfl
 have ie:WcK (w.roots.set k y)=WcK w.roots:=by rw[WgK hk,hs]
 refine⟨λi hi=>?_,λe he=>?_,λi gI=>?_,h.dist⟩
 .change i<(w.roots.set k y).length at hi;have dZ:i<w.roots.length:=by rw[Xab]at hi;exact hi
  show KR b w.mem w.hist (WcK (w.roots.set k y)) (D i) i ((w.roots.set k y)[i]'hi);rw[ie,Xao];by_cases e:k=i
  .subst e;rw[Wb rfl];exact hb
  .rw[Wa e];exact h.root i dZ
 .obtain⟨j,a,e1⟩:=h.hist e he;show∃(j:Nat) (a:Int),j<(w.roots.set k y).length/\_/\_/\RC b w.mem w.hist (WcK (w.roots.set k y)) _ _ _;rw[ie,Xab];exact⟨j,a,e1⟩
 .change i<(w.roots.set k y).length at gI;have dZ:i<w.roots.length:=by rw[Xab]at gI;exact gI
  show(cmK ((w.roots.set k y)[i]'gI)->_)/\(¬cmK ((w.roots.set k y)[i]'gI)->_);rw[Xao];by_cases e:k=i
  .subst e;rw[Wb rfl,hi];exact h.cnt k dZ
  .rw[Wa e];exact h.cnt i dZ
theorem Wnz(h:KW b D w):KW b D {w with now:=w.now+1}:=⟨h.root,h.hist,h.cnt,h.dist⟩
structure KA(b:Int->Int)(D:Nat->KPg)(s:Sc)(n:Int)(w:Wo):Prop where
 wi:WI s n w
 mi:MI b w.mem w.hist (WcK w.roots)
 kw:KW b D w
theorem WvE(hD:∀k,k<s.2.1.length->KPgOk (D k)/\s.2.1.getD k pg0=(D k).p)(h:KA b D s n w)(hn:n<=99999):KA b D s (n+1) (Wde s w a):=by
 have hW:=h.wi;refine⟨hW.act a,(Wr9 hW.ok hW.lx hW.wx hW.wt (by omega) h.mi).1,?_⟩;have hlen:=hW.ok.len;have ku:=hW.ok.l4;have bR:w.mem.1<1000000:=by have:=hW.wt.clk;have:=hW.ok.now;omega
 have hcl:CL2 w.mem (WcK w.roots):=WsL hW.ok hW.lx;unfold Wde;simp only;split
 .rename_i hb;have hk:a.2.1.toNat<w.roots.length:=by omega
  rw[Wn hk];generalize a.2.1.toNat=k at*;obtain⟨d1,d2⟩:=hD k (by omega);rw[d2];have hx:=hW.ok.root k hk;rw[d2]at hx;split
  .unfold Wid;rw[Wn (show k<({w with now:=w.now+1}:Wo).roots.length from hk)];have hr:=WhJ hW.ok hk;rw[d2]at hr;have ju:=WpO (p:=(D k).p) hW.ok hW.lx hW.wx hW.wt (by omega) h.mi hk rfl hr;unfold Wut at ju;change Keep b w.mem w.hist (WcK w.roots) (WB {w with now:=w.now+1} w.roots[k] k (D k).p).1.mem (WB {w with now:=w.now+1} w.roots[k] k (D k).p).1.hist (WcK ((WB {w with now:=w.now+1} w.roots[k] k (D k).p).1.roots.set k (WB {w with now:=w.now+1} w.roots[k] k (D k).p).2))at ju;rw[hr,WgK hk]at ju;have vy:=Wtz (b:=b) (p:=(D k).p) hW.ok hW.wx hk rfl;have h1:w.mem.1<=(WB {w with now:=w.now+1} w.roots[k] k (D k).p).1.mem.1:=(Wtk (n:=n) (hW.wx k hk) hx ⟨hW.ok.mem,hW.ok.shelf,hW.ok.holds⟩ (w:={w with now:=w.now+1}) (k:=k) ⟨(hW.lx.root k hk).cm,(hW.lx.root k hk).no,(hW.lx.root k hk).hd,(hW.lx.root k hk).tk⟩).clk;have aH:=Wv3 (w:={w with now:=w.now+1}) (C:=WcK w.roots) (C':=Wdw (WcK w.roots) k (cmX (WB {w with now:=w.now+1} w.roots[k] k (D k).p).2)) (k:=k) d1 (h.kw.root k hk) h.mi hcl hW.ok.mem bR hx (hW.wt.root k hk) (λh5=>by rw[Wk2 hk];unfold cmX;rw[Wb h5]) (hW.wx k hk) ju.2;exact Wwi (w:={w with now:=w.now+1}) (q:=WB {w with now:=w.now+1} w.roots[k] k (D k).p) (λi hi=>(hD i (by have:i<w.roots.length:=hi;omega)).1) (Wnz h.kw) hk hr ju vy h1 aH
  .have jJ:=h.kw.root k hk;split
   .split
    .rename_i hc;have h2:=hc.1;have hF:=((hx.live (by omega)).fork h2).2.2;have hrun:=d1.kid (j:=a.2.2.toNat) h2 (jJ.run (.inr h2)) hF h.mi hcl (by omega) (by omega);have bQ:∀y:Rt,y.phase=2->¬cmK y:=λy e=>Wtm e (by omega) (by omega) (by omega);refine WrE h.kw hk ⟨jJ.mrk,jJ.un,jJ.ph,λ_=>hrun,λz=>?_,λz=>?_,λz=>?_,λz=>?_,λz=>Wg z (bQ _ h2)⟩ ?_ ⟨λz=>Wg z (bQ _ h2),λz=>Wg z (bQ _ h2)⟩
     ·(change w.roots[k].phase=5 at z;omega)
     ·(change w.roots[k].phase=6 at z;omega)
     ·(change w.roots[k].phase=7 at z;omega)
     ·(change w.roots[k].phase=8 at z;omega)
     .rfl
    .exact Wnz h.kw
   .split
    .split
     .exact WrE (y:={w.roots[k]with doomed:=true}) h.kw hk ⟨jJ.mrk,jJ.un,jJ.ph,λz=>d1.doom (jJ.run z),jJ.cm,jJ.f6,jJ.f7,jJ.f8,jJ.gd⟩ rfl Iff.rfl
     .exact Wnz h.kw
    .exact Wnz h.kw
 .exact Wnz h.kw
theorem WsE(hD:∀k,k<s.2.1.length->KPgOk (D k)/\s.2.1.getD k pg0=(D k).p):∀(l:List Ac) (n:Int) (w:Wo),KA b D s n w->n+l.length<=99999->KA b D s (n+l.length) (l.foldl (Wde s) w)
 | [],n,w,h,_=>by simpa using h
 |e::l,n,w,h,hn=>by
  simp only[Xs]at hn
  push_cast at hn
  have:=WsE hD l (n+1) _ (WvE (a:=e) hD h (by omega)) (by omega);rw[show n+((e::l).length:Int)=n+1+(l.length:Int) by simp;omega];exact this
end
section
abbrev BSt:=List Int×List Rw×List Rw
structure BD where
 p:Pg
 st:Int->Int->Nat->BSt
 len:Nat
 wr:Bool
structure BDok(d:BD):Prop where
 pl:d.p.1.length=d.len
 l2:2<=d.len
 o0:opN d.p.1 0=(5,0,0,0)
 o1:opN d.p.1 1=(5,1,1,0)
 h0:∀a c,d.st a c 0=([0,0,0,0],[],[])
 h1:∀a c,d.st a c 1=([a,0,0,0],[(0,a)],[])
 h2:∀a c,d.st a c 2=([a,c,0,0],[(0,a),(1,c)],[])
 hr:∀a c pc,2<=pc->pc<=d.len->(d.st a c pc).2.1= [(0,a),(1,c)]
 hc:∀(w:Wo) (x:Rt) (k:Nat) (a c:Int) (pc:Nat),2<=pc->pc<d.len->x.pc=pc->x.regs=(d.st a c pc).1->x.writes=(d.st a c pc).2.2->Wdy w x k d.p=(w,{x with regs:=(d.st a c (pc+1)).1,writes:=(d.st a c (pc+1)).2.2,pc:=x.pc+1})
 nw:∀a c,d.wr=false->(d.st a c d.len).2.2= []
 yw:∀a c,d.wr=true->∃u v,(d.st a c d.len).2.2= [(0,u),(1,v)]/\(0<=u/\u<=65535)/\0<=v/\v<=65535
variable{b:Int->Int}{s:Sc}{w v:Wo}{n:Int}{x y:Rt}{k:Nat}{m m':Mm}{H H':List Wr}{C C':Nat->Option Cm}{d:BD}{a c:Int}
theorem Wwj(ha:0<=a/\a<=65535)(hc:0<=c/\c<=65535):Wco [(0,a),(1,c)]= [(0,a),(1,c)]:=by
 have hr:Wa9 [(0,a),(1,c)]=true:=by
  unfold Wa9 Wlr Waf Wbj;simp;omega
 have e:∀i:Int,Wbg [(0,a),(1,c)] i=if i=1 then some c else if i=0 then some a else none:=λi=>by
  unfold Wbg;rw[Wb hr];show WcB [(0,a),(1,c)] i 2=_;unfold WcB;show(if(1:Int)=i then some c else WcB [(0,a),(1,c)] i 1)=_;unfold WcB;show(if(1:Int)=i then some c else if(0:Int)=i then some a else WcB [(0,a),(1,c)] i 0)=_;unfold WcB;by_cases h1:i=1
  .rw[Wb h1.symm,Wb h1]
  .rw[Wa (λh=>h1 h.symm),Wa h1];by_cases h0:i=0
   .rw[Wb h0.symm,Wb h0]
   .rw[Wa (λh=>h0 h.symm),Wa h0]
 rw[Wiv];simp only[e];rfl
structure BR(b:Int->Int)(m:Mm)(H:List Wr)(C:Nat->Option Cm)(d:BD)(x:Rt):Prop where
 mrk:x.marks= []
 un:x.undos= []
 ph:x.phase=0\/x.phase=1\/x.phase=5\/x.phase=6\/x.phase=7\/x.phase=8
 run:x.phase=1->∃(a c:Int) (pc:Nat),pc<=d.len/\x.pc=pc/\x.regs=(d.st a c pc).1/\x.reads=(d.st a c pc).2.1/\x.writes=(d.st a c pc).2.2/\(1<=pc->RC b m H C x.rv 0 a)/\(2<=pc->RC b m H C x.rv 1 c)/\PBs b m H x/\(x.busy=true->pc<=1/\x.pb.1=pc)/\(0<=x.rv/\x.rv<=m.1)
 cm:x.phase=5->d.wr=true/\x.fate=1/\∃a c:Int,x.cm.puts=(d.st a c d.len).2.2/\x.cm.reads= [0,1]/\RC b m H C x.cm.rv 0 a/\RC b m H C x.cm.rv 1 c/\0<=x.cm.rv/\(x.cm.phase=3->x.cm.rv<x.cm.wv/\(1<=x.cm.pos->RC b m H C (x.cm.wv-1) 0 a))
 f6:x.phase=6->x.fate=0
 f7:x.phase=7->x.fate=0\/(x.fate=1/\d.wr=true)
 f8:x.phase=8->x.fate=1/\(d.wr=false->∃a c:Int,x.regs=(d.st a c d.len).1/\RC b m H C x.rv 0 a/\RC b m H C x.rv 1 c)
theorem BR.keep(h:BR b m H C d x)(hK:∀v i x,RC b m H C v i x->RC b m' H' C' v i x)(hm:Mono b m H m' H')(h1:m.1<=m'.1):BR b m' H' C' d x:=by
 refine⟨h.mrk,h.un,h.ph,λiQ=>?_,λh5=>?_,h.f6,h.f7,λh8=>?_⟩
 .obtain⟨a,c,pc,e1,e2,e3,e4,e5,e6,e7,e8,e9,lS⟩:=h.run iQ;exact⟨a,c,pc,e1,e2,e3,e4,e5,λz=>hK _ _ _ (e6 z),λz=>hK _ _ _ (e7 z),e8.mono hm,e9,by omega⟩
 .obtain⟨e0,Bb,a,c,e1,e2,e3,e4,e5,e6⟩:=h.cm h5;exact⟨e0,Bb,a,c,e1,e2,hK _ _ _ e3,hK _ _ _ e4,e5,λz=>⟨(e6 z).1,λy=>hK _ _ _ ((e6 z).2 y)⟩⟩
 .obtain⟨e1,e2⟩:=h.f8 h8;exact⟨e1,λz=>by
   obtain⟨a,c,f1,f2,f3⟩:=e2 z;exact⟨a,c,f1,hK _ _ _ f2,hK _ _ _ f3⟩⟩
end
section
variable{b:Int->Int}{s:Sc}{w v:Wo}{n:Int}{x y:Rt}{k:Nat}{m m':Mm}{H H':List Wr}{C C':Nat->Option Cm}{d:BD}{a c:Int}
end
section
variable{b:Int->Int}{s:Sc}{w v:Wo}{n:Int}{x y:Rt}{k:Nat}{m m':Mm}{H H':List Wr}{C C':Nat->Option Cm}{d:BD}{a c:Int}
end
section
variable{b:Int->Int}{s:Sc}{w v:Wo}{n:Int}{x y:Rt}{k:Nat}{m m':Mm}{H H':List Wr}{C C':Nat->Option Cm}{d:BD}{D:Nat->BD}{a:Ac}
end
section
theorem Wri{N:Nat}{code:List Int}(hw:∀x∈code,0<=x/\x<=255)(hl:code.length<=1048576){i:Nat}(hi:i<=1000):∃v,Znw N code (i:Int)=ret v/\0<=v/\v<=255:=by
 unfold Znw;by_cases h:i<code.length
 .have hx:=hw _ (Xp h);refine⟨code[i],?_,hx⟩;simp only[Wat h,WC h,WJ h,Wc];rw[wrap_i64 (by unfold I64;omega)]
 .have e:decide ((i:Int)<Wj code)=false:=by simp[Wj];omega
  have m1:Wgb .i64 (i:Int) 37=(i:Int)*37:=WdO (by unfold I64;omega);have m2:Wgb .i64 (Wj code) 11=(code.length:Int)*11:=WdO (by unfold I64 Wj;omega);have m3:Wm .i64 ((i:Int)*37) ((code.length:Int)*11)=(i:Int)*37+(code.length:Int)*11:=WL (by unfold I64;omega);rw[e,m1,m2,m3];refine⟨_,rfl,?_⟩;have:Whx ((i:Int)*37+(code.length:Int)*11) 256=((i:Int)*37+(code.length:Int)*11)%256:=by unfold Whx;exact Int.tmod_eq_emod_of_nonneg (by omega)
  rw[this];omega
end
section
def trP(n:Int):Pg:=([(5,0,0,0),(5,1,1,0),(1,2,n,0),(3,0,0,2),(2,1,1,2),(6,0,0,0),(6,1,1,0)],[])
def trU(n a:Int):Int:=(a-n+65536)%65536
def Wuf(n c:Int):Int:=(c+n)%65536
def WnE(n a c:Int):Nat->BSt
 |0=>([0,0,0,0],[],[])
 |1=>([a,0,0,0],[(0,a)],[])
 |2=>([a,c,0,0],[(0,a),(1,c)],[])
 |3=>([a,c,n,0],[(0,a),(1,c)],[])
 |4=>([trU n a,c,n,0],[(0,a),(1,c)],[])
 |5=>([trU n a,Wuf n c,n,0],[(0,a),(1,c)],[])
 |6=>([trU n a,Wuf n c,n,0],[(0,a),(1,c)],[(0,trU n a)])
 |_=>([trU n a,Wuf n c,n,0],[(0,a),(1,c)],[(0,trU n a),(1,Wuf n c)])
def trD(n:Int):BD:=⟨trP n,WnE n,7,true⟩
theorem WrX(n:Int):BDok (trD n) where
 pl:=rfl
 l2:=by show 2<=7;omega
 o0:=rfl
 o1:=rfl
 h0:=λ_ _=>rfl
 h1:=λ_ _=>rfl
 h2:=λ_ _=>rfl
 hr:=λa c pc h2 h3=>by
  change pc<=7 at h3;have:pc=2\/pc=3\/pc=4\/pc=5\/pc=6\/pc=7:=by omega
  rcases this with e|e|e|e|e|e<;>subst e<;>rfl
 hc:=λw x k a c pc h2 h3 aL hr hw=>by
  change pc<7 at h3;have hlt:¬x.pc>=((trP n).1.length:Int):=by show¬x.pc>=((7:Nat):Int);omega
  have ly:∀(o:Opn),opN (trP n).1 x.pc=o->1<=o.1->o.1<=4->Wnf o x.regs=(WnE n a c (pc+1)).1->x.writes=(WnE n a c (pc+1)).2.2->Wdy w x k (trP n)=(w,{x with regs:=(WnE n a c (pc+1)).1,writes:=(WnE n a c (pc+1)).2.2,pc:=x.pc+1}):=λo ho h1 h4 er ew=>by
   unfold Wdy;rw[Wa hlt];simp only[ho];rw[Wa (by omega),Wa (by omega),Wa (by omega),Wa (by omega),Wa (by omega),Wa (by omega),Wa (by omega),Wa (by omega),er,←ew]
  have uD:∀(o:Opn),opN (trP n).1 x.pc=o->o.1=6->x.regs=(WnE n a c (pc+1)).1->x.writes++ [(o.2.1,Wbu x.regs o.2.2.1 0)]=(WnE n a c (pc+1)).2.2->Wdy w x k (trP n)=(w,{x with regs:=(WnE n a c (pc+1)).1,writes:=(WnE n a c (pc+1)).2.2,pc:=x.pc+1}):=λo ho h6 er ew=>by
   unfold Wdy;rw[Wa hlt];simp only[ho];rw[Wa (by omega),Wa (by omega),Wa (by omega),Wa (by omega),Wb h6,ew,←er]
  show Wdy w x k (trP n)=(w,{x with regs:=(WnE n a c (pc+1)).1,writes:=(WnE n a c (pc+1)).2.2,pc:=x.pc+1});change x.regs=(WnE n a c pc).1 at hr;change x.writes=(WnE n a c pc).2.2 at hw;have:pc=2\/pc=3\/pc=4\/pc=5\/pc=6:=by omega
  rcases this with e|e|e|e|e<;>subst e
  .exact ly (1,2,n,0) (by rw[aL];rfl) (by simp) (by simp) (by rw[hr];rfl) (by rw[hw];rfl)
  .exact ly (3,0,0,2) (by rw[aL];rfl) (by simp) (by simp) (by rw[hr];rfl) (by rw[hw];rfl)
  .exact ly (2,1,1,2) (by rw[aL];rfl) (by simp) (by simp) (by rw[hr];rfl) (by rw[hw];rfl)
  .exact uD (6,0,0,0) (by rw[aL];rfl) rfl (by rw[hr];rfl) (by rw[hw,hr];rfl)
  .exact uD (6,1,1,0) (by rw[aL];rfl) rfl (by rw[hr];rfl) (by rw[hw,hr];rfl)
 nw:=λ_ _ h=>by cases h
 yw:=λa c _=>⟨trU n a,Wuf n c,rfl,by unfold trU;omega,by unfold Wuf;omega⟩
theorem WwC{n:Int}(h:0<=n/\n<=65535):Wly (trP n)=true:=by
 have hv:Wbj n=true:=WaD.2 h;simp[Wly,Wov,bal,WlU,WnU,Wd1,opd,dep,frk,trP,Waa,Waf,hv,beq]
theorem WwQ{s:Sc}(hc:Vals 8 s.1.1):MI (λi=>s.1.1.getD i.toNat 0) (Wer s).mem (Wer s).hist (WcK (Wer s).roots):=by
 have bQ:∀k c,WcK (Wer s).roots k=some c->False:=λk c h=>by
  obtain⟨hk,h5,_⟩:=Wnu h;have:(Wer s).roots[k].phase=0:=by simp only[Wer,Xbe]
  omega
 refine⟨(λh hh=>by cases hh),λk c h=>Wg h (λh=>bQ k c h),λk k' c c' _ h=>Wg h (λh=>bQ k c h),λi h0 h7 _=>?_,λk c h=>Wg h (λh=>bQ k c h)⟩;have hl:=hc.len;have hi:i.toNat<s.1.1.length:=by omega
 have e:Ws (Wer s).mem i=(s.1.1.getD i.toNat 0,0,0):=by
  unfold Ws Wbu Wer Wkk;simp only;rw[Wn (by simpa using hi),Wn hi,Xej];rfl
 rw[e];exact⟨rfl,rfl⟩
theorem WwN{b i:Int}{H:List Wr}{g1 g2:Wr}{x1 x2:Int}(hH:H= [g1,g2]\/H= [g2,g1])(h1:1<=g1.1)(fv:g1.1<g2.1)(p1:pick g1.2.2 i=some x1)(p2:pick g2.2.2 i=some x2)(v:Int):
  (bst b i v H).2=if v<g1.1 then b else if v<g2.1 then x1 else x2:=by
 have u1:∀r,WhN i v r g1=if g1.1<=v/\r.1<g1.1 then(g1.1,x1)else r:=λr=>by unfold WhN;rw[p1]
 have u2:∀r,WhN i v r g2=if g2.1<=v/\r.1<g2.1 then(g2.1,x2)else r:=λr=>by unfold WhN;rw[p2]
 rcases hH with e|e
 .rw[e];show(WhN i v (WhN i v (0,b) g1) g2).2=_;rw[u1,u2];by_cases a:v<g1.1
  .rw[Wa (λz=>by have:=z.1;omega),Wa (λz=>by have:=z.1;omega),Wb a]
  .rw[Wb (show g1.1<=v/\(0:Int)<g1.1 from⟨by omega,by omega⟩),Wa a];by_cases c:v<g2.1
   .rw[Wa (λz=>by have:=z.1;omega),Wb c]
   .rw[Wb (show g2.1<=v/\g1.1<g2.1 from⟨by omega,fv⟩),Wa c]
 .rw[e];show(WhN i v (WhN i v (0,b) g2) g1).2=_;rw[u2,u1];by_cases a:v<g1.1
  .rw[Wa (λz=>by have:=z.1;omega),Wa (λz=>by have:=z.1;omega),Wb a]
  .rw[Wa a];by_cases c:v<g2.1
   .rw[Wa (show¬(g2.1<=v/\(0:Int)<g2.1)fromλz=>by have:=z.1;omega),Wb (show g1.1<=v/\(0:Int)<g1.1 from⟨by omega,by omega⟩),Wb c]
   .rw[Wb (show g2.1<=v/\(0:Int)<g2.1 from⟨by omega,by omega⟩),Wa (show¬(g1.1<=v/\g2.1<g1.1)fromλz=>by have:=z.2;omega),Wa c]
theorem Wit{p q:Wr->Bool}:∀{H:List Wr},(∀h∈H,p h=true/\q h=false\/p h=false/\q h=true)->H.length=H.countP p+H.countP q
 | [],_=>rfl
 |h::H,hh=>by
  have ih:=Wit λg hg=>hh g (List.mem_cons_of_mem _ hg);rw[Xs,Xbt,Xbt,ih];rcases hh h (Xh ..)with⟨e1,e2⟩|⟨e1,e2⟩<;>rw[e1,e2]<;>simp<;>omega
theorem WqA{N:Nat}{m:Mm}(hm:W0 m=true)(hN:1048576<N):Zdk N m=ret (m.2.map (·.1)):=by
 obtain⟨m8,_,_,_⟩:=Wz hm;unfold Zdk;rw[Wbd (by omega) hN,hm];simp only[ret,Xd,Xx,We];have lp:∀(dd j n:Nat) (l:List Int),j+dd=m.2.length->dd<n->l=(m.2.take j).map (·.1)->
   Zc3 N m.2 (Wj m.2) (λaB aI bn=>(some ((),(bn,())))) n (j:Int) l=(some ((),(m.2.map (·.1),())):Option (Unit×(List Int×Unit))):=by
  intro dd
  induction dd with
  |zero=>
   intro j n l hj hn hl;obtain⟨n,rfl⟩:∃n',n=n'+1:=⟨n-1,by omega⟩;have:j=m.2.length:=by omega
   subst this;simp only[Zc3,WaO (Xn _),We];rw[hl,List.take_length]
  |succ dd ih=>
   intro j n l hj hn hl;obtain⟨n,rfl⟩:∃n',n=n'+1:=⟨n-1,by omega⟩;have hlt:j<m.2.length:=by omega
   have bt:Xc m.2 (Xb (j:Int)) ((0:Int),((0:Int),(0:Int)))=m.2[j]:=WJ hlt _;have ar:WN (l.length+ [m.2[j].1].length)=true:=WE (by rw[hl];simp;omega);simp only[Zc3,Wat hlt,WC hlt,bt,ar,Wt (show j<4611686018427387904 by omega),Wc,Xal];refine ih (j+1) n _ (by omega) (by omega) ?_;rw[hl,List.take_succ_eq_append_getElem hlt,List.map_append];rfl
 exact lp m.2.length 0 N [] (by omega) (by omega) (by simp)
theorem Wv4{α:Type}(a:Option α):Wgc a a=a:=by unfold Wgc;simp
end
section
variable{b:Int->Int}{s:Sc}{w v:Wo}{n:Int}{x y:Rt}{k:Nat}{m m':Mm}{H H':List Wr}{C C':Nat->Option Cm}{a c:Int}{nv:Nat->Int}
def GqF(y:Int)(o r:List Int):Prop:=∃j:Nat,j<3/\o.getLast?=some (j:Int)/\o.length=3/\r.length=4/\r.getD j 0=y
def nvS(nv:Nat->Int):Int:=nv 0+nv 1+nv 2
def WxE(nv:Nat->Int)(b:Int->Int)(m:Mm)(H:List Wr)(C:Nat->Option Cm)(x:Rt):Prop:=
 (0<=x.rv/\x.rv<=m.1)/\((x.phase=1/\x.pc=0/\x.regs= [0,0,0,0]/\x.reads= []/\x.writes= [])\/
  (x.phase=2/\x.pc=0/\x.reads= []/\x.fam.rv=x.rv/\(x.fam.lost=false->KF (RC b m H C x.rv 0) (ZW b m H x.rv) nv x.fam))\/
  (x.phase=1/\x.pc=1/\∃a,RC b m H C x.rv 0 a/\x.reads= [(0,a)]/\x.writes= [(0,ad a (nvS nv))]/\GqF (ad a (nvS nv)) x.order x.regs))
def fkP(nv:Nat->Int):Pg:=([(11,0,0,0)],[kvC (nv 0),kvC (nv 1),kvC (nv 2)])
def fkD(nv:Nat->Int):KPg:=⟨fkP nv,λa=>ad a (nvS nv),WxE nv,GqF⟩
def WxH(b:Int->Int)(m:Mm)(H:List Wr)(C:Nat->Option Cm)(x:Rt):Prop:=
 (0<=x.rv/\x.rv<=m.1)/\x.phase=1/\∃(a c:Int) (pc:Nat),pc<=7/\x.pc=pc/\x.regs=(WnE 0 a c pc).1/\x.reads=(WnE 0 a c pc).2.1/\x.writes=(WnE 0 a c pc).2.2/\(1<=pc->RC b m H C x.rv 0 a)/\(x.busy=true->pc<=1/\ZW b m H x.rv x.pb/\x.pb.1=pc)
def tfD:KPg:=⟨trP 0,λa=>a,WxH,λ_ _ _=>True⟩
theorem Wt4{f:Fm}{j:Nat}{code:List Opn}:(Wbx m f j code).rv=f.rv:=by
 unfold Wbx;split
 .rfl
 .show(Wdu m f _ j code).1.rv=_;unfold Wdu WpB WcL;simp only
  repeat' split
  all_goals first
   |rfl
   |(unfold WdM
     split
     .rfl
     .split
      .split<;>rfl
      .simp only
       repeat' split
       all_goals rfl)
theorem Wws(hn:∀i,0<=nv i/\nv i<=65535):KPgOk (fkD nv) where
 keep:=λ{b m H C m' H' C' x} h hK hm h1=>by
  obtain⟨⟨r1,r2⟩,h⟩:=h;exact⟨⟨r1,by omega⟩,h.imp id λh=>h.imp (λ⟨a,b,c,d,e⟩=>⟨a,b,c,d,λz=>(e z).wk (λ_=>hK _ _ _) λ_ p=>p.mono hm⟩) λ⟨a,b,v,c,d⟩=>⟨a,b,v,hK _ _ _ c,d⟩⟩
 doom:=λh=>h
 start:=λh=>⟨⟨h,Xo _⟩,.inl ⟨rfl,rfl,rfl,rfl,rfl⟩⟩
 step:=λ{b w C x k} h1 gz hu h hM hl bR hr=>by
  obtain⟨di,⟨_,e2,e3,e4,e5⟩|⟨e1,_⟩|⟨_,e2,a,ra,e4,e5,eG⟩⟩:=h
  .refine⟨{x with phase:=2,fam:=War x.rv x.regs x.writes 3},?_,gz,hu,.inr (.inl ⟨.inr rfl,di,.inr (.inl ⟨rfl,e2,e4,rfl,λ_=>?_⟩)⟩)⟩
   .unfold Wdy;have eo:opN (fkD nv).p.1 x.pc=(11,0,0,0):=by rw[e2];rfl
    rw[Wa (by rw[e2];show¬(0:Int)>=((1:Nat):Int);omega)];simp only[eo];rfl
   .have ek:∀j,j<3->(War x.rv x.regs x.writes 3).kids.getD j {}={regs:=x.regs}:=λj hj=>by
     have:j=0\/j=1\/j=2:=by omega
     rcases this with e|e|e<;>subst e<;>rfl
    refine⟨rfl,e3,.inl ⟨rfl,by rw[e5];rfl,rfl,rfl⟩,λj hj=>?_⟩;show KK _ _ _ (War x.rv x.regs x.writes 3) j _;rw[ek j hj];exact⟨rfl,⟨0,0,0,by omega,rfl,e3,rfl,rfl,(λz=>by omega),(λz=>Wg rfl z),λz=>by cases z⟩,(λz=>by cases z),(λz=>by cases z),λ_=>rfl⟩
  .omega
  .refine⟨{x with fate:=1,cm:=Wan ((k:Int)+1) x.rv x.writes x.reads,phase:=5},?_,gz,hu,.inr (.inr ⟨rfl,rfl,?_,a,[],?_,?_,ra,di.1,eG,?_⟩)⟩
   .unfold Wdy;rw[Wb (by rw[e2];show(1:Int)>=((1:Nat):Int);omega)];unfold Waq;simp only;rw[Wa (show¬(1:Int)=2 by omega),Wa (λz=>by have:=z.1;rw[e5]at this;cases this)]
   all_goals
    have n1:Wco x.writes= [(0,ad a (nvS nv))]:=by rw[e5];exact Wv5 (by unfold ad;omega)
    have n2:Wco x.reads= [(0,a)]:=by rw[e4];exact Wv5 (hr (0,a) (by rw[e4];simp)).2
   .show(Wan _ _ _ _).phase=1;unfold Wan;rw[n1];rfl
   .show pick (Wan _ _ _ _).puts 0=_;unfold Wan;rw[n1];rfl
   .show(Wan _ _ _ _).reads=_;unfold Wan;rw[n2];rfl
   .show(Wan _ _ _ _).phase=3->_;unfold Wan;rw[n1];intro z;cases z
 fork:=λ{b m H C x n} h2 gz hu h hF=>by
  obtain⟨di,⟨e1,_⟩|⟨_,e2,e3,e4,e5⟩|⟨e1,_⟩⟩:=h
  .omega
  .unfold WbG;by_cases hl:x.fam.lost=true
   .rw[Wb hl];exact⟨rfl,hu,.inl ⟨rfl,rfl⟩⟩
   .rw[Wa hl];have hK:=e5 (by simpa using hl);by_cases ho:Wa2 x.fam=true
    .rw[Wb ho];have h3:∀j,j<3->(x.fam.kids.getD j {}).phase=3:=λj hj=>by
      have hj':j<x.fam.kids.length:=by have:=hK.len;omega
      unfold Wa2 at ho;rw[Xac]at ho;rw[Wn hj'];simpa using ho _ (Xp hj')
     have hS:kdS nv x.fam=nvS nv:=by
      unfold kdS kdT nvS;rw[Wb (h3 0 (by omega)),Wb (h3 1 (by omega)),Wb (h3 2 (by omega))]
     have Bc:x.fam.order.length=3:=by
      rw[hF.done,←hK.len,List.countP_eq_length];intro q hq;unfold Wa2 at ho;rw[Xac]at ho;exact ho q hq
     have hc:=hF.clock.2;rcases hK.buf with⟨a,_⟩|⟨_,a,j,hA,jC,hb,hj,ch,_,fK,jt⟩
     .omega
     .rw[hS]at hb jt;refine⟨gz,hu,.inr (.inl ⟨.inl rfl,di,.inr (.inr ⟨rfl,by show x.pc+1=1;omega,a,hA,by show x.reads++x.fam.reads=_;rw[e3,jC];rfl,?_,j,hj,ch,Bc,?_⟩)⟩)⟩
      .show WfS x.fam=_;unfold WfS;rw[hb];rfl
      .have kD:=hK.len;have lC:WdD x.fam.regs=true:=by rw[hK.regs];rfl
       have e:Wed x.fam=x.fam.kids.map WmE++ [0]:=by
        unfold Wed;rw[Wb ⟨lC,by omega⟩,kD,hK.regs];rfl
       show(Wed x.fam).length=4/\(Wed x.fam).getD j 0=_;rw[e];refine⟨by rw[List.length_append,Xae,kD];rfl,?_⟩;have hj':j<x.fam.kids.length:=by omega
       rw[Wn hj']at fK jt;rw[Xag,List.getElem?_append_left (by rw[Xae];omega),Xan,Xq hj'];show WmE x.fam.kids[j]=_;have lR:WdD x.fam.kids[j].regs=true:=by
        rw[jt];have:=hn j;unfold WdD Wbj ad;simp;omega
       unfold WmE;rw[Wb ⟨fK,lR⟩,jt];rfl
    .rw[Wa ho];exact⟨gz,hu,.inr (.inl ⟨.inr h2,di,.inr (.inl ⟨h2,e2,e3,e4,e5⟩)⟩)⟩
  .omega
 kid:=λ{b m H C x n j} h2 h hF hM hl bR hj=>by
  obtain⟨di,⟨e1,_⟩|⟨_,e2,e3,e4,e5⟩|⟨e1,_⟩⟩:=h
  .omega
  .refine⟨di,.inr (.inl ⟨h2,e2,e3,Wt4.trans e4,λaS=>?_⟩)⟩;change j<3 at hj;have ec:(fkD nv).p.2.getD j []=kvC (nv j):=by
    have:j=0\/j=1\/j=2:=by omega
    rcases this with e|e|e<;>subst e<;>rfl
   rw[ec]at aS⊢;have fe:x.fam.lost=false:=by
    cases hc:x.fam.lost
    .rfl
    .change (Wbx m x.fam j (kvC (nv j))).lost=false at aS;unfold Wbx at aS;rw[Wb hc,hc]at aS;cases aS
   refine WtK (e5 fe) hn hj hF (λcc q h0 h7 hq=>?_) fe aS;rw[e4];exact(WxA hM hl bR di cc q h0 h7 hq).imp id λz=>z.imp (λz=>⟨z.1,λe=>by rw[←e];exact z.2⟩) id
  .omega
theorem Wwn:KPgOk tfD where
 keep:=λ{b m H C m' H' C' x} h hK hm h1=>by
  obtain⟨⟨r1,r2⟩,p,a,c,pc,e1,e2,e3,e4,e5,e6,e7⟩:=h;exact⟨⟨r1,by omega⟩,p,a,c,pc,e1,e2,e3,e4,e5,λz=>hK _ _ _ (e6 z),λz=>⟨(e7 z).1,(e7 z).2.1.mono hm,(e7 z).2.2⟩⟩
 doom:=λh=>h
 start:=λh=>⟨⟨h,Xo _⟩,rfl,0,0,0,by omega,rfl,rfl,rfl,rfl,(λz=>by omega),λz=>by cases z⟩
 step:=λ{b w C x k} h1 gz hu h hM hl bR hr=>by
  obtain⟨di,_,a,c,pc,e1,e2,e3,e4,e5,e6,e7⟩:=h;by_cases e:pc=7
  .subst e;change x.reads= [(0,a),(1,c)]at e4;change x.writes= [(0,trU 0 a),(1,Wuf 0 c)]at e5;have va:=(hr (0,a) (by rw[e4];simp)).2;have vc:=(hr (1,c) (by rw[e4];simp)).2;refine⟨{x with fate:=1,cm:=Wan ((k:Int)+1) x.rv x.writes x.reads,phase:=5},?_,gz,hu,.inr (.inr ⟨rfl,rfl,?_,a,[1],?_,?_,e6 (by omega),di.1,trivial,?_⟩)⟩
   .unfold Wdy;rw[Wb (by rw[e2];show((7:Nat):Int)>=((7:Nat):Int);omega)];unfold Waq;simp only;rw[Wa (show¬(1:Int)=2 by omega),Wa (λz=>by have:=z.1;rw[e5]at this;cases this)]
   all_goals
    have n1:Wco x.writes= [(0,trU 0 a),(1,Wuf 0 c)]:=by rw[e5];exact Wwj (by unfold trU;omega) (by unfold Wuf;omega)
    have n2:Wco x.reads= [(0,a),(1,c)]:=by rw[e4];exact Wwj va vc
   .show(Wan _ _ _ _).phase=1;unfold Wan;rw[n1];rfl
   .show pick (Wan _ _ _ _).puts 0=some a;unfold Wan;rw[n1];show some (trU 0 a)=some a;unfold trU;congr 1;simp only at va;omega
   .show(Wan _ _ _ _).reads=_;unfold Wan;rw[n2];rfl
   .show(Wan _ _ _ _).phase=3->_;unfold Wan;rw[n1];intro z;cases z
  by_cases e0:2<=pc
  .have hs:=(WrX 0).hc w x k a c pc e0 (by show pc<7;omega) e2 e3 e5;refine⟨_,hs,gz,hu,.inr (.inl ⟨.inl h1,di,h1,a,c,pc+1,by omega,by show x.pc+1=_;omega,rfl,?_,rfl,λ_=>e6 (by omega),λz=>?_⟩)⟩
   .show x.reads=_;rw[e4];exact((WrX 0).hr a c pc e0 e1).trans ((WrX 0).hr a c (pc+1) (by omega) (by show pc+1<=7;omega)).symm
   .have:=(e7 z).1;omega
  .
   have ew:x.writes= []:=by
    have:pc=0\/pc=1:=by omega
    rcases this with e|e<;>subst e<;>exact e5
   have eo:opN tfD.p.1 x.pc=(5,(pc:Int),(pc:Int),0):=by
    have:pc=0\/pc=1:=by omega
    rw[e2];rcases this with e|e<;>subst e<;>rfl
   have el:Wbg x.writes (pc:Int)=none:=by rw[ew];rfl
   have hq:=WxA hM hl bR di (pc:Int) (if x.busy=true then x.pb else((pc:Int),0,0,0)) (by omega) (by omega) (by
    by_cases hb:x.busy=true
    .rw[Wb hb];exact .inr (e7 hb).2
    .rw[Wa hb];exact .inl rfl)
   have er:∀k,Wdy w x k tfD.p=(w,WcM w x (5,(pc:Int),(pc:Int),0)):=λk=>by
    unfold Wdy;rw[Wa (by rw[e2];show¬(pc:Int)>=((7:Nat):Int);omega)];simp only[eo];rfl
   refine⟨_,er k,?_⟩;unfold WcM;simp only[el];generalize WW w.mem x.rv _=q at*;by_cases q4:q.2.1=4
   .rw[Wb q4];unfold WO;rw[Wb (.inl (by show x.marks.length=0;rw[gz];rfl))];exact⟨rfl,hu,.inl ⟨rfl,rfl⟩⟩
   .rw[Wa q4];by_cases q3:q.2.1=3
    .rw[Wb q3];have hR:RC b w.mem w.hist C x.rv pc q.2.2.2:=by
      rcases hq with z|⟨_,z⟩|⟨z,_⟩
      .exact Wg z q4
      .exact z
      .exact Wg q3 z
     refine⟨gz,hu,.inr (.inl ⟨.inl h1,di,h1,?_⟩)⟩;have:pc=0\/pc=1:=by omega
     rcases this with e|e<;>subst e
     .exact⟨q.2.2.2,0,1,by omega,by show x.pc+1=_;omega,by show WjU x.regs _ _=_;rw[e3];rfl,by show x.reads++_=_;rw[e4];rfl,ew,λ_=>hR,λz=>by cases z⟩
     .exact⟨a,q.2.2.2,2,by omega,by show x.pc+1=_;omega,by show WjU x.regs _ _=_;rw[e3];rfl,by show x.reads++_=_;rw[e4];rfl,ew,λ_=>e6 (by omega),λz=>by cases z⟩
    .rw[Wa q3];have hA:ZW b w.mem w.hist x.rv q/\q.1=pc:=by
      rcases hq with z|⟨z,_⟩|⟨_,z⟩
      .exact Wg z q4
      .exact Wg z q3
      .exact z
     exact⟨gz,hu,.inr (.inl ⟨.inl h1,di,h1,a,c,pc,e1,e2,e3,e4,e5,e6,λ_=>⟨by omega,hA⟩⟩)⟩
 fork:=λ{b m H C x n} h2 _ _ h _=>by have:=h.2.1;omega
 kid:=λ{b m H C x n j} h2 h _ _ _ _ _=>by have:=h.2.1;omega
end
section
theorem WvY{b S a0 a1:Int}{H:List Wr}{g0 g1:Wr}(hH:H= [g0,g1]\/H= [g1,g0])(n0:1<=g0.1/\g0.1<=1000000)(n1:1<=g1.1/\g1.1<=1000000)(hne:g0.1≠g1.1)(p0:pick g0.2.2 0=some (ad a0 S))(p1:pick g1.2.2 0=some a1)(r0:a0=(bst b 0 (g0.1-1) H).2)(r1:a1=(bst b 0 (g1.1-1) H).2):a0=b/\(top b 0 H).2=ad b S:=by
 unfold top;by_cases hl:g0.1<g1.1
 .have f:=λv=>WwN (b:=b) hH n0.1 hl p0 p1 v;rw[f,Wb (by omega)]at r0;rw[f,Wa (by omega),Wb (by omega)]at r1;rw[f,Wa (by omega),Wa (by omega),r1,r0];exact⟨rfl,rfl⟩
 .have f:=λv=>WwN (b:=b) hH.symm n1.1 (by omega) p1 p0 v;rw[f,Wb (by omega)]at r1;rw[f,Wa (by omega),Wb (by omega)]at r0;rw[f,Wa (by omega),Wa (by omega),r0,r1];exact⟨rfl,rfl⟩
def ktD(nv:Nat->Int)(k:Nat):KPg:=if k=0 then fkD nv else tfD
theorem Wwq{b:Int->Int}{nv:Nat->Int}{s:Sc}{n:Int}{w:Wo}(h:KA b (ktD nv) s n w)(hR:Rest w)(hlen:w.roots.length=2):
  (Ws w.mem 0).1=ad (b 0) (nvS nv)/\∃x:Rt,w.roots[0]?=some x/\x.fate=1/\GqF (ad (b 0) (nvS nv)) x.order x.regs:=by
 have h8:∀(k:Nat) (hk:k<w.roots.length),w.roots[k].phase=8:=λk hk=>hR.done _ (Xp hk);have fZ:∀e∈w.hist,(1<=e.1/\e.1<=1000000)/\((e.2.1=1/\∃a,pick e.2.2 0=some (ad a (nvS nv))/\a=(bst (b 0) 0 (e.1-1) w.hist).2)\/(e.2.1=2/\∃a,pick e.2.2 0=some a/\a=(bst (b 0) 0 (e.1-1) w.hist).2)):=λe he=>by
  obtain⟨k,a,k1,k2,k3,k4⟩:=h.kw.hist e he;have s1:=h.mi.st e he;have ln:=h.wi.wt.clk;have hmc:=(Wz h.wi.ok.mem).2.2.1;refine⟨by omega,?_⟩;have hk:k=0\/k=1:=by omega
  rcases hk with z|z<;>subst z
  .exact .inl ⟨k2,a,k3,k4.val⟩
  .exact .inr ⟨k2,a,k3,k4.val⟩
 have c0:=(h.kw.cnt 0 (by omega)).1 (.inr (.inr (h8 0 (by omega))));have c1:=(h.kw.cnt 1 (by omega)).1 (.inr (.inr (h8 1 (by omega))));have hL:w.hist.length=2:=by
  rw[Wit (p:=λh=>decide (h.2.1=((0:Nat):Int)+1)) (q:=λh=>decide (h.2.1=((1:Nat):Int)+1)) (λe he=>?_),c0,c1];rcases(fZ e he).2 with⟨z,_⟩|⟨z,_⟩<;>rw[z]<;>simp
 have nV:=h.kw.dist;obtain⟨e0,uN,ew,y,ey,eG⟩:=(h.kw.root 0 (by omega)).gd (.inr (.inr (h8 0 (by omega))));have sm:=h.mi;generalize hH:w.hist=H at*
 match H,hL with
 | [e1,e2],_=>
  have hne:e1.1≠e2.1:=by
   rw[List.pairwise_cons]at nV;exact nV.1 e2 (by simp)
  obtain⟨n1,w1⟩:=fZ e1 (by simp);obtain⟨n2,w2⟩:=fZ e2 (by simp);have key:∃g0 g1:Wr,([e1,e2]= [g0,g1]\/ [e1,e2]= [g1,g0])/\g0.1≠g1.1/\g0.2.1=1/\g1.2.1=2/\(1<=g0.1/\g0.1<=1000000)/\(1<=g1.1/\g1.1<=1000000)/\(∃a,pick g0.2.2 0=some (ad a (nvS nv))/\a=(bst (b 0) 0 (g0.1-1) [e1,e2]).2)/\∃a,pick g1.2.2 0=some a/\a=(bst (b 0) 0 (g1.1-1) [e1,e2]).2:=by
   rcases w1 with⟨z1,w1⟩|⟨z1,w1⟩<;>rcases w2 with⟨z2,w2⟩|⟨z2,w2⟩
   .rw[Xbt,Xbt,Xhb,z1,z2]at c0;simp at c0
   .exact⟨e1,e2,.inl rfl,hne,z1,z2,n1,n2,w1,w2⟩
   .exact⟨e2,e1,.inr rfl,hne.symm,z2,z1,n2,n1,w2,w1⟩
   .rw[Xbt,Xbt,Xhb,z1,z2]at c1;simp at c1
  obtain⟨g0,g1,hh,hn,z0,z1,m0,m1,⟨a0,p0,r0⟩,a1,p1,r1⟩:=key;obtain⟨ea,et⟩:=WvY hh m0 m1 hn p0 p1 r0 r1;have hcl:=WsL h.wi.ok h.wi.lx;obtain⟨m8,_,_,_⟩:=Wz h.wi.ok.mem;have hown:owner w.mem 0=0:=by
   unfold owner Ws Wbu;rw[Wn (show(0:Int).toNat<w.mem.2.length by omega)];exact hR.own _ (Xp _)
  have t0:=Wpk (i:=0) sm hcl (by omega) (by omega) hown;refine⟨by rw[t0.1,et],w.roots[0]'(by omega),Xq (by omega),(h.kw.root 0 (by omega)).f8 (h8 0 (by omega)),?_⟩;have hg:e0=g0:=by
   have:e0=g0\/e0=g1:=by
    rcases hh with q|q<;>rw[q]at uN<;>simp at uN
    .exact uN
    .exact uN.symm
   rcases this with q|q
   .exact q
   .rw[q,z1]at ew;cases ew
  rw[hg,p0,ea]at ey;injection ey with ey;rw[ey];exact eG
theorem WwG{s:Sc}{b:Int->Int}{D:Nat->KPg}:KW b D (Wer s):=by
 have h0:∀(k:Nat) (h:k<(Wer s).roots.length),(Wer s).roots[k]={}:=λk h=>by simp only[Wer,Xbe]
 refine⟨λk h=>?_,(λh hh=>by cases hh),λk h=>?_,List.Pairwise.nil⟩
 .rw[h0 k h];exact WjW rfl rfl (.inl rfl) rfl
 .rw[h0 k h];exact⟨λz=>Wg z (Wtm (z:=0) rfl (by omega) (by omega) (by omega)),λ_=>rfl⟩
theorem Wxh{o:Opn}(h:o.1=1\/o.1=2\/o.1=5\/o.1=6):WeS o=false:=by
 unfold WeS Wie Zbt;rw[WcT];cases Wd1 o<;>rcases h with e|e|e|e<;>simp[ret,e]
theorem Wwy{nv:Nat->Int}(h:∀i,0<=nv i/\nv i<=65535):Wly (fkP nv)=true:=by
 have v0:Wbj (nv 0)=true:=WaD.2 (h 0);have v1:Wbj (nv 1)=true:=WaD.2 (h 1);have v2:Wbj (nv 2)=true:=WaD.2 (h 2);simp[Wly,WfI,Wov,bal,WlU,WnU,Wd1,opd,dep,frk,fkP,kvC,Waa,Waf,v0,v1,v2,beq,WfI,Wxh]
def nvF(a b c:Int):Nat->Int
 |0=>a
 |1=>b
 |_=>c
theorem Wvw{N n:Nat}{code:List Int}{s:Sc}{R:Type}{K:Int->Int->Bool->List Ky->Option R}{i:Nat}{u v:Int}{l:List Ky}(hi:i<3)(hv:Znw N code (i:Int)=ret v)(h0:0<=v/\v<=255)(hu:0<=u/\u<=65535)(hl:l.length<=3):
  Zas N code s K (n+1) u (i:Int) l=Zas N code s K n (ad u (v*100)) ((i+1:Nat):Int) (l++ [kvC (v*100)]):=by
 have e1:decide ((i:Int)<3)=true:=by simp;omega
 have e2:Wgb .i64 v 100=v*100:=WdO (by unfold I64;omega);have e3:Wm .i64 u (v*100)=u+v*100:=WL (by unfold I64;omega);have e4:Whx (u+v*100) 65536=(u+v*100)%65536:=Wb4 (by omega);have e5:WN (l.length+1)=true:=WE (by omega);have ez:inz (65536:Int)=true:=rfl;simp only[Zas,e1,hv,ret,Xd,e2,e3,e4,ez,Xs,List.length_nil,Xbb,e5,Wc,Wt (show i<4611686018427387904 by omega),Xal];rfl
theorem Wqv{N:Nat}{code:List Int}(hw:∀x∈code,0<=x/\x<=255)(hN:1048576<N):Zcd N code=ret true:=by
 unfold Zcd Zro;simp only[Xd];by_cases hb:code.length<=1048576
 .have e0:decide (Wj code>1048576)=false:=by simp[Wj];omega
  obtain⟨s,es,hs⟩:=WmO hN hb;rw[e0,es];simp only[We,ret,Xd];rw[Wji hs hN];cases aJ:WlL s with
  |false=>rfl
  |true=>
   obtain⟨v0,a0,b0⟩:=Wri (N:=N) hw hb (i:=0) (by omega);obtain⟨v1,a1,b1⟩:=Wri (N:=N) hw hb (i:=1) (by omega);obtain⟨v2,a2,b2⟩:=Wri (N:=N) hw hb (i:=2) (by omega);obtain⟨t1,t2,t3,t4⟩:=Wet aJ;have an:=t1.cells;have c8:=an.len;have v8:0<=s.1.1.getD 0 0/\s.1.1.getD 0 0<=65535:=an.get 0;have i0:inb (0:Int) (Xa s.1.1)=true:=by unfold inb;rw[c8];rfl
   have xk:∀i,0<=nvF (v0*100) (v1*100) (v2*100) i/\nvF (v0*100) (v1*100) (v2*100) i<=65535:=λi=>by
    unfold nvF;split<;>omega
   generalize hnvd:nvF (v0*100) (v1*100) (v2*100)=nv at xk;generalize ct:((s.1,[fkP nv,trP 0],s.2.2):Sc)=s';have dv:s'.2.1= [fkP nv,trP 0]:=by rw[←ct]
   have jK:WlL s'=true:=by
    rw[←ct];unfold WlL;simp only[Xi,Wh,Xac];refine⟨WpA.2 t1,by simp,t3,λp hp=>?_⟩;simp only[Xr,Xei,or_false]at hp;rcases hp with e|e
    .rw[e];exact Wwy xk
    .rw[e];exact WwC (by omega)
   have uC:SB s':=by
    rw[←ct];refine{cells:=hs.cells,map:=hs.map,progs:=by simp,each:=λp hp=>?_,acts:=hs.acts};simp only[Xr,Xei,or_false]at hp;rcases hp with e|e
    .rw[e];exact⟨by show 1<=1000;omega,by show 3<=1000;omega,λc hc=>by
      simp only[fkP,Xr,Xei,or_false]at hc;rcases hc with e|e|e<;>rw[e]<;>exact(by show 4<=1000;omega)⟩
    .rw[e];exact⟨by show 7<=1000;omega,Xbk _,λc hc=>by cases hc⟩
   have hD:∀k,k<s'.2.1.length->KPgOk (ktD nv k)/\s'.2.1.getD k pg0=(ktD nv k).p:=λk hk=>by
    rw[dv]at hk⊢;change k<2 at hk;have:k=0\/k=1:=by omega
    rcases this with e|e<;>subst e
    .exact⟨Wws xk,rfl⟩
    .exact⟨Wwn,rfl⟩
   obtain⟨hR,hO,hn,m,hW⟩:=WqC jK;obtain⟨l,lB,hl⟩:=Wkg jK;have hA:=WsE hD (s'.2.2++l) 0 _ ⟨⟨Wii jK,WuP,WsF jK,Wsn,Wsi⟩,WwQ (Wet jK).1.cells,WwG⟩ (by omega);rw[←hl]at hA;have aH:s'.1=s.1:=by rw[←ct]
   have dM:(WaV s' 6000 (Weq s')).1.roots.length=2:=by rw[hA.wi.ok.len,dv];rfl
   obtain⟨f1,x,f2,f3,j,g1,g2,g3,g4,g5⟩:=Wwq hA hR dM;obtain⟨m8,_,_,_⟩:=Wz hR.mem;have hdr:=Wq9 uC hN jK;have lT:∀n,Zgb N n=ret (trP n):=λ_=>rfl;simp only[Wv4,Xx,We,Wc,i0];obtain⟨M,rfl⟩:∃M,N=M+4:=⟨N-4,by omega⟩;have Be:Xc s.1.1 (Xb (0:Int)) 0=s.1.1.getD 0 0:=rfl;rw[Be];rw[show Zas (M+4) code s _ (M+4) (s.1.1.getD 0 0) (0:Int) []=_ from Wvw (i:=0) (by omega) a0 b0 v8 (by simp),Wvw (i:=1) (by omega) a1 b1 (by unfold ad;omega) (by simp),Wvw (i:=2) (by omega) a2 b2 (by unfold ad;omega) (by simp)];have e3:decide (((2+1:Nat):Int)<3)=false:=rfl;have ewant:ad (ad (ad (s.1.1.getD 0 0) (v0*100)) (v1*100)) (v2*100)=ad (s.1.1.getD 0 0) (nvS nv):=by
    rw[show nvS nv=v0*100+v1*100+v2*100 by rw[←hnvd];rfl];unfold ad;omega
   have ekids:[]++ [kvC (v0*100)]++ [kvC (v1*100)]++ [kvC (v2*100)]=(fkP nv).2:=by rw[←hnvd];rfl
   simp only[Zas,e3,We,lT,ret,Xd,ewant,ekids];have Bf:(s.1,([([((11:Int),((0:Int),((0:Int),(0:Int))))],(fkP nv).2),trP 0],s.2.2))=s':=ct;rw[Bf,hdr];generalize WaV s' 6000 (Weq s')=q at*;have Bg:=WqA (N:=M+4) hR.mem hN;have eR:q.1.e.2.2.2.2.2.1=q.1.roots.map Rt.e:=rfl;have eM:q.1.e.2.2.1=q.1.mem:=rfl;simp only[Xd,eR,eM,Bg,ret];have l2:Wj (q.1.roots.map Rt.e)=2:=by unfold Wj;rw[Xae,dM];rfl
   have lv:Wj (q.1.mem.2.map (·.1))=8:=by unfold Wj;rw[Xae,m8];rfl
   have j0:inb (0:Int) (Xa (q.1.mem.2.map (·.1)))=true:=by unfold inb;rw[Xae,m8];rfl
   have k0:inb (0:Int) (Xa (q.1.roots.map Rt.e))=true:=by unfold inb;rw[Xae,dM];rfl
   have gr:Xc (q.1.roots.map Rt.e) (Xb (0:Int)) d_Root=x.e:=by
    have:(q.1.roots.map Rt.e)[0]?=some x.e:=by rw[Xan,f2];rfl
    show Xc (q.1.roots.map Rt.e) 0 d_Root=x.e;rw[Xag,this];rfl
   have gv:Xc (q.1.mem.2.map (·.1)) (Xb (0:Int)) 0=ad (s.1.1.getD 0 0) (nvS nv):=by
    have e:Xc (q.1.mem.2.map (·.1)) (Xb (0:Int)) 0=(Ws q.1.mem 0).1:=by
     unfold Ws Wbu;rw[Wn (show(0:Int).toNat<_ by rw[Xae];omega),Wn (show(0:Int).toNat<q.1.mem.2.length by omega),Xej]
    rw[e,f1,aH];rfl
   have x1:x.e.2.2.2.2.2.2.2.1=x.fate:=rfl;have x2:x.e.2.2.2.2.2.2.2.2.2.2.2.2.1=x.regs:=rfl;have x3:x.e.2.2.2.2.2.2.2.2.2.2.2.2.2.2.2.2.2.1=x.order:=rfl;have l3:Wj x.order=3:=by unfold Wj;rw[g3];rfl
   have l4:Wj x.regs=4:=by unfold Wj;rw[g4];rfl
   have i2:inb (2:Int) (Xa x.order)=true:=by unfold inb;rw[g3];rfl
   have gl:Xc x.order (Xb (2:Int)) 0=(j:Int):=by
    rw[List.getLast?_eq_getElem?,g3]at g2;show Xc x.order 2 0=_;rw[Xag];change x.order[2]?=_ at g2;rw[g2];rfl
   have j1:decide ((j:Int)>=0)=true:=by simp
   have j2:decide ((j:Int)<3)=true:=by simp;omega
   have j3:inb (j:Int) x.regs.length=true:=by rw[g4];unfold inb;simp;omega
   have gg:Xc x.regs (Xb (j:Int)) 0=ad (s.1.1.getD 0 0) (nvS nv):=by rw[Xj,g5,aH];rfl
   simp only[l2,lv,k0,j0,gr,x1,x2,x3,f3,l3,l4,i2,gl,j1,j2,j3,gg,gv,bne_self_eq_false,We,Wc,beq_self_eq_true];rfl
 .have e0:decide (Wj code>1048576)=true:=by simp[Wj];omega
  rw[e0];rfl
theorem law_FnKidsInTurn(d:WfA [.v (.slice (.int .u8)) false])(hw:WoY [.v (.slice (.int .u8)) false] d):∃N o,Zcd N d.1=some (o,(true,())):=
 ⟨1048577,(),Wqv (N:=1048577) (λx hx=>bounds_u8 (hw.1.2 x hx)) (by omega)⟩
end
end Go.Sx
