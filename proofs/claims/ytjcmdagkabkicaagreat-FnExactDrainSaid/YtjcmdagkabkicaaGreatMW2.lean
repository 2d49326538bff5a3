/- Plain laws of the Lean functions. -/
import Derived.Test.YtjcmdagkabkicaaGreatMW1
open Int renaming tdiv_eq_ediv_of_nonneg→Xcz,toNat→Xa,toNat_natCast→Xl
open Option renaming bind_some→Xd,getD_some→Xdu,isSome_some→Xfa
open Bool renaming and_self→Xao,not_true→Xk,and_eq_true→Xi,and_eq_false_iff→Xck,not_false→Xbl,false_eq_true→Xai,true_and→Xby
open Nat renaming le_refl→Xm,zero_add→Xau,sub_zero→Xdf,lt_trichotomy→Xfk
open List renaming getD_eq_getElem?_getD→Xbm,getElem?_eq_getElem→Xq,getElem_mem→Xv,length_set→Xat,getElem_set→Xcm,length→Xb,set→Xe,set_set→Xct,all_eq_true→Xad,replicate→Xp,getElem_replicate→Xdj,mem_cons_self→Xj,length_cons→Xr,mem_cons_of_mem→Xf,drop_length→Xcb,drop_eq_getElem_cons→Xay,pairwise_iff_getElem→Xap,filter_cons→Xbj,append→Xh,append_eq→Xbc,mem_append→Xo,mem_singleton→Xag,eq_nil_of_length_eq_zero→Xx,mem_map→Xw,mem_filter→Xax,getElem_of_mem→Xcc,getD→Xc,length_append→Xaa,length_nil→Xbz,take→Xam,filter_eq_self→Xeu,length_map→Xu,set_getElem_self→Xbh,dropLast_eq_take→Xgg,length_take→Xbi,pairwise_append→Xah,map_append→Xz,mem_of_mem_take→Xco
namespace Go.Sx
set_option linter.unusedVariables false
set_option linter.unusedSimpArgs false
section
def Wbf(s:Int):Int:=(s-1)/65536
def Wa7(k:Int):Int:=(7*k+3)%4
structure SlOk(l:List Int):Prop where
 len:l.length=16
 each:∀i (h:i<l.length),l[i]=0\/((1<=l[i]/\l[i]<=524288)/\Wa7 (Wbf l[i])=((i/4:Nat):Int))
 one:∀i j (hi:i<l.length) (hj:j<l.length),i<j->l[i]≠0->l[j]≠0->Wbf l[i]≠Wbf l[j]
def WlX(k s:Int):Bool:=decide (s>0)&&decide (Wbf s=k)
def Wmh(l:List Int)(k:Int):Option (Nat×Int):=fnd (WlX k) l 0
def WeX(l:List Int)(k:Int):Nat:=if WbQ l (4*Wa7 k) 0=0 then(4*Wa7 k).toNat else(4*Wa7 k).toNat+1
def WmE(l:List Int)(k v:Int):List Int:=match Wmh l k with
 |some r=>l.set r.1 (1+65536*k+v)
 |none=>l.set (WeX l k) (1+65536*k+v)
def WcC(l:List Int)(k:Int):Int:=match Wmh l k with
 |some r=>(r.2-1)%65536+1
 |none=>0
def WhH(l:List Int)(k:Int):List Int:=match Wmh l k with
 |some r=>l.set r.1 0
 |none=>l
variable{N:Nat}{l:List Int}{k v:Int}
theorem WuR{n:Int}(h:I64 n):IntKind.wrap .i64 n=n:=Wgi h
theorem WnB{s:Int}(h:1<=s/\s<=524288):Zke N s=ret (Wbf s):=by
 unfold Zke;rw[WQ (by unfold I64;omega)];have:WpT .i64 (s-1) 65536=Wbf s:=by
  unfold WpT Wbf;rw[Xcz (by omega),WuR (by unfold I64;omega)]
 rw[this];rfl
theorem Wii{s:Int}(h:1<=s/\s<=524288):0<=Wbf s/\Wbf s<=7:=by unfold Wbf;omega
theorem WeW:Zaw N k=ret (decide (0<=k)&&decide (k<=7)):=by simp[Zaw,W1]
theorem Wk8(hk:0<=k/\k<=7)(hv:0<=v/\v<=65535):Zk6 N k v=ret (1+65536*k+v):=by
 unfold Zk6;rw[Wha (by unfold I64;omega),WJ (a:=1) (by unfold I64;omega),WJ (by unfold I64;omega)]
theorem Wko(hk:0<=k/\k<=7):Zlg N k=ret (Wa7 k):=by
 unfold Zlg;rw[WeW,Wha (by unfold I64;omega),WJ (by unfold I64;omega)];have:WdD (7*k+3) 4=Wa7 k:=by grind [WdD,Wa7,Int.tmod_eq_emod_of_nonneg]
 simp only[ret,Xd,We hk.1,We hk.2,Xao,Xk,Wa,this];rfl
theorem SlOk.val(h:SlOk l){i:Nat}(hi:i<l.length)(hn:l[i]≠0):1<=l[i]/\l[i]<=524288:=by
 rcases h.each i hi with h0|h0
 .omega
 omega
theorem WeI(h:SlOk l)(hN:1048576<N):Zif N l k=ret (match Wmh l k with|some r=>(r.1:Int)|none=>-1):=by
 unfold Zif Wmh;have hl:=h.len;have h1:=Wjz (l:=l) (p:=WlX k) (N:=N) (lp:=λn j=>Zer N k l (λbe=>(some ((),(be,())))) (λdL cw=>(some ((),((-1:Int),())))) n j) (K0:=λj=>some ((),(j,()))) (K1:=some ((),((-1:Int),()))) (by omega) (by omega)
  (λn j hj=>by
   simp only[Zer,WK hj,Ww hj,Ws hj,Wm (show j<4611686018427387904 by omega),Wb];unfold WlX;by_cases h0:l[j]>0
   .rw[WnB (h.val hj (by omega))]
    grind
   grind)
  (λn=>by simp[Zer,WS,Xm,Wa])
 rw[h1];cases fnd (WlX k) l 0<;>rfl
theorem WbU(h:SlOk l)(hN:1048576<N):Zdz N l=ret true:=by
 have hl:=h.len;have lp:∀(d j n:Nat) (s:List Bool),j+d=16->d<n->s.length=8->(∀c:Nat,s.getD c false=true->∃i,∃hi:i<l.length,i<j/\l[i]≠0/\Wbf l[i]=c)->
   Zb2 N l (some ((),(false,()))) (λuJ zv rk=>(some ((),(true,())))) n (j:Int) s=ret true:=by
  intro d
  induction d with
  |zero=>
   intro j n s hj hn _ _;obtain⟨n,rfl⟩:∃n',n=n'+1:=⟨n-1,by omega⟩;have:j=l.length:=by omega
   subst this;simp[Zb2,WS,Xm,Wa]
  |succ d ih=>
   intro j n s hj hn hs hb;obtain⟨n,rfl⟩:∃n',n=n'+1:=⟨n-1,by omega⟩;have ac:j<l.length:=by omega
   simp only[Zb2,WK ac,Ww ac,Ws ac,Wm (show j<4611686018427387904 by omega),Wb,Wv];by_cases h0:l[j]=0
   .rw[Wf h0];exact ih (j+1) n s (by omega) (by omega) hs λc hc=>by
     grind
   .rw[Wc h0];have hv:=h.val ac h0;have hk:=Wii hv;have vX:Wa7 (Wbf l[j])=((j/4:Nat):Int):=by
     rcases h.each j ac with h1|h1
     .omega
     omega
    have hq:WpT .i64 (j:Int) 4=((j/4:Nat):Int):=by
     unfold WpT;rw[Xcz (by omega),WuR (by unfold I64;omega)];omega
    have dg:s.getD (Xa (Wbf l[j])) false=false:=by
     rw[Bool.eq_false_iff];intro hc;obtain⟨i,hi,h1,h2,h3⟩:=hb _ hc;exact h.one i j hi ac h1 h2 h0 (by omega)
    rw[Wk8 (k:=7) (v:=65535) (by omega) (by omega),WnB hv];simp only[ret,Xd,W1,show(1:Int)+65536*7+65535=524288 from rfl,We hv.1,We hv.2,Xao,Xk,Wa,Wko hk,vX,hq,bne_self_eq_false];rw[show inz (4:Int)=true from rfl];simp only[Wb];rw[show inb (Wbf l[j]) 8=true by grind [inb],hs,We rfl,dg];simp only[Xao,Wb,Wa];refine ih (j+1) n _ (by omega) (by omega) (by simp_all) λc hc=>?_;by_cases hcj:c=(Wbf l[j]).toNat
    .grind
    .have:s.getD c false=true:=by
      grind
     grind
 unfold Zdz;rw[show((Wg l) !=(16:Int))=false by grind [Wg]];simp only[Wa];refine lp 16 0 N _ (by omega) (by omega) (by simp) λc hc=>?_;rw[Xbm]at hc;by_cases h8:c<8
 .grind
 simp_all
theorem WcB(h:SlOk l){r:Nat×Int}(hr:Wmh l k=some r):∃hi:r.1<l.length,l[r.1]=r.2/\1<=r.2/\r.2<=524288/\Wbf r.2=k/\Wa7 k=((r.1/4:Nat):Int):=by
 obtain⟨h1,h2,h3,h4⟩:=WcI hr;rw[Xau]at h3;rw[Xdf,Xq h3]at h4;injection h4 with h4;unfold WlX at h1;simp only[Xi,Wi]at h1;have h5:=h.val h3 (by omega);rcases h.each r.1 h3 with h6|h6
 .omega
 simp_all
theorem WiE(h:SlOk l)(hr:Wmh l k=none)(i:Nat)(hi:i<l.length)(hn:l[i]≠0):Wbf l[i]≠k:=by
 have:=Wgs hr l[i] (Xv hi);unfold WlX at this;have h1:=h.val hi hn
 grind
theorem Wti(k:Int):0<=Wa7 k/\Wa7 k<=3:=by unfold Wa7;omega
theorem Wjy(h:SlOk l)(hk:0<=k/\k<=7)(hr:Wmh l k=none):∃hi:WeX l k<l.length,l[WeX l k]=0/\Wa7 k=((WeX l k/4:Nat):Int)/\(WeX l k=(4*Wa7 k).toNat\/(WeX l k=(4*Wa7 k).toNat+1/\WbQ l (4*Wa7 k) 0≠0)):=by
 have hl:=h.len;have hb:=Wti k;unfold WeX;have h1:(4*Wa7 k).toNat<l.length:=by omega
 have hg:WbQ l (4*Wa7 k) 0=l[(4*Wa7 k).toNat]:=WD h1 _;by_cases h0:WbQ l (4*Wa7 k) 0=0
 .grind
 .simp only[Wc h0];have h2:(4*Wa7 k).toNat+1<l.length:=by omega
  refine⟨h2,?_,by omega,.inr ⟨trivial,h0⟩⟩;refine Classical.byContradiction λhn=>?_;rw[hg]at h0;have a1:=WiE h hr _ h1 h0;have a2:=WiE h hr _ h2 hn;have a3:=h.one _ _ h1 h2 (by omega) h0 hn;have b1:=Wii (h.val h1 h0);have b2:=Wii (h.val h2 hn);rcases h.each _ h1 with c1|c1
  .exact h0 c1
  .rcases h.each _ h2 with c2|c2
   .exact hn c2
   grind [Wbf,Wa7]
theorem WtN(hk:0<=k/\k<=7)(hv:0<=v/\v<=65535):(1<=1+65536*k+v/\1+65536*k+v<=524288)/\Wbf (1+65536*k+v)=k:=by unfold Wbf;omega
theorem WlM(h:SlOk l){i:Nat}(hi:i<l.length){s:Int}(hs:s=0\/((1<=s/\s<=524288)/\Wa7 (Wbf s)=((i/4:Nat):Int)))(ho:s≠0->∀j (hj:j<l.length),j≠i->l[j]≠0->Wbf l[j]≠Wbf s):SlOk (l.set i s) where
 len:=by rw[Xat];exact h.len
 each:=λj hj=>by
  rw[Xat]at hj;rw[Xcm];by_cases he:i=j
  .simp_all
  .rw[Wc he];exact h.each j hj
 one:=λa b ha hb gH=>by
  rw[Xat]at ha hb;rw[Xcm,Xcm];by_cases h1:i=a
  .grind
  .rw[Wc h1];by_cases h2:i=b
   .grind
   .rw[Wc h2];exact h.one a b ha hb gH
theorem WgO(h:SlOk l)(hk:0<=k/\k<=7)(hv:0<=v/\v<=65535):SlOk (WmE l k v):=by
 obtain⟨k1,k2⟩:=WtN hk hv;unfold WmE;cases hr:Wmh l k with
 |some r=>
  obtain⟨hi,h1,h2,h3,h4,h5⟩:=WcB h hr;refine WlM h hi (.inr ⟨k1,by simp_all⟩) λ_ j hj bQ hn=>?_;rw[k2,←h4,←h1];rcases Nat.lt_or_gt_of_ne bQ with ac|ac
  .exact h.one j r.1 hj hi ac hn (by omega)
  .exactλe=>h.one r.1 j hi hj ac (by omega) hn e.symm
 |none=>
  grind [Wjy,WlM,WiE]
theorem Wm7(h:SlOk l):SlOk (WhH l k):=by
 unfold WhH;cases hr:Wmh l k with
 |some r=>
  obtain⟨hi,h1,_⟩:=WcB h hr;exact WlM h hi (.inl rfl) λh=>WE rfl h
 |none=>exact h
theorem Wdk(l:List Int)(k:Int):0<=WcC l k/\WcC l k<=65536:=by
 unfold WcC;cases Wmh l k<;>simp only<;>omega
theorem Wc7(h:SlOk l)(hk:0<=k/\k<=7)(hN:1048576<N):Zjm N l k=some ((),((if WcC l k=0 then 0 else WcC l k-1),(decide (WcC l k≠0),()))):=by
 unfold Zjm WcC;rw[WbU h hN,WeW,WeI h hN];simp only[ret,Xd,Xk,Wa,We hk.1,We hk.2,Xao];cases hr:Wmh l k with
 |none=>rfl
 |some r=>
  obtain⟨hi,h1,h2,h3,h4,h5⟩:=WcB h hr;simp only[Wj (show¬((r.1:Int)<0) by omega),Wa,WF,We hi,Wb,Ws hi,h1];rw[WQ (by unfold I64;omega),WaC (by omega),Wc (by omega),We (by omega)];simp only[Int.add_sub_cancel];rfl
theorem Wdh(h:SlOk l)(hk:0<=k/\k<=7)(hv:0<=v/\v<=65535)(hN:1048576<N):Zf6 N l k v=some ((),(WmE l k v,(WcC l k,(true,())))):=by
 have hl:=h.len;unfold Zf6;rw[Wcz (by omega),WbU h hN,WeW,WaB,WeI h hN,Wc7 h hk hN,Wk8 hk hv,Wko hk];simp only[ret,Xd,Xk,Wa,We hk.1,We hk.2,Xao,War.2 hv];unfold WmE WcC;cases hr:Wmh l k with
 |some r=>
  obtain⟨hi,h1,h2,h3,h4,h5⟩:=WcB h hr;simp only[We (show((r.1:Int)>=0) by omega),Wb,WF,We hi,Xl];rw[Wc (by omega),WJ (by unfold I64;omega)];simp_all
 |none=>
  simp only[show decide ((-1:Int)>=0)=false from rfl,Wa];have hb:=Wti k;obtain⟨hi,h1,h2,h3⟩:=Wjy h hk hr;rw[Wha (by unfold I64;omega)];obtain⟨N',rfl⟩:∃N',N=N'+1+1:=⟨N-2,by omega⟩;have iZ:4*Wa7 k=(((4*Wa7 k).toNat:Nat):Int):=by omega
  have fh:∀n,Zc8 (N'+1+1) k v l (λlh iH=>(bif inb lh (Xb l)then(some ((),(Xe l (Xa lh) (1+65536*k+v),(0,(true,())))))else none)) (n+1) (WeX l k:Int)=some ((),(l.set (WeX l k) (1+65536*k+v),((0:Int),(true,())))):=λn=>by
   simp only[Zc8,Ww hi,Ws hi,h1,Wb,bne_self_eq_false,Wa];rw[Xl]
  rcases h3 with h3|⟨h3,h4⟩
  .grind
  .have ac:(4*Wa7 k).toNat<l.length:=by omega
   have hg:WbQ l (4*Wa7 k) 0=l[(4*Wa7 k).toNat]:=WD ac _;rw[hg]at h4;have d9:=fh N';rw[iZ];rw[Zc8];simp only[Ww ac,Ws ac,Wb];rw[show(l[(4*Wa7 k).toNat] !=0)=true by grind,Wm (by omega),←h3]
   grind
theorem Wex(h:SlOk l)(hk:0<=k/\k<=7)(hN:1048576<N):Zlh N l k=some ((),(WhH l k,(WcC l k,(true,())))):=by
 have hl:=h.len;unfold Zlh;rw[Wcz (by omega),WbU h hN,WeW,WeI h hN,Wc7 h hk hN];simp only[ret,Xd,Xk,Wa,We hk.1,We hk.2,Xao];unfold WhH WcC;cases hr:Wmh l k with
 |some r=>
  obtain⟨hi,h1,h2,h3,h4,h5⟩:=WcB h hr;simp only[Wj (show¬((r.1:Int)<0) by omega),Wb,Wa,WF,We hi,Xl];rw[Wc (by omega),WJ (by unfold I64;omega)];simp_all
 |none=>rfl
end
section
abbrev Shf:=List Int×Int
abbrev Un:=Int×Int×Int
structure ShOk(s:Shf):Prop where
 slots:SlOk s.1
 cnt:0<=s.2/\s.2<=65535
def UnV(u:Un):Prop:=(u.1=1/\(0<=u.2.1/\u.2.1<=7)/\0<=u.2.2/\u.2.2<=65535)\/(u.1=2/\(0<=u.2.1/\u.2.1<=7)/\u.2.2=0)\/(u.1=3/\u.2.1=0/\0<=u.2.2/\u.2.2<=65535)
def Wge(s:Shf)(u:Un):Shf:=
 if u.1=1 then(WmE s.1 u.2.1 u.2.2,s.2)else if u.1=2 then(WhH s.1 u.2.1,s.2)else if u.1=3 then(s.1,(s.2-u.2.2+65536)%65536)else s
def WfC(k e:Int):Un:=if e=0 then(2,k,0)else(1,k,e-1)
def Wa4(s:Shf)(o:Opn)(r:List Int):Shf×List Int×Un:=
 if o.1=12 then((WmE s.1 o.2.1 (WbQ r o.2.2.1 0),s.2),WoK r o.2.2.2 (WcC s.1 o.2.1%65536),WfC o.2.1 (WcC s.1 o.2.1))else
 if o.1=13 then(s,WoK r o.2.1 (WcC s.1 o.2.2.1%65536),(0,0,0))else
 if o.1=14 then((WhH s.1 o.2.1,s.2),WoK r o.2.2.1 (WcC s.1 o.2.1%65536),WfC o.2.1 (WcC s.1 o.2.1))else
 if o.1=15 then((s.1,(s.2+WbQ r o.2.1 0)%65536),r,(3,0,WbQ r o.2.1 0))else
 (s,WoK r o.2.1 s.2,(0,0,0))
def Wb3(o:Opn):Int×Int:=
 if o.1=12\/o.1=14 then(o.2.1,2)else if o.1=13 then(o.2.2.1,1)else if o.1=15 then(8,1)else(8,2)
section
variable{o:Opn}
theorem WqR(h:WdZ o=true)(h5:o.1=12):We3 o.2.1=true/\W8 o.2.2.1=true/\W8 o.2.2.2=true:=by
 obtain⟨k,a,b,c⟩:=o;simp only at h5;subst h5;have:(We3 a&&W8 b&&W8 c)=true:=h;simp_all
theorem Wsq(h:WdZ o=true)(h5:o.1=13):W8 o.2.1=true/\We3 o.2.2.1=true:=by
 obtain⟨k,a,b,c⟩:=o;simp only at h5;subst h5;have:(W8 a&&We3 b&&(c==(0:Int)))=true:=h;simp_all
theorem Wrg(h:WdZ o=true)(h5:o.1=14):We3 o.2.1=true/\W8 o.2.2.1=true:=by
 obtain⟨k,a,b,c⟩:=o;simp only at h5;subst h5;have:(We3 a&&W8 b&&(c==(0:Int)))=true:=h;simp_all
theorem WwH(h:WdZ o=true)(h5:o.1=15):W8 o.2.1=true:=by
 obtain⟨k,a,b,c⟩:=o;simp only at h5;subst h5;have:(W8 a&&(b==(0:Int))&&(c==(0:Int)))=true:=h;simp_all
theorem Wvo(h:WdZ o=true)(h5:o.1=16):W8 o.2.1=true:=by
 obtain⟨k,a,b,c⟩:=o;simp only at h5;subst h5;have:(W8 a&&(b==(0:Int))&&(c==(0:Int)))=true:=h;simp_all
end
theorem Wbc{x:Int}:We3 x=true↔0<=x/\x<=7:=by unfold We3;simp
variable{N:Nat}{s:Shf}{u:Un}{o:Opn}{r:List Int}
theorem Wnp{k e:Int}(hk:0<=k/\k<=7)(he:0<=e/\e<=65536):UnV (WfC k e):=by
 unfold WfC UnV
 grind
theorem WqQ(h:ShOk s)(hu:UnV u):ShOk (Wge s u):=by
 unfold Wge;rcases hu with⟨h1,h2,h3⟩|⟨h1,h2,h3⟩|⟨h1,h2,h3⟩
 .rw[Wf h1];exact⟨WgO h.slots h2 h3,h.cnt⟩
 .rw[Wc (by omega),Wf h1];exact⟨Wm7 h.slots,h.cnt⟩
 .rw[Wc (by omega),Wc (by omega),Wf h1];exact⟨h.slots,by omega⟩
theorem WrH(h:ShOk s)(hr:Vals 4 r)(ho:WdZ o=true)(eS:12<=o.1):ShOk (Wa4 s o r).1/\Vals 4 (Wa4 s o r).2.1/\((Wa4 s o r).2.2.1≠0->UnV (Wa4 s o r).2.2)/\((Wa4 s o r).2.2.1=0->(Wa4 s o r).1=s):=by
 have qe:=Wki ho;unfold Wa4;split
 .obtain⟨a,b,c⟩:=WqR ho ‹_›;rw[Wbc]at a;have hg:=Wdk s.1 o.2.1;exact⟨⟨WgO h.slots a (hr.get _),h.cnt⟩,hr.set _ (by omega),λ_=>Wnp a hg,λh=>by unfold WfC at h;split at h<;>(simp_all)⟩
 .split
  .exact⟨h,hr.set _ (by omega),λh=>WE rfl h,λ_=>rfl⟩
  .split
   .obtain⟨a,b⟩:=Wrg ho ‹_›;rw[Wbc]at a;have hg:=Wdk s.1 o.2.1;exact⟨⟨Wm7 h.slots,h.cnt⟩,hr.set _ (by omega),λ_=>Wnp a hg,λh=>by unfold WfC at h;split at h<;>(simp_all)⟩
   .split
    .have:=hr.get o.2.1.toNat;have:=h.cnt;refine⟨⟨h.slots,by grind⟩,hr,λ_=>.inr (.inr ⟨rfl,rfl,hr.get _⟩),λh=>by simp_all⟩
    .exact⟨h,hr.set _ h.cnt,λh=>WE rfl h,λ_=>rfl⟩
theorem WeQ(h:ShOk s)(hN:1048576<N):Zmv N s=ret true:=by
 unfold Zmv;rw[WbU h.slots hN,WaB,War.2 h.cnt];rfl
theorem WgP(h:ShOk s):Zkf N s=ret s:=by
 unfold Zkf;rw[Wcz (by have:=h.slots.len;omega)];rfl
theorem Wkj(hu:UnV u):Zqi N u=ret true:=by
 unfold Zqi;simp only[Wv,WeW,WaB,ret,Xd];rcases hu with⟨h1,h2,h3⟩|⟨h1,h2,h3⟩|⟨h1,h2,h3⟩
 .simp_all [Wc,Wf,War]
 .simp_all
 simp_all [Wc,Wf,War]
theorem Wiu(h:ShOk s)(hu:UnV u)(hN:1048576<N):Zpl N s u=some ((),(Wge s u,(true,()))):=by
 unfold Zpl Wge;rw[WgP h,Wkj hu];simp only[ret,Xd];rw[WeQ h hN];simp only[ret,Xd,Xk,Wa,Wv];have hc:=h.cnt;rcases hu with⟨h1,h2,h3⟩|⟨h1,h2,h3⟩|⟨h1,h2,h3⟩
 .rw[Wf h1,Wf h1,Wdh h.slots h2 h3 hN];rfl
 .rw[Wc (by omega),Wf h1,Wc (by omega),Wf h1,Wex h.slots h2 hN];rfl
 .rw[Wc (by omega),Wc (by omega),Wf h1,Wc (by omega),Wc (by omega),Wf h1];rw[WQ (by unfold I64;omega),WJ (by unfold I64;omega),WaC (by omega)];rfl
theorem WfU{k e:Int}(he:0<=e/\e<=65536):Zoa N k e=ret (WfC k e):=by
 unfold Zoa WfC;rw[Wv,WQ (by unfold I64;omega)];split<;>rfl
theorem Wmn(ho:WdZ o=true)(eS:12<=o.1):Zm5 N o=some ((),((Wb3 o).1,((Wb3 o).2,()))):=by
 have qe:=Wki ho;unfold Zm5 Wb3;rw[Wfp,ho];simp only[ret,Xd,Xk,Wa,Wv];have:o.1=12\/o.1=13\/o.1=14\/o.1=15\/o.1=16:=by omega
 rcases this with h|h|h|h|h<;>simp[h]
theorem WiP(h:ShOk s)(hr:Vals 4 r)(ho:WdZ o=true)(eS:12<=o.1)(hN:1048576<N):
  Zpm N s o r=some ((),((Wa4 s o r).1,((Wa4 s o r).2.1,((Wa4 s o r).2.2,(true,()))))):=by
 have qe:=Wki ho;have cE:=hr.len;have hc:=h.cnt;unfold Zpm Wa4;rw[WgP h,Wcz (by omega)];simp only[ret,Xd];rw[WeQ h hN,WdA (by omega) hN,Wco.2 hr,WgL,Wma ho eS];simp only[ret,Xd,Xk,Wa,bne_self_eq_false,Wv,show inz (65536:Int)=true from rfl,Wb,Wk,Xat];by_cases e1:o.1=12
 .obtain⟨a,b,c⟩:=WqR ho e1;rw[Wbc]at a;rw[Wf e1,Wf e1,WT b cE,WT c cE];have hg:=Wdk s.1 o.2.1;rw[Wdh h.slots a (hr.get _) hN];simp only[Wb,Xd,WfU hg,ret];rw[WaC (by omega)];rfl
 .rw[Wc e1,Wc e1];by_cases e2:o.1=13
  .obtain⟨a,b⟩:=Wsq ho e2;rw[Wbc]at b;have hg:=Wdk s.1 o.2.2.1;rw[Wf e2,Wf e2,WT a cE,Wc7 h.slots b hN];simp only[Wb,Xd];by_cases hz:WcC s.1 o.2.2.1=0
   .rw[hz];rfl
   .rw[Wc hz,We hz,WJ (by unfold I64;omega),WaC (by omega),Int.sub_add_cancel];simp only[Wb,Xct];rfl
  .rw[Wc e2,Wc e2];by_cases e3:o.1=14
   .obtain⟨a,b⟩:=Wrg ho e3;rw[Wbc]at a;have hg:=Wdk s.1 o.2.1;rw[Wf e3,Wf e3,WT b cE,Wex h.slots a hN];simp only[Wb,Xd,WfU hg,ret];rw[WaC (by omega)];rfl
   .rw[Wc e3,Wc e3];by_cases e4:o.1=15
    .have a:=WwH ho e4;have hv:=hr.get o.2.1.toNat;rw[Wf e4,Wf e4,WT a cE];simp only[Wb];rw[WJ (by unfold I64;omega),WaC (by omega)];rfl
    .have a:=Wvo ho (by omega);rw[Wc e4,Wc e4,WT a cE];rfl
def WnL(l:List Int):Bool:=decide (l.length=8)&&l.all λx=>decide (0<=x)&&decide (x<=65536)
structure ThOk(t:List Int×List Int×Int):Prop where
 cells:Vals 8 t.1
 map:t.2.1.length=8/\∀x∈t.2.1,0<=x/\x<=65536
 cnt:0<=t.2.2/\t.2.2<=65535
def WtR(t:List Int×List Int×Int):Bool:=Wdm t.1&&(WnL t.2.1&&Wbg t.2.2)
theorem WtY{t:List Int×List Int×Int}:WtR t=true↔ThOk t:=by
 unfold WtR WnL;simp only[Xi,WlL,War,Wi,Xad];exact⟨λh=>⟨h.1,h.2.1,h.2.2⟩,λh=>⟨h.cells,h.map,h.cnt⟩⟩
theorem Wjd{l:List Int}(hl:l.length<=1048576)(hN:1048576<N):Zkd N l=ret (WnL l):=by
 unfold Zkd WnL;have h1:=Wx (l:=l) (V:=Unit) (R:=Unit×Ko) (lp:=λn j v=>Zfr N l (some ((),(false,()))) (λaq ax=>(some ((),((Wg l)==(8:Int),())))) n j) (n:=N) (by omega)
  (body:=λj x v k=>bif !(decide (0<=x)&&decide (x<=65536))then some ((),(false,()))else k v) (K:=λ_ v=>some ((),((Wg l)==(8:Int),())))
  (λn i v hi=>by simp only[Zfr,WK hi,Ww hi,Ws hi,Wm (show i<4611686018427387904 by omega),Wb,W1,ret,Xd])
  (λn v=>by simp[Zfr,WS,Xm,Wa]) ()
 refine h1.trans ?_;rw[W9 (p:=λx=>!(decide (0<=x)&&decide (x<=65536))) (E:=λ_=>some ((),(false,()))) l 0 () (λj x v k _=>rfl),Wbo];have e:((Wg l)==(8:Int))=decide (l.length=8):=by
  grind [Wg]
 rw[e];cases l.all _<;>cases decide (l.length=8)<;>rfl
theorem Wkk{t:List Int×List Int×Int}(h1:t.1.length<=1048576)(h2:t.2.1.length<=1048576)(hN:1048576<N):Zoi N t=ret (WtR t):=by
 unfold Zoi WtR;rw[WhX h1 hN,Wjd h2 hN,WaB];cases Wdm t.1<;>cases WnL t.2.1<;>rfl
def WcY:List Int->Nat->List Int->List Int
 | [],_,l=>l
 |x::m,k,l=>WcY m (k+1) (if x>0 then WmE l k (x-1)else l)
def WkX(m:List Int):List Int:=WcY m 0 (Xp 16 0)
theorem Wjn:SlOk (Xp 16 0) where
 len:=by simp
 each:=λi h=>.inl (Xdj ..)
 one:=λi j hi hj _ h=>WE (Xdj ..) h
theorem Wjj:∀(m:List Int) (k:Nat) (l:List Int),k+m.length<=8->(∀x∈m,0<=x/\x<=65536)->SlOk l->SlOk (WcY m k l)
 | [],_,l,_,_,h=>h
 |x::m,k,l,hk,hx,h=>by
  have h0:=hx x (Xj ..);rw[Xr]at hk;refine Wjj m (k+1) _ (by omega) (λy hy=>hx y (Xf _ hy)) ?_
  grind [WgO]
theorem WsP{m:List Int}(hl:m.length=8)(hx:∀x∈m,0<=x/\x<=65536):SlOk (WkX m):=Wjj m 0 _ (by omega) hx Wjn
theorem Whl{m:List Int}(hl:m.length=8)(hx:∀x∈m,0<=x/\x<=65536)(hN:1048576<N):Zfs N m=ret (WkX m):=by
 have hm:WnL m=true:=by simp_all [WnL,Xi,Wi,Xad]
 unfold Zfs WkX;rw[Wjd (by omega) hN,hm];simp only[ret,Xd,Xk,Wa];rw[show Zr6 N=ret (Xp 16 0)from rfl];simp only[ret,Xd];have lp:∀(d j n:Nat) (l:List Int),j+d=m.length->d<n->SlOk l->Za9 N m (λdL cw bG=>(some ((),(bG,())))) n (j:Int) l=ret (WcY (m.drop j) j l):=by
  intro d
  induction d with
  |zero=>
   intro j n l hj hn hs;obtain⟨n,rfl⟩:∃n',n=n'+1:=⟨n-1,by omega⟩;have:j=m.length:=by omega
   subst this;simp[Za9,WS,Xm,Wa,Xcb,WcY]
  |succ d ih=>
   intro j n l hj hn hs;obtain⟨n,rfl⟩:∃n',n=n'+1:=⟨n-1,by omega⟩;have ac:j<m.length:=by omega
   have hb:=hx m[j] (Xv ac);simp only[Za9,WK ac,Ww ac,Ws ac,Wm (show j<4611686018427387904 by omega),Wb,WV];rw[Xay ac,WcY];by_cases h0:m[j]>0
   .rw[Wf h0,Wf h0,WQ (by unfold I64;omega),Wdh hs (by omega) (by omega) hN]
    grind [WgO]
   grind
 have:=lp m.length 0 N (Xp 16 0) (by omega) (by omega) Wjn;simp_all
end
section
abbrev Hd:=Int×Int×Int
def HdV(h:Hd):Prop:=(1<=h.1/\h.1<=9)/\(0<=h.2.1/\h.2.1<=8)/\1<=h.2.2/\h.2.2<=2
def HdB(a b:Hd):Prop:=cfH a b<0/\(a.2.1=b.2.1->a.2.2≠2/\b.2.2≠2)
structure HOk(l:List Hd):Prop where
 val:∀h∈l,HdV h
 up:l.Pairwise HdB
theorem HOk.ris{l:List Hd}(h:HOk l):Ris cfH l:=h.up.imp λh=>h.1
def Wd0(l:List Hd)(who:Int):List Int:=(l.filter λh=>decide (h.1=who)).map (·.2.1)
def blk(who what mode:Int)(h:Hd):Bool:=decide (h.2.1=what)&&(decide (h.1≠who)&&(decide (mode=2)||decide (h.2.2=2)))
def WfK(l:List Hd)(who what mode:Int):List Int:=(l.filter (blk who what mode)).map (·.1)
def WmP(who what:Int)(h:Hd):Bool:=decide (h.1=who)&&decide (h.2.1=what)
def Wjt(l:List Hd)(who what:Int):Int:=match fnd (WmP who what) l 0 with
 |some r=>r.2.2.2
 |none=>0
def Won(a b:Int):Int:=if a<=b then b else a
def WlA(l:List Hd)(who what mode:Int):List Hd:=WbE cfH l (who,what,Won (Wjt l who what) mode)
def Wdd(l:List Hd)(who what mode:Int):Option (List Hd):=if WfK l who what mode= []then some (WlA l who what mode)else none
def WW(l:List Hd)(who:Int):List Hd:=l.filter λh=>!(h.1==who)
theorem Wat{α:Type}{a b:Int}{x y:α}:(bif a !=b then x else y)=if a=b then y else x:=by
 simp_all
theorem WvK{α:Type}{cf:α->α->Int}(hc:Lin cf){L M:List α}(hL:Ris cf L)(hM:Ris cf M)(hm:∀x,x∈L↔x∈M):L=M:=by
 rw[←Wpv hc hM (hL.imp λh=>.inl h) hm,Wpv hc hL (hL.imp λh=>.inl h) λx=>Iff.rfl]
theorem apH{a b:Hd}:Ap cfH a b↔¬(a.1=b.1/\a.2.1=b.2.1):=by grind [Ap,Wbn]
theorem Wjp{a b c d:Hd}(h1:a.1=c.1)(h2:a.2.1=c.2.1)(h3:b.1=d.1)(h4:b.2.1=d.2.1):cfH a b<0↔cfH c d<0:=by simp_all [Wbn]
variable{N:Nat}{l:List Hd}{who what mode:Int}
theorem Wui(h:Ris cfH l){i:Nat}(hi:i<l.length){e:Hd}(h1:e.1=l[i].1)(h2:e.2.1=l[i].2.1):Ris cfH (l.set i e):=by
 unfold Ris at*;rw[Xap]at*;intro a b ha hb gH;rw[Xat]at ha hb;rw[Xcm,Xcm];have:=h a b ha hb gH;by_cases c1:i=a
 .subst c1;rw[Wf rfl,Wc (by omega)];exact(Wjp h1 h2 rfl rfl).2 this
 .rw[Wc c1];by_cases c2:i=b
  .subst c2;rw[Wf rfl];exact(Wjp rfl rfl h1 h2).2 this
  simp_all
theorem WvC(h:Ris cfH l){i:Nat}(hi:i<l.length){e:Hd}(h1:e.1=l[i].1)(h2:e.2.1=l[i].2.1):l.set i e=WbE cfH l e:=by
 refine WvK Wp7 (Wui h hi h1 h2) (Wcy Wp7 h) λx=>?_;rw[(WnF Wp7 (h.imp λh=>.inl h) hi (by grind [apH])).2 x,Wcu Wp7 h]
theorem Wto{h:Hd}:(decide (1<=h.1)&&decide (h.1<=9))=true/\(decide (0<=h.2.1)&&decide (h.2.1<=8))=true/\(decide (1<=h.2.2)&&decide (h.2.2<=2))=true↔HdV h:=by
 simp[HdV,Xi,Wi]
theorem WfS{h:Hd}(hv:HdV h):Zk7 N h.1 h.2.1 h.2.2=ret true:=by
 obtain⟨a,b,c⟩:=Wto.2 hv;simp_all [Zk7,W1,ret,Xd,Wb]
theorem WnI{a b:Hd}(ha:HdV a)(hb:HdV b):Zkq N a b=ret (cfH a b):=by
 obtain⟨a1,a2,a3⟩:=ha;obtain⟨b1,b2,b3⟩:=hb
 grind [Zkq,cfH,WQ,I64]
theorem Wb2(h:HOk l)(hl:l.length<=1048576)(hN:1048576<N):Zf7 N l=ret true:=by
 have lp:∀(d j n:Nat),j+d=l.length->d<n->Zac N l (some ((),(false,()))) (λdL cw=>(some ((),(true,())))) n (j:Int)=ret true:=by
  intro d
  induction d with
  |zero=>
   intro j n hj hn;obtain⟨n,rfl⟩:∃n',n=n'+1:=⟨n-1,by omega⟩;simp_all [Zac,WS,Xm,Wa]
  |succ d ih=>
   intro j n hj hn;obtain⟨n,rfl⟩:∃n',n=n'+1:=⟨n-1,by omega⟩;have ac:j<l.length:=by omega
   have hv:=h.val l[j] (Xv ac);have dC:=ih (j+1) n (by omega) (by omega);simp only[Zac,WK ac,Ww ac,Ws ac,Wm (show j<4611686018427387904 by omega),Wb,WfS hv,ret,Xd,Xk,Wa,dC];by_cases h0:j=0
   .grind
   .have e1:decide ((j:Int)>0)=true:=by simp;omega
    have e2:WU .i64 (j:Int) 1=((j-1:Nat):Int):=by grind [WQ,I64]
    have bS:j-1<l.length:=by omega
    have hw:=h.val l[j-1] (Xv bS);have hb:=Xap.1 h.up (j-1) j bS ac (by omega);simp only[e1,e2,Wb,Ww bS,Ws bS,WnI hw hv,ret,Xd];rw[Wj (show¬(cfH l[j-1] l[j]>=0) by have:=hb.1;omega)];simp only[Wa,Wv];by_cases hs:l[j-1].2.1=l[j].2.1
    .rw[Wf hs,Wc (hb.2 hs).2,Wc (hb.2 hs).1]
    simp_all
 exact lp l.length 0 N (by omega) (by omega)
theorem WdN{α β R:Type}{body:Int->α->List β->(List β->Option R)->Option R}{K:Int->List β->Option R}{p:α->Bool}{f:α->β}:∀(l:List α) (j:Nat) (o:List β),o.length+l.length<=2000000->
  (∀(j:Nat) x (v:List β) k,x∈l->v.length<=2000000->body j x v k=bif p x then k (v++ [f x])else k v)->Wbm body K l j o=K ((j+l.length:Nat):Int) (o++(l.filter p).map f)
 | [],j,o,_,_=>by simp[Wbm]
 |x::l,j,o,h,hb=>by
  rw[Xr]at h;rw[Wbm,hb j x o _ (Xj ..) (by omega),Xbj];have ih:=λo' jM=>WdN (body:=body) (K:=K) (p:=p) (f:=f) l (j+1) o' jM λj y v k hy=>hb j y v k (Xf _ hy)
  grind
theorem Wiq(h:HOk l)(hl:l.length<=1048576)(hN:1048576<N):Zhx N l who=ret (Wd0 l who):=by
 unfold Zhx Wd0;rw[Wb2 h hl hN];simp only[ret,Xd,Xk,Wa];have h1:=Wx (l:=l) (V:=List Int) (R:=Unit×(List Int×Unit)) (lp:=λn j v=>Zb3 N who l (λax be bd=>(some ((),(bd,())))) n j v) (n:=N) (by omega)
  (body:=λj x v k=>bif x.1==who then(bif Wz (v.length+ [x.2.1].length)then k (Xh v [x.2.1])else none)else k v) (K:=λ_ v=>ret v)
  (λn i v hi=>by simp only[Zb3,WK hi,Ww hi,Ws hi,Wm (show i<4611686018427387904 by omega),Wb])
  (λn v=>by simp[Zb3,WS,Xm,Wa]) []
 refine h1.trans ?_;rw[WdN (p:=λh=>decide (h.1=who)) (f:=(·.2.1)) l 0 [] (by simp;omega) (λj x v k _ hv=>by rw[Wq (by simp;omega)];simp only[Wv,WV,Wb,Xbc])];rfl
theorem Wkd(h:HOk l)(hm:1<=mode/\mode<=2)(hl:l.length<=1048576)(hN:1048576<N):Zk8 N l who what mode=ret (WfK l who what mode):=by
 unfold Zk8 WfK;rw[Wb2 h hl hN];simp only[ret,Xd,Xk,Wa,W1,We hm.1,We hm.2,Xao];have h1:=Wx (l:=l) (V:=List Int) (R:=Unit×(List Int×Unit)) (lp:=λn j v=>Zap N who what mode l (λga gt ba=>(some ((),(ba,())))) n j v) (n:=N) (by omega)
  (body:=λj x v k=>bif x.2.1==what then(bif x.1 !=who then(bif mode==2 then(bif Wz (v.length+ [x.1].length)then k (Xh v [x.1])else none)else(bif x.2.2==2 then(bif Wz (v.length+ [x.1].length)then k (Xh v [x.1])else none)else k v))else k v)else k v) (K:=λ_ v=>ret v)
  (λn i v hi=>by simp only[Zap,WK hi,Ww hi,Ws hi,Wm (show i<4611686018427387904 by omega),Wb])
  (λn v=>by simp[Zap,WS,Xm,Wa]) []
 refine h1.trans ?_;rw[WdN (p:=blk who what mode) (f:=(·.1)) l 0 [] (by simp;omega) (λj x v k _ hv=>by
  rw[Wq (by simp;omega)];unfold blk;simp only[Wv,Wat,Wb,Xbc];by_cases c1:x.2.1=what<;>by_cases c2:x.1=who<;>by_cases c3:mode=2<;>by_cases c4:x.2.2=2<;>simp[c1,c2,c3,c4])]
 rfl
theorem WvX(h:HOk l):0<=Wjt l who what/\Wjt l who what<=2:=by
 unfold Wjt;cases hf:fnd (WmP who what) l 0 with
 |none=>simp
 |some r=>
  have:=WcI hf;have:=h.val r.2 (List.mem_of_getElem? this.2.2.2)
  grind [HdV]
theorem WjN(h:HOk l)(hw:1<=who/\who<=9)(ht:0<=what/\what<=8)(hm:1<=mode/\mode<=2)(hl:l.length<=1048000)(hN:1048576<N):
  Zjo N l who what mode=some ((),((Wdd l who what mode).getD l,((Wdd l who what mode).isSome,()))):=by
 unfold Zjo Wdd;have rS:Zfu N l=ret l:=by grind [Zfu,Wq]
 have Aq:Zk7 N who what mode=ret true:=WfS (h:=(who,what,mode)) ⟨hw,ht,hm⟩;rw[rS,Wb2 h (by omega) hN,Aq,Wkd h hm (by omega) hN];simp only[ret,Xd,Xk,Wa,WV];by_cases hb:WfK l who what mode= []
 .rw[Wc (by rw[hb];simp[Wg]),Wf hb];have h1:=Wjz (l:=l) (p:=WmP who what) (N:=N) (lp:=λn j=>Zb4 N who what mode (Wg l) l (λbX=>(some ((),(bX,(true,()))))) (λiH pY=>
  (bif Wz ((Xb l)+(Xb ([(who,(what,mode))])))then
 ((Zp N (Xh l ([(who,(what,mode))]))).bind λjB=>
 (some ((),(jB.1.1,(true,())))))else none)) n j)
   (K0:=λj=>some ((),(l.set j.toNat ((l.getD j.toNat (0,0,0)).1,(l.getD j.toNat (0,0,0)).2.1,Ws8 (l.getD j.toNat (0,0,0)).2.2 mode),(true,())))) (K1:=(bif Wz ((Xb l)+(Xb ([(who,(what,mode))])))then
 ((Zp N (Xh l ([(who,(what,mode))]))).bind λjB=>
 (some ((),(jB.1.1,(true,())))))else none)) (by omega) (by omega)
   (λn j hj=>by
    simp only[Zb4,WK hj,Ww hj,Ws hj,Wm (show j<4611686018427387904 by omega),Wb];simp[WmP,Wv,WuC,WV])
   (λn=>by simp[Zb4,WS,Xm,Wa])
  rw[h1];unfold WlA Wjt;cases hf:fnd (WmP who what) l 0 with
  |some r=>
   obtain⟨g1,g2,g3,g4⟩:=WcI hf;rw[Xau]at g3;rw[Xdf,Xq g3]at g4;injection g4 with g4;unfold WmP at g1;simp only[Xi,Wi]at g1;simp only[Ws g3,g4,Xdu,Xfa];rw[Xl];have:Ws8 r.2.2.2 mode=Won r.2.2.2 mode:=by grind [Ws8,Won]
   rw[this,g1.1,g1.2,WvC h.ris g3 (e:=(who,what,Won r.2.2.2 mode)) (by simp_all) (by simp_all)]
  |none=>
   have hn:=Wgs hf;simp only;rw[Wq (by simp;omega)];have hmx:Won 0 mode=mode:=by unfold Won;rw[Wf (by omega)]
   have vT:=Wkp (cf:=cfH) (L:=l) (e:=(who,what,mode)) (h.ris.imp λh=>.inl h) (λx hx=>by
    grind [apH,WmP,Xck,decide_eq_false_iff_not])
   unfold Zp;simp only[Wb,Xbc];rw[WpR (rng:=WvU) (N:=N) Wp7 (M:=WbE cfH l (who,what,mode)) (Wcy Wp7 h.ris) vT.1 (λx=>by rw[vT.2 x,Wcu Wp7 h.ris]) (λx hx=>by
    rcases Xo.1 hx with hx|hx
    .have:=h.val x hx
     grind [HdV,WvU,Wvg]
    grind [Xag,WvU,Wvg]) (by simp;omega)]
   simp_all
 .rw[Wf (by
   simp_all [WfK,Xx,Wg]),Wc hb]
  rfl
theorem WrB(h:HOk l)(hw:1<=who/\who<=9)(ht:0<=what/\what<=8)(hm:1<=mode/\mode<=2)(hb:WfK l who what mode= []):HOk (WlA l who what mode):=by
 have mS:=WvX (who:=who) (what:=what) h;have g0:∀x∈l,x.2.1=what->x.1≠who->mode≠2/\x.2.2≠2:=λx hx h1 h2=>by
  refine Classical.byContradiction λhc=>?_;have:x.1∈WfK l who what mode:=Xw.2 ⟨x,Xax.2 ⟨hx,by grind [blk]⟩,rfl⟩;simp_all
 have og:∀x∈l,x.2.1=what->x.1≠who->Wjt l who what≠2:=λx hx h1 h2=>by
  unfold Wjt;cases hf:fnd (WmP who what) l 0 with
  |none=>simp
  |some r=>
   obtain⟨g1,g2,g3,g4⟩:=WcI hf;rw[Xau]at g3;rw[Xdf,Xq g3]at g4;injection g4 with g4;unfold WmP at g1;simp only[Xi,Wi]at g1;obtain⟨j,hj,rfl⟩:=Xcc hx;have hp:=Xap.1 h.up;simp only;rw[←g4]at g1⊢;rcases Xfk r.1 j with ac|heq|ac
   .exact((hp r.1 j g3 hj ac).2 (by rw[h1,g1.2])).1
   .simp_all
   .exact((hp j r.1 hj g3 ac).2 (by rw[h1,g1.2])).2
 unfold WlA;refine⟨λx hx=>?_,?_⟩
 .rcases(Wcu Wp7 h.ris).1 hx with rfl|hx
  .refine⟨hw,ht,?_⟩;simp only;unfold Won;split<;>omega
  .exact h.val x hx.1
 .have hr:=Wcy (e:=(who,what,Won (Wjt l who what) mode)) Wp7 h.ris;have aM:=λx=>Wcu (e:=(who,what,Won (Wjt l who what) mode)) (x:=x) Wp7 h.ris;have hmj:∀x∈l,x.2.1=what->x.1≠who->Won (Wjt l who what) mode≠2:=λx hx h1 h2=>by
   have:=og x hx h1 h2;have:=(g0 x hx h1 h2).1;unfold Won;split<;>omega
  unfold Ris at hr;rw[Xap]at hr⊢;intro i j hi hj pW;refine⟨hr i j hi hj pW,λhs=>?_⟩;have ac:=hr i j hi hj pW;have m1:=(aM _).1 (Xv hi);have m2:=(aM _).1 (Xv hj);generalize (WbE cfH l (who,what,Won (Wjt l who what) mode))[i]=x at*;generalize (WbE cfH l (who,what,Won (Wjt l who what) mode))[j]=y at*;rcases m1 with rfl|m1<;>rcases m2 with rfl|m2
  .exact WE ac (Wp7.irr _)
  .grind [apH]
  .grind [apH]
  .obtain⟨a,ha,rfl⟩:=Xcc m1.1;obtain⟨b,cJ,rfl⟩:=Xcc m2.1;have hp:=Xap.1 h.up;rcases Xfk a b with gH|gH|gH
   .exact(hp a b ha cJ gH).2 hs
   .subst gH;exact WE ac (Wp7.irr _)
   .exact WE (Wp7.tr _ _ _ ac (hp b a cJ ha gH).1) (Wp7.irr _)
theorem Wi8(h:HOk l):HOk (WW l who):=⟨λx hx=>h.val x (Xax.1 hx).1,h.up.filter _⟩
theorem Wep(h:HOk l):l.length<=81:=by
 have key:∀(l:List Hd) (c:Int),Ris cfH l->(∀e∈l,HdV e/\c<=9*e.2.1+e.1)->1<=c->(l.length:Int)<=82-c\/l= []:=by
  intro l
  induction l with
  |nil=>simp_all
  |cons a l ih=>
   intro c hr hb hc;left;have h1:=List.pairwise_cons.1 hr;have ha:=hb a (Xj ..);unfold HdV at ha;rcases ih (9*a.2.1+a.1+1) h1.2 (λe he=>⟨(hb e (Xf _ he)).1,by
    grind [Wbn,Xf,HdV]⟩) (by omega)with h|h
   .grind
   grind
 rcases key l 1 h.ris (λe he=>⟨h.val e he,by have:=h.val e he;grind [HdV]⟩) (by omega)with h|h
 .omega
 simp_all
theorem WiG{α V R:Type}{body:Int->α->V->(V->Option R)->Option R}{K:Int->V->Option R}{p:α->Bool}{E:Int->V->Option R}:∀(l:List α) (j:Nat) (v:V),(∀(j:Nat) x v k,x∈l->body j x v k=bif p x then E j v else k v)->
  (∃a x r,l=a++x::r/\(∀y∈a,p y=false)/\p x=true/\Wbm body K l j v=E ((j+a.length:Nat):Int) v)\/((∀y∈l,p y=false)/\Wbm body K l j v=K ((j+l.length:Nat):Int) v)
 | [],j,v,_=>.inr ⟨by simp,rfl⟩
 |x::l,j,v,h=>by
  rw[Wbm,h j x v _ (Xj ..)];cases hp:p x
  .simp only[Wa];rcases WiG (E:=E) l (j+1) v λj y v k hy=>h j y v k (Xf _ hy)with⟨a,y,r,h1,h2,h3,h4⟩|⟨h1,h2⟩
   .refine .inl ⟨x::a,y,r,by rw[h1];rfl,λz hz=>?_,h3,?_⟩
    .rcases List.mem_cons.1 hz with rfl|hz
     .exact hp
     .exact h2 z hz
    .rw[h4,Xr,show j+1+a.length=j+(a.length+1) by omega]
   grind
  .exact .inl ⟨[],x,l,rfl,by simp,hp,rfl⟩
theorem Wtl{N:Nat}(a0:Int){R:Type}(K:Int->Int->Bool->List Hd->Int->Option R):
  ∀(r a m:List Hd) (n:Nat),r.length<n->a.length+m.length+r.length<=1048576->∃m',
   Za N K n (a.length:Int) ((a.length+m.length:Nat):Int) (a++m++r) a0=
    K ((a++r.filter λx=>!(x.1==a0)).length:Int) ((a.length+m.length+r.length:Nat):Int) false ((a++r.filter λx=>!(x.1==a0))++m') a0
 | [],a,m,0,h,_=>by simp at h
 | [],a,m,n+1,h,_=>by
  refine⟨m,?_⟩;have e1:decide (((a.length+m.length:Nat):Int)<Wg (a++m++ []))=false:=by simp[Wg]
  simp only[Za,e1,Wa];simp
 |x::r,a,m,0,h,_=>by simp at h
 |x::r,a,m,n+1,h,hb=>by
  simp only[Xr]at h hb;have hj:a.length+m.length<(a++m++x::r).length:=by simp
  have hi:a.length<(a++m++x::r).length:=by simp;omega
  have hx:Xc (a++m++x::r) (a.length+m.length) ((0:Int),((0:Int),(0:Int)))=x:=by
   simp_all
  cases hp:x.1==a0
  .obtain⟨m2,sH,wX⟩:∃m2:List Hd,m2.length=m.length/\(a++m++x::r).set a.length x=(a++ [x])++m2++r:=by
    cases m with
    |nil=>simp_all
    |cons y m=>grind
   obtain⟨m',ih⟩:=Wtl (N:=N) a0 K r (a++ [x]) m2 n (by omega) (by simp;omega);refine⟨m',?_⟩;simp only[Za,Zha,WK hj,Ww hj,Ww hi,Xl,hx,hp,Xd,Wb,Xbl,Xl,wX,
    Wm (show a.length<4611686018427387904 by omega),Wm (show a.length+m.length<4611686018427387904 by omega)]
   have l1:(a++ [x]).length=a.length+1:=by simp
   rw[l1,sH,show a.length+1+m.length=a.length+m.length+1 by omega]at ih;rw[ih];simp only[Xbj,hp,Xbl,W4,List.append_assoc,List.singleton_append,Xr];rw[show a.length+m.length+1+r.length=a.length+m.length+(r.length+1) by omega]
  .obtain⟨m',ih⟩:=Wtl (N:=N) a0 K r a (m++ [x]) n (by omega) (by simp;omega);refine⟨m',?_⟩;simp only[Za,Zha,WK hj,Ww hj,Ww hi,Xl,hx,hp,Xd,Wb,Wa,Xk,
    Wm (show a.length+m.length<4611686018427387904 by omega)]
   simp only[Xaa,Xr,Xbz,Xau]at ih;rw[show a.length+(m.length+1)=a.length+m.length+1 by omega,show a++(m++ [x])++r=a++m++x::r by simp]at ih;rw[ih];simp only[Xbj,hp,Xk,W7,Xai,Xr];simp only[Xaa];rw[show a.length+m.length+1+r.length=a.length+m.length+(r.length+1) by omega]
theorem Wrd{N:Nat}{s:List Hd}{a0:Int}(hN:1048576<N)(hs:s.length<=100000):
  Zm N s a0=some ((a0,()),(s.filter λx=>!(x.1==a0),())):=by
 unfold Zm;have h1:=Wx (l:=s) (V:={v:Int//v=a0}) (R:=Kh×Kh) (lp:=λn j v=>Ze N s (λcw bF=>some ((bF,()),(cw,()))) (λga gt eK=>some ((eK,()),((-1:Int),()))) n j v.1) (n:=N) (by omega)
  (body:=λj x v k=>bif x.1==a0 then some ((v.1,()),(j,()))else k v) (K:=λ_ v=>some ((v.1,()),((-1:Int),())))
  (λn i v hi=>by
   obtain⟨v,rfl⟩:=v;simp only[Ze,WK hi,Ww hi,Ws hi,Wm (show i<4611686018427387904 by omega),Wb,Zha,Xd])
  (λn v=>by simp[Ze,WS,Xm,Wa]) ⟨a0,rfl⟩
 simp only[]at h1;unfold Zr;rw[h1];rcases WiG (body:=λj x (v:{v:Int//v=a0}) k=>bif x.1==a0 then some ((v.1,()),(j,()))else k v) (K:=λ_ v=>(some ((v.1,()),((-1:Int),())):Option (Kh×Kh))) (p:=λx=>x.1==a0)
  (E:=λj v=>some ((v.1,()),(j,()))) s 0 ⟨a0,rfl⟩ (λj x v k _=>rfl)with⟨a,x,r,dq,ha,hx,hr⟩|⟨ha,hr⟩
 .rw[hr];simp only[Xd,Xau];have e0:((a.length:Int)== -1)=false:=by simp
  rw[e0,Wm (show a.length<4611686018427387904 by grind)];simp only[Wa];obtain⟨m',hd⟩:=Wtl (N:=N) a0 (λbc zw ga bX eK=>
     (bif (decide ((0:Int)<=bc))&&(decide (bc<=((Xb bX):Int)))then
      (bif (decide ((0:Int)<=bc))&&(decide (bc<=((Xb ((Xam (Xa bc) bX)++Xp ((Xb bX) -(Xa bc)) ((0:Int),((0:Int),(0:Int)))++(List.drop (Xb bX) bX))):Int)))then
       (some ((eK,()),(Xam (Xa bc) ((Xam (Xa bc) bX)++Xp ((Xb bX) -(Xa bc)) ((0:Int),((0:Int),(0:Int)))++(List.drop (Xb bX) bX)),())))else none)else none)) r a [x] N (by grind) (by grind)
  rw[show a++ [x]++r=s by simp_all]at hd;simp only[Xr,Xbz,Xau]at hd;rw[hd];have hf:(s.filter λx=>!(x.1==a0))=a++r.filter λx=>!(x.1==a0):=by
   rw[dq,List.filter_append,Xbj];have:(a.filter λx=>!(x.1==a0))=a:=Xeu.2 λy hy=>by grind
   grind
  grind
 grind [Xeu]
theorem Wh9(h:HOk l)(hl:l.length<=100000)(hN:1048576<N):Zoj N l who=ret (WW l who):=by
 have rS:Zfu N l=ret l:=by grind [Zfu,Wq]
 unfold Zoj;rw[rS,Wb2 h (by omega) hN];simp only[ret,Xd,Xk,Wa];rw[Wrd hN hl];rfl
end
section
def zWd:Wd:=(0,0,0)
def Waz(m:Mm)(i:Int):Wd:=WbQ m.2 i zWd
def Wxa(m:Mm)(i:Int)(w:Wd):Mm:=(m.1,WoK m.2 i w)
variable{m:Mm}
theorem WoU(hm:W0 m=true){i:Int}{w:Wd}(hw:Wm9 m.1 w=true):W0 (Wxa m i w)=true:=by
 obtain⟨h8,h0,h1,vY⟩:=WC hm;unfold W0 Wxa WoK
 grind
theorem Wmo(hm:W0 m=true){i:Int}(hi:0<=i/\i<=7):Wm9 m.1 (Waz m i)=true:=Wtv hm hi
theorem Wvs(hm:W0 m=true):W0 (tick m).1=true/\0<=(tick m).2/\(tick m).2<=1000000/\((tick m).2≠0->(tick m).2=m.1+1/\(tick m).1=(m.1+1,m.2))/\((tick m).2=0->(tick m).1=m):=by
 obtain⟨h8,h0,h1,vY⟩:=WC hm;unfold tick;split
 .refine⟨?_,by omega,by omega,λ_=>⟨rfl,rfl⟩,λh=>by omega⟩;unfold W0;simp only[Xi,Wi,Xad]
  grind [WhY]
 simp_all
end
section
structure Cm where
 who:Int:=0
 rv:Int:=0
 phase:Int:=0
 pos:Int:=0
 wv:Int:=0
 puts:List Rw:=[]
 reads:List Int:=[]
def Cm.e(c:Cm):Int×Int×Int×Int×Int×List Kc×List Int:=(c.who,c.rv,c.phase,c.pos,c.wv,c.puts,c.reads)
def Cm.steps(c:Cm):Int:=
 if c.phase=1\/c.phase=4\/c.phase=5\/c.phase=7 then c.puts.length else if c.phase=3 then c.reads.length else 1
def Wew(c:Cm)(n:Int):Cm:=if n=0 then{c with phase:=8,pos:=0}else{c with phase:=7,pos:=n-1}
def WmC(c:Cm)(ph:Int):Int:=
 if(ph=3/\c.reads.length=0\/ph=4)/\c.puts.length=0 then 6 else if ph=3/\c.reads.length=0 then 4 else ph
def Wmf(c:Cm)(ph:Int):Cm:={c with phase:=WmC c ph,pos:=0}
def WeF(c:Cm)(ph:Int):Cm:=if c.pos+1=c.steps then Wmf c ph else{c with pos:=c.pos+1}
def WuF(m:Mm)(i who:Int):Mm:=Wxa m i ((Waz m i).1,(Waz m i).2.1,who)
def WiN(m:Mm)(i who v:Int):Mm:=if(Waz m i).2.2=who then Wxa m i (v,(Waz m i).2)else m
def WeK(m:Mm)(i who ver:Int):Mm:=if(Waz m i).2.2=who/\(Waz m i).2.1<=ver/\ver<=m.1 then Wxa m i ((Waz m i).1,ver,0)else m
def Wdu(m:Mm)(c:Cm):Mm×Cm:=
 let p:=WbQ c.puts c.pos (0,0)
 if c.phase=1 then(if(Waz m p.1).2.2=0 then(WuF m p.1 c.who,WeF c 2)else(m,Wew c c.pos))else
 if c.phase=2 then(if(tick m).2=0 then((tick m).1,Wew c c.puts.length)else((tick m).1,Wmf {c with wv:=(tick m).2} 3))else
 if c.phase=3 then
  let w:=Waz m (WbQ c.reads c.pos 0)
  if(w.2.2≠0/\w.2.2≠c.who)\/w.2.1>c.rv then(m,Wew c c.puts.length)else(m,WeF c 4)
 else
 if c.phase=4 then(WiN m p.1 c.who p.2,WeF c 5)else
 if c.phase=5 then(WeK m p.1 c.who c.wv,WeF c 6)else
 if c.phase=7 then(WeK m p.1 c.who (Waz m p.1).2.1,Wew c c.pos)else
 (m,c)
def Wbk(c:Cm):Cm:=
 if c.phase=1 then Wew c c.pos else if c.phase=2\/c.phase=3 then Wew c c.puts.length else c
def WfY(who rv:Int)(puts reads:List Rw):Cm:=
 {who:=who,rv:=rv,phase:=if(WcU puts).length=0 then 2 else 1,puts:=WcU puts,reads:=(WcU reads).map (·.1)}
structure CmOk(c:Cm):Prop where
 who:1<=c.who/\c.who<=99
 rv:0<=c.rv/\c.rv<=1000000
 wv:0<=c.wv/\c.wv<=1000000
 phase:1<=c.phase/\c.phase<=8
 rows:Wjg c.puts
 pup:c.puts.Pairwise λa b=>a.1<b.1
 plen:c.puts.length<=8
 rd:∀x∈c.reads,0<=x/\x<=7
 rup:c.reads.Pairwise (· < ·)
 rlen:c.reads.length<=8
 pos:0<=c.pos/\c.pos<c.steps
section
variable{N:Nat}{c:Cm}{m:Mm}
theorem CmOk.back(h:CmOk c){n:Int}(hn:0<=n/\n<=c.puts.length):CmOk (Wew c n):=by
 unfold Wew;split
 .exact{h with phase:=by simp_all,pos:=by simp[Cm.steps]}
 .exact{h with phase:=by simp_all,pos:=by grind [Cm.steps]}
theorem WtX(c:Cm){ph:Int}(h:2<=ph/\ph<=6):2<=WmC c ph/\WmC c ph<=6:=by unfold WmC;split<;>(try split)<;>omega
theorem CmOk.adv(h:CmOk c){ph:Int}(hp:2<=ph/\ph<=6)(h5:ph=5->c.puts.length≠0):CmOk (Wmf c ph):=by
 unfold Wmf;have:=WtX c hp;refine{h with phase:=by grind,pos:=⟨Int.le_refl _,?_⟩}
 grind [Cm.steps,WmC]
theorem CmOk.next(h:CmOk c){ph:Int}(hp:2<=ph/\ph<=6)(h5:ph=5->c.puts.length≠0):CmOk (WeF c ph):=by
 unfold WeF;split
 .exact h.adv hp h5
 .have:=h.pos;exact{h with pos:=⟨by grind,by show c.pos+1<c.steps;omega⟩}
theorem WtG(hm:W0 m=true){i who:Int}(hi:0<=i/\i<=7)(hw:0<=who/\who<=99):W0 (WuF m i who)=true:=by
 have:=WhY.1 (Wmo hm hi);exact WoU hm (by grind [WhY])
theorem Ws3(hm:W0 m=true){i who v:Int}(hi:0<=i/\i<=7)(hv:0<=v/\v<=65535):W0 (WiN m i who v)=true:=by
 grind [WhY,Wmo,WiN,WoU]
theorem WkM(hm:W0 m=true){i who ver:Int}(hi:0<=i/\i<=7):W0 (WeK m i who ver)=true:=by
 grind [WhY,Wmo,WeK,WoU]
theorem CmOk.put(h:CmOk c)(hp:c.phase=1\/c.phase=4\/c.phase=5\/c.phase=7):∃(j:Nat) (hj:j<c.puts.length),c.pos=j/\WbQ c.puts c.pos (0,0)=c.puts[j]/\(0<=c.puts[j].1/\c.puts[j].1<=7)/\0<=c.puts[j].2/\c.puts[j].2<=65535:=by
 have:=h.pos;unfold Cm.steps at this;rw[Wf hp]at this;have hj:c.pos.toNat<c.puts.length:=by omega
 have hr:=h.rows _ (Xv hj);exact⟨c.pos.toNat,hj,by omega,WD hj _,hr.1,hr.2⟩
theorem CmOk.read(h:CmOk c)(hp:c.phase=3):∃(j:Nat) (hj:j<c.reads.length),c.pos=j/\WbQ c.reads c.pos 0=c.reads[j]/\0<=c.reads[j]/\c.reads[j]<=7:=by
 have:=h.pos;unfold Cm.steps at this;rw[Wc (by omega),Wf hp]at this;have hj:c.pos.toNat<c.reads.length:=by omega
 have hr:=h.rd _ (Xv hj);exact⟨c.pos.toNat,hj,by omega,WD hj _,hr⟩
theorem Wix(h:CmOk c)(hm:W0 m=true):CmOk (Wdu m c).2/\W0 (Wdu m c).1=true:=by
 have cy:=h.pos;have hl:c.phase=1\/c.phase=4\/c.phase=5\/c.phase=7->c.puts.length≠0:=λhp=>by obtain⟨j,hj,_⟩:=h.put hp;omega
 have bv:c.phase=1\/c.phase=4\/c.phase=5\/c.phase=7->c.pos<c.puts.length:=λhp=>by simp_all [Cm.steps,Wf]
 have hw:=h.who;unfold Wdu;simp only;split
 .obtain⟨j,hj,e1,e2,e3,e4⟩:=h.put (by omega);rw[e2];split
  .exact⟨h.next (by omega) (by omega),WtG hm e3 (by omega)⟩
  .exact⟨h.back (by omega),hm⟩
 .split
  .have ht:=Wvs hm;split
   .exact⟨h.back (by omega),ht.1⟩
   .refine⟨?_,ht.1⟩;have h':CmOk {c with wv:=(tick m).2}:={h with wv:=⟨ht.2.1,ht.2.2.1⟩};exact h'.adv (by omega) (by omega)
  .split
   .split
    .exact⟨h.back (by omega),hm⟩
    .exact⟨h.next (by omega) (by omega),hm⟩
   .split
    .obtain⟨j,hj,e1,e2,e3,e4⟩:=h.put (by omega);rw[e2];exact⟨h.next (by omega) (λ_=>hl (by omega)),Ws3 hm e3 e4⟩
    .split
     .obtain⟨j,hj,e1,e2,e3,e4⟩:=h.put (by omega);rw[e2];exact⟨h.next (by omega) (by omega),WkM hm e3⟩
     .split
      .obtain⟨j,hj,e1,e2,e3,e4⟩:=h.put (by omega);have:=bv (by omega);rw[e2];exact⟨h.back (by omega),WkM hm e3⟩
      simp_all
theorem Wq1(h:CmOk c):CmOk (Wbk c):=by
 have cy:=h.pos;unfold Wbk;split
 .have:c.pos<c.puts.length:=by simp_all [Cm.steps,Wf]
  exact h.back (by omega)
 .split
  .exact h.back (by omega)
  .exact h
theorem WtW{who rv:Int}{puts reads:List Rw}(hw:1<=who/\who<=99)(hr:0<=rv/\rv<=1000000):CmOk (WfY who rv puts reads) where
 who:=hw
 rv:=hr
 wv:=by simp[WfY]
 phase:=by unfold WfY;simp only;split<;>omega
 rows:=WgV
 pup:=Woz puts
 plen:=Wc0 puts
 rd:=λx hx=>by
  obtain⟨r,hr,rfl⟩:=Xw.1 hx;exact(WgV r hr).1
 rup:=by
  simp[WfY,List.pairwise_map,Woz]
 rlen:=by simp[WfY,Xu,Wc0]
 pos:=by
  unfold WfY Cm.steps
  grind
theorem cmP(c:Cm):c.e.1=c.who/\c.e.2.1=c.rv/\c.e.2.2.1=c.phase/\c.e.2.2.2.1=c.pos/\c.e.2.2.2.2.1=c.wv/\c.e.2.2.2.2.2.1=c.puts/\c.e.2.2.2.2.2.2=c.reads:=⟨rfl,rfl,rfl,rfl,rfl,rfl,rfl⟩
theorem Wb5{who:Int}:Zf8 N who=ret (decide (1<=who)&&decide (who<=99)):=by simp[Zf8,W1]
theorem Wd9(hm:W0 m=true):Zcl N m=ret m:=by
 grind [WC,Zcl,Wq]
theorem Wkx(h:CmOk c):Zi8 N c.e=ret c.e:=by
 unfold Zi8;have:=h.plen;have:=h.rlen;rw[show Za8 N c.e.2.2.2.2.2.1=ret c.puts from WdJ (show c.puts.length<=1048576 by omega),show Zn N c.e.2.2.2.2.2.2=ret c.reads from Wcz (show c.reads.length<=1048576 by omega)];rfl
theorem Wnc:Zd1 N c.e=ret c.steps:=by
 unfold Zd1 Cm.steps;obtain⟨c0,c1,c2,c3,c4,c5,c6⟩:=cmP c;simp only[Wv,c2,c5,c6,Wg]
 grind
theorem Wh1(h:CmOk c)(hN:1048576<N):Zgu N c.e=ret true:=by
 obtain⟨c0,c1,c2,c3,c4,c5,c6⟩:=cmP c;have fy:=h.plen;have cE:=h.rlen;have hw:=h.who;have my:=h.rv;have xC:=h.wv;have gw:=h.phase;have cy:=h.pos;have jY:Wak c.puts=true:=by unfold Wak;rw[Wij.2 h.rows,We (by omega)];rfl
 unfold Zgu;simp only[c0,c1,c2,c3,c4,c5,c6,Wb5,W1,WcF (show c.puts.length<=1048576 by omega) hN,Wnc,ret,Xd,We hw.1,We hw.2,We my.1,We my.2,We xC.1,We xC.2,We gw.1,We gw.2,jY,Xao,Xk,Wa];have rT:c.steps<=8:=by unfold Cm.steps;split<;>(try split)<;>omega
 have Ar:WU .i64 c.steps 1=c.steps-1:=WQ (by unfold I64;omega);rw[Ar,We cy.1,We (show c.pos<=c.steps-1 by omega)];have ta:∀(d j n:Nat),j+d=c.reads.length->d<n->Zaz N c.reads c.e (some ((),(false,()))) (λt22 gu=>(some ((),(true&&true,())))) n (j:Int)=ret true:=by
  intro d
  induction d with
  |zero=>
   intro j n hj hn;obtain⟨n,rfl⟩:∃n',n=n'+1:=⟨n-1,by omega⟩;simp_all [Zaz,WS,Xm,Wa]
  |succ d ih=>
   intro j n hj hn;obtain⟨n,rfl⟩:∃n',n=n'+1:=⟨n-1,by omega⟩;have ac:j<c.reads.length:=by omega
   have dC:=ih (j+1) n (by omega) (by omega);have hv:=h.rd _ (Xv ac);have bE:Wav c.reads[j]=true:=by grind [Wav]
   simp only[Zaz,c6,WK ac,Ww ac,Ws ac,Wm (show j<4611686018427387904 by omega),Wb,WaI,ret,Xd,bE,Xk,Wa,dC];by_cases h0:j=0
   .grind
   .have e1:decide ((j:Int)>0)=true:=by simp;omega
    have e2:WU .i64 (j:Int) 1=((j-1:Nat):Int):=by grind [WQ,I64]
    have bS:j-1<c.reads.length:=by omega
    have hb:=Xap.1 h.rup (j-1) j bS ac (by omega);simp_all [Wb,Ww,Ws,Wj]
 have vZ:∀(d j n:Nat),j+d=c.puts.length->d<n->1<=j->Zbn N c.e (some ((),(false,()))) (λbp ax=>(Zaz N c.reads c.e (some ((),(false,()))) (λt22 gu=>(some ((),(true&&true,())))) N (0:Int))) n (j:Int)=ret true:=by
  intro d
  induction d with
  |zero=>
   intro j n hj hn _;obtain⟨n,rfl⟩:∃n',n=n'+1:=⟨n-1,by omega⟩;have:j=c.puts.length:=by omega
   subst this;simp only[Zbn,c5,WS (Xm _),Wa];exact ta c.reads.length 0 N (by omega) (by omega)
  |succ d ih=>
   intro j n hj hn h1j;obtain⟨n,rfl⟩:∃n',n=n'+1:=⟨n-1,by omega⟩;have ac:j<c.puts.length:=by omega
   have dC:=ih (j+1) n (by omega) (by omega) (by omega);have e2:WU .i64 (j:Int) 1=((j-1:Nat):Int):=by grind [WQ,I64]
   have bS:j-1<c.puts.length:=by omega
   have hb:=Xap.1 h.pup (j-1) j bS ac (by omega);simp only[Zbn,c5,WK ac,Ww ac,Ws ac,Wm (show j<4611686018427387904 by omega),Wb,e2,Ww bS,Ws bS]
   grind
 by_cases hz:c.puts.length=0
 .obtain⟨N',rfl⟩:∃N',N=N'+1:=⟨N-1,by omega⟩;rw[Zbn,c5,Wj (by unfold Wg;omega)];exact ta c.reads.length 0 _ (by omega) (by omega)
 .exact vZ (c.puts.length-1) 1 N (by omega) (by omega) (by omega)
theorem Wid(h:CmOk c){n:Int}(hn:0<=n/\n<=8):Zw N c.e n=some (((Wew c n).e,()),()):=by
 unfold Zw Wew;rw[Wv,WQ (by unfold I64;omega)];split<;>rfl
theorem WsL{ph:Int}:Zf9 N c.e ph=some (((Wmf c ph).e,()),()):=by
 obtain⟨c0,c1,c2,c3,c4,c5,c6⟩:=cmP c;unfold Zf9 Wmf WmC;simp only[Wv,c5,c6,Wg];by_cases h3:ph=3
 .subst h3;by_cases hr:c.reads.length=0<;>by_cases hp:c.puts.length=0<;>simp[hr,hp]<;>rfl
 .by_cases h4:ph=4
  .subst h4;by_cases hp:c.puts.length=0<;>simp[hp]<;>rfl
  .simp[h3,h4];rfl
theorem WuM(h:CmOk c){ph:Int}:Zbb N c.e ph=some (((WeF c ph).e,()),()):=by
 obtain⟨c0,c1,c2,c3,c4,c5,c6⟩:=cmP c;have cy:=h.pos;have rT:c.steps<=8:=by have:=h.plen;have:=h.rlen;unfold Cm.steps;split<;>(try split)<;>omega
 have bv:Zd1 N (Cm.e {c with pos:=c.pos+1})=ret c.steps:=Wnc;unfold Zbb WeF;rw[c3,WJ (by unfold I64;omega)];rw[show(c.e.1,(c.e.2.1,(c.e.2.2.1,(c.pos+1,c.e.2.2.2.2))))=Cm.e {c with pos:=c.pos+1}from rfl,bv];simp only[ret,Xd,Wv,WsL];split<;>rfl
theorem Wtz(h:CmOk c)(hN:1048576<N):∃b,Zlj N c.e=some ((),((Wbk c).e,(b,()))):=by
 obtain⟨c0,c1,c2,c3,c4,c5,c6⟩:=cmP c;have cy:=h.pos;have fy:=h.plen;have rT:c.steps<=8:=by have:=h.plen;have:=h.rlen;unfold Cm.steps;split<;>(try split)<;>omega
 unfold Zlj Wbk;rw[Wkx h];simp only[ret,Xd];rw[Wh1 h hN];simp only[ret,Xd,Xk,Wa,Wv,c2,c3,c5,Wid h (show 0<=c.pos/\c.pos<=8 by omega),Wid h (show 0<=Wg c.puts/\Wg c.puts<=8 by unfold Wg;omega)];by_cases h1:c.phase=1
 .simp_all
 .rw[Wc h1,Wc h1];by_cases h2:c.phase=2
  .rw[Wf h2,Wf h2,Wf (.inl h2)];exact⟨_,rfl⟩
  .rw[Wc h2];by_cases h3:c.phase=3
   .rw[Wf h3,Wf (.inr h3)];exact⟨_,rfl⟩
   simp_all
theorem WoD{l:List Rw}(hl:l.length<=1048576)(hN:1048576<N):Zjn N l=ret ((WcU l).map (·.1)):=by
 unfold Zjn;rw[Wer hl hN];have hn:=Wc0 l;simp only[ret,Xd];have h1:=Wx (l:=WcU l) (V:=List Int) (R:=Unit×(List Int×Unit)) (lp:=λn j v=>Zc9 N (Wg (WcU l)) (WcU l) (λar aq bJ=>(some ((),(bJ,())))) n j v) (n:=N) (by omega)
  (body:=λj x v k=>bif Wz (v.length+ [x.1].length)then k (Xh v [x.1])else none) (K:=λ_ v=>ret v)
  (λn i v hi=>by simp only[Zc9,WK hi,Ww hi,Ws hi,Wm (show i<4611686018427387904 by omega),Wb])
  (λn v=>by simp[Zc9,WS,Xm,Wa]) []
 refine h1.trans ?_;rw[Wca (f:=λx:Rw=>x.1) (WcU l) 0 [] (by simp;omega) (λj x v k _=>rfl)];rfl
theorem Wwl{who rv:Int}{puts reads:List Rw}(hw:1<=who/\who<=99)(hr:0<=rv/\rv<=1000000)(hp:Wak puts=true)(hd:Wak reads=true)(hN:1048576<N):
  Zft N who rv puts reads=some ((),((WfY who rv puts reads).e,(true,()))):=by
 have l1:puts.length<=300:=by grind [Wak]
 have l2:reads.length<=300:=by grind [Wak]
 unfold Zft;simp only[Wb5,W1,WcF (show puts.length<=1048576 by omega) hN,WcF (show reads.length<=1048576 by omega) hN,Wer (show puts.length<=1048576 by omega) hN,WoD (show reads.length<=1048576 by omega) hN,ret,Xd,We hw.1,We hw.2,We hr.1,We hr.2,hp,hd,Xao,Xk,Wa,Wv];unfold WfY Cm.e;by_cases hz:(WcU puts).length=0
 .simp_all [Wf,Wg]
 simp_all [Wc,Wg]
theorem Wdr{m:Mm}{i:Int}:Xc m.2 (Xa i) ((0:Int),((0:Int),(0:Int)))=Waz m i:=rfl
theorem Wcg(hm:W0 m=true){i:Int}(hi:0<=i/\i<=7):inb i m.2.length=true:=by
 grind [WC,inb]
theorem WdQ{i:Int}(hi:0<=i/\i<=7):Wav i=true:=by grind [Wav]
theorem Wny(hm:W0 m=true){i who:Int}(hi:0<=i/\i<=7)(hw:1<=who/\who<=99)(hN:1048576<N):
  Zqd N m i who=some ((),((if(Waz m i).2.2=0 then WuF m i who else m),(decide ((Waz m i).2.2=0),()))):=by
 unfold Zqd;rw[Wd9 hm,Wbi (by grind [WC]) hN,hm];simp only[ret,Xd,Xk,Wa,WaI,WdQ hi,Wb5,We hw.1,We hw.2,Xao,Wcg hm hi,Wb,Wdr,Wat];by_cases h:(Waz m i).2.2=0
 .rw[Wf h,Wf h,We h];rfl
 simp_all
theorem WlT(hm:W0 m=true){i who v:Int}(hi:0<=i/\i<=7)(hw:1<=who/\who<=99)(hv:0<=v/\v<=65535)(hN:1048576<N):
  ∃b,Zrm N m i who v=some ((),(WiN m i who v,(b,()))):=by
 unfold Zrm WiN;rw[Wd9 hm,Wbi (by grind [WC]) hN,hm];simp only[ret,Xd,Xk,Wa,WaI,WdQ hi,Wb5,WaB,War.2 hv,We hw.1,We hw.2,Xao,Wcg hm hi,Wb,Wdr,Wat];by_cases h:(Waz m i).2.2=who
 .rw[Wf h,Wf h];exact⟨_,rfl⟩
 simp_all
theorem WfO(hm:W0 m=true){i who ver:Int}(hi:0<=i/\i<=7)(hw:1<=who/\who<=99)(hN:1048576<N):
  ∃b,Zob N m i who ver=some ((),(WeK m i who ver,(b,()))):=by
 have h8:=(WC hm).1;unfold Zob WeK;rw[Wd9 hm,Wbi (by omega) hN,hm];simp only[ret,Xd,Xk,Wa,WaI,WdQ hi,Wb5,W1,We hw.1,We hw.2,Xao,Wcg hm hi,Wb,Wdr,Wat,Xat,Wk];by_cases h:(Waz m i).2.2=who
 .rw[Wf h];by_cases h2:(Waz m i).2.1<=ver/\ver<=m.1
  .rw[Wf ⟨h,h2.1,h2.2⟩,We h2.1,We h2.2];refine⟨true,?_⟩;have:i.toNat<m.2.length:=by omega
   simp only[Xao,Xk,Wa,WgF this,Xct];rfl
  .rw[Wc (by omega)];refine⟨false,?_⟩
   grind
 simp_all
theorem WmW(h:CmOk c)(hm:W0 m=true)(hN:1048576<N):Zmc N m c.e=some ((),((Wdu m c).1,((Wdu m c).2.e,()))):=by
 obtain⟨c0,c1,c2,c3,c4,c5,c6⟩:=cmP c;have cy:=h.pos;have fy:=h.plen;have hw:=h.who;have rT:c.steps<=8:=by have:=h.plen;have:=h.rlen;unfold Cm.steps;split<;>(try split)<;>omega
 have b1:=Wid (N:=N) h (show 0<=c.pos/\c.pos<=8 by omega);have b2:=Wid (N:=N) h (show 0<=Wg c.puts/\Wg c.puts<=8 by unfold Wg;omega);unfold Zmc Wdu;rw[Wd9 hm,Wkx h];simp only[ret,Xd];rw[Wbi (by grind [WC]) hN,Wh1 h hN,hm];simp only[ret,Xd,Xk,Wa,Wv,c0,c1,c2,c3,c4,c5,c6,Wam,b1,b2,WuM h];by_cases h1:c.phase=1
 .rw[Wf h1,Wf h1];obtain⟨j,hj,e1,e2,e3,e4⟩:=h.put (by omega);rw[show Xc c.puts (Xa c.pos) ((0:Int),(0:Int))=c.puts[j]from e2,e2,e1,WF,We hj,Wny hm e3 hw hN,←e1]
  grind
 .rw[Wc h1,Wc h1];by_cases h2:c.phase=2
  .rw[Wf h2,Wf h2,WnN hm hN];simp only[Xd];by_cases ht:(tick m).2=0
   .rw[Wf ht,Wf ht];rfl
   .rw[Wc ht,Wc ht];rw[show(c.who,(c.rv,(c.phase,(c.pos,((tick m).2,c.e.2.2.2.2.2)))))=Cm.e {c with wv:=(tick m).2}from rfl,WsL];rfl
  .rw[Wc h2,Wc h2];by_cases h3:c.phase=3
   .rw[Wf h3,Wf h3];obtain⟨j,hj,e1,e2,e3,e4⟩:=h.read h3;rw[show Xc c.reads (Xa c.pos) (0:Int)=c.reads[j]from e2,e2,e1,WF,We hj,Wcg hm ⟨e3,e4⟩];simp only[Wb,Wat,WV];rw[show Xc m.2 (Xa c.reads[j]) ((0:Int),((0:Int),(0:Int)))=Waz m c.reads[j]from rfl];by_cases a:(Waz m c.reads[j]).2.2=0
    .rw[Wf a];by_cases b:(Waz m c.reads[j]).2.1>c.rv
     .rw[Wf b,Wf (.inr b)];rfl
     grind
    .rw[Wc a];by_cases a':(Waz m c.reads[j]).2.2=c.who
     .rw[Wf a'];by_cases b:(Waz m c.reads[j]).2.1>c.rv
      .rw[Wf b,Wf (.inr b)];rfl
      grind
     .rw[Wc a',Wf (.inl ⟨a,a'⟩)];rfl
   .rw[Wc h3,Wc h3];by_cases h4:c.phase=4
    .rw[Wf h4,Wf h4];obtain⟨j,hj,e1,e2,e3,e4⟩:=h.put (by omega)
     grind [WlT,Xc,Xa,WF,decide_eq_true]
    .rw[Wc h4,Wc h4];by_cases h5:c.phase=5
     .rw[Wf h5,Wf h5];obtain⟨j,hj,e1,e2,e3,e4⟩:=h.put (by omega);obtain⟨b,hb⟩:=WfO (ver:=c.wv) hm e3 hw hN
      grind [Xc,Xa,WF,decide_eq_true]
     .rw[Wc h5,Wc h5];by_cases h7:c.phase=7
      .rw[Wf h7,Wf h7];obtain⟨j,hj,e1,e2,e3,e4⟩:=h.put (by omega);obtain⟨b,hb⟩:=WfO (ver:=(Waz m c.puts[j].1).2.1) hm e3 hw hN;rw[show Xc c.puts (Xa c.pos) ((0:Int),(0:Int))=c.puts[j]from e2,e2,e1,WF,We hj,Wcg hm e3];simp only[Wb,Wdr,hb,←e1];rfl
      simp_all
end
end
section
abbrev RM:=Int×Int×Int×Int×List Int
abbrev Wr:=Int×Int×List Rw
abbrev Pg:=List Opn×List (List Opn)
abbrev Ac:=Int×Int×Int
abbrev Sc:=Kg×List Pg×List Ac
structure Rt where
 phase:Int:=0
 tries:Int:=0
 spare:Int:=0
 pc:Int:=0
 rv:Int:=0
 newRv:Int:=0
 pos:Int:=0
 fate:Int:=0
 stamp:Int:=0
 began:Int:=0
 ended:Int:=0
 doomed:Bool:=false
 regs:List Int:=[]
 reads:List Rw:=[]
 writes:List Rw:=[]
 marks:List RM:=[]
 undos:List Un:=[]
 order:List Int:=[]
 busy:Bool:=false
 pb:Pb:=(0,0,0,0)
 cm:Cm:={}
 fam:Fm:={}
def Rt.e(r:Rt):Y_Root:=(r.phase,r.tries,r.spare,r.pc,r.rv,r.newRv,r.pos,r.fate,r.stamp,r.began,r.ended,r.doomed,r.regs,r.reads,r.writes,r.marks,r.undos,r.order,r.busy,r.pb,r.cm.e,r.fam.e)
structure Wo where
 now:Int:=0
 token:Int:=0
 mem:Mm:=(0,[])
 shelf:Shf:=([],0)
 holds:List Hd:=[]
 roots:List Rt:=[]
 hist:List Wr:=[]
def Wo.e(w:Wo):Y_World:=(w.now,w.token,w.mem,w.shelf,w.holds,w.roots.map Rt.e,w.hist)
def zRM:RM:=(0,0,0,0,[])
def Rt.last(x:Rt):RM:=WgB x.marks zRM
def Wgf(x:Rt):Rt:={phase:=6,tries:=x.tries,undos:=x.undos}
def Wbw(x:Rt):Rt:=
 if x.marks.length=0\/x.spare=2 then Wgf x else{x with spare:=x.spare+1,busy:=false,pb:=(0,0,0,0),phase:=3}
def WeN(w:Wo)(x:Rt):Wo×Rt:=({w with shelf:=Wge w.shelf (WgB x.undos (0,0,0))},{x with undos:=x.undos.dropLast})
def Wk5(w:Wo)(x:Rt)(k:Nat):Wo×Rt:=
 ({w with token:=if w.token=(k:Int)+1 then 0 else w.token},{x with phase:=8,ended:=w.now,undos:=[],doomed:=false})
def We2(w:Wo)(x:Rt)(k:Nat)(out:Int):Wo×Rt:=
 let rows:=if out=2 then []else x.writes
 if rows.length=0/\(Wd0 w.holds ((k:Int)+1)).length=0 then Wk5 w {x with fate:=out,stamp:=x.rv} k
 else(w,{x with fate:=out,cm:=WfY ((k:Int)+1) x.rv rows x.reads,phase:=5})
def Wlw(w:Wo)(x:Rt)(o:Opn):Rt:=
 match Wcm x.writes o.2.2.1 with
 |some v=>{x with regs:=WoK x.regs o.2.1 v,pc:=x.pc+1}
 |none=>
  let p:=WaK w.mem x.rv (if x.busy then x.pb else(o.2.2.1,0,0,0))
  if p.2.1=4 then Wbw {x with busy:=true,pb:=p}
  else if p.2.1=3 then{x with regs:=WoK x.regs o.2.1 p.2.2.2,reads:=x.reads++ [(o.2.2.1,p.2.2.2)],busy:=false,pb:=(0,0,0,0),pc:=x.pc+1}
  else{x with busy:=true,pb:=p}
def Wi3(w:Wo)(x:Rt)(k:Nat)(code:List Opn):Wo×Rt:=
 if x.marks.length=0 then We2 w x k 2 else
 if(x.undos.length:Int)>x.last.2.2.2.1 then WeN w x else
 (w,{x with marks:=x.marks.dropLast,regs:=WoK x.last.2.2.2.2 (opN code x.last.1).2.1 0,writes:=x.writes.take x.last.2.2.1.toNat,pc:=Wkg code x.last.1.toNat+1})
def WfB(w:Wo)(x:Rt)(k:Nat)(o:Opn):Wo×Rt:=
 match Wdd w.holds ((k:Int)+1) (Wb3 o).1 (Wb3 o).2 with
 |none=>(w,Wbw x)
 |some hs=>
  let b:=Wa4 w.shelf o x.regs
  ({w with holds:=hs,shelf:=b.1},{x with regs:=b.2.1,undos:=if b.2.2.1=0 then x.undos else x.undos++ [b.2.2],pc:=x.pc+1})
def WoW(w:Wo)(x:Rt)(k:Nat)(p:Pg):Wo×Rt:=
 if x.pc>=p.1.length then We2 w x k 1 else
 let o:=opN p.1 x.pc
 if o.1=5 then(w,Wlw w x o)else
 if o.1=10 then Wi3 w x k p.1 else
 if o.1=11 then(w,{x with phase:=2,fam:=Wde x.rv x.regs x.writes p.2.length})else
 if o.1>=12 then WfB w x k o else
 if o.1=6 then(w,{x with writes:=x.writes++ [(o.2.1,WbQ x.regs o.2.2.1 0)],pc:=x.pc+1})else
 if o.1=7 then(w,{x with pc:=(if WbQ x.regs o.2.1 0=0 then x.pc+o.2.2.1 else x.pc)+1})else
 if o.1=8 then(w,{x with marks:=x.marks++ [(x.pc,(x.reads.length:Int),(x.writes.length:Int),(x.undos.length:Int),x.regs)],pc:=x.pc+1})else
 if o.1=9 then(w,{x with marks:=x.marks.dropLast,regs:=WoK x.regs (opN p.1 x.last.1).2.1 1,pc:=x.pc+1})else
 (w,{x with regs:=Wn1 o x.regs,pc:=x.pc+1})
def WaJ(k:Nat):List Rt->Nat->Bool
 | [],_=>true
 |x::l,i=>(decide (i=k)||(decide (x.phase=0)||decide (x.phase=8)))&&WaJ k l (i+1)
def WeU(w:Wo)(x:Rt)(k:Nat):Wo×Rt:=
 if w.token≠0/\w.token≠(k:Int)+1 then(w,x)else
 if x.tries>=3/\w.token=0 then({w with token:=(k:Int)+1},x)else
 if w.token=(k:Int)+1/\WaJ k w.roots 0=false then(w,x)else
 (w,{phase:=1,tries:=x.tries,rv:=w.mem.1,began:=w.now,regs:=[0,0,0,0]})
def Whm(x:Rt):Rt:=
 if x.fam.lost then Wgf x else
 if WcJ x.fam then{x with regs:=Wf4 x.fam,writes:=Whh x.fam,reads:=x.reads++x.fam.reads,order:=x.fam.order,fam:={},phase:=1,pc:=x.pc+1}
 else x
def WbC(w:Wo)(x:Rt):Wo×Rt:=
 if(x.undos.length:Int)>x.last.2.2.2.1 then WeN w x else(w,{x with newRv:=w.mem.1,pos:=0,phase:=4})
def Wb4(w:Wo)(x:Rt):Rt:=
 if x.pos<x.last.2.1 then
  let c:=Waz w.mem (WbQ x.reads x.pos (0,0)).1
  if c.2.2≠0\/c.2.1>x.rv then Wgf x else{x with pos:=x.pos+1}
 else{x with rv:=x.newRv,newRv:=0,pos:=0,reads:=x.reads.take x.last.2.1.toNat,writes:=x.writes.take x.last.2.2.1.toNat,regs:=x.last.2.2.2.2,pc:=x.last.1+1,phase:=1}
def WmZ(x:Rt):Rt:=
 if x.cm.phase=8 then Wgf x else
 if x.cm.phase=6 then{x with stamp:=x.cm.wv,cm:={},phase:=if x.fate=2 then 6 else 7}else x
def Wbp(w:Wo)(x:Rt)(k:Nat):Wo×Rt:=
 if x.doomed then(w,if(Wbk x.cm).phase=8 then Wgf x else{x with cm:=Wbk x.cm,doomed:=false})else
 let q:=Wdu w.mem x.cm
 ({w with mem:=q.1,hist:=if x.cm.phase<=3/\q.2.phase=4 then w.hist++ [(q.2.wv,(k:Int)+1,q.2.puts)]else w.hist},WmZ {x with cm:=q.2})
def Wht(w:Wo)(x:Rt)(k:Nat)(p:Pg):Wo×Rt:=
 if x.doomed=true/\1<=x.phase/\x.phase<=4 then(w,Wgf x)else
 if x.phase=0 then WeU w x k else
 if x.phase=1 then WoW w x k p else
 if x.phase=2 then(w,Whm x)else
 if x.phase=3 then WbC w x else
 if x.phase=4 then(w,Wb4 w x)else
 if x.phase=5 then Wbp w x k else
 if x.phase=6 then(if x.undos.length>0 then WeN w x else(w,{x with phase:=7}))else
 if x.phase=7 then
  (if x.fate=0 then({w with holds:=WW w.holds ((k:Int)+1)},{tries:=x.tries+1})
   else Wk5 {w with holds:=WW w.holds ((k:Int)+1)} x k)
 else(w,x)
def Wo.put(q:Wo×Rt)(k:Nat):Wo:={q.1 with roots:=q.1.roots.set k q.2}
def rt0:Rt:={}
def pg0:Pg:=([],[])
def Wts(w:Wo)(k:Nat)(p:Pg):Wo:=Wo.put (Wht w (w.roots.getD k rt0) k p) k
def WxX(w:Wo)(x:Rt)(k j:Nat)(p:Pg):Wo:=Wo.put (w,{x with fam:=Wgx w.mem x.fam j (p.2.getD j [])}) k
def WmH(s:Sc)(w0:Wo)(a:Ac):Wo:=
 let w:={w0 with now:=w0.now+1}
 if 0<=a.2.1/\a.2.1<w.roots.length then
  let k:=a.2.1.toNat
  let x:=w.roots.getD k rt0
  let p:=s.2.1.getD k pg0
  if a.1=1 then Wts w k p else
  if a.1=2 then(if x.phase=2/\0<=a.2.2/\a.2.2<p.2.length then WxX w x k a.2.2.toNat p else w)else
  if a.1=3 then(if(1<=x.phase/\x.phase<=4)\/(x.phase=5/\x.cm.phase<=3)then Wo.put (w,{x with doomed:=true}) k else w)else w
 else w
def WrO(s:Sc):Wo:={mem:=WnX s.1.1,shelf:=(WkX s.1.2.1,s.1.2.2),roots:=Xp s.2.1.length {}}
def Wpl(s:Sc):Wo:=s.2.2.foldl (WmH s) (WrO s)
structure RMk(code:List Opn)(pc:Nat)(marks:List RM)(rl wl ul:Nat):Prop where
 pcs:marks.map (·.1)=(stk code pc).map λm:Nat=>(m:Int)
 each:∀q∈marks,Vals 4 q.2.2.2.2/\(0<=q.2.1/\q.2.1<=q.1+72*frk code q.1.toNat/\q.2.1<=rl)/\(0<=q.2.2.1/\q.2.2.1<=q.1+8/\q.2.2.1<=wl)/\0<=q.2.2.2.1/\q.2.2.2.1<=q.1/\q.2.2.2.1<=ul
 up:marks.Pairwise λa b=>a.2.1<=b.2.1/\a.2.2.1<=b.2.2.1/\a.2.2.2.1<=b.2.2.2.1
structure RLive(p:Pg)(n:Int)(x:Rt):Prop where
 pc:0<=x.pc/\x.pc<=p.1.length
 spare:0<=x.spare/\x.spare<=2
 rv:0<=x.rv/\x.rv<=1000000
 regs:Vals 4 x.regs
 reads:Wjg x.reads
 rl:(x.reads.length:Int)<=x.pc+72*frk p.1 x.pc.toNat
 writes:Wjg x.writes
 wl:(x.writes.length:Int)<=x.pc+8
 ul:(x.undos.length:Int)<=x.pc
 marks:RMk p.1 x.pc.toNat x.marks x.reads.length x.writes.length x.undos.length
 pb:x.busy=true->WjQ x.pb=true
 fork:x.phase=2->x.pc<p.1.length/\(opN p.1 x.pc).1=11/\FOk p.2 n x.fam
 back:x.phase=3\/x.phase=4->x.marks.length≠0
 newRv:0<=x.newRv/\x.newRv<=1000000
 pos:x.phase=4->0<=x.pos/\x.pos<=x.last.2.1
 unw:x.phase=4->(x.undos.length:Int)<=x.last.2.2.2.1
structure ROk(p:Pg)(n:Int)(x:Rt):Prop where
 phase:0<=x.phase/\x.phase<=8
 tries:0<=x.tries/\x.tries<=n
 live:1<=x.phase/\x.phase<=4->RLive p n x
 comm:x.phase=5->CmOk x.cm
 undos:∀u∈x.undos,UnV u
 ul:x.undos.length<=24
 rg:x.regs.length<=4
 ord:x.order.length<=3
structure POk(p:Pg):Prop where
 code:CC p.1
 kids:∀c∈p.2,KC c
 k3:p.2.length<=3
def HE(h:Wr):Prop:=h.2.2.length<=8/\Wjg h.2.2/\1<=h.2.1/\h.2.1<=9
structure WOk(ps:List Pg)(n:Int)(w:Wo):Prop where
 len:w.roots.length=ps.length
 l4:ps.length<=4
 progs:∀p∈ps,POk p
 now:w.now=n
 n0:0<=n
 mem:W0 w.mem=true
 shelf:ShOk w.shelf
 holds:HOk w.holds
 hist:(w.hist.length:Int)<=n
 histE:∀h∈w.hist,HE h
 root:∀(k:Nat) (h:k<w.roots.length),ROk (ps.getD k pg0) n w.roots[k]
end
section
theorem rtP(x:Rt):x.e.1=x.phase/\x.e.2.1=x.tries/\x.e.2.2.1=x.spare/\x.e.2.2.2.1=x.pc/\P4 x.e=x.rv/\P5 x.e=x.newRv/\P6 x.e=x.pos/\P7 x.e=x.fate/\P8 x.e=x.stamp/\P11 x.e=x.doomed/\P12 x.e=x.regs/\P13 x.e=x.reads/\P14 x.e=x.writes/\P15 x.e=x.marks/\P16 x.e=x.undos/\P18 x.e=x.busy/\P19 x.e=x.pb/\P20 x.e=x.cm.e/\Q21 x.e=x.fam.e/\P24 x.e=x.fam.lost/\P28 x.e=x.fam.order/\P29 x.e=x.fam.reads:=
 ⟨rfl,rfl,rfl,rfl,rfl,rfl,rfl,rfl,rfl,rfl,rfl,rfl,rfl,rfl,rfl,rfl,rfl,rfl,rfl,rfl,rfl,rfl⟩
theorem S5e(w:Wo)(k:Nat)(x:Rt):S5 (Xe (w.roots.map Rt.e) k x.e) w.e=Wo.e {w with roots:=w.roots.set k x}:=by
 unfold S5 Wo.e;rw[List.map_set]
theorem Wdj{w w':Wo}{k:Nat}{x':Rt}{y:Y_Root}{g:Y_World}(hy:y=x'.e)(hg:g=w'.e)(hr:w'.roots=w.roots):
  some ((S5 (Xe (w.roots.map Rt.e) k y) g,()),())=some (((Wo.put (w',x') k).e,()),()):=by
 subst hy hg;rw[←hr,S5e];rfl
variable{N:Nat}{w:Wo}{k:Nat}{x:Rt}{o:Opn}{p:Pg}{n:Int}{code:List Opn}
theorem woG(hk:k<w.roots.length)(aN:w.roots[k]=x):Xc (w.roots.map Rt.e) k d_Root=x.e/\Xc (w.roots.map Rt.e) (Xa (k:Int)) d_Root=x.e/\S5 (Xe (w.roots.map Rt.e) (Xa (k:Int)) x.e) w.e=w.e/\inb (k:Int) (w.roots.map Rt.e).length=true/\S5 (Xe (w.roots.map Rt.e) k x.e) w.e=w.e:=by
 have h1:Xc (w.roots.map Rt.e) k d_Root=x.e:=by
  have:=WnZ Rt.e w.roots k {};rw[WD hk,aN]at this;exact this
 have h2:S5 (Xe (w.roots.map Rt.e) k x.e) w.e=w.e:=by rw[S5e,←aN,Xbh]
 rw[Xl];refine⟨h1,h1,h2,?_,h2⟩;rw[WF,Xu];exact We hk
theorem Wmx(hk:k<w.roots.length)(aN:w.roots[k]=x):Wo.put (w,x) k=w:=by
 unfold Wo.put;simp only;rw[←aN,Xbh]
theorem Wfc:Zax N x.e=some (((Wgf x).e,()),()):=rfl
theorem WeR(hs:0<=x.spare/\x.spare<=2):Zd0 N x.e=some (((Wbw x).e,()),()):=by
 obtain⟨r0,r1,r2,r3,r4,r5,r6,r7,r8,fv,eT,dU,dX,dY,eF,fO,fP,fw,fx,fQ,fR,fS⟩:=rtP x;unfold Zd0 Wbw;simp only[Wv,dY,r2,Wg,Wfc,Xd];by_cases h1:x.marks.length=0
 .rw[Wf (by omega),Wf (.inl h1)]
 .rw[Wc (by omega)];by_cases h2:x.spare=2
  .rw[Wf h2,Wf (.inr h2)]
  .rw[Wc h2,Wc (by omega),WJ (by unfold I64;omega)];rfl
theorem Wbs{α:Type}{l:List α}(h:l.length≠0)(hl:l.length<=1000)(d:α):inb (WU .i64 (Wg l) 1) l.length=true/\Xc l (Xa (WU .i64 (Wg l) 1)) d=WgB l d/\Xam (Xa (WU .i64 (Wg l) 1)) l=l.dropLast/\(decide ((0:Int)<=WU .i64 (Wg l) 1)&&decide (WU .i64 (Wg l) 1<=(l.length:Int)))=true:=by
 have e:WU .i64 (Wg l) 1=((l.length-1:Nat):Int):=by rw[WiO (by omega)];omega
 rw[e];refine⟨by rw[WF];exact We (by omega),by rw[Xl];rfl,by rw[Xl,Xgg],by simp⟩
theorem Wog(h:x.marks.length≠0)(hl:x.marks.length<=1000):Ze0 N x.e=some ((),((x.last.1,(x.last.2.1,(x.last.2.2.1,x.last.2.2.2.1))),())):=by
 obtain⟨a,b,c,d⟩:=Wbs h hl zRM;unfold Ze0;simp only[Wk];rw[show P15 x.e=x.marks from rfl,a];simp only[Wb];rw[show((0:Int),((0:Int),((0:Int),((0:Int),([]:List Int)))))=zRM from rfl,b];rfl
theorem WlP(hk:k<w.roots.length)(aN:w.roots[k]=x)(hz:x.undos.length≠0)(hl:x.undos.length<=1000)(hu:∀u∈x.undos,UnV u)(hs:ShOk w.shelf)(hN:1048576<N):
  Zcn N w.e k=some (((Wo.put (WeN w x) k).e,()),()):=by
 obtain⟨g1,g2,g3,g4,g5⟩:=woG hk aN;obtain⟨a,b,c,d⟩:=Wbs hz hl ((0,0,0):Un);have aM:WgB x.undos ((0,0,0):Un)∈x.undos:=by
  unfold WgB;rw[WD (show x.undos.length-1<x.undos.length by omega)];exact Xv _
 unfold Zcn WeN;simp only[Wk];rw[show P5 w.e=w.roots.map Rt.e from rfl,g1];rw[show x.e.2.2.2.2.2.2.2.2.2.2.2.2.2.2.2.2.1=x.undos from rfl,a,b,show w.e.2.2.2.1=w.shelf from rfl,Wiu hs (hu _ aM) hN,c];simp only[Wb,Xd,d];exact Wdj rfl rfl rfl
theorem Wr4(hk:k<w.roots.length)(aN:w.roots[k]=x)(gW:k<=1000):Zhy N w.e (k:Int)=some (((Wo.put (Wk5 w x k) k).e,()),()):=by
 obtain⟨g1,g2,g3,g4,g5⟩:=woG hk aN;unfold Zhy Wk5;simp only[Wk];rw[show P5 w.e=w.roots.map Rt.e from rfl,g4,g2,Wap (by omega),Xl];simp only[Wb,Wv];rw[show w.e.2.1=w.token from rfl];by_cases h:w.token=(k:Int)+1
 .rw[Wf h];simp only[Wf h];exact Wdj rfl rfl rfl
 .rw[Wc h];simp only[Wc h];exact Wdj rfl rfl rfl
theorem WmT(hk:k<w.roots.length)(aN:w.roots[k]=x)(gW:k<=8)(hh:HOk w.holds)(my:0<=x.rv/\x.rv<=1000000)(hr:Wak x.reads=true)(hw:Wak x.writes=true){out:Int}(hN:1048576<N):
  Zii N w.e (k:Int) out=some (((Wo.put (We2 w x k out) k).e,()),()):=by
 obtain⟨g1,g2,g3,g4,g5⟩:=woG hk aN;obtain⟨r0,r1,r2,r3,r4,r5,r6,r7,r8,fv,eT,dU,dX,dY,eF,fO,fP,fw,fx,fQ,fR,fS⟩:=rtP x;have pP:=Wep hh;have qs:∀y:Rt,Zhy N (S5 (Xe (w.roots.map Rt.e) (Xa (k:Int)) y.e) w.e) (k:Int)=some (((Wo.put (Wk5 w y k) k).e,()),()):=λy=>by
  rw[Xl,S5e];have h1:k<({w with roots:=w.roots.set k y}:Wo).roots.length:=by simpa using hk
  rw[Wr4 (x:=y) h1 (by simp) (by omega)];unfold Wk5 Wo.put;simp only[Xct]
 unfold Zii We2;simp only[Wk];rw[show P5 w.e=w.roots.map Rt.e from rfl,g4,g2,Wap (by omega),show P4 w.e=w.holds from rfl];have v6:∀{α:Type} (a b:α),(bif ((0:Int)==(0:Int))then a else b)=a:=λ_ _=>rfl;have As:∀{α:Type} (a b:α),(bif ((0:Nat)==(0:Nat))then a else b)=a:=λ_ _=>rfl;simp only[v6,As];simp only[Wb,Wv,r4,dU,dX,Wiq (who:=(k:Int)+1) hh (by omega) hN,ret,Xd,Wg];have rU:∀rows,Wak rows=true->Zft N ((k:Int)+1) x.rv rows x.reads=some ((),((WfY ((k:Int)+1) x.rv rows x.reads).e,(true,()))):=λrows jY=>Wwl (by omega) my jY hr hN;have bR:Zft N ((k:Int)+1) x.rv ([]:List Kc) x.reads=some ((),((WfY ((k:Int)+1) x.rv [] x.reads).e,(true,()))):=rU [] rfl;have bv:(S8 x.rv (S7 out x.e))=Rt.e {x with fate:=out,stamp:=x.rv}:=rfl;rw[bR,rU _ hw,bv,qs];simp only[Xd];by_cases ho:out=2
 .rw[Wf ho,Wf ho];by_cases hz:(Wd0 w.holds ((k:Int)+1)).length=0
  .rw[Wf (by omega),Wf ⟨rfl,hz⟩]
  .rw[Wc (by omega),Wc (λh=>hz h.2),Xl];exact Wdj rfl rfl rfl
 .rw[Wc ho,Wc ho];by_cases hy:x.writes.length=0
  .rw[Wf (by omega)];by_cases hz:(Wd0 w.holds ((k:Int)+1)).length=0
   .rw[Wf (by omega),Wf ⟨hy,hz⟩]
   .rw[Wc (by omega),Wc (λh=>hz h.2),Xl];exact Wdj rfl rfl rfl
  .rw[Wc (by omega),Wc (λh=>hy h.1),Xl];exact Wdj rfl rfl rfl
theorem Wnw{l:List Rw}(h:Wjg l)(hl:l.length<=300):Wak l=true:=by
 unfold Wak;rw[Wij.2 h,We hl];rfl
theorem WsT(hc:CC code):∀j,j<=code.length->frk code j<=1
 |0,_=>by simp[frk]
 |j+1,h=>by
  have hj:j<code.length:=by omega
  by_cases gQ:code[j].1=11
  .exact(hc.fk j hj gQ).2
  .rw[Wil hj,show(code[j].1==11)=false by simpa using gQ];have:=WsT hc j (by omega);simpa using this
theorem RLive.sz(hc:CC p.1)(h:RLive p n x):x.reads.length<=96/\x.writes.length<=32/\x.undos.length<=24/\x.marks.length<=24/\Wak x.reads=true/\Wak x.writes=true:=by
 have h1:=h.pc;have h2:=hc.len;have h3:=WsT hc x.pc.toNat (by omega);have h4:=h.rl;have h5:=h.wl;have h6:=h.ul;have h7:=Wn Xb h.marks.pcs;simp only[Xu]at h7;have h8:=Wa3 hc.up x.pc.toNat (by omega);have h9:=(Wcs p.1 x.pc.toNat).2;exact⟨by omega,by omega,by omega,by omega,Wnw h.reads (by omega),Wnw h.writes (by omega)⟩
theorem Wpu(hb:x.busy=true->WjQ x.pb=true){c:Int}(hc:0<=c/\c<=7):WjQ (if x.busy then x.pb else(c,0,0,0))=true:=by
 split
 .exact hb ‹_›
 .rw[Wfj];simp only;omega
theorem WtZ(hk:k<w.roots.length)(aN:w.roots[k]=x)(hc:CC p.1)(hx:RLive p n x)(hm:W0 w.mem=true)(h5:o.1=5)(ho:WdZ o=true)(hN:1048576<N):
  Zmb N w.e k o=some (((Wo.put (w,Wlw w x o) k).e,()),()):=by
 obtain⟨g1,g2,g3,g4,g5⟩:=woG hk aN;obtain⟨r0,r1,r2,r3,r4,r5,r6,r7,r8,fv,eT,dU,dX,dY,eF,fO,fP,fw,fx,fQ,fR,fS⟩:=rtP x;obtain⟨z1,z2,z3,z4,z5,z6⟩:=hx.sz hc;obtain⟨hA,hB⟩:=WwE ho h5;have hB':0<=o.2.2.1/\o.2.2.1<=7:=by unfold Wav at hB;simpa using hB
 have cE:=hx.regs.len;have bH:=hx.pc;have c7:=hc.len;have gy:=hx.spare;unfold Zmb Wlw;simp only[Wk];rw[show P5 w.e=w.roots.map Rt.e from rfl,g1,show w.e.2.2.1=w.mem from rfl];simp only[r3,r4,eT,dU,dX,fO,fP];rw[WeV (by omega) hN,WT hA cE,Wap (by omega)];cases hl:Wcm x.writes o.2.2.1 with
 |some v=>
  simp only[opI,Xd,Wb];exact Wdj rfl rfl rfl
 |none=>
  have ay:Wz (x.reads.length+ [(o.2.2.1,(0:Int))].length)=true:=Wq (by simp;omega);have mH:Zgs N o.2.2.1=some ((),((o.2.2.1,0,0,0),(true,()))):=by
   unfold Zgs;rw[WaI,hB];rfl
  have gz:=Wpu hx.pb hB';have rV:S18 true x.e=Rt.e {x with busy:=true}:=rfl;simp only[opI,Xd,Wa,Wv,mH,rV];have gE:∀q:Pb,S19 q (Rt.e {x with busy:=true})=Rt.e {x with busy:=true,pb:=q}:=λq=>rfl;simp only[gE,WeR (x:={x with busy:=true,pb:=_}) gy];cases hb:x.busy with
  |false=>
   rw[hb]at gz;simp only[Xai,W7]at gz;rw[Wfb hm gz hN];simp only[Xbl,Wb,ret,Xd,Xai,W7];generalize WaK w.mem x.rv (o.2.2.1,0,0,0)=q;by_cases h4:q.2.1=4
   .rw[Wf h4,Wf h4];exact Wdj rfl rfl rfl
   .rw[Wc h4,Wc h4];by_cases h3:q.2.1=3
    .rw[Wf h3,Wf h3,Wq (by simp;omega)];exact Wdj rfl rfl rfl
    .rw[Wc h3,Wc h3];exact Wdj rfl rfl rfl
  |true=>
   have cq:∀q:Pb,S19 q x.e=Rt.e {x with busy:=true,pb:=q}:=λq=>by
    have:S19 q x.e=Rt.e {x with pb:=q}:=rfl;rw[this]
    conv=>lhs;rw[show({x with pb:=q}:Rt)={x with busy:=x.busy,pb:=q}from rfl,hb]
   rw[hb]at gz;simp only[W4]at gz;rw[Wfb hm gz hN];simp only[Xk,Wa,ret,Xd,W4,cq,WeR (x:={x with busy:=true,pb:=_}) gy];generalize WaK w.mem x.rv x.pb=q;by_cases h4:q.2.1=4
   .rw[Wf h4,Wf h4];exact Wdj rfl rfl rfl
   .rw[Wc h4,Wc h4];by_cases h3:q.2.1=3
    .rw[Wf h3,Wf h3,Wq (by simp;omega)];exact Wdj rfl rfl rfl
    .rw[Wc h3,Wc h3];exact Wdj rfl rfl rfl
end
section
variable{N:Nat}{w:Wo}{k:Nat}{x:Rt}{o:Opn}{p:Pg}{n:Int}{code:List Opn}
theorem RLive.mk24(hc:CC p.1)(h:RLive p n x)(hz:x.marks.length≠0):∃(m:Nat) (q:List RM),x.marks=q++ [x.last]/\x.last.1=(m:Int)/\(∃hm:m<p.1.length,p.1[m].1=8)/\(m:Int)<x.pc/\Mate p.1 m (Wkg p.1 m)/\x.pc<=Wkg p.1 m/\stk p.1 m=(stk p.1 x.pc.toNat).dropLast/\x.marks.dropLast=q/\
  Vals 4 x.last.2.2.2.2/\(0<=x.last.2.1/\x.last.2.1<=x.last.1+72*frk p.1 x.last.1.toNat/\x.last.2.1<=x.reads.length)/\(0<=x.last.2.2.1/\x.last.2.2.1<=x.last.1+8/\x.last.2.2.1<=x.writes.length)/\0<=x.last.2.2.2.1/\x.last.2.2.2.1<=x.last.1/\x.last.2.2.2.1<=x.undos.length:=by
 have hp:=h.pc;obtain⟨m,q,y,e1,e2,e3,e4,e5,e6,e7,e8,e9⟩:=WiT (d:=zRM) hc (show x.pc.toNat<=p.1.length by omega) h.marks.pcs hz;have hl:x.last=y:=e2;have hy:=h.marks.each y (by grind)
 grind
theorem WwP(h:x.marks.length≠0)(hl:x.marks.length<=1000):(inb (WU .i64 (x.marks.length:Int) 1) x.marks.length&&true)=true/\(inb (WU .i64 (x.marks.length:Int) 1) x.marks.length&&Nat.beq (Xa (WU .i64 (x.marks.length:Int) 1)) (Xa (WU .i64 (x.marks.length:Int) 1)))=true/\
  Xc x.marks (Xa (WU .i64 (x.marks.length:Int) 1)) ((0:Int),((0:Int),((0:Int),((0:Int),([]:List Int)))))=x.last/\Xe x.marks (Xa (WU .i64 (x.marks.length:Int) 1)) x.last=x.marks/\decide (WU .i64 (x.marks.length:Int) 1<=((Xa (WU .i64 (x.marks.length:Int) 1):Nat):Int))=true:=by
 obtain⟨a,b,c,d⟩:=Wbs h hl zRM;have a':inb (WU .i64 (x.marks.length:Int) 1) x.marks.length=true:=a;have b':Xc x.marks (Xa (WU .i64 (x.marks.length:Int) 1)) zRM=x.last:=b;refine⟨by rw[a'];rfl,by rw[a'];simp,b',?_,We (Int.self_le_toNat _)⟩;rw[←b',Xbm];apply List.ext_getElem?;intro i;rw[List.getElem?_set];split
 .rename_i e;subst e;split
  .rename_i ac;rw[Xq ac];rfl
  .rename_i ac;rw[List.getElem?_eq_none (by omega)]
 .rfl
theorem Wsg(hk:k<w.roots.length)(aN:w.roots[k]=x)(gW:k<=8)(hc:CC p.1)(hx:RLive p n x)(hu:∀u∈x.undos,UnV u)(hs:ShOk w.shelf)(hh:HOk w.holds)(hN:1048576<N):
  Zli N w.e (k:Int) p.1=some (((Wo.put (Wi3 w x k p.1) k).e,()),()):=by
 obtain⟨g1,g2,g3,g4,g5⟩:=woG hk aN;obtain⟨r0,r1,r2,r3,r4,r5,r6,r7,r8,fv,eT,dU,dX,dY,eF,fO,fP,fw,fx,fQ,fR,fS⟩:=rtP x;obtain⟨z1,z2,z3,z4,z5,z6⟩:=hx.sz hc;have c7:=hc.len;unfold Zli Wi3;simp only[Wk];rw[show P5 w.e=w.roots.map Rt.e from rfl,g4,g2];simp only[Wb,Wv,dY,Wg];by_cases hz:x.marks.length=0
 .rw[Wf (by omega),Wf hz,g3,WmT hk aN gW hh hx.rv z5 z6 hN];rfl
 .rw[Wc (by omega),Wc hz];obtain⟨i1,i2,i3,i4,i5⟩:=WwP hz (by omega);rw[i1,Wb,i2,Wb,i3,i4,show S15 x.marks x.e=x.e from rfl];simp only[Xd,eF,WV];obtain⟨m,q,e1,e2,⟨hm,gX⟩,e4,e5,e6,e7,e8,e9,jU,kq,jE,jF,iJ⟩:=hx.mk24 hc hz;by_cases fT:(x.undos.length:Int)>x.last.2.2.2.1
  .rw[Wf fT,Wf fT,g3,Xl,WlP hk aN (by omega) (by omega) hu hs hN];rfl
  .rw[Wc fT,Wc fT];simp only[dX,dY];obtain⟨a,b,c,d⟩:=Wbs hz (by omega) zRM;have d':(decide ((0:Int)<=WU .i64 (x.marks.length:Int) 1)&&decide (WU .i64 (x.marks.length:Int) 1<=(x.marks.length:Int))&&decide (WU .i64 (x.marks.length:Int) 1<=((Xa (WU .i64 (x.marks.length:Int) 1):Nat):Int)))=true:=by
    have d0:(decide ((0:Int)<=WU .i64 (x.marks.length:Int) 1)&&decide (WU .i64 (x.marks.length:Int) 1<=(x.marks.length:Int)))=true:=d;rw[d0,i5];rfl
   have c':Xam (Xa (WU .i64 (x.marks.length:Int) 1)) x.marks=x.marks.dropLast:=c;rw[d',c',Wbt (by rw[e9.len];omega),e2,WF,We hm];have o1:Xc p.1 (Xa ((m:Nat):Int)) ((0,0,0,0):Opn)=opN p.1 (m:Int):=rfl;have hr:=Wvk (hc.ok m hm).1 gX;rw[←WeM hm]at hr;simp only[Wb,ret,Xd,o1];rw[WT hr e9.len];have b2:(decide ((0:Int)<=x.last.2.2.1)&&decide (x.last.2.2.1<=(x.writes.length:Int)))=true:=by simp;omega
   rw[b2];simp only[Wb];rw[WdJ (by grind),WiQ (by omega) hN ⟨hm,gX⟩ e5];simp only[ret,Xd];rw[Wap (by have:=e5.len;omega),Xl];exact Wdj rfl rfl rfl
theorem WrY(hk:k<w.roots.length)(aN:w.roots[k]=x)(gW:k<=8)(hc:CC p.1)(hx:RLive p n x)(ho:WdZ o=true)(eS:12<=o.1)(hs:ShOk w.shelf)(hh:HOk w.holds)(hN:1048576<N):
  Zij N w.e (k:Int) o=some (((Wo.put (WfB w x k o) k).e,()),()):=by
 obtain⟨g1,g2,g3,g4,g5⟩:=woG hk aN;obtain⟨r0,r1,r2,r3,r4,r5,r6,r7,r8,fv,eT,dU,dX,dY,eF,fO,fP,fw,fx,fQ,fR,fS⟩:=rtP x;obtain⟨z1,z2,z3,z4,z5,z6⟩:=hx.sz hc;have pP:=Wep hh;have bH:=hx.pc;have c7:=hc.len;have nX:(0<=(Wb3 o).1/\(Wb3 o).1<=8)/\1<=(Wb3 o).2/\(Wb3 o).2<=2:=by
  grind [Wb3,Wki,We3,WqR,Wrg,Wbc,Wsq]
 unfold Zij WfB;simp only[Wk,Wam];rw[show P5 w.e=w.roots.map Rt.e from rfl,g4,g2,Wap (by omega),Wmn ho eS,show P4 w.e=w.holds from rfl,show w.e.2.2.2.1=w.shelf from rfl];simp only[Wb,Xd,WjN hh (show 1<=(k:Int)+1/\(k:Int)+1<=9 by omega) nX.1 nX.2 (by omega) hN,r3,eT,eF,WeR hx.spare];cases ha:Wdd w.holds ((k:Int)+1) (Wb3 o).1 (Wb3 o).2 with
 |none=>
  simp only[Option.isSome_none,Xbl,Wb,Xl];exact Wdj rfl rfl rfl
 |some dq=>
  simp only[Xfa,Xk,Wa,Xdu,Xl,WiP hs hx.regs ho eS hN,Xd,Wat];rw[Wap (by omega),Wq (by simp;omega)];by_cases hz:(Wa4 w.shelf o x.regs).2.2.1=0
  .rw[Wf hz,Wf hz];exact Wdj rfl rfl rfl
  .rw[Wc hz,Wc hz];exact Wdj rfl rfl rfl
theorem Wv9(hk:k<w.roots.length)(aN:w.roots[k]=x)(gW:k<=8)(hp:POk p)(hx:RLive p n x)(hu:∀u∈x.undos,UnV u)(hm:W0 w.mem=true)(hs:ShOk w.shelf)(hh:HOk w.holds)(hN:1048576<N):
  Zkg N w.e (k:Int) p=some (((Wo.put (WoW w x k p) k).e,()),()):=by
 obtain⟨g1,g2,g3,g4,g5⟩:=woG hk aN;obtain⟨r0,r1,r2,r3,r4,r5,r6,r7,r8,fv,eT,dU,dX,dY,eF,fO,fP,fw,fx,fQ,fR,fS⟩:=rtP x;have hc:=hp.code;obtain⟨z1,z2,z3,z4,z5,z6⟩:=hx.sz hc;have bH:=hx.pc;have c7:=hc.len;have cE:=hx.regs.len;unfold Zkg WoW;simp only[Wk];rw[show P5 w.e=w.roots.map Rt.e from rfl,g4,g2,g3];simp only[Wb,r3,r4,eT,dU,dX,dY,eF,WV,Wv,show Wg p.1=(p.1.length:Int)from rfl];by_cases dG:x.pc>=p.1.length
 .rw[Wf dG,Wf dG,WmT hk aN gW hh hx.rv z5 z6 hN];rfl
 .rw[Wc dG,Wc dG];obtain⟨j,hj,ej,eo⟩:=WjA (l:=p.1) bH.1 (by omega);have py:Xc p.1 (Xa x.pc) ((0,0,0,0):Opn)=opN p.1 x.pc:=rfl;have dB:inb x.pc p.1.length=true:=by grind [WF,decide_eq_true]
  rw[dB];obtain⟨ok,o1,jd⟩:=hc.ok j hj;simp only[Wb,py];rw[←eo]at ok o1 jd;rw[Wap (show 0<=x.pc/\x.pc<=1000000 by omega)];have mg:(opN p.1 x.pc).1=9->x.marks.length≠0:=λh9 hz=>by
   have h1:=Wn Xb hx.marks.pcs;simp only[Xu,hz]at h1;have h2:=Wa3 hc.up j (by omega);have h3:=hc.up j hj
   grind [WaD,Wl7,Xl]
  generalize opN p.1 x.pc=o at*;have pB:o.1>=12->Zij N w.e (k:Int) o=some (((Wo.put (WfB w x k o) k).e,()),()):=λeS=>WrY hk aN gW hc hx ok eS hs hh hN;by_cases h5:o.1=5
  .rw[Wf h5,Wf h5,Xl,WtZ hk aN hc hx hm h5 ok hN];rfl
  .rw[Wc h5,Wc h5];by_cases cS:o.1=10
   .rw[Wf cS,Wf cS,Wsg hk aN gW hc hx hu hs hh hN];rfl
   .rw[Wc cS,Wc cS];by_cases gQ:o.1=11
    .rw[Wf gQ,Wf gQ,show Wg p.2=((p.2.length:Nat):Int)from rfl,Wj9 (by omega) (by omega) hp.k3 hN,Xl];exact Wdj rfl rfl rfl
    .rw[Wc gQ,Wc gQ];by_cases eS:o.1>=12
     .rw[Wf eS];have hb:=pB eS;have:o.1=12\/o.1=13\/o.1=14\/o.1=15\/o.1=16:=by omega
      rcases this with h|h|h|h|h
      .rw[Wf h,Wf h,hb];rfl
      .rw[Wc (by omega),Wf h,Wf h,hb];rfl
      .rw[Wc (by omega),Wc (by omega),Wf h,Wf h,hb];rfl
      .rw[Wc (by omega),Wc (by omega),Wc (by omega),Wf h,Wf h,hb];rfl
      .rw[Wc (by omega),Wc (by omega),Wc (by omega),Wc (by omega),Wf h,hb];rfl
     .rw[Wc eS,Wc (show¬o.1=12 by omega),Wc (show¬o.1=13 by omega),Wc (show¬o.1=14 by omega),Wc (show¬o.1=15 by omega),Wc (show¬o.1=16 by omega)];by_cases h6:o.1=6
      .rw[Wf h6,Wf h6,WT (WwB ok h6).2 cE,Wq (by simp;omega),Xl];exact Wdj rfl rfl rfl
      .rw[Wc h6,Wc h6];by_cases h7:o.1=7
       .rw[Wf h7,Wf h7];have h:=Wwz ok h7;rw[WT h.1 cE,WJ (a:=x.pc) (b:=o.2.2.1) (by unfold I64;omega),Wap (a:=x.pc+o.2.2.1) (by omega),Xl];by_cases hg:Xc x.regs (Xa o.2.1) 0=0
        .rw[Wf hg,Wf (show WbQ x.regs o.2.1 0=0 from hg)];exact Wdj rfl rfl rfl
        .rw[Wc hg,Wc (show¬WbQ x.regs o.2.1 0=0 from hg)];exact Wdj rfl rfl rfl
       .rw[Wc h7,Wc h7];by_cases h8:o.1=8
        .rw[Wf h8,Wf h8,Wbt (by omega)];simp only[ret,Xd];rw[Wq (by simp;omega),Xl];exact Wdj rfl rfl rfl
        .rw[Wc h8,Wc h8];by_cases h9:o.1=9
         .rw[Wf h9,Wf h9];have hz:=mg h9;obtain⟨a,b,c,d⟩:=Wbs hz (by omega) zRM;obtain⟨m,q,e1,e2,⟨eW,gX⟩,e4,e5,e6,e7,e8,e9,jU,kq,jE,jF,iJ⟩:=hx.mk24 hc hz;rw[Wog hz (by omega)];simp only[Xd];rw[d,c,e2,WF,We eW];have o1:Xc p.1 (Xa ((m:Nat):Int)) ((0,0,0,0):Opn)=opN p.1 (m:Int):=rfl;have hr:=Wvk (hc.ok m eW).1 gX;rw[←WeM eW]at hr;simp only[Wb,o1];rw[WT hr cE,Xl];exact Wdj rfl rfl rfl
         .rw[Wc h9,Wc h9,WhS hN ok (by omega) (by omega) hx.regs,Xl];exact Wdj rfl rfl rfl
theorem WtS(hk:k<w.roots.length)(aN:w.roots[k]=x)(gY:w.roots.length<=8)(hN:1048576<N):
  Zg9 N w.e (k:Int)=some (((Wo.put (WeU w x k) k).e,()),()):=by
 obtain⟨g1,g2,g3,g4,g5⟩:=woG hk aN;have dS:=Wmx hk aN;have cE:(w.roots.map Rt.e).length=w.roots.length:=by simp
 unfold Zg9;rw[show P5 w.e=w.roots.map Rt.e from rfl,g4,g2,Wap (by omega),Xl];simp only[Wb,Wat,Wv,WV,show w.e.2.1=w.token from rfl,show x.e.2.1=x.tries from rfl,show w.e.1=w.now from rfl,show w.e.2.2.1.1=w.mem.1 from rfl];have ol:∀(K0:Bool->Int->Bool->Option ((Y_World×Unit)×Unit)) (d j n:Nat) (al:Bool),j+d=w.roots.length->d<n->
   Zad N (k:Int) k (Wg (w.roots.map Rt.e)) w.now w.token w.mem.1 w.e.2.2.2.1.2 (w.roots.map Rt.e) w.e.2.2.1.2 w.e.2.2.2.1.1 (P4 w.e) (Q6 w.e) K0 n al (j:Int)=K0 (al&&WaJ k (w.roots.drop j) j) (w.roots.length:Int) false:=by
  intro K0 d
  induction d with
  |zero=>
   intro j n al hj hn;obtain⟨n,rfl⟩:∃n',n=n'+1:=⟨n-1,by omega⟩;have:j=(w.roots.map Rt.e).length:=by omega
   rw[Zad,this,WS (Xm _),cE,Xcb];simp[WaJ]
  |succ d ih=>
   intro j n al hj hn;obtain⟨n,rfl⟩:∃n',n=n'+1:=⟨n-1,by omega⟩;have ac:j<(w.roots.map Rt.e).length:=by omega
   have ii:j<w.roots.length:=by omega
   rw[Zad];simp only[WK ac,Ww ac,Ws ac,Wm (show j<4611686018427387904 by omega),Wb,ih (j+1) n _ (by omega) (by omega),List.getElem_map];rw[Xay ii,WaJ];generalize WaJ k (w.roots.drop (j+1)) (j+1)=b;have hp:(Rt.e w.roots[j]).1=w.roots[j].phase:=rfl;rw[hp];simp only[Wv];cases al with
   |false=>simp
   |true=>
    simp only[Wb,Xby];by_cases h1:j=k
    .rw[Wf (by omega),We h1];simp
    .rw[Wc (by omega),Wj h1];by_cases h2:w.roots[j].phase=0
     .rw[Wf h2,We h2];simp
     .rw[Wc h2,Wj h2];have:(w.roots[j].phase==8)=decide (w.roots[j].phase=8):=by
       by_cases h3:w.roots[j].phase=8<;>simp[h3]
      rw[this];simp
 have:=ol;refine(ol _ w.roots.length 0 N true (by omega) (by omega)).trans ?_;rw[List.drop_zero,Xby];unfold WeU;have dg:some ((S5 (Xe (w.roots.map Rt.e) k ((1:Int),(x.tries,((0:Int),((0:Int),(w.mem.1,((0:Int),((0:Int),((0:Int),((0:Int),(w.now,((0:Int),(false,(Xp (Xa (4:Int)) (0:Int),(([]:List Kc),(([]:List Kc),(([]:List Kf),(([]:List Kb),(([]:List Int),(false,(((0:Int),((0:Int),((0:Int),(0:Int)))),(((0:Int),((0:Int),((0:Int),((0:Int),((0:Int),(([]:List Kc),([]:List Int))))))),d_Family)))))))))))))))))))))) w.e,()),())=some (((Wo.put (w,{phase:=1,tries:=x.tries,rv:=w.mem.1,began:=w.now,regs:=[0,0,0,0]}) k).e,()),()):=Wdj (x':={phase:=1,tries:=x.tries,rv:=w.mem.1,began:=w.now,regs:=[0,0,0,0]}) (w':=w) rfl rfl rfl;have v7:some (((w.now,((k:Int)+1,w.e.2.2)),()),())=some (((Wo.put ({w with token:=(k:Int)+1},x) k).e,()),()):=by
  have:Wo.put ({w with token:=(k:Int)+1},x) k={w with token:=(k:Int)+1}:=by unfold Wo.put;simp only;rw[←aN,Xbh]
  rw[this];rfl
 have ay:(((decide ((0:Int)<=(4:Int)))&&(decide ((4:Int)<=(4:Int))))&&(Wz (Xa (4:Int))))=true:=rfl;have cq:some ((w.e,()),())=some (((Wo.put (w,x) k).e,()),()):=by rw[dS]
 rw[ay];simp only[Wb,dg];by_cases t0:w.token=0
 .rw[Wf t0];rw[Wc (show¬(w.token≠0/\w.token≠(k:Int)+1) by omega)];by_cases ht:x.tries>=3
  .rw[Wf ht,Wf t0,Wf ⟨ht,t0⟩];exact v7
  .rw[Wc ht,Wc (show¬w.token=(k:Int)+1 by omega),Wc (λh=>ht h.1),Wc (by omega)]
 .rw[Wc t0];by_cases t1:w.token=(k:Int)+1
  .rw[Wf t1,Wc (show¬(w.token≠0/\w.token≠(k:Int)+1) by omega),Wc (show¬(x.tries>=3/\w.token=0) by omega)];have fh:∀b:Bool,(bif !b then some ((w.e,()),())else some (((Wo.put (w,{phase:=1,tries:=x.tries,rv:=w.mem.1,began:=w.now,regs:=[0,0,0,0]}) k).e,()),()))=some (((Wo.put (if w.token=(k:Int)+1/\b=false then(w,x)else(w,{phase:=1,tries:=x.tries,rv:=w.mem.1,began:=w.now,regs:=[0,0,0,0]})) k).e,()),()):=λb=>by
    cases b with
    |false=>rw[Wf ⟨t1,rfl⟩];exact cq
    |true=>rw[Wc (by simp)];rfl
   by_cases ht:x.tries>=3
   .rw[Wf ht,Wc t0,Wf t1];exact fh _
   .rw[Wc ht,Wf t1];exact fh _
  .rw[Wc t1,Wf ⟨t0,t1⟩];exact cq
theorem Wt1(hp:POk p)(hx:RLive p n x)(h2:x.phase=2)(hN:1048576<N):Zkh N x.e=some (((Whm x).e,()),()):=by
 obtain⟨r0,r1,r2,r3,r4,r5,r6,r7,r8,fv,eT,dU,dX,dY,eF,fO,fP,fw,fx,fQ,fR,fS⟩:=rtP x;have hc:=hp.code;obtain⟨z1,z2,z3,z4,z5,z6⟩:=hx.sz hc;obtain⟨f1,f2,f3⟩:=hx.fork h2;have bH:=hx.pc;have c7:=hc.len;have rW:x.fam.kids.length<=3:=by have:=f3.len;have:=hp.k3;omega
 have me:=f3.len3 hp.k3;have rQ:=f3.readsL;unfold Zkh Whm;simp only[r3,dU,fx,fQ,fR,fS,Wfc,Xd];rw[Wne rW hN,Wmz f3.regs rW (λy hy=>by
  obtain⟨i,hi,rfl⟩:=Xcc hy;rw[(f3.kid i hi).regs.len];omega) hN,WmV (by have:=f3.buf8;omega) hN,Wq (by omega),Wbt (by omega),Wap (by omega),Wdp]
 by_cases hl:x.fam.lost=true
 .rw[Wf hl,Wf hl]
 .rw[Wc hl,Wc hl];simp only[ret,Xd,Wb];cases ho:WcJ x.fam
  .rw[Wc (by simp)];rfl
  .rw[Wf rfl];rfl
theorem Wq9(hk:k<w.roots.length)(aN:w.roots[k]=x)(hp:POk p)(hx:RLive p n x)(h4:x.phase=4)(hm:W0 w.mem=true):
  Zhn N w.e k=some (((Wo.put (w,Wb4 w x) k).e,()),()):=by
 obtain⟨g1,g2,g3,g4,g5⟩:=woG hk aN;obtain⟨r0,r1,r2,r3,r4,r5,r6,r7,r8,fv,eT,dU,dX,dY,eF,fO,fP,fw,fx,fQ,fR,fS⟩:=rtP x;have hc:=hp.code;obtain⟨z1,z2,z3,z4,z5,z6⟩:=hx.sz hc;have hz:=hx.back (.inr h4);obtain⟨m,q,e1,e2,⟨eW,gX⟩,e4,e5,e6,e7,e8,e9,jU,kq,jE,jF,iJ⟩:=hx.mk24 hc hz;have cy:=hx.pos h4;have bH:=hx.pc;have c7:=hc.len;unfold Zhn Wb4;simp only[Wk];obtain⟨i1,i2,i3,i4,i5⟩:=WwP hz (by omega);rw[show P5 w.e=w.roots.map Rt.e from rfl,g1,dY];simp only[Wg];rw[i1,Wb,i2,Wb];simp only[i3,i4,show S15 x.marks x.e=x.e from rfl];simp only[Xd,r4,r5,r6,dU,dX,WV,Wfc,show w.e.2.2.1.2=w.mem.2 from rfl];by_cases ac:x.pos<x.last.2.1
 .rw[Wf ac,Wf ac];have hj:x.pos.toNat<x.reads.length:=by omega
  have dB:inb x.pos x.reads.length=true:=by unfold inb;simp;omega
  have hg:Xc x.reads (Xa x.pos) ((0:Int),(0:Int))=WbQ x.reads x.pos (0,0):=rfl;have hv:0<=(WbQ x.reads x.pos (0,0)).1/\(WbQ x.reads x.pos (0,0)).1<=7:=by
   unfold WbQ;rw[WD hj];exact(hx.reads _ (Xv hj)).1
  rw[dB,hg,Wcg hm hv,show Xc w.mem.2 (Xa (WbQ x.reads x.pos (0,0)).1) ((0:Int),((0:Int),(0:Int)))=Waz w.mem (WbQ x.reads x.pos (0,0)).1 from rfl,Wap (by omega)];simp only[Wb,Wat];by_cases a:(Waz w.mem (WbQ x.reads x.pos (0,0)).1).2.2=0
  .rw[Wf a];by_cases b:(Waz w.mem (WbQ x.reads x.pos (0,0)).1).2.1>x.rv
   .rw[Wf b,Wf (.inr b)];exact Wdj rfl rfl rfl
   .rw[Wc b,Wc (by omega)];exact Wdj rfl rfl rfl
  .rw[Wc a,Wf (.inl a)];exact Wdj rfl rfl rfl
 .rw[Wc ac,Wc ac];have b1:(decide ((0:Int)<=x.last.2.1)&&decide (x.last.2.1<=(x.reads.length:Int)))=true:=by simp;omega
  have b2:(decide ((0:Int)<=x.last.2.2.1)&&decide (x.last.2.2.1<=(x.writes.length:Int)))=true:=by simp;omega
  rw[b1,b2,WdJ (by rw[Xbi];omega),WdJ (by rw[Xbi];omega),Wbt (by rw[e9.len];omega),Wap (by omega)];simp only[Wb,ret,Xd];exact Wdj rfl rfl rfl
theorem WqM(hk:k<w.roots.length)(aN:w.roots[k]=x)(gW:k<=8)(jK:CmOk x.cm)(hm:W0 w.mem=true)(hh:w.hist.length<=500000)(hN:1048576<N):
  Zho N w.e (k:Int)=some (((Wo.put (Wbp w x k) k).e,()),()):=by
 obtain⟨g1,g2,g3,g4,g5⟩:=woG hk aN;obtain⟨r0,r1,r2,r3,r4,r5,r6,r7,r8,fv,eT,dU,dX,dY,eF,fO,fP,fw,fx,fQ,fR,fS⟩:=rtP x;have bv:=Wix jK hm;unfold Zho Wbp;simp only[Wk,Wam];rw[show P5 w.e=w.roots.map Rt.e from rfl,g4,g2,Wap (by omega),Xl];simp only[Wb,r7,fv,fw,show w.e.2.2.1=w.mem from rfl,show Q6 w.e=w.hist from rfl];rw[Wdp];by_cases hd:x.doomed=true
 .rw[Wf hd,Wf hd];obtain⟨b,hb⟩:=Wtz (N:=N) jK hN;rw[hb];simp only[Xd,Wv,show(Wbk x.cm).e.2.2.1=(Wbk x.cm).phase from rfl];by_cases h8:(Wbk x.cm).phase=8
  .rw[Wf h8,Wf h8];have:S20 (Wbk x.cm).e (S11 false x.e)=Rt.e {x with cm:=Wbk x.cm,doomed:=false}:=rfl;rw[this,Wfc];exact Wdj rfl rfl rfl
  .rw[Wc h8,Wc h8];exact Wdj rfl rfl rfl
 .rw[Wc hd,Wc hd,WmW jK hm hN];simp only[Xd];obtain⟨m',c',hq⟩:∃m' c',Wdu w.mem x.cm=(m',c'):=⟨_,_,rfl⟩;rw[hq]at bv⊢;simp only at bv⊢;have rS:Za8 N (P5 c'.e)=ret c'.puts:=WdJ (by have:=bv.1.plen;show c'.puts.length<=1048576;omega);have hS:S20 c'.e x.e=Rt.e {x with cm:=c'}:=rfl;rw[rS,hS,Wfc];simp only[ret,Xd];rw[Wq (by simp;omega)];simp only[Wb,Wv,WV,show c'.e.2.2.1=c'.phase from rfl,show(Cm.e x.cm).2.2.1=x.cm.phase from rfl,show P4 c'.e=c'.wv from rfl];unfold WmZ;simp only;by_cases h3:x.cm.phase<=3
  .rw[Wf h3];by_cases h4:c'.phase=4
   .rw[Wf h4,Wc (by omega),Wc (by omega),Wf (show x.cm.phase<=3/\c'.phase=4 from⟨h3,h4⟩),Wc (by omega),Wc (by omega)];exact Wdj (w':={w with mem:=m',hist:=w.hist++ [(c'.wv,(k:Int)+1,c'.puts)]}) rfl rfl rfl
   .rw[Wc h4,Wc (show¬(x.cm.phase<=3/\c'.phase=4)fromλh=>h4 h.2)];by_cases h8:c'.phase=8
    .rw[Wf h8,Wf h8];exact Wdj (w':={w with mem:=m'}) rfl rfl rfl
    .rw[Wc h8,Wc h8];by_cases h6:c'.phase=6
     .rw[Wf h6,Wf h6];by_cases h2:x.fate=2
      .rw[Wf h2,Wf h2];exact Wdj (w':={w with mem:=m'}) rfl rfl rfl
      .rw[Wc h2,Wc h2];exact Wdj (w':={w with mem:=m'}) rfl rfl rfl
     .rw[Wc h6,Wc h6];exact Wdj (w':={w with mem:=m'}) rfl rfl rfl
  .rw[Wc h3,Wc (show¬(x.cm.phase<=3/\c'.phase=4)fromλh=>h3 h.1)];by_cases h8:c'.phase=8
   .rw[Wf h8,Wf h8];exact Wdj (w':={w with mem:=m'}) rfl rfl rfl
   .rw[Wc h8,Wc h8];by_cases h6:c'.phase=6
    .rw[Wf h6,Wf h6];by_cases h2:x.fate=2
     .rw[Wf h2,Wf h2];exact Wdj (w':={w with mem:=m'}) rfl rfl rfl
     .rw[Wc h2,Wc h2];exact Wdj (w':={w with mem:=m'}) rfl rfl rfl
    .rw[Wc h6,Wc h6];exact Wdj (w':={w with mem:=m'}) rfl rfl rfl
end
section
section
variable{code:List Opn}{pc fg rl wl ul qh md qi:Nat}{ms q:List RM}{y:RM}{n n':Int}{x:Rt}{w:Wo}{p:Pg}{k:Nat}{o:Opn}
theorem Wqv(code:List Opn){a b:Nat}(h:a<=b):frk code a<=frk code b:=by
 simp_all [frk,List.Sublist.countP_le,List.take_sublist_take_left]
theorem RMk.mono(h:RMk code pc ms rl wl ul)(hs:stk code fg=stk code pc)(h1:rl<=qh)(h2:wl<=md)(h3:ul<=qi):RMk code fg ms qh md qi:=
 ⟨by rw[hs];exact h.pcs,λq hq=>by obtain⟨a,b,c,d⟩:=h.each q hq;grind,h.up⟩
theorem RMk.cut(h:RMk code pc ms rl wl ul)(qg:ms=q++ [y])(h1:y.2.1<=qh)(h2:y.2.2.1<=md)(h3:y.2.2.2.1<=qi):RMk code pc ms qh md qi:=by
 refine⟨h.pcs,λa ha=>?_,h.up⟩;obtain⟨c1,c2,c3,c4⟩:=h.each a ha;have bg:a.2.1<=y.2.1/\a.2.2.1<=y.2.2.1/\a.2.2.2.1<=y.2.2.2.1:=by
  have hu:=h.up;rw[qg]at ha hu;rcases Xo.1 ha with ha|ha
  .exact(Xah.1 hu).2.2 a ha y (by simp)
  simp_all
 grind
theorem RMk.begin(h:RMk code pc ms rl wl ul)(hp:pc<code.length)(h8:code[pc].1=8){regs:List Int}(hr:Vals 4 regs)(h1:rl<=pc+72*frk code pc)(h2:wl<=pc+8)(h3:ul<=pc):
  RMk code (pc+1) (ms++ [((pc:Int),(rl:Int),(wl:Int),(ul:Int),regs)]) rl wl ul:=by
 refine⟨?_,?_,?_⟩
 .rw[WlC hp h8,Xz,Xz,h.pcs];rfl
 .intro q hq;rcases Xo.1 hq with hq|hq
  .exact h.each q hq
  grind
 .refine Xah.2 ⟨h.up,List.pairwise_singleton _ _,λa ha b hb=>?_⟩;rw[Xag]at hb;subst hb;obtain⟨c1,c2,c3,c4⟩:=h.each a ha;simp_all
theorem RMk.drop(h:RMk code pc ms rl wl ul)(qg:ms=q++ [y])(hs:stk code fg=(stk code pc).dropLast)(h1:y.2.1<=qh)(h2:y.2.2.1<=md)(h3:y.2.2.2.1<=qi):RMk code fg q qh md qi:=by
 have h':=h.cut qg h1 h2 h3;subst qg;have e:=h.pcs;refine⟨?_,λa ha=>h'.each a (List.mem_append_left _ ha),(Xah.1 h.up).1⟩
 grind
theorem RLive.wk(h:RLive p n x)(hn:n<=n'):RLive p n' x:={h with fork:=λh2=>by obtain⟨a,b,c⟩:=h.fork h2;exact⟨a,b,c.wk hn⟩}
theorem ROk.wk(h:ROk p n x)(hn:n<=n'):ROk p n' x:={h with tries:=by have:=h.tries;omega,live:=λhl=>(h.live hl).wk hn}
theorem RLive.on(cx:CC p.1)(h:RLive p n x)(h1:x.phase=1){i:Nat}(hi:i<p.1.length)(bH:x.pc=i){regs:List Int}{reads writes:List Rw}{marks:List RM}{undos:List Un}{busy:Bool}{pb:Pb}{fg:Nat}
  (hp:fg<=p.1.length) (ac:i<fg) (hr:Vals 4 regs) (rQ:Wjg reads) (cE:reads.length<=x.reads.length+1) (Au:Wjg writes) (mc:writes.length<=x.writes.length+1) (dH:undos.length<=x.undos.length+1) (hm:RMk p.1 fg marks reads.length writes.length undos.length) (hb:busy=true->WjQ pb=true):
  RLive p n {x with regs:=regs,reads:=reads,writes:=writes,marks:=marks,undos:=undos,busy:=busy,pb:=pb,pc:=(fg:Int)} where
 pc:=by simp_all
 spare:=h.spare
 rv:=h.rv
 regs:=hr
 reads:=rQ
 rl:=by
  have h2:=h.rl;have h3:=Wqv p.1 (show i<=fg by omega)
  grind
 writes:=Au
 wl:=by have:=h.wl;grind
 ul:=by have:=h.ul;grind
 marks:=by simp_all
 pb:=hb
 fork:=λh2=>by simp_all
 back:=λh2=>by simp_all
 newRv:=h.newRv
 pos:=λh2=>by simp_all
 unw:=λh2=>by simp_all
theorem Vals.le4{r:List Int}(h:Vals 4 r):r.length<=4:=Nat.le_of_eq h.len
theorem Wfw(h:ROk p n x):ROk p n (Wgf x) where
 phase:=by show(0:Int)<=6/\(6:Int)<=8;omega
 tries:=h.tries
 live:=λh=>by(change (1:Int)<=6/\(6:Int)<=4 at h;omega)
 comm:=λh=>by(change (6:Int)=5 at h;omega)
 undos:=h.undos
 ul:=h.ul
 rg:=by show([]:List Int).length<=4;simp
 ord:=by show([]:List Int).length<=3;simp
theorem WhW(h:ROk p n x)(hl:RLive p n x):ROk p n (Wbw x):=by
 unfold Wbw;split
 .exact Wfw h
 .rename_i hc;exact{h with
   phase:=by simp_all
   live:=λ_=>{hl with
    spare:=by have:=hl.spare;grind
    pb:=λh=>by cases h
    fork:=λh=>by simp_all
    back:=λ_=>by simp_all
    pos:=λh=>by simp_all
    unw:=λh=>by simp_all}
   comm:=λh=>by simp_all}
structure QOk(p:Pg)(n:Int)(w:Wo)(q:Wo×Rt):Prop where
 root:ROk p n q.2
 mem:W0 q.1.mem=true
 shelf:ShOk q.1.shelf
 holds:HOk q.1.holds
 hist:q.1.hist.length<=w.hist.length+1
 histE:∀h∈q.1.hist,h∈w.hist\/HE h
 roots:q.1.roots=w.roots
 now:q.1.now=w.now
structure GOk(w:Wo):Prop where
 mem:W0 w.mem=true
 shelf:ShOk w.shelf
 holds:HOk w.holds
theorem GOk.st(h:GOk w){y:Rt}(hy:ROk p n y):QOk p n w (w,y):=⟨hy,h.mem,h.shelf,h.holds,by simp,λ_ hh=>.inl hh,rfl,rfl⟩
theorem GOk.qt(h:GOk w){y:Rt}(hy:ROk p n y)(t:Int):QOk p n w ({w with token:=t},y):=⟨hy,h.mem,h.shelf,h.holds,by simp,λ_ hh=>.inl hh,rfl,rfl⟩
theorem Wtg(h:GOk w)(hx:ROk p n x):QOk p n w (Wk5 w x k):=by
 unfold Wk5;refine h.qt ?_ _;exact{hx with
  phase:=by simp_all
  live:=λh=>by simp_all
  comm:=λh=>by simp_all
  undos:=λu hu=>by cases hu
  ul:=by simp}
theorem Wn9(h:GOk w)(hx:ROk p n x)(my:0<=x.rv/\x.rv<=1000000)(hk:k<=8){out:Int}:QOk p n w (We2 w x k out):=by
 unfold We2;simp only;generalize (if out=2 then []else x.writes)=rows;split
 .exact Wtg (x:={x with fate:=out,stamp:=x.rv}) h
   {phase:=hx.phase,tries:=hx.tries,live:=λhh=>{hx.live hh with},comm:=hx.comm,undos:=hx.undos,ul:=hx.ul,rg:=hx.rg,ord:=hx.ord}
 .refine h.st ?_;exact{hx with
   phase:=by simp_all
   live:=λh=>by simp_all
   comm:=λ_=>WtW (by omega) my}
theorem Wtu{α:Type}{l:List α}(h:l.length≠0)(d:α):WgB l d∈l:=by
 grind [WgB,WD,Xv]
theorem Wl0(h:GOk w)(hx:ROk p n x)(hz:x.undos.length≠0)(cx:1<=x.phase/\x.phase<=4->CC p.1/\(x.marks.length≠0->x.last.2.2.2.1<x.undos.length)):QOk p n w (WeN w x):=by
 unfold WeN;refine⟨?_,h.mem,WqQ h.shelf (hx.undos _ (Wtu hz _)),h.holds,by simp,λ_ hh=>.inl hh,rfl,rfl⟩;have mF:x.undos.dropLast.length=x.undos.length-1:=List.length_dropLast;exact{hx with
  live:=λhh=>by
   have hl:=hx.live hh;obtain⟨c1,c2⟩:=cx hh;exact{hl with
    ul:=by have:=hl.ul;grind
    unw:=λh4=>by have:=hl.unw h4;show(x.undos.dropLast.length:Int)<=x.last.2.2.2.1;omega
    marks:=by
     show RMk p.1 x.pc.toNat x.marks x.reads.length x.writes.length x.undos.dropLast.length;by_cases hm:x.marks.length=0
     .have:x.marks= []:=Xx hm;have hM:=hl.marks;rw[this]at hM⊢;exact⟨hM.pcs,(λq hq=>by cases hq),hM.up⟩
     .obtain⟨m,q,e1,e2,⟨eW,gX⟩,e4,e5,e6,e7,e8,e9,jU,kq,jE,jF,iJ⟩:=hl.mk24 c1 hm;have:=c2 hm;exact hl.marks.cut e1 jU.2.2 kq.2.2 (by omega)}
  undos:=λu hu=>hx.undos u (by grind [Xgg,Xco])
  ul:=by have:=hx.ul;grind}
theorem WuV(cx:CC p.1)(h:GOk w)(hx:ROk p n x)(hl:RLive p n x)(h1:x.phase=1){i:Nat}(hi:i<p.1.length)(bH:x.pc=i)(h5:p.1[i].1=5):ROk p n (Wlw w x p.1[i]):=by
 have bI:=WwE (cx.ok i hi).1 h5;have hB:0<=p.1[i].2.2.1/\p.1[i].2.2.1<=7:=by grind [Wav]
 have hM:=hl.marks;rw[bH,Xl]at hM;have bv:stk p.1 (i+1)=stk p.1 i:=WgS hi (by omega) (by omega);have cI:x.pc+1=((i+1:Nat):Int):=by omega
 unfold Wlw;cases hlr:Wcm x.writes p.1[i].2.2.1 with
 |some v=>
  have hv:=hl.writes _ (Wi4 hlr).2;simp only[cI];exact{hx with rg:=Vals.le4 (hl.regs.set _ hv.2),live:=λ_=>RLive.on cx hl h1 hi bH (by omega) (by omega) (hl.regs.set _ hv.2) hl.reads (by omega) hl.writes (by omega) (by omega) (hM.mono bv (by omega) (by omega) (by omega)) hl.pb}
 |none=>
  simp only;have cy:=Wnf (rv:=x.rv) h.mem (Wpu hl.pb hB);generalize WaK w.mem x.rv (if x.busy=true then x.pb else(p.1[i].2.2.1,0,0,0))=b at*;have hp:=Wfj.1 cy.1;have Av:RLive p n {x with busy:=true,pb:=b}:={hl with pb:=λ_=>cy.1};have hbo:ROk p n {x with busy:=true,pb:=b}:={hx with live:=λ_=>Av};split
  .grind [WhW]
  .split
   .simp only[cI];refine{hx with rg:=Vals.le4 (hl.regs.set _ hp.2.2.2),live:=λ_=>RLive.on cx hl h1 hi bH (by omega) (by omega) (hl.regs.set _ hp.2.2.2) (λr hr=>?_) (by simp) hl.writes (by omega) (by omega) (hM.mono bv (by simp) (by omega) (by omega)) (λh=>by cases h)};rcases Xo.1 hr with hr|hr
    .exact hl.reads r hr
    simp_all
   omega
theorem Wsk(cx:CC p.1)(h:GOk w)(hx:ROk p n x)(hl:RLive p n x)(h1:x.phase=1)(hk:k<=8){i:Nat}(hi:i<p.1.length)(bH:x.pc=i):QOk p n w (Wi3 w x k p.1):=by
 have hM:=hl.marks;rw[bH,Xl]at hM;unfold Wi3;split
 .exact Wn9 h hx hl.rv hk
 .rename_i hz;obtain⟨m,q,e1,e2,⟨eW,gX⟩,e4,e5,e6,e7,e8,e9,jU,kq,jE,jF,iJ⟩:=hl.mk24 cx hz;split
  .grind [Wl0]
  .refine h.st ?_;rw[e8];simp only[e2,Xl,←Int.natCast_succ];have ad:=e5.len;have ht:(Xam x.last.2.2.1.toNat x.writes).length=x.last.2.2.1.toNat:=by simp_all
   refine{hx with rg:=Vals.le4 (e9.set _ (by omega)),live:=λ_=>RLive.on cx hl h1 hi bH (fg:=Wkg p.1 m+1) (by omega) (by omega) (e9.set _ (by omega)) hl.reads (by omega) (λr hr=>hl.writes r (Xco hr)) (by omega) (by omega) ?_ hl.pb};exact hM.drop e1 (by rw[e5.st,e7,bH];rfl) (by omega) (by omega) (by omega)
theorem Wtj(cx:CC p.1)(h:GOk w)(hx:ROk p n x)(hl:RLive p n x)(h1:x.phase=1)(hk:k<=8){i:Nat}(hi:i<p.1.length)(bH:x.pc=i)(eS:12<=p.1[i].1):QOk p n w (WfB w x k p.1[i]):=by
 have ho:=(cx.ok i hi).1;have hM:=hl.marks;rw[bH,Xl]at hM;have bv:stk p.1 (i+1)=stk p.1 i:=WgS hi (by omega) (by omega);have cI:x.pc+1=((i+1:Nat):Int):=by omega
 have dH:=hl.ul;have c7:=cx.len;have nX:(0<=(Wb3 p.1[i]).1/\(Wb3 p.1[i]).1<=8)/\1<=(Wb3 p.1[i]).2/\(Wb3 p.1[i]).2<=2:=by
  grind [Wb3,Wki,We3,WqR,Wrg,Wbc,Wsq]
 unfold WfB;cases ha:Wdd w.holds ((k:Int)+1) (Wb3 p.1[i]).1 (Wb3 p.1[i]).2 with
 |none=>exact h.st (WhW hx hl)
 |some hs=>
  have Aw:HOk hs:=by
   unfold Wdd at ha;split at ha
   .injection ha with ha;subst ha;exact WrB h.holds (by omega) nX.1 nX.2 ‹_›
   .cases ha
  obtain⟨b1,b2,b3,b4⟩:=WrH h.shelf hl.regs ho eS;simp only[cI];refine⟨?_,h.mem,b1,Aw,by simp,λ_ hh=>.inl hh,rfl,rfl⟩;by_cases hz:(Wa4 w.shelf p.1[i] x.regs).2.2.1=0
  .simp only[Wf hz];exact{hx with rg:=Vals.le4 b2,live:=λ_=>RLive.on cx hl h1 hi bH (by omega) (by omega) b2 hl.reads (by omega) hl.writes (by omega) (by omega) (hM.mono bv (by omega) (by omega) (by omega)) hl.pb}
  .simp only[Wc hz];refine{hx with rg:=Vals.le4 b2,live:=λ_=>RLive.on cx hl h1 hi bH (by omega) (by omega) b2 hl.reads (by omega) hl.writes (by omega) (by simp) (hM.mono bv (by omega) (by omega) (by simp)) hl.pb,undos:=λu hu=>?_,ul:=by simp;omega};rcases Xo.1 hu with hu|hu
   .exact hx.undos u hu
   simp_all
theorem Wsi(hp:POk p)(h:GOk w)(hx:ROk p n x)(h1:x.phase=1)(hk:k<=8)(hn:0<=n):QOk p n w (WoW w x k p):=by
 have hl:=hx.live (by omega);have cx:=hp.code;unfold WoW;split
 .exact Wn9 h hx hl.rv hk
 .obtain⟨i,hi,bH,ho⟩:=WjA (l:=p.1) hl.pc.1 (by omega);simp only[ho];obtain⟨ok,o1,jd⟩:=cx.ok i hi;have hM:=hl.marks;rw[bH,Xl]at hM;have cI:x.pc+1=((i+1:Nat):Int):=by omega
  have cE:=hl.rl;have mc:=hl.wl;have dH:=hl.ul;rw[bH,Xl]at cE;split
  .exact h.st (WuV cx h hx hl h1 hi bH ‹_›)
  .split
   .grind [Wsk]
   .split
    .rename_i gQ;refine h.st ?_;exact{hx with
      phase:=by simp_all
      live:=λ_=>{hl with
       fork:=λ_=>⟨by simp_all,by simp_all,Wta hl.regs hn⟩
       back:=λh=>by simp_all
       pos:=λh=>by simp_all
       unw:=λh=>by simp_all}
      comm:=λh=>by simp_all}
    .split
     .grind [Wtj]
     .split
      .refine h.st ?_;have hk:=WwB ok ‹_›;have bv:stk p.1 (i+1)=stk p.1 i:=WgS hi (by omega) (by omega);simp only[cI];refine{hx with live:=λ_=>RLive.on cx hl h1 hi bH (by omega) (by omega) hl.regs hl.reads (by omega) (λr hr=>?_) (by simp) (by omega) (hM.mono bv (by omega) (by simp) (by omega)) hl.pb};rcases Xo.1 hr with hr|hr
       .exact hl.writes r hr
       .rw[Xag]at hr;subst hr;have:=hk.1;unfold Wav at this;exact⟨by simp_all,hl.regs.get _⟩
      .split
       .refine h.st ?_;obtain⟨s1,s2⟩:=cx.sk i hi ‹_›;have hk:=Wwz ok ‹_›;have bv:stk p.1 (i+1)=stk p.1 i:=WgS hi (by omega) (by omega);have pz:stk p.1 (i+1+p.1[i].2.2.1.toNat)=stk p.1 i:=by grind [WpM]
        by_cases hg:WbQ x.regs p.1[i].2.1 0=0
        .simp only[Wf hg,show x.pc+p.1[i].2.2.1+1=((i+1+p.1[i].2.2.1.toNat:Nat):Int) by omega];exact{hx with live:=λ_=>RLive.on cx hl h1 hi bH s1 (by omega) hl.regs hl.reads (by omega) hl.writes (by omega) (by omega) (hM.mono pz (by omega) (by omega) (by omega)) hl.pb}
        .simp only[Wc hg,cI];exact{hx with live:=λ_=>RLive.on cx hl h1 hi bH (by omega) (by omega) hl.regs hl.reads (by omega) hl.writes (by omega) (by omega) (hM.mono bv (by omega) (by omega) (by omega)) hl.pb}
       .split
        .refine h.st ?_;simp only[cI];rw[bH];exact{hx with live:=λ_=>RLive.on cx hl h1 hi bH (by omega) (by omega) hl.regs hl.reads (by omega) hl.writes (by omega) (by omega) (hM.begin hi ‹_› hl.regs (by omega) (by omega) (by omega)) hl.pb}
        .split
         .rename_i h9;refine h.st ?_;have hz:x.marks.length≠0:=λhz=>by
           have h1:=Wn Xb hM.pcs;simp only[Xu,hz]at h1;have h2:=Wa3 cx.up i (by omega);have h3:=cx.up i hi
           grind [WaD,Wl7]
          obtain⟨m,q,e1,e2,⟨eW,gX⟩,e4,e5,e6,e7,e8,e9,jU,kq,jE,jF,iJ⟩:=hl.mk24 cx hz;simp only[cI];rw[e8];exact{hx with rg:=Vals.le4 (hl.regs.set _ (by omega)),live:=λ_=>RLive.on cx hl h1 hi bH (by omega) (by omega) (hl.regs.set _ (by omega)) hl.reads (by omega) hl.writes (by omega) (by omega) (hM.drop e1 (Wm4 hi h9) (by omega) (by omega) (by omega)) hl.pb}
         .refine h.st ?_;have bv:stk p.1 (i+1)=stk p.1 i:=WgS hi (by omega) (by omega);simp only[cI];exact{hx with rg:=Vals.le4 (Wms ok (by omega) (by omega) hl.regs),live:=λ_=>RLive.on cx hl h1 hi bH (by omega) (by omega) (Wms ok (by omega) (by omega) hl.regs) hl.reads (by omega) hl.writes (by omega) (by omega) (hM.mono bv (by omega) (by omega) (by omega)) hl.pb}
theorem Wun(h:GOk w)(hx:ROk p n x)(hu:x.phase=0)(c7:0<=(p.1.length:Int)):QOk p n w (WeU w x k):=by
 have mM:=WC h.mem;unfold WeU;split
 .exact h.st hx
 .split
  .exact h.qt hx _
  .split
   .exact h.st hx
   .refine h.st ?_;exact{
     phase:=by simp_all
     tries:=hx.tries
     live:=λ_=>{
      pc:=by simp_all
      spare:=by simp_all
      rv:=⟨mM.2.1,mM.2.2.1⟩
      regs:=⟨rfl,λv hv=>by simp_all⟩
      reads:=λr hr=>by cases hr
      rl:=by simp;omega
      writes:=λr hr=>by cases hr
      wl:=by simp
      ul:=by simp
      marks:=⟨by simp[stk],(λq hq=>by cases hq),List.Pairwise.nil⟩
      pb:=λh=>by cases h
      fork:=λh=>by simp_all
      back:=λh=>by simp_all
      newRv:=by simp_all
      pos:=λh=>by simp_all
      unw:=λh=>by simp_all}
     comm:=λh=>by simp_all
     undos:=λu hu=>by cases hu
     ul:=by simp
     rg:=by simp
     ord:=by simp}
theorem Wnn{codes:List (List Opn)}{f:Fm}(h:FOk codes n f):Wjg (Whh f)/\(Whh f).length<=8:=by
 refine⟨λr hr=>?_,by unfold Whh;rw[Xu];exact h.buf8⟩;obtain⟨e,he,rfl⟩:=Xw.1 hr;have:=h.bufE e he;omega
theorem WkA{codes:List (List Opn)}{f:Fm}(h:FOk codes n f)(h3:codes.length<=3):Vals 4 (Wf4 f):=by
 have hl:=h.len;have hr:=h.regs;unfold Wf4;rw[Wf ⟨Wco.2 hr,by omega⟩];refine⟨by simp[hr.len];omega,λv hv=>?_⟩;rcases Xo.1 hv with hv|hv
 .obtain⟨y,hy,rfl⟩:=Xw.1 hv;unfold Wu4;split
  .rename_i hc;exact(Wco.1 hc.2).get _
  .omega
 .exact hr.val v (List.mem_of_mem_drop hv)
theorem Wuz(hp:POk p)(hx:ROk p n x)(h2:x.phase=2):ROk p n (Whm x):=by
 have hl:=hx.live (by omega);have cx:=hp.code;obtain⟨f1,f2,f3⟩:=hl.fork h2;obtain⟨i,hi,bH,ho⟩:=WjA (l:=p.1) hl.pc.1 f1;rw[ho]at f2;have hM:=hl.marks;have cE:=hl.rl;have dH:=hl.ul;rw[bH,Xl]at hM cE;unfold Whm;split
 .exact Wfw hx
 .split
  .have hz:x.marks= []:=by
    have h1:=Wn Xb hM.pcs;simp only[Xu]at h1;have h3:=Wa3 cx.up i (by omega);have h4:=(cx.fk i hi f2).1;simp_all
   have bv:stk p.1 (i+1)=stk p.1 i:=WgS hi (by omega) (by omega);have Ax:=Wnn f3;have me:=f3.len3 hp.k3;have Ay:=f3.readsL;have hfk:frk p.1 (i+1)=frk p.1 i+1:=by grind [Wil]
   exact{hx with
    phase:=by simp_all
    rg:=(WkA f3 hp.k3).le4
    ord:=me
    live:=λ_=>{hl with
     pc:=by grind
     regs:=WkA f3 hp.k3
     reads:=λr hr=>by
      rcases Xo.1 hr with hr|hr
      .exact hl.reads r hr
      .exact f3.readsE r hr
     rl:=by
      grind
     writes:=Ax.1
     wl:=by grind
     ul:=by grind
     marks:=by
      show RMk p.1 (x.pc+1).toNat x.marks _ _ _;rw[show(x.pc+1).toNat=i+1 by omega];rw[hz]at hM⊢;exact⟨by rw[bv];exact hM.pcs,(λq hq=>by cases hq),List.Pairwise.nil⟩
     fork:=λh=>by simp_all
     back:=λh=>by simp_all
     pos:=λh=>by simp_all
     unw:=λh=>by simp_all}
    comm:=λh=>by simp_all}
  .exact hx
theorem Wrf(hp:POk p)(h:GOk w)(hx:ROk p n x)(h3:x.phase=3):QOk p n w (WbC w x):=by
 have hl:=hx.live (by omega);have hz:=hl.back (.inl h3);obtain⟨m,q,e1,e2,⟨eW,gX⟩,e4,e5,e6,e7,e8,e9,jU,kq,jE,jF,iJ⟩:=hl.mk24 hp.code hz;have mM:=WC h.mem;unfold WbC;split
 .exact Wl0 h hx (by omega) λ_=>⟨hp.code,λ_=>by omega⟩
 .refine h.st ?_;exact{hx with
   phase:=by simp_all
   live:=λ_=>{hl with
    fork:=λh=>by simp_all
    back:=λ_=>hz
    newRv:=⟨mM.2.1,mM.2.2.1⟩
    pos:=λ_=>by(show(0:Int)<=0/\(0:Int)<=x.last.2.1;omega)
    unw:=λ_=>by(show(x.undos.length:Int)<=x.last.2.2.2.1;omega)}
   comm:=λh=>by simp_all}
theorem WrM(hp:POk p)(h:GOk w)(hx:ROk p n x)(h4:x.phase=4):ROk p n (Wb4 w x):=by
 have hl:=hx.live (by omega);have hz:=hl.back (.inr h4);have cy:=hl.pos h4;obtain⟨m,q,e1,e2,⟨eW,gX⟩,e4,e5,e6,e7,e8,e9,jU,kq,jE,jF,iJ⟩:=hl.mk24 hp.code hz;unfold Wb4;split
 .simp only;split
  .exact Wfw hx
  .exact{hx with live:=λ_=>{hl with pos:=λ_=>by(show 0<=x.pos+1/\x.pos+1<=x.last.2.1;omega)}}
 .rename_i dG;have bv:stk p.1 (m+1)=stk p.1 x.pc.toNat:=by
   have Az:=hl.pc;rw[WlC eW gX,e7];rcases Wcd (stk p.1 x.pc.toNat)with h0|⟨t,j,ht⟩
   .have h1:=Wn Xb hl.marks.pcs;simp_all
   .have h1:=hl.marks.pcs;rw[e1,ht]at h1;simp only[Xz,List.map_cons,List.map_nil]at h1;have h2:=(List.append_inj' h1 rfl).2;injection h2 with h2;rw[e2]at h2;rw[ht,List.dropLast_concat,show m=j by omega]
  have xf:=Wqv p.1 (show m<=m+1 by omega);rw[e2,Xl]at jU;have cI:x.last.1+1=((m+1:Nat):Int):=by omega
  have t1:(Xam x.last.2.1.toNat x.reads).length=x.last.2.1.toNat:=by simp_all
  have t2:(Xam x.last.2.2.1.toNat x.writes).length=x.last.2.2.1.toNat:=by simp_all
  exact{hx with
   phase:=by simp_all
   rg:=e9.le4
   live:=λ_=>{hl with
    pc:=by grind
    rv:=hl.newRv
    regs:=e9
    reads:=λr hr=>hl.reads r (Xco hr)
    rl:=by
     grind
    writes:=λr hr=>hl.writes r (Xco hr)
    wl:=by grind
    ul:=by
     show(x.undos.length:Int)<=x.last.1+1;have:=hl.unw h4;omega
    marks:=by
     show RMk p.1 (x.last.1+1).toNat x.marks (Xam x.last.2.1.toNat x.reads).length (Xam x.last.2.2.1.toNat x.writes).length x.undos.length;rw[cI,Xl,t1,t2];exact(hl.marks.cut e1 (by omega) (by omega) iJ).mono bv (Xm _) (Xm _) (Xm _)
    fork:=λh=>by simp_all
    back:=λh=>by omega
    newRv:=by simp_all
    pos:=λh=>by simp_all
    unw:=λh=>by simp_all}
   comm:=λh=>by simp_all}
end
end
section
section
variable{N:Nat}{w:Wo}{k:Nat}{x:Rt}{p:Pg}{n:Int}{ps:List Pg}
theorem WqU(h:GOk w)(hx:ROk p n x)(h5:x.phase=5)(hk:k<=8):QOk p n w (Wbp w x k):=by
 have hc:=hx.comm h5;unfold Wbp;split
 .split
  .exact h.st (Wfw hx)
  .refine h.st ?_;exact{hx with live:=λhh=>by simp_all,comm:=λ_=>Wq1 hc}
 .have bv:=Wix hc h.mem;obtain⟨m',c',hq⟩:∃m' c',Wdu w.mem x.cm=(m',c'):=⟨_,_,rfl⟩;simp only[hq]at bv⊢;refine⟨?_,bv.2,h.shelf,h.holds,?_,?_,rfl,rfl⟩
  .have hy:ROk p n {x with cm:=c'}:={hx with live:=λhh=>by simp_all,comm:=λ_=>bv.1};unfold WmZ;simp only;split
   .exact Wfw hy
   .split
    .have gw:(if x.fate=2 then(6:Int)else 7)=6\/(if x.fate=2 then(6:Int)else 7)=7:=by split<;>simp
     generalize (if x.fate=2 then(6:Int)else 7)=ph at*;exact{hx with
      phase:=by grind
      live:=λhh=>by grind
      comm:=λhh=>by simp_all}
    .exact hy
  .simp only;split<;>simp
  .simp only;intro h hh;split at hh
   .rcases Xo.1 hh with hh|hh
    .grind
    .rw[Xag]at hh;subst hh;exact .inr ⟨bv.1.plen,bv.1.rows,by grind,by grind⟩
   simp_all
theorem Wp2(hp:POk p)(h:GOk w)(hx:ROk p n x)(hk:k<=8)(hn:0<=n):QOk p (n+1) w (Wht w x k p):=by
 have kI:=hx.wk (show n<=n+1 by omega);unfold Wht;by_cases hd:x.doomed=true/\1<=x.phase/\x.phase<=4
 .rw[Wf hd];exact h.st (Wfw kI)
 rw[Wc hd];by_cases h0:x.phase=0
 .simp_all [Wf,Wun]
 rw[Wc h0];by_cases h1:x.phase=1
 .rw[Wf h1];grind [Wsi]
 rw[Wc h1];by_cases h2:x.phase=2
 .rw[Wf h2];exact h.st (Wuz hp kI h2)
 rw[Wc h2];by_cases h3:x.phase=3
 .simp_all [Wf,Wrf]
 rw[Wc h3];by_cases h4:x.phase=4
 .rw[Wf h4];exact h.st (WrM hp h kI h4)
 rw[Wc h4];by_cases h5:x.phase=5
 .simp_all [Wf,WqU]
 rw[Wc h5];by_cases h6:x.phase=6
 .rw[Wf h6];by_cases hz:x.undos.length>0
  .rw[Wf hz];grind [Wl0]
  .rw[Wc hz];refine h.st ?_;exact{kI with
    phase:=by simp_all
    live:=λhh=>by simp_all
    comm:=λhh=>by simp_all}
 rw[Wc h6];by_cases h7:x.phase=7
 .rw[Wf h7];have hg:GOk {w with holds:=WW w.holds ((k:Int)+1)}:=⟨h.mem,h.shelf,Wi8 h.holds⟩;by_cases hf:x.fate=0
  .rw[Wf hf];refine⟨?_,h.mem,h.shelf,Wi8 h.holds,by simp,λ_ hh=>.inl hh,rfl,rfl⟩;exact{
    phase:=by simp_all
    tries:=by have:=hx.tries;grind
    live:=λhh=>by simp_all
    comm:=λhh=>by simp_all
    undos:=λu hu=>by cases hu
    ul:=by simp
    rg:=by simp
    ord:=by simp}
  .rw[Wc hf];have:=Wtg (k:=k) hg kI;exact⟨this.root,this.mem,this.shelf,this.holds,this.hist,this.histE,this.roots,this.now⟩
 .rw[Wc h7];exact h.st kI
theorem Wua(hk:k<w.roots.length)(aN:w.roots[k]=x)(gY:w.roots.length<=8)(hp:POk p)(h:GOk w)(hx:ROk p n x)(hn:n<=200000)(hh:w.hist.length<=500000)(hN:1048576<N):
  Zi9 N w.e (k:Int) p=some (((Wo.put (Wht w x k p) k).e,()),()):=by
 obtain⟨g1,g2,g3,g4,g5⟩:=woG hk aN;obtain⟨r0,r1,r2,r3,r4,r5,r6,r7,r8,fv,eT,dU,dX,dY,eF,fO,fP,fw,fx,fQ,fR,fS⟩:=rtP x;have pC:k<=8:=by omega
 have dS:=Wmx hk aN;have AA:=hx.tries;have v8:=hx.ul;have pP:=Wep h.holds;unfold Zi9 Wht;simp only[Wk];rw[show P5 w.e=w.roots.map Rt.e from rfl,g4,g2,Wap (by omega),Wap (show 0<=x.e.2.1/\x.e.2.1<=1000000 by omega)];simp(maxSteps:=4000000) only[g3,r0,r7,fv,eF,Wb,W1,ret,Xd,Wfc,Wv,WV,show w.e.2.2.1.1=w.mem.1 from rfl,Wg,show P4 w.e=w.holds from rfl];rw[Wh9 h.holds (by omega) hN];simp only[ret,Xd];have hS4:S4 (WW w.holds ((k:Int)+1)) w.e=Wo.e {w with holds:=WW w.holds ((k:Int)+1)}:=rfl;have AB:S5 (Xe (w.roots.map Rt.e) (Xa (k:Int)) x.e) (S4 (WW w.holds ((k:Int)+1)) w.e)=Wo.e {w with holds:=WW w.holds ((k:Int)+1)}:=(woG (w:={w with holds:=WW w.holds ((k:Int)+1)}) hk aN).2.2.1;rw[AB,Wr4 (w:={w with holds:=WW w.holds ((k:Int)+1)}) hk aN (by omega),WtS hk aN gY hN];have hY:∀(A:Option ((Y_World×Unit)×Unit)),A=some (((Wo.put (
   if x.phase=0 then WeU w x k else
   if x.phase=1 then WoW w x k p else
   if x.phase=2 then(w,Whm x)else
   if x.phase=3 then WbC w x else
   if x.phase=4 then(w,Wb4 w x)else
   if x.phase=5 then Wbp w x k else
   if x.phase=6 then(if x.undos.length>0 then WeN w x else(w,{x with phase:=7}))else
   if x.phase=7 then
    (if x.fate=0 then({w with holds:=WW w.holds ((k:Int)+1)},{tries:=x.tries+1})
     else Wk5 {w with holds:=WW w.holds ((k:Int)+1)} x k)
   else(w,x)) k).e,()),())->¬(x.doomed=true/\1<=x.phase/\x.phase<=4)->A=some (((Wo.put (
   if x.doomed=true/\1<=x.phase/\x.phase<=4 then(w,Wgf x)else
   if x.phase=0 then WeU w x k else
   if x.phase=1 then WoW w x k p else
   if x.phase=2 then(w,Whm x)else
   if x.phase=3 then WbC w x else
   if x.phase=4 then(w,Wb4 w x)else
   if x.phase=5 then Wbp w x k else
   if x.phase=6 then(if x.undos.length>0 then WeN w x else(w,{x with phase:=7}))else
   if x.phase=7 then
    (if x.fate=0 then({w with holds:=WW w.holds ((k:Int)+1)},{tries:=x.tries+1})
     else Wk5 {w with holds:=WW w.holds ((k:Int)+1)} x k)
   else(w,x)) k).e,()),()):=λA hA hn=>by grind
 have mi:(if x.phase=0 then(some (((Wo.put (WeU w x k) k).e,()),()):Option ((Y_World×Unit)×Unit)).bind (λo6=>some ((o6.1.1,()),()))
   else if x.phase=1 then(Zkg N w.e (k:Int) p).bind (λo7=>some ((o7.1.1,()),()))
   else if x.phase=2 then(Zkh N x.e).bind (λo8=>some ((S5 (Xe (w.roots.map Rt.e) (Xa (k:Int)) o8.1.1) w.e,()),()))
   else if x.phase=3 then(Ze0 N x.e).bind (λo9=>if(x.undos.length:Int)>o9.2.1.2.2.2 then(Zcn N w.e (Xa (k:Int))).bind (λbn=>some ((bn.1.1,()),()))else some ((S5 (Xe (w.roots.map Rt.e) (Xa (k:Int)) (S6 0 (S5 w.mem.1 (S0 4 x.e)))) w.e,()),()))
   else if x.phase=4 then(Zhn N w.e (Xa (k:Int))).bind (λcV=>some ((cV.1.1,()),()))
   else if x.phase=5 then(Zho N w.e (k:Int)).bind (λcO=>some ((cO.1.1,()),()))
   else if x.phase=6 then(if(x.undos.length:Int)>0 then(Zcn N w.e (Xa (k:Int))).bind (λcj=>some ((cj.1.1,()),()))else some ((S5 (Xe (w.roots.map Rt.e) (Xa (k:Int)) (7,x.e.2)) w.e,()),()))
   else if x.phase=7 then(if x.fate=0 then some ((S5 (Xe (w.roots.map Rt.e) (Xa (k:Int)) ((0:Int),(x.e.2.1+1,((0:Int),((0:Int),((0:Int),((0:Int),((0:Int),((0:Int),((0:Int),((0:Int),((0:Int),(false,(([]:List Int),(([]:List Kc),(([]:List Kc),(([]:List Kf),(([]:List Kb),(([]:List Int),(false,(((0:Int),((0:Int),((0:Int),(0:Int)))),(((0:Int),((0:Int),((0:Int),((0:Int),((0:Int),(([]:List Kc),([]:List Int))))))),d_Family)))))))))))))))))))))) (S4 (WW w.holds ((k:Int)+1)) w.e),()),())else(some (((Wo.put (Wk5 {w with holds:=WW w.holds ((k:Int)+1)} x k) k).e,()),()):Option ((Y_World×Unit)×Unit)).bind (λkb=>some ((kb.1.1,()),())))
   else some ((w.e,()),()))=some (((Wo.put (
   if x.phase=0 then WeU w x k else
   if x.phase=1 then WoW w x k p else
   if x.phase=2 then(w,Whm x)else
   if x.phase=3 then WbC w x else
   if x.phase=4 then(w,Wb4 w x)else
   if x.phase=5 then Wbp w x k else
   if x.phase=6 then(if x.undos.length>0 then WeN w x else(w,{x with phase:=7}))else
   if x.phase=7 then
    (if x.fate=0 then({w with holds:=WW w.holds ((k:Int)+1)},{tries:=x.tries+1})
     else Wk5 {w with holds:=WW w.holds ((k:Int)+1)} x k)
   else(w,x)) k).e,()),()):=by
  rw[Xl];by_cases h0:x.phase=0
  .simp_all
  .rw[Wc h0,Wc h0];by_cases h1:x.phase=1
   .rw[Wf h1,Wf h1,Wv9 hk aN pC hp (hx.live (by omega)) hx.undos h.mem h.shelf h.holds hN];rfl
   .rw[Wc h1,Wc h1];by_cases h2:x.phase=2
    .rw[Wf h2,Wf h2,Wt1 hp (hx.live (by omega)) h2 hN];exact Wdj rfl rfl rfl
    .rw[Wc h2,Wc h2];by_cases h3:x.phase=3
     .have hl:=hx.live (by omega);obtain⟨z1,z2,z3,z4,z5,z6⟩:=hl.sz hp.code;rw[Wf h3,Wf h3,Wog (hl.back (.inl h3)) (by omega)];simp only[Xd];have rX:=(hl.mk24 hp.code (hl.back (.inl h3)));obtain⟨m,q,e1,e2,_,_,_,_,_,_,_,_,_,iJ⟩:=rX;unfold WbC;by_cases fT:(x.undos.length:Int)>x.last.2.2.2.1
      .rw[Wf fT,Wf fT,WlP hk aN (by omega) (by omega) hx.undos h.shelf hN];rfl
      .rw[Wc fT,Wc fT];exact Wdj rfl rfl rfl
     .rw[Wc h3,Wc h3];by_cases h4:x.phase=4
      .rw[Wf h4,Wf h4,Wq9 hk aN hp (hx.live (by omega)) h4 h.mem];rfl
      .rw[Wc h4,Wc h4];by_cases h5:x.phase=5
       .rw[Wf h5,Wf h5,WqM hk aN pC (hx.comm h5) h.mem hh hN];rfl
       .rw[Wc h5,Wc h5];by_cases h6:x.phase=6
        .rw[Wf h6,Wf h6];by_cases hz:x.undos.length>0
         .rw[Wf (by omega),Wf hz,WlP hk aN (by omega) (by omega) hx.undos h.shelf hN];rfl
         .rw[Wc (by omega),Wc hz];exact Wdj rfl rfl rfl
        .rw[Wc h6,Wc h6];by_cases h7:x.phase=7
         .rw[Wf h7,Wf h7];by_cases hf:x.fate=0
          .rw[Wf hf,Wf hf,hS4];exact Wdj (w:=w) (w':={w with holds:=WW w.holds ((k:Int)+1)}) (x':={tries:=x.tries+1}) rfl rfl rfl
          .rw[Wc hf,Wc hf];rfl
         simp_all
 rw[Wdp];by_cases hd:x.doomed=true
 .rw[Wf hd];by_cases gw:1<=x.phase/\x.phase<=4
  .rw[We gw.1,We gw.2,Wf (show x.doomed=true/\1<=x.phase/\x.phase<=4 from⟨hd,gw⟩),Xl];exact Wdj rfl rfl rfl
  .have hb:(decide (1<=x.phase)&&decide (x.phase<=4))=false:=by
    rw[Xck,Wt,Wt];omega
   rw[hb];exact hY _ mi (λhc=>gw hc.2)
 grind
end
end
section
noncomputable def Wps(p:Pg):Bool:=p.2.all Whq&&(Wra p.1&&(decide (p.2.length<=3)&&beq (p.1.any λo=>o.1==11) (decide (p.2.length>0))))
noncomputable def Wom(s:Sc):Bool:=WtR s.1&&(decide (s.2.1.length<=4)&&(decide (s.2.2.length<=400)&&s.2.1.all Wps))
structure PB(p:Pg):Prop where
 code:p.1.length<=1048576
 kids:p.2.length<=1048576
 each:∀c∈p.2,c.length<=1048576
structure SB(s:Sc):Prop where
 cells:s.1.1.length<=1048576
 map:s.1.2.1.length<=1048576
 progs:s.2.1.length<=1048576
 each:∀p∈s.2.1,PB p
 acts:s.2.2.length<=1048576
variable{N:Nat}{s:Sc}{p:Pg}{w:Wo}{n:Int}{a:Ac}
theorem WvD(h:Wps p=true):POk p:=by
 unfold Wps at h;simp only[Xi,Xad,Wi]at h;exact⟨Ww8 h.2.1,λc hc=>WxD (h.1 c hc),h.2.2.1⟩
theorem Wf8(h:Wom s=true):ThOk s.1/\s.2.1.length<=4/\s.2.2.length<=400/\∀p∈s.2.1,POk p:=by
 simp_all [Wom,Xi,Xad,Wi,WtY,WvD]
theorem WpC{α:Type}(l:List α)(k:Nat):decide ((Wg l)<=(k:Int))=decide (l.length<=k):=by
 simp[Wg,We,Wj]
theorem WiS{α:Type}(l:List α)(k:Nat):decide ((Wg l)>(k:Int))=decide (l.length>k):=by
 simp[Wg,We,Wj]
theorem WiV(l k:Nat):decide (l>k)= !decide (l<=k):=by
 grind
theorem Wm6{l:List Opn}(hl:l.length<=1048576)(hN:1048576<N):Zjl N l=ret (l.any λo=>o.1==11):=by
 unfold Zjl Zai Zu;have h1:=Wjz (l:=l) (p:=λo=>o.1==11) (N:=N) (lp:=λn j=>Zh N l (λaq=>(some ((),(aq,())))) (λax be=>(some ((),((-1:Int),())))) n j) (K0:=λj=>some ((),(j,()))) (K1:=some ((),((-1:Int),()))) (by omega) (by omega)
  (λn j hj=>by
   simp only[Zh,WK hj,Ww hj,Ws hj,Wm (show j<4611686018427387904 by omega),Wb,Zq3,Xd])
  (λn=>by simp[Zh,WS,Xm,Wa])
 rw[h1];have h2:=Wmi (p:=λo:Opn=>o.1==11) l 0;cases hf:fnd (λo:Opn=>o.1==11) l 0 with
 |some r=>
  simp_all
 |none=>
  grind
theorem WmM(h:PB p)(hN:1048576<N):Zk5 N p=ret (Wps p):=by
 have hc:=h.code;have hk:=h.kids;unfold Zk5 Wps;have h1:=Wx (l:=p.2) (V:=Unit) (R:=Unit×Ko) (lp:=λn j v=>Zem N p.2 p (some ((),(false,()))) (λaq ax=>
  ((Zdt N p.1).bind λcj=>
 (bif cj.2.1 then
 (bif decide ((Wg p.2)<=(3:Int))then
 ((Zjl N p.1).bind λeA=>
 (some ((),(beq eA.2.1 (decide ((Wg p.2)>(0:Int))),()))))
 else
 (some ((),(false,()))))
 else
 (some ((),(false,())))))) n j) (n:=N) (by omega)
  (body:=λj x v k=>(Zka N x).bind λo=>bif !o.2.1 then some ((),(false,()))else k v) (K:=λ_ v=>((Zdt N p.1).bind λcj=>
 (bif cj.2.1 then
 (bif decide ((Wg p.2)<=(3:Int))then
 ((Zjl N p.1).bind λeA=>
 (some ((),(beq eA.2.1 (decide ((Wg p.2)>(0:Int))),()))))
 else
 (some ((),(false,()))))
 else
 (some ((),(false,()))))))
  (λn i v hi=>by simp only[Zem,WK hi,Ww hi,Ws hi,Wm (show i<4611686018427387904 by omega),Wb])
  (λn v=>by simp[Zem,WS,Xm,Wa]) ()
 refine h1.trans ?_;rw[W9 (p:=λx=>!Whq x) (E:=λ_=>some ((),(false,()))) p.2 0 () (λj x v k hx=>by rw[Wox (by have:=h.each x hx;omega) hN];rfl),Wbo,Wh3 (by omega) hN,Wm6 (by omega) hN];simp only[ret,Xd];rw[show(3:Int)=((3:Nat):Int)from rfl,WpC,show(0:Int)=((0:Nat):Int)from rfl,WiS];cases p.2.all Whq<;>cases Wra p.1<;>cases decide (p.2.length<=3)<;>rfl
theorem Wm2(h:PB p)(hN:1048576<N):Zi4 N p=ret (Wps p):=by
 have hc:=h.code;have hk:=h.kids;unfold Zi4 Wps;have h1:=Wx (l:=p.2) (V:=Unit) (R:=Unit×Ko) (lp:=λn j v=>Zcm N p (some ((),(false,()))) (λaV aq=>(some ((),(true,())))) n j) (n:=N) (by omega)
  (body:=λj x v k=>(Zj8 N x).bind λo=>bif !o.2.1 then some ((),(false,()))else k v) (K:=λ_ v=>some ((),(true,())))
  (λn i v hi=>by simp only[Zcm,WK hi,Ww hi,Ws hi,Wm (show i<4611686018427387904 by omega),Wb])
  (λn v=>by simp[Zcm,WS,Xm,Wa]) ()
 have h2:Zcm N p (some ((),(false,()))) (λaV aq=>(some ((),(true,())))) N 0=ret (p.2.all Whq):=by
  refine h1.trans ?_;rw[W9 (p:=λx=>!Whq x) (E:=λ_=>some ((),(false,()))) p.2 0 () (λj x v k hx=>by rw[WoJ (by have:=h.each x hx;omega) hN];rfl),Wbo];cases p.2.all Whq<;>rfl
 rw[h2,WhO (by omega) hN,Why (by omega) hN];simp only[ret,Xd];rw[show(3:Int)=((3:Nat):Int)from rfl,WiS,WiV,show(0:Int)=((0:Nat):Int)from rfl,WiS];generalize beq (p.1.any λo=>o.1==11) (decide (p.2.length>0))=b;cases p.2.all Whq<;>cases Wra p.1<;>cases decide (p.2.length<=3)<;>cases b<;>rfl
theorem Wj1{t:List Int×List Int×Int}(h1:t.1.length<=1048576)(h2:t.2.1.length<=1048576)(hN:1048576<N):Zir N t=ret (WtR t):=by
 unfold Zir WtR WnL;have e:((Wg t.2.1) !=(8:Int))= !decide (t.2.1.length=8):=by
  grind [Wg]
 have h3:=Wx (l:=t.2.1) (V:=Unit) (R:=Unit×Ko) (lp:=λn j v=>Zbl N t (some ((),(false,()))) (λaV aq=>(some ((),(true,())))) n j) (n:=N) (by omega)
  (body:=λj x v k=>bif !(decide (0<=x)&&decide (x<=65536))then some ((),(false,()))else k v) (K:=λ_ v=>some ((),(true,())))
  (λn i v hi=>by simp only[Zbl,WK hi,Ww hi,Ws hi,Wm (show i<4611686018427387904 by omega),Wb,WcK,ret,Xd])
  (λn v=>by simp[Zbl,WS,Xm,Wa]) ()
 have h4:Zbl N t (some ((),(false,()))) (λaV aq=>(some ((),(true,())))) N 0=ret (t.2.1.all λx=>decide (0<=x)&&decide (x<=65536)):=by
  refine h3.trans ?_;rw[W9 (p:=λx=>!(decide (0<=x)&&decide (x<=65536))) (E:=λ_=>some ((),(false,()))) t.2.1 0 () (λj x v k _=>rfl),Wbo];cases t.2.1.all _<;>rfl
 rw[Wh2 h1 hN,e,Wal,h4];cases Wdm t.1<;>cases decide (t.2.1.length=8)<;>cases Wbg t.2.2<;>cases t.2.1.all _<;>rfl
theorem WjV(h:SB s)(hN:1048576<N):Zis N s=ret (Wom s):=by
 have h1:=h.cells;have h2:=h.map;have h3:=h.progs;unfold Zis Wom;have h4:=Wx (l:=s.2.1) (V:=Unit) (R:=Unit×Ko) (lp:=λn j v=>Zbm N s (some ((),(false,()))) (λi9 ar=>(some ((),(true,())))) n j) (n:=N) (by omega)
  (body:=λj x v k=>(Zi4 N x).bind λo=>bif !o.2.1 then some ((),(false,()))else k v) (K:=λ_ v=>some ((),(true,())))
  (λn i v hi=>by simp only[Zbm,WK hi,Ww hi,Ws hi,Wm (show i<4611686018427387904 by omega),Wb])
  (λn v=>by simp[Zbm,WS,Xm,Wa]) ()
 have h5:Zbm N s (some ((),(false,()))) (λi9 ar=>(some ((),(true,())))) N 0=ret (s.2.1.all Wps):=by
  refine h4.trans ?_;rw[W9 (p:=λx=>!Wps x) (E:=λ_=>some ((),(false,()))) s.2.1 0 () (λj x v k hx=>by rw[Wm2 (h.each x hx) hN];rfl),Wbo];cases s.2.1.all Wps<;>rfl
 rw[h5,Wj1 (by omega) (by omega) hN];simp only[ret,Xd];rw[show(4:Int)=((4:Nat):Int)from rfl,WiS,WiV,show(400:Int)=((400:Nat):Int)from rfl,WiS,WiV];cases WtR s.1<;>cases decide (s.2.1.length<=4)<;>cases decide (s.2.2.length<=400)<;>rfl
theorem WfQ(h:SB s)(hN:1048576<N):Zlf N s=ret (Wom s):=by
 have h1:=h.cells;have h2:=h.map;have h3:=h.progs;unfold Zlf Wom Zab Zq;have h4:=Wx (l:=s.2.1) (V:=Unit) (R:=Unit×Kh) (lp:=λn j v=>Zb N s.2.1 (λaq=>(some ((),(aq,())))) (λax be=>(some ((),((-1:Int),())))) n j) (n:=N) (by omega)
  (body:=λj x v k=>(Zma N x).bind λo=>bif o.2.1 then some ((),(j,()))else k v) (K:=λ_ v=>some ((),((-1:Int),())))
  (λn i v hi=>by simp only[Zb,WK hi,Ww hi,Ws hi,Wm (show i<4611686018427387904 by omega),Wb])
  (λn v=>by simp[Zb,WS,Xm,Wa]) ()
 have h5:((Zb N s.2.1 (λaq=>(some ((),(aq,())))) (λax be=>(some ((),((-1:Int),())))) N 0).bind λo2=>some ((),(decide (o2.2.1>=(0:Int)),())))=ret (!s.2.1.all Wps):=by
  have h6:=h4;rw[h6,WdU (p:=λx=>!Wps x) (E:=λj _=>some ((),(j,()))) s.2.1 0 () (λj x v k hx=>by unfold Zma;rw[WmM (h.each x hx) hN];rfl)];have h7:=Wmi (p:=λx=>!Wps x) s.2.1 0;rw[Wbo]at h7;rw[←h7];cases hf:fnd (λx=>!Wps x) s.2.1 0 with
  |some r=>simp_all
  |none=>rfl
 rw[Wkk (by omega) (by omega) hN];simp only[ret,Xd];rw[h5,show(4:Int)=((4:Nat):Int)from rfl,WpC,show(400:Int)=((400:Nat):Int)from rfl,WpC];cases WtR s.1<;>cases decide (s.2.1.length<=4)<;>cases decide (s.2.2.length<=400)<;>cases s.2.1.all Wps<;>rfl
end
end Go.Sx
