/- Plain laws of the Lean functions. -/
import Derived.Test.YtjcmdagkabkicaaGreatMW1
open Int renaming tdiv_eq_ediv_of_nonneg→Xcy,toNat→Xa,toNat_natCast→Xl
open Option renaming bind_some→Xd,getD_some→Xds,isSome_some→Xfd
open Bool renaming and_self→Xan,not_true→Xk,and_eq_true→Xi,and_eq_false_iff→Xcl,not_false→Xbq,false_eq_true→Xap,true_and→Xcb
open Nat renaming le_refl→Xm,zero_add→Xaw,sub_zero→Xde,lt_trichotomy→Xfg
open List renaming getD_eq_getElem?_getD→Xbl,getElem?_eq_getElem→Xq,getElem_mem→Xv,length_set→Xat,getElem_set→Xcm,length→Xb,set→Xe,set_set→Xct,all_eq_true→Xad,replicate→Xp,getElem_replicate→Xdk,mem_cons_self→Xj,length_cons→Xr,mem_cons_of_mem→Xf,drop_length→Xbz,drop_eq_getElem_cons→Xaz,pairwise_iff_getElem→Xao,filter_cons→Xbi,append→Xh,append_eq→Xbb,mem_append→Xo,mem_singleton→Xag,eq_nil_of_length_eq_zero→Xx,mem_map→Xw,mem_filter→Xay,getElem_of_mem→Xca,getD→Xc,length_append→Xaa,length_nil→Xby,take→Xal,filter_eq_self→Xet,length_map→Xu,set_getElem_self→Xbg,dropLast_eq_take→Xge,length_take→Xbj,pairwise_append→Xah,map_append→Xz,mem_of_mem_take→Xco
namespace Go.Sx
set_option linter.unusedVariables false
set_option linter.unusedSimpArgs false
section
def Wbe(s:Int):Int:=(s-1)/65536
def Wa6(k:Int):Int:=(7*k+3)%4
structure SlOk(l:List Int):Prop where
 len:l.length=16
 each:∀i (h:i<l.length),l[i]=0\/((1<=l[i]/\l[i]<=524288)/\Wa6 (Wbe l[i])=((i/4:Nat):Int))
 one:∀i j (hi:i<l.length) (hj:j<l.length),i<j->l[i]≠0->l[j]≠0->Wbe l[i]≠Wbe l[j]
def Wlm(k s:Int):Bool:=decide (s>0)&&decide (Wbe s=k)
def Wlr(l:List Int)(k:Int):Option (Nat×Int):=fnd (Wlm k) l 0
def WeP(l:List Int)(k:Int):Nat:=if WbO l (4*Wa6 k) 0=0 then(4*Wa6 k).toNat else(4*Wa6 k).toNat+1
def WlJ(l:List Int)(k v:Int):List Int:=match Wlr l k with
 |some r=>l.set r.1 (1+65536*k+v)
 |none=>l.set (WeP l k) (1+65536*k+v)
def WcA(l:List Int)(k:Int):Int:=match Wlr l k with
 |some r=>(r.2-1)%65536+1
 |none=>0
def Whu(l:List Int)(k:Int):List Int:=match Wlr l k with
 |some r=>l.set r.1 0
 |none=>l
variable{N:Nat}{l:List Int}{k v:Int}
theorem Wto{n:Int}(h:I64 n):IntKind.wrap .i64 n=n:=WgM h
theorem WmF{s:Int}(h:1<=s/\s<=524288):Zjr N s=ret (Wbe s):=by
 unfold Zjr;rw[WQ (by unfold I64;omega)];have:WpH .i64 (s-1) 65536=Wbe s:=by
  unfold WpH Wbe;rw[Xcy (by omega),Wto (by unfold I64;omega)]
 rw[this];rfl
theorem Wh8{s:Int}(h:1<=s/\s<=524288):0<=Wbe s/\Wbe s<=7:=by unfold Wbe;omega
theorem WeC:Zas N k=ret (decide (0<=k)&&decide (k<=7)):=by simp[Zas,W1]
theorem WkL(hk:0<=k/\k<=7)(hv:0<=v/\v<=65535):Zki N k v=ret (1+65536*k+v):=by
 unfold Zki;rw[Whl (by unfold I64;omega),WJ (a:=1) (by unfold I64;omega),WJ (by unfold I64;omega)]
theorem Wk1(hk:0<=k/\k<=7):Zkr N k=ret (Wa6 k):=by
 unfold Zkr;rw[WeC,Whl (by unfold I64;omega),WJ (by unfold I64;omega)];have:Wdj (7*k+3) 4=Wa6 k:=by grind [Wdj,Wa6,Int.tmod_eq_emod_of_nonneg]
 simp only[ret,Xd,We hk.1,We hk.2,Xan,Xk,Wa,this];rfl
theorem SlOk.val(h:SlOk l){i:Nat}(hi:i<l.length)(hn:l[i]≠0):1<=l[i]/\l[i]<=524288:=by
 rcases h.each i hi with h0|h0
 .omega
 omega
theorem WeS(h:SlOk l)(hN:1048576<N):Zhr N l k=ret (match Wlr l k with|some r=>(r.1:Int)|none=>-1):=by
 unfold Zhr Wlr;have hl:=h.len;have h1:=Win (l:=l) (p:=Wlm k) (N:=N) (lp:=λn j=>Zej N k l (λbc=>(some ((),(bc,())))) (λdw cl=>(some ((),((-1:Int),())))) n j) (K0:=λj=>some ((),(j,()))) (K1:=some ((),((-1:Int),()))) (by omega) (by omega)
  (λn j hj=>by
   simp only[Zej,WL hj,Ww hj,Wt hj,Wp (show j<4611686018427387904 by omega),Wb];unfold Wlm;by_cases h0:l[j]>0
   .rw[WmF (h.val hj (by omega))]
    grind
   grind)
  (λn=>by simp[Zej,WW,Xm,Wa])
 rw[h1];cases fnd (Wlm k) l 0<;>rfl
theorem WbY(h:SlOk l)(hN:1048576<N):Zdr N l=ret true:=by
 have hl:=h.len;have lp:∀(d j n:Nat) (s:List Bool),j+d=16->d<n->s.length=8->(∀c:Nat,s.getD c false=true->∃i,∃hi:i<l.length,i<j/\l[i]≠0/\Wbe l[i]=c)->
   Zby N l (some ((),(false,()))) (λse wZ pk=>(some ((),(true,())))) n (j:Int) s=ret true:=by
  intro d
  induction d with
  |zero=>
   intro j n s hj hn _ _;obtain⟨n,rfl⟩:∃n',n=n'+1:=⟨n-1,by omega⟩;have:j=l.length:=by omega
   subst this;simp[Zby,WW,Xm,Wa]
  |succ d ih=>
   intro j n s hj hn hs hb;obtain⟨n,rfl⟩:∃n',n=n'+1:=⟨n-1,by omega⟩;have ac:j<l.length:=by omega
   simp only[Zby,WL ac,Ww ac,Wt ac,Wp (show j<4611686018427387904 by omega),Wb,Wu];by_cases h0:l[j]=0
   .rw[Wf h0];exact ih (j+1) n s (by omega) (by omega) hs λc hc=>by
     grind
   .rw[Wc h0];have hv:=h.val ac h0;have hk:=Wh8 hv;have s9:Wa6 (Wbe l[j])=((j/4:Nat):Int):=by
     rcases h.each j ac with h1|h1
     .omega
     omega
    have hq:WpH .i64 (j:Int) 4=((j/4:Nat):Int):=by
     unfold WpH;rw[Xcy (by omega),Wto (by unfold I64;omega)];omega
    have cX:s.getD (Xa (Wbe l[j])) false=false:=by
     rw[Bool.eq_false_iff];intro hc;obtain⟨i,hi,h1,h2,h3⟩:=hb _ hc;exact h.one i j hi ac h1 h2 h0 (by omega)
    rw[WkL (k:=7) (v:=65535) (by omega) (by omega),WmF hv];simp only[ret,Xd,W1,show(1:Int)+65536*7+65535=524288 from rfl,We hv.1,We hv.2,Xan,Xk,Wa,Wk1 hk,s9,hq,bne_self_eq_false];rw[show inz (4:Int)=true from rfl];simp only[Wb];rw[show inb (Wbe l[j]) 8=true by grind [inb],hs,We rfl,cX];simp only[Xan,Wb,Wa];refine ih (j+1) n _ (by omega) (by omega) (by simp_all) λc hc=>?_;by_cases hcj:c=(Wbe l[j]).toNat
    .grind
    .have:s.getD c false=true:=by
      grind
     grind
 unfold Zdr;rw[show((Wg l) !=(16:Int))=false by grind [Wg]];simp only[Wa];refine lp 16 0 N _ (by omega) (by omega) (by simp) λc hc=>?_;rw[Xbl]at hc;by_cases h8:c<8
 .grind
 simp_all
theorem Wcx(h:SlOk l){r:Nat×Int}(hr:Wlr l k=some r):∃hi:r.1<l.length,l[r.1]=r.2/\1<=r.2/\r.2<=524288/\Wbe r.2=k/\Wa6 k=((r.1/4:Nat):Int):=by
 obtain⟨h1,h2,h3,h4⟩:=WcK hr;rw[Xaw]at h3;rw[Xde,Xq h3]at h4;injection h4 with h4;unfold Wlm at h1;simp only[Xi,Wi]at h1;have h5:=h.val h3 (by omega);rcases h.each r.1 h3 with h6|h6
 .omega
 simp_all
theorem WiG(h:SlOk l)(hr:Wlr l k=none)(i:Nat)(hi:i<l.length)(hn:l[i]≠0):Wbe l[i]≠k:=by
 have:=WgL hr l[i] (Xv hi);unfold Wlm at this;have h1:=h.val hi hn
 grind
theorem Wte(k:Int):0<=Wa6 k/\Wa6 k<=3:=by unfold Wa6;omega
theorem WiC(h:SlOk l)(hk:0<=k/\k<=7)(hr:Wlr l k=none):∃hi:WeP l k<l.length,l[WeP l k]=0/\Wa6 k=((WeP l k/4:Nat):Int)/\(WeP l k=(4*Wa6 k).toNat\/(WeP l k=(4*Wa6 k).toNat+1/\WbO l (4*Wa6 k) 0≠0)):=by
 have hl:=h.len;have hb:=Wte k;unfold WeP;have h1:(4*Wa6 k).toNat<l.length:=by omega
 have hg:WbO l (4*Wa6 k) 0=l[(4*Wa6 k).toNat]:=WF h1 _;by_cases h0:WbO l (4*Wa6 k) 0=0
 .grind
 .simp only[Wc h0];have h2:(4*Wa6 k).toNat+1<l.length:=by omega
  refine⟨h2,?_,by omega,.inr ⟨trivial,h0⟩⟩;refine Classical.byContradiction λhn=>?_;rw[hg]at h0;have a1:=WiG h hr _ h1 h0;have a2:=WiG h hr _ h2 hn;have a3:=h.one _ _ h1 h2 (by omega) h0 hn;have b1:=Wh8 (h.val h1 h0);have b2:=Wh8 (h.val h2 hn);rcases h.each _ h1 with c1|c1
  .exact h0 c1
  .rcases h.each _ h2 with c2|c2
   .exact hn c2
   grind [Wbe,Wa6]
theorem Wt2(hk:0<=k/\k<=7)(hv:0<=v/\v<=65535):(1<=1+65536*k+v/\1+65536*k+v<=524288)/\Wbe (1+65536*k+v)=k:=by unfold Wbe;omega
theorem Wle(h:SlOk l){i:Nat}(hi:i<l.length){s:Int}(hs:s=0\/((1<=s/\s<=524288)/\Wa6 (Wbe s)=((i/4:Nat):Int)))(ho:s≠0->∀j (hj:j<l.length),j≠i->l[j]≠0->Wbe l[j]≠Wbe s):SlOk (l.set i s) where
 len:=by rw[Xat];exact h.len
 each:=λj hj=>by
  rw[Xat]at hj;rw[Xcm];by_cases he:i=j
  .simp_all
  .rw[Wc he];exact h.each j hj
 one:=λa b ha hb gh=>by
  rw[Xat]at ha hb;rw[Xcm,Xcm];by_cases h1:i=a
  .grind
  .rw[Wc h1];by_cases h2:i=b
   .grind
   .rw[Wc h2];exact h.one a b ha hb gh
theorem Wgf(h:SlOk l)(hk:0<=k/\k<=7)(hv:0<=v/\v<=65535):SlOk (WlJ l k v):=by
 obtain⟨k1,k2⟩:=Wt2 hk hv;unfold WlJ;cases hr:Wlr l k with
 |some r=>
  obtain⟨hi,h1,h2,h3,h4,h5⟩:=Wcx h hr;refine Wle h hi (.inr ⟨k1,by simp_all⟩) λ_ j hj bI hn=>?_;rw[k2,←h4,←h1];rcases Nat.lt_or_gt_of_ne bI with ac|ac
  .exact h.one j r.1 hj hi ac hn (by omega)
  .exactλe=>h.one r.1 j hi hj ac (by omega) hn e.symm
 |none=>
  grind [WiC,Wle,WiG]
theorem Wn9(h:SlOk l):SlOk (Whu l k):=by
 unfold Whu;cases hr:Wlr l k with
 |some r=>
  obtain⟨hi,h1,_⟩:=Wcx h hr;exact Wle h hi (.inl rfl) λh=>WD rfl h
 |none=>exact h
theorem Wdz(l:List Int)(k:Int):0<=WcA l k/\WcA l k<=65536:=by
 unfold WcA;cases Wlr l k<;>simp only<;>omega
theorem Wc6(h:SlOk l)(hk:0<=k/\k<=7)(hN:1048576<N):Ziz N l k=some ((),((if WcA l k=0 then 0 else WcA l k-1),(decide (WcA l k≠0),()))):=by
 unfold Ziz WcA;rw[WbY h hN,WeC,WeS h hN];simp only[ret,Xd,Xk,Wa,We hk.1,We hk.2,Xan];cases hr:Wlr l k with
 |none=>rfl
 |some r=>
  obtain⟨hi,h1,h2,h3,h4,h5⟩:=Wcx h hr;simp only[Wk (show¬((r.1:Int)<0) by omega),Wa,WE,We hi,Wb,Wt hi,h1];rw[WQ (by unfold I64;omega),WaB (by omega),Wc (by omega),We (by omega)];simp only[Int.add_sub_cancel];rfl
theorem Wc8(h:SlOk l)(hk:0<=k/\k<=7)(hv:0<=v/\v<=65535)(hN:1048576<N):Zfv N l k v=some ((),(WlJ l k v,(WcA l k,(true,())))):=by
 have hl:=h.len;unfold Zfv;rw[Wcu (by omega),WbY h hN,WeC,Waz,WeS h hN,Wc6 h hk hN,WkL hk hv,Wk1 hk];simp only[ret,Xd,Xk,Wa,We hk.1,We hk.2,Xan,Wao.2 hv];unfold WlJ WcA;cases hr:Wlr l k with
 |some r=>
  obtain⟨hi,h1,h2,h3,h4,h5⟩:=Wcx h hr;simp only[We (show((r.1:Int)>=0) by omega),Wb,WE,We hi,Xl];rw[Wc (by omega),WJ (by unfold I64;omega)];simp_all
 |none=>
  simp only[show decide ((-1:Int)>=0)=false from rfl,Wa];have hb:=Wte k;obtain⟨hi,h1,h2,h3⟩:=WiC h hk hr;rw[Whl (by unfold I64;omega)];obtain⟨N',rfl⟩:∃N',N=N'+1+1:=⟨N-2,by omega⟩;have ik:4*Wa6 k=(((4*Wa6 k).toNat:Nat):Int):=by omega
  have eJ:∀n,Zc4 (N'+1+1) k v l (λkw hC=>(bif inb kw (Xb l)then(some ((),(Xe l (Xa kw) (1+65536*k+v),(0,(true,())))))else none)) (n+1) (WeP l k:Int)=some ((),(l.set (WeP l k) (1+65536*k+v),((0:Int),(true,())))):=λn=>by
   simp only[Zc4,Ww hi,Wt hi,h1,Wb,bne_self_eq_false,Wa];rw[Xl]
  rcases h3 with h3|⟨h3,h4⟩
  .grind
  .have ac:(4*Wa6 k).toNat<l.length:=by omega
   have hg:WbO l (4*Wa6 k) 0=l[(4*Wa6 k).toNat]:=WF ac _;rw[hg]at h4;have dJ:=eJ N';rw[ik];rw[Zc4];simp only[Ww ac,Wt ac,Wb];rw[show(l[(4*Wa6 k).toNat] !=0)=true by grind,Wp (by omega),←h3]
   grind
theorem Weq(h:SlOk l)(hk:0<=k/\k<=7)(hN:1048576<N):Zks N l k=some ((),(Whu l k,(WcA l k,(true,())))):=by
 have hl:=h.len;unfold Zks;rw[Wcu (by omega),WbY h hN,WeC,WeS h hN,Wc6 h hk hN];simp only[ret,Xd,Xk,Wa,We hk.1,We hk.2,Xan];unfold Whu WcA;cases hr:Wlr l k with
 |some r=>
  obtain⟨hi,h1,h2,h3,h4,h5⟩:=Wcx h hr;simp only[Wk (show¬((r.1:Int)<0) by omega),Wb,Wa,WE,We hi,Xl];rw[Wc (by omega),WJ (by unfold I64;omega)];simp_all
 |none=>rfl
end
section
abbrev Shf:=List Int×Int
abbrev Un:=Int×Int×Int
structure ShOk(s:Shf):Prop where
 slots:SlOk s.1
 cnt:0<=s.2/\s.2<=65535
def UnV(u:Un):Prop:=(u.1=1/\(0<=u.2.1/\u.2.1<=7)/\0<=u.2.2/\u.2.2<=65535)\/(u.1=2/\(0<=u.2.1/\u.2.1<=7)/\u.2.2=0)\/(u.1=3/\u.2.1=0/\0<=u.2.2/\u.2.2<=65535)
def WfU(s:Shf)(u:Un):Shf:=
 if u.1=1 then(WlJ s.1 u.2.1 u.2.2,s.2)else if u.1=2 then(Whu s.1 u.2.1,s.2)else if u.1=3 then(s.1,(s.2-u.2.2+65536)%65536)else s
def WfI(k e:Int):Un:=if e=0 then(2,k,0)else(1,k,e-1)
def Wa2(s:Shf)(o:Opn)(r:List Int):Shf×List Int×Un:=
 if o.1=12 then((WlJ s.1 o.2.1 (WbO r o.2.2.1 0),s.2),Wpd r o.2.2.2 (WcA s.1 o.2.1%65536),WfI o.2.1 (WcA s.1 o.2.1))else
 if o.1=13 then(s,Wpd r o.2.1 (WcA s.1 o.2.2.1%65536),(0,0,0))else
 if o.1=14 then((Whu s.1 o.2.1,s.2),Wpd r o.2.2.1 (WcA s.1 o.2.1%65536),WfI o.2.1 (WcA s.1 o.2.1))else
 if o.1=15 then((s.1,(s.2+WbO r o.2.1 0)%65536),r,(3,0,WbO r o.2.1 0))else
 (s,Wpd r o.2.1 s.2,(0,0,0))
def WbZ(o:Opn):Int×Int:=
 if o.1=12\/o.1=14 then(o.2.1,2)else if o.1=13 then(o.2.2.1,1)else if o.1=15 then(8,1)else(8,2)
section
variable{o:Opn}
theorem Wrk(h:WdV o=true)(h5:o.1=12):WeL o.2.1=true/\W6 o.2.2.1=true/\W6 o.2.2.2=true:=by
 obtain⟨k,a,b,c⟩:=o;simp only at h5;subst h5;have:(WeL a&&W6 b&&W6 c)=true:=h;simp_all
theorem Wsd(h:WdV o=true)(h5:o.1=13):W6 o.2.1=true/\WeL o.2.2.1=true:=by
 obtain⟨k,a,b,c⟩:=o;simp only at h5;subst h5;have:(W6 a&&WeL b&&(c==(0:Int)))=true:=h;simp_all
theorem WqJ(h:WdV o=true)(h5:o.1=14):WeL o.2.1=true/\W6 o.2.2.1=true:=by
 obtain⟨k,a,b,c⟩:=o;simp only at h5;subst h5;have:(WeL a&&W6 b&&(c==(0:Int)))=true:=h;simp_all
theorem Wwt(h:WdV o=true)(h5:o.1=15):W6 o.2.1=true:=by
 obtain⟨k,a,b,c⟩:=o;simp only at h5;subst h5;have:(W6 a&&(b==(0:Int))&&(c==(0:Int)))=true:=h;simp_all
theorem WuP(h:WdV o=true)(h5:o.1=16):W6 o.2.1=true:=by
 obtain⟨k,a,b,c⟩:=o;simp only at h5;subst h5;have:(W6 a&&(b==(0:Int))&&(c==(0:Int)))=true:=h;simp_all
end
theorem Wbb{x:Int}:WeL x=true↔0<=x/\x<=7:=by unfold WeL;simp
variable{N:Nat}{s:Shf}{u:Un}{o:Opn}{r:List Int}
theorem WmB{k e:Int}(hk:0<=k/\k<=7)(he:0<=e/\e<=65536):UnV (WfI k e):=by
 unfold WfI UnV
 grind
theorem WqL(h:ShOk s)(hu:UnV u):ShOk (WfU s u):=by
 unfold WfU;rcases hu with⟨h1,h2,h3⟩|⟨h1,h2,h3⟩|⟨h1,h2,h3⟩
 .rw[Wf h1];exact⟨Wgf h.slots h2 h3,h.cnt⟩
 .rw[Wc (by omega),Wf h1];exact⟨Wn9 h.slots,h.cnt⟩
 .rw[Wc (by omega),Wc (by omega),Wf h1];exact⟨h.slots,by omega⟩
theorem Wqr(h:ShOk s)(hr:Vals 4 r)(ho:WdV o=true)(ek:12<=o.1):ShOk (Wa2 s o r).1/\Vals 4 (Wa2 s o r).2.1/\((Wa2 s o r).2.2.1≠0->UnV (Wa2 s o r).2.2)/\((Wa2 s o r).2.2.1=0->(Wa2 s o r).1=s):=by
 have nS:=Wj8 ho;unfold Wa2;split
 .obtain⟨a,b,c⟩:=Wrk ho ‹_›;rw[Wbb]at a;have hg:=Wdz s.1 o.2.1;exact⟨⟨Wgf h.slots a (hr.get _),h.cnt⟩,hr.set _ (by omega),λ_=>WmB a hg,λh=>by unfold WfI at h;split at h<;>(simp_all)⟩
 .split
  .exact⟨h,hr.set _ (by omega),λh=>WD rfl h,λ_=>rfl⟩
  .split
   .obtain⟨a,b⟩:=WqJ ho ‹_›;rw[Wbb]at a;have hg:=Wdz s.1 o.2.1;exact⟨⟨Wn9 h.slots,h.cnt⟩,hr.set _ (by omega),λ_=>WmB a hg,λh=>by unfold WfI at h;split at h<;>(simp_all)⟩
   .split
    .have:=hr.get o.2.1.toNat;have:=h.cnt;refine⟨⟨h.slots,by grind⟩,hr,λ_=>.inr (.inr ⟨rfl,rfl,hr.get _⟩),λh=>by simp_all⟩
    .exact⟨h,hr.set _ h.cnt,λh=>WD rfl h,λ_=>rfl⟩
theorem We5(h:ShOk s)(hN:1048576<N):Zl7 N s=ret true:=by
 unfold Zl7;rw[WbY h.slots hN,Waz,Wao.2 h.cnt];rfl
theorem WgV(h:ShOk s):Zjs N s=ret s:=by
 unfold Zjs;rw[Wcu (by have:=h.slots.len;omega)];rfl
theorem WjM(hu:UnV u):Zpu N u=ret true:=by
 unfold Zpu;simp only[Wu,WeC,Waz,ret,Xd];rcases hu with⟨h1,h2,h3⟩|⟨h1,h2,h3⟩|⟨h1,h2,h3⟩
 .simp_all [Wc,Wf,Wao]
 .simp_all
 simp_all [Wc,Wf,Wao]
theorem Wjj(h:ShOk s)(hu:UnV u)(hN:1048576<N):Zox N s u=some ((),(WfU s u,(true,()))):=by
 unfold Zox WfU;rw[WgV h,WjM hu];simp only[ret,Xd];rw[We5 h hN];simp only[ret,Xd,Xk,Wa,Wu];have hc:=h.cnt;rcases hu with⟨h1,h2,h3⟩|⟨h1,h2,h3⟩|⟨h1,h2,h3⟩
 .rw[Wf h1,Wf h1,Wc8 h.slots h2 h3 hN];rfl
 .rw[Wc (by omega),Wf h1,Wc (by omega),Wf h1,Weq h.slots h2 hN];rfl
 .rw[Wc (by omega),Wc (by omega),Wf h1,Wc (by omega),Wc (by omega),Wf h1];rw[WQ (by unfold I64;omega),WJ (by unfold I64;omega),WaB (by omega)];rfl
theorem WfG{k e:Int}(he:0<=e/\e<=65536):Znm N k e=ret (WfI k e):=by
 unfold Znm WfI;rw[Wu,WQ (by unfold I64;omega)];split<;>rfl
theorem Wly(ho:WdV o=true)(ek:12<=o.1):Zmg N o=some ((),((WbZ o).1,((WbZ o).2,()))):=by
 have nS:=Wj8 ho;unfold Zmg WbZ;rw[Wfb,ho];simp only[ret,Xd,Xk,Wa,Wu];have:o.1=12\/o.1=13\/o.1=14\/o.1=15\/o.1=16:=by omega
 rcases this with h|h|h|h|h<;>simp[h]
theorem Wi1(h:ShOk s)(hr:Vals 4 r)(ho:WdV o=true)(ek:12<=o.1)(hN:1048576<N):
  Zoy N s o r=some ((),((Wa2 s o r).1,((Wa2 s o r).2.1,((Wa2 s o r).2.2,(true,()))))):=by
 have nS:=Wj8 ho;have ct:=hr.len;have hc:=h.cnt;unfold Zoy Wa2;rw[WgV h,Wcu (by omega)];simp only[ret,Xd];rw[We5 h hN,Wdk (by omega) hN,Wcn.2 hr,Wgk,Wlh ho ek];simp only[ret,Xd,Xk,Wa,bne_self_eq_false,Wu,show inz (65536:Int)=true from rfl,Wb,Wj,Xat];by_cases e1:o.1=12
 .obtain⟨a,b,c⟩:=Wrk ho e1;rw[Wbb]at a;rw[Wf e1,Wf e1,WS b ct,WS c ct];have hg:=Wdz s.1 o.2.1;rw[Wc8 h.slots a (hr.get _) hN];simp only[Wb,Xd,WfG hg,ret];rw[WaB (by omega)];rfl
 .rw[Wc e1,Wc e1];by_cases e2:o.1=13
  .obtain⟨a,b⟩:=Wsd ho e2;rw[Wbb]at b;have hg:=Wdz s.1 o.2.2.1;rw[Wf e2,Wf e2,WS a ct,Wc6 h.slots b hN];simp only[Wb,Xd];by_cases hz:WcA s.1 o.2.2.1=0
   .rw[hz];rfl
   .rw[Wc hz,We hz,WJ (by unfold I64;omega),WaB (by omega),Int.sub_add_cancel];simp only[Wb,Xct];rfl
  .rw[Wc e2,Wc e2];by_cases e3:o.1=14
   .obtain⟨a,b⟩:=WqJ ho e3;rw[Wbb]at a;have hg:=Wdz s.1 o.2.1;rw[Wf e3,Wf e3,WS b ct,Weq h.slots a hN];simp only[Wb,Xd,WfG hg,ret];rw[WaB (by omega)];rfl
   .rw[Wc e3,Wc e3];by_cases e4:o.1=15
    .have a:=Wwt ho e4;have hv:=hr.get o.2.1.toNat;rw[Wf e4,Wf e4,WS a ct];simp only[Wb];rw[WJ (by unfold I64;omega),WaB (by omega)];rfl
    .have a:=WuP ho (by omega);rw[Wc e4,Wc e4,WS a ct];rfl
def WnI(l:List Int):Bool:=decide (l.length=8)&&l.all λx=>decide (0<=x)&&decide (x<=65536)
structure ThOk(t:List Int×List Int×Int):Prop where
 cells:Vals 8 t.1
 map:t.2.1.length=8/\∀x∈t.2.1,0<=x/\x<=65536
 cnt:0<=t.2.2/\t.2.2<=65535
def WtT(t:List Int×List Int×Int):Bool:=Wdr t.1&&(WnI t.2.1&&Wbf t.2.2)
theorem Wtm{t:List Int×List Int×Int}:WtT t=true↔ThOk t:=by
 unfold WtT WnI;simp only[Xi,Wlc,Wao,Wi,Xad];exact⟨λh=>⟨h.1,h.2.1,h.2.2⟩,λh=>⟨h.cells,h.map,h.cnt⟩⟩
theorem WiT{l:List Int}(hl:l.length<=1048576)(hN:1048576<N):Zjq N l=ret (WnI l):=by
 unfold Zjq WnI;have h1:=Wx (l:=l) (V:=Unit) (R:=Unit×Ko) (lp:=λn j v=>Zfi N l (some ((),(false,()))) (λaq az=>(some ((),((Wg l)==(8:Int),())))) n j) (n:=N) (by omega)
  (body:=λj x v k=>bif !(decide (0<=x)&&decide (x<=65536))then some ((),(false,()))else k v) (K:=λ_ v=>some ((),((Wg l)==(8:Int),())))
  (λn i v hi=>by simp only[Zfi,WL hi,Ww hi,Wt hi,Wp (show i<4611686018427387904 by omega),Wb,W1,ret,Xd])
  (λn v=>by simp[Zfi,WW,Xm,Wa]) ()
 refine h1.trans ?_;rw[W7 (p:=λx=>!(decide (0<=x)&&decide (x<=65536))) (E:=λ_=>some ((),(false,()))) l 0 () (λj x v k _=>rfl),Wbm];have e:((Wg l)==(8:Int))=decide (l.length=8):=by
  grind [Wg]
 rw[e];cases l.all _<;>cases decide (l.length=8)<;>rfl
theorem Wj0{t:List Int×List Int×Int}(h1:t.1.length<=1048576)(h2:t.2.1.length<=1048576)(hN:1048576<N):Znt N t=ret (WtT t):=by
 unfold Znt WtT;rw[WhS h1 hN,WiT h2 hN,Waz];cases Wdr t.1<;>cases WnI t.2.1<;>rfl
def WcT:List Int->Nat->List Int->List Int
 | [],_,l=>l
 |x::m,k,l=>WcT m (k+1) (if x>0 then WlJ l k (x-1)else l)
def Wkk(m:List Int):List Int:=WcT m 0 (Xp 16 0)
theorem WjF:SlOk (Xp 16 0) where
 len:=by simp
 each:=λi h=>.inl (Xdk ..)
 one:=λi j hi hj _ h=>WD (Xdk ..) h
theorem Wiu:∀(m:List Int) (k:Nat) (l:List Int),k+m.length<=8->(∀x∈m,0<=x/\x<=65536)->SlOk l->SlOk (WcT m k l)
 | [],_,l,_,_,h=>h
 |x::m,k,l,hk,hx,h=>by
  have h0:=hx x (Xj ..);rw[Xr]at hk;refine Wiu m (k+1) _ (by omega) (λy hy=>hx y (Xf _ hy)) ?_
  grind [Wgf]
theorem Wss{m:List Int}(hl:m.length=8)(hx:∀x∈m,0<=x/\x<=65536):SlOk (Wkk m):=Wiu m 0 _ (by omega) hx WjF
theorem Whd{m:List Int}(hl:m.length=8)(hx:∀x∈m,0<=x/\x<=65536)(hN:1048576<N):Zfj N m=ret (Wkk m):=by
 have hm:WnI m=true:=by simp_all [WnI,Xi,Wi,Xad]
 unfold Zfj Wkk;rw[WiT (by omega) hN,hm];simp only[ret,Xd,Xk,Wa];rw[show Zrh N=ret (Xp 16 0)from rfl];simp only[ret,Xd];have lp:∀(d j n:Nat) (l:List Int),j+d=m.length->d<n->SlOk l->Za5 N m (λdw cl cQ=>(some ((),(cQ,())))) n (j:Int) l=ret (WcT (m.drop j) j l):=by
  intro d
  induction d with
  |zero=>
   intro j n l hj hn hs;obtain⟨n,rfl⟩:∃n',n=n'+1:=⟨n-1,by omega⟩;have:j=m.length:=by omega
   subst this;simp[Za5,WW,Xm,Wa,Xbz,WcT]
  |succ d ih=>
   intro j n l hj hn hs;obtain⟨n,rfl⟩:∃n',n=n'+1:=⟨n-1,by omega⟩;have ac:j<m.length:=by omega
   have hb:=hx m[j] (Xv ac);simp only[Za5,WL ac,Ww ac,Wt ac,Wp (show j<4611686018427387904 by omega),Wb,WU];rw[Xaz ac,WcT];by_cases h0:m[j]>0
   .rw[Wf h0,Wf h0,WQ (by unfold I64;omega),Wc8 hs (by omega) (by omega) hN]
    grind [Wgf]
   grind
 have:=lp m.length 0 N (Xp 16 0) (by omega) (by omega) WjF;simp_all
end
section
abbrev Hd:=Int×Int×Int
def HdV(h:Hd):Prop:=(1<=h.1/\h.1<=9)/\(0<=h.2.1/\h.2.1<=8)/\1<=h.2.2/\h.2.2<=2
def HdB(a b:Hd):Prop:=cfH a b<0/\(a.2.1=b.2.1->a.2.2≠2/\b.2.2≠2)
structure HOk(l:List Hd):Prop where
 val:∀h∈l,HdV h
 up:l.Pairwise HdB
theorem HOk.ris{l:List Hd}(h:HOk l):Ris cfH l:=h.up.imp λh=>h.1
def WdX(l:List Hd)(who:Int):List Int:=(l.filter λh=>decide (h.1=who)).map (·.2.1)
def blk(who what mode:Int)(h:Hd):Bool:=decide (h.2.1=what)&&(decide (h.1≠who)&&(decide (mode=2)||decide (h.2.2=2)))
def WfM(l:List Hd)(who what mode:Int):List Int:=(l.filter (blk who what mode)).map (·.1)
def WmA(who what:Int)(h:Hd):Bool:=decide (h.1=who)&&decide (h.2.1=what)
def Wjo(l:List Hd)(who what:Int):Int:=match fnd (WmA who what) l 0 with
 |some r=>r.2.2.2
 |none=>0
def Woc(a b:Int):Int:=if a<=b then b else a
def WlO(l:List Hd)(who what mode:Int):List Hd:=WbH cfH l (who,what,Woc (Wjo l who what) mode)
def Wc7(l:List Hd)(who what mode:Int):Option (List Hd):=if WfM l who what mode= []then some (WlO l who what mode)else none
def WV(l:List Hd)(who:Int):List Hd:=l.filter λh=>!(h.1==who)
theorem Was{α:Type}{a b:Int}{x y:α}:(bif a !=b then x else y)=if a=b then y else x:=by
 simp_all
theorem Wvz{α:Type}{cf:α->α->Int}(hc:Lin cf){L M:List α}(hL:Ris cf L)(hM:Ris cf M)(hm:∀x,x∈L↔x∈M):L=M:=by
 rw[←Wof hc hM (hL.imp λh=>.inl h) hm,Wof hc hL (hL.imp λh=>.inl h) λx=>Iff.rfl]
theorem apH{a b:Hd}:Ap cfH a b↔¬(a.1=b.1/\a.2.1=b.2.1):=by grind [Ap,Wbk]
theorem WiR{a b c d:Hd}(h1:a.1=c.1)(h2:a.2.1=c.2.1)(h3:b.1=d.1)(h4:b.2.1=d.2.1):cfH a b<0↔cfH c d<0:=by simp_all [Wbk]
variable{N:Nat}{l:List Hd}{who what mode:Int}
theorem WtI(h:Ris cfH l){i:Nat}(hi:i<l.length){e:Hd}(h1:e.1=l[i].1)(h2:e.2.1=l[i].2.1):Ris cfH (l.set i e):=by
 unfold Ris at*;rw[Xao]at*;intro a b ha hb gh;rw[Xat]at ha hb;rw[Xcm,Xcm];have:=h a b ha hb gh;by_cases c1:i=a
 .subst c1;rw[Wf rfl,Wc (by omega)];exact(WiR h1 h2 rfl rfl).2 this
 .rw[Wc c1];by_cases c2:i=b
  .subst c2;rw[Wf rfl];exact(WiR rfl rfl h1 h2).2 this
  simp_all
theorem Wu9(h:Ris cfH l){i:Nat}(hi:i<l.length){e:Hd}(h1:e.1=l[i].1)(h2:e.2.1=l[i].2.1):l.set i e=WbH cfH l e:=by
 refine Wvz WpW (WtI h hi h1 h2) (Wcy WpW h) λx=>?_;rw[(Wnb WpW (h.imp λh=>.inl h) hi (by grind [apH])).2 x,Wcv WpW h]
theorem Ws8{h:Hd}:(decide (1<=h.1)&&decide (h.1<=9))=true/\(decide (0<=h.2.1)&&decide (h.2.1<=8))=true/\(decide (1<=h.2.2)&&decide (h.2.2<=2))=true↔HdV h:=by
 simp[HdV,Xi,Wi]
theorem Wfy{h:Hd}(hv:HdV h):Zkj N h.1 h.2.1 h.2.2=ret true:=by
 obtain⟨a,b,c⟩:=Ws8.2 hv;simp_all [Zkj,W1,ret,Xd,Wb]
theorem Wm8{a b:Hd}(ha:HdV a)(hb:HdV b):Zj2 N a b=ret (cfH a b):=by
 obtain⟨a1,a2,a3⟩:=ha;obtain⟨b1,b2,b3⟩:=hb
 grind [Zj2,cfH,WQ,I64]
theorem WbR(h:HOk l)(hl:l.length<=1048576)(hN:1048576<N):Zfw N l=ret true:=by
 have lp:∀(d j n:Nat),j+d=l.length->d<n->Z9 N l (some ((),(false,()))) (λdw cl=>(some ((),(true,())))) n (j:Int)=ret true:=by
  intro d
  induction d with
  |zero=>
   intro j n hj hn;obtain⟨n,rfl⟩:∃n',n=n'+1:=⟨n-1,by omega⟩;simp_all [Z9,WW,Xm,Wa]
  |succ d ih=>
   intro j n hj hn;obtain⟨n,rfl⟩:∃n',n=n'+1:=⟨n-1,by omega⟩;have ac:j<l.length:=by omega
   have hv:=h.val l[j] (Xv ac);have dm:=ih (j+1) n (by omega) (by omega);simp only[Z9,WL ac,Ww ac,Wt ac,Wp (show j<4611686018427387904 by omega),Wb,Wfy hv,ret,Xd,Xk,Wa,dm];by_cases h0:j=0
   .grind
   .have e1:decide ((j:Int)>0)=true:=by simp;omega
    have e2:WT .i64 (j:Int) 1=((j-1:Nat):Int):=by grind [WQ,I64]
    have bK:j-1<l.length:=by omega
    have hw:=h.val l[j-1] (Xv bK);have hb:=Xao.1 h.up (j-1) j bK ac (by omega);simp only[e1,e2,Wb,Ww bK,Wt bK,Wm8 hw hv,ret,Xd];rw[Wk (show¬(cfH l[j-1] l[j]>=0) by have:=hb.1;omega)];simp only[Wa,Wu];by_cases hs:l[j-1].2.1=l[j].2.1
    .rw[Wf hs,Wc (hb.2 hs).2,Wc (hb.2 hs).1]
    simp_all
 exact lp l.length 0 N (by omega) (by omega)
theorem WdH{α β R:Type}{body:Int->α->List β->(List β->Option R)->Option R}{K:Int->List β->Option R}{p:α->Bool}{f:α->β}:∀(l:List α) (j:Nat) (o:List β),o.length+l.length<=2000000->
  (∀(j:Nat) x (v:List β) k,x∈l->v.length<=2000000->body j x v k=bif p x then k (v++ [f x])else k v)->WbT body K l j o=K ((j+l.length:Nat):Int) (o++(l.filter p).map f)
 | [],j,o,_,_=>by simp[WbT]
 |x::l,j,o,h,hb=>by
  rw[Xr]at h;rw[WbT,hb j x o _ (Xj ..) (by omega),Xbi];have ih:=λo' jb=>WdH (body:=body) (K:=K) (p:=p) (f:=f) l (j+1) o' jb λj y v k hy=>hb j y v k (Xf _ hy)
  grind
theorem Wir(h:HOk l)(hl:l.length<=1048576)(hN:1048576<N):Zhc N l who=ret (WdX l who):=by
 unfold Zhc WdX;rw[WbR h hl hN];simp only[ret,Xd,Xk,Wa];have h1:=Wx (l:=l) (V:=List Int) (R:=Unit×(List Int×Unit)) (lp:=λn j v=>Zbz N who l (λaz bc bD=>(some ((),(bD,())))) n j v) (n:=N) (by omega)
  (body:=λj x v k=>bif x.1==who then(bif Wz (v.length+ [x.2.1].length)then k (Xh v [x.2.1])else none)else k v) (K:=λ_ v=>ret v)
  (λn i v hi=>by simp only[Zbz,WL hi,Ww hi,Wt hi,Wp (show i<4611686018427387904 by omega),Wb])
  (λn v=>by simp[Zbz,WW,Xm,Wa]) []
 refine h1.trans ?_;rw[WdH (p:=λh=>decide (h.1=who)) (f:=(·.2.1)) l 0 [] (by simp;omega) (λj x v k _ hv=>by rw[Wq (by simp;omega)];simp only[Wu,WU,Wb,Xbb])];rfl
theorem Wj2(h:HOk l)(hm:1<=mode/\mode<=2)(hl:l.length<=1048576)(hN:1048576<N):Zkk N l who what mode=ret (WfM l who what mode):=by
 unfold Zkk WfM;rw[WbR h hl hN];simp only[ret,Xd,Xk,Wa,W1,We hm.1,We hm.2,Xan];have h1:=Wx (l:=l) (V:=List Int) (R:=Unit×(List Int×Unit)) (lp:=λn j v=>Zal N who what mode l (λfM fV aY=>(some ((),(aY,())))) n j v) (n:=N) (by omega)
  (body:=λj x v k=>bif x.2.1==what then(bif x.1 !=who then(bif mode==2 then(bif Wz (v.length+ [x.1].length)then k (Xh v [x.1])else none)else(bif x.2.2==2 then(bif Wz (v.length+ [x.1].length)then k (Xh v [x.1])else none)else k v))else k v)else k v) (K:=λ_ v=>ret v)
  (λn i v hi=>by simp only[Zal,WL hi,Ww hi,Wt hi,Wp (show i<4611686018427387904 by omega),Wb])
  (λn v=>by simp[Zal,WW,Xm,Wa]) []
 refine h1.trans ?_;rw[WdH (p:=blk who what mode) (f:=(·.1)) l 0 [] (by simp;omega) (λj x v k _ hv=>by
  rw[Wq (by simp;omega)];unfold blk;simp only[Wu,Was,Wb,Xbb];by_cases c1:x.2.1=what<;>by_cases c2:x.1=who<;>by_cases c3:mode=2<;>by_cases c4:x.2.2=2<;>simp[c1,c2,c3,c4])]
 rfl
theorem WvR(h:HOk l):0<=Wjo l who what/\Wjo l who what<=2:=by
 unfold Wjo;cases hf:fnd (WmA who what) l 0 with
 |none=>simp
 |some r=>
  have:=WcK hf;have:=h.val r.2 (List.mem_of_getElem? this.2.2.2)
  grind [HdV]
theorem WiE(h:HOk l)(hw:1<=who/\who<=9)(ht:0<=what/\what<=8)(hm:1<=mode/\mode<=2)(hl:l.length<=1048000)(hN:1048576<N):
  Zi1 N l who what mode=some ((),((Wc7 l who what mode).getD l,((Wc7 l who what mode).isSome,()))):=by
 unfold Zi1 Wc7;have pD:Zfl N l=ret l:=by grind [Zfl,Wq]
 have xL:Zkj N who what mode=ret true:=Wfy (h:=(who,what,mode)) ⟨hw,ht,hm⟩;rw[pD,WbR h (by omega) hN,xL,Wj2 h hm (by omega) hN];simp only[ret,Xd,Xk,Wa,WU];by_cases hb:WfM l who what mode= []
 .rw[Wc (by rw[hb];simp[Wg]),Wf hb];have h1:=Win (l:=l) (p:=WmA who what) (N:=N) (lp:=λn j=>Zb0 N who what mode (Wg l) l (λcy=>(some ((),(cy,(true,()))))) (λhC nL=>
  (bif Wz ((Xb l)+(Xb ([(who,(what,mode))])))then
 ((Zo N (Xh l ([(who,(what,mode))]))).bind λiQ=>
 (some ((),(iQ.1.1,(true,())))))else none)) n j)
   (K0:=λj=>some ((),(l.set j.toNat ((l.getD j.toNat (0,0,0)).1,(l.getD j.toNat (0,0,0)).2.1,Wsi (l.getD j.toNat (0,0,0)).2.2 mode),(true,())))) (K1:=(bif Wz ((Xb l)+(Xb ([(who,(what,mode))])))then
 ((Zo N (Xh l ([(who,(what,mode))]))).bind λiQ=>
 (some ((),(iQ.1.1,(true,())))))else none)) (by omega) (by omega)
   (λn j hj=>by
    simp only[Zb0,WL hj,Ww hj,Wt hj,Wp (show j<4611686018427387904 by omega),Wb];simp[WmA,Wu,WtA,WU])
   (λn=>by simp[Zb0,WW,Xm,Wa])
  rw[h1];unfold WlO Wjo;cases hf:fnd (WmA who what) l 0 with
  |some r=>
   obtain⟨g1,g2,g3,g4⟩:=WcK hf;rw[Xaw]at g3;rw[Xde,Xq g3]at g4;injection g4 with g4;unfold WmA at g1;simp only[Xi,Wi]at g1;simp only[Wt g3,g4,Xds,Xfd];rw[Xl];have:Wsi r.2.2.2 mode=Woc r.2.2.2 mode:=by grind [Wsi,Woc]
   rw[this,g1.1,g1.2,Wu9 h.ris g3 (e:=(who,what,Woc r.2.2.2 mode)) (by simp_all) (by simp_all)]
  |none=>
   have hn:=WgL hf;simp only;rw[Wq (by simp;omega)];have hmx:Woc 0 mode=mode:=by unfold Woc;rw[Wf (by omega)]
   have sZ:=Wk5 (cf:=cfH) (L:=l) (e:=(who,what,mode)) (h.ris.imp λh=>.inl h) (λx hx=>by
    grind [apH,WmA,Xcl,decide_eq_false_iff_not])
   unfold Zo;simp only[Wb,Xbb];rw[WpX (rng:=WvO) (N:=N) WpW (M:=WbH cfH l (who,what,mode)) (Wcy WpW h.ris) sZ.1 (λx=>by rw[sZ.2 x,Wcv WpW h.ris]) (λx hx=>by
    rcases Xo.1 hx with hx|hx
    .have:=h.val x hx
     grind [HdV,WvO,Wu2]
    grind [Xag,WvO,Wu2]) (by simp;omega)]
   simp_all
 .rw[Wf (by
   simp_all [WfM,Xx,Wg]),Wc hb]
  rfl
theorem Wqm(h:HOk l)(hw:1<=who/\who<=9)(ht:0<=what/\what<=8)(hm:1<=mode/\mode<=2)(hb:WfM l who what mode= []):HOk (WlO l who what mode):=by
 have lz:=WvR (who:=who) (what:=what) h;have gD:∀x∈l,x.2.1=what->x.1≠who->mode≠2/\x.2.2≠2:=λx hx h1 h2=>by
  refine Classical.byContradiction λhc=>?_;have:x.1∈WfM l who what mode:=Xw.2 ⟨x,Xay.2 ⟨hx,by grind [blk]⟩,rfl⟩;simp_all
 have mA:∀x∈l,x.2.1=what->x.1≠who->Wjo l who what≠2:=λx hx h1 h2=>by
  unfold Wjo;cases hf:fnd (WmA who what) l 0 with
  |none=>simp
  |some r=>
   obtain⟨g1,g2,g3,g4⟩:=WcK hf;rw[Xaw]at g3;rw[Xde,Xq g3]at g4;injection g4 with g4;unfold WmA at g1;simp only[Xi,Wi]at g1;obtain⟨j,hj,rfl⟩:=Xca hx;have hp:=Xao.1 h.up;simp only;rw[←g4]at g1⊢;rcases Xfg r.1 j with ac|heq|ac
   .exact((hp r.1 j g3 hj ac).2 (by rw[h1,g1.2])).1
   .simp_all
   .exact((hp j r.1 hj g3 ac).2 (by rw[h1,g1.2])).2
 unfold WlO;refine⟨λx hx=>?_,?_⟩
 .rcases(Wcv WpW h.ris).1 hx with rfl|hx
  .refine⟨hw,ht,?_⟩;simp only;unfold Woc;split<;>omega
  .exact h.val x hx.1
 .have hr:=Wcy (e:=(who,what,Woc (Wjo l who what) mode)) WpW h.ris;have aM:=λx=>Wcv (e:=(who,what,Woc (Wjo l who what) mode)) (x:=x) WpW h.ris;have hmj:∀x∈l,x.2.1=what->x.1≠who->Woc (Wjo l who what) mode≠2:=λx hx h1 h2=>by
   have:=mA x hx h1 h2;have:=(gD x hx h1 h2).1;unfold Woc;split<;>omega
  unfold Ris at hr;rw[Xao]at hr⊢;intro i j hi hj nJ;refine⟨hr i j hi hj nJ,λhs=>?_⟩;have ac:=hr i j hi hj nJ;have m1:=(aM _).1 (Xv hi);have m2:=(aM _).1 (Xv hj);generalize (WbH cfH l (who,what,Woc (Wjo l who what) mode))[i]=x at*;generalize (WbH cfH l (who,what,Woc (Wjo l who what) mode))[j]=y at*;rcases m1 with rfl|m1<;>rcases m2 with rfl|m2
  .exact WD ac (WpW.irr _)
  .grind [apH]
  .grind [apH]
  .obtain⟨a,ha,rfl⟩:=Xca m1.1;obtain⟨b,cA,rfl⟩:=Xca m2.1;have hp:=Xao.1 h.up;rcases Xfg a b with gh|gh|gh
   .exact(hp a b ha cA gh).2 hs
   .subst gh;exact WD ac (WpW.irr _)
   .exact WD (WpW.tr _ _ _ ac (hp b a cA ha gh).1) (WpW.irr _)
theorem WiP(h:HOk l):HOk (WV l who):=⟨λx hx=>h.val x (Xay.1 hx).1,h.up.filter _⟩
theorem Wd8(h:HOk l):l.length<=81:=by
 have key:∀(l:List Hd) (c:Int),Ris cfH l->(∀e∈l,HdV e/\c<=9*e.2.1+e.1)->1<=c->(l.length:Int)<=82-c\/l= []:=by
  intro l
  induction l with
  |nil=>simp_all
  |cons a l ih=>
   intro c hr hb hc;left;have h1:=List.pairwise_cons.1 hr;have ha:=hb a (Xj ..);unfold HdV at ha;rcases ih (9*a.2.1+a.1+1) h1.2 (λe he=>⟨(hb e (Xf _ he)).1,by
    grind [Wbk,Xf,HdV]⟩) (by omega)with h|h
   .grind
   grind
 rcases key l 1 h.ris (λe he=>⟨h.val e he,by have:=h.val e he;grind [HdV]⟩) (by omega)with h|h
 .omega
 simp_all
theorem Wjx{α V R:Type}{body:Int->α->V->(V->Option R)->Option R}{K:Int->V->Option R}{p:α->Bool}{E:Int->V->Option R}:∀(l:List α) (j:Nat) (v:V),(∀(j:Nat) x v k,x∈l->body j x v k=bif p x then E j v else k v)->
  (∃a x r,l=a++x::r/\(∀y∈a,p y=false)/\p x=true/\WbT body K l j v=E ((j+a.length:Nat):Int) v)\/((∀y∈l,p y=false)/\WbT body K l j v=K ((j+l.length:Nat):Int) v)
 | [],j,v,_=>.inr ⟨by simp,rfl⟩
 |x::l,j,v,h=>by
  rw[WbT,h j x v _ (Xj ..)];cases hp:p x
  .simp only[Wa];rcases Wjx (E:=E) l (j+1) v λj y v k hy=>h j y v k (Xf _ hy)with⟨a,y,r,h1,h2,h3,h4⟩|⟨h1,h2⟩
   .refine .inl ⟨x::a,y,r,by rw[h1];rfl,λz hz=>?_,h3,?_⟩
    .rcases List.mem_cons.1 hz with rfl|hz
     .exact hp
     .exact h2 z hz
    .rw[h4,Xr,show j+1+a.length=j+(a.length+1) by omega]
   grind
  .exact .inl ⟨[],x,l,rfl,by simp,hp,rfl⟩
theorem WrR{N:Nat}(a0:Int){R:Type}(K:Int->Int->Bool->List Hd->Int->Option R):
  ∀(r a m:List Hd) (n:Nat),r.length<n->a.length+m.length+r.length<=1048576->∃m',
   Za N K n (a.length:Int) ((a.length+m.length:Nat):Int) (a++m++r) a0=
    K ((a++r.filter λx=>!(x.1==a0)).length:Int) ((a.length+m.length+r.length:Nat):Int) false ((a++r.filter λx=>!(x.1==a0))++m') a0
 | [],a,m,0,h,_=>by simp at h
 | [],a,m,n+1,h,_=>by
  refine⟨m,?_⟩;have e1:decide (((a.length+m.length:Nat):Int)<Wg (a++m++ []))=false:=by simp[Wg]
  simp only[Za,e1,Wa];simp
 |x::r,a,m,0,h,_=>by simp at h
 |x::r,a,m,n+1,h,hb=>by
  simp only[Xr]at h hb;have hj:a.length+m.length<(a++m++x::r).length:=by simp
  have hi:a.length<(a++m++x::r).length:=by simp;omega
  have hx:Xc (a++m++x::r) (a.length+m.length) ((0:Int),((0:Int),(0:Int)))=x:=by
   simp_all
  cases hp:x.1==a0
  .obtain⟨m2,qi,ua⟩:∃m2:List Hd,m2.length=m.length/\(a++m++x::r).set a.length x=(a++ [x])++m2++r:=by
    cases m with
    |nil=>simp_all
    |cons y m=>grind
   obtain⟨m',ih⟩:=WrR (N:=N) a0 K r (a++ [x]) m2 n (by omega) (by simp;omega);refine⟨m',?_⟩;simp only[Za,Zgs,WL hj,Ww hj,Ww hi,Xl,hx,hp,Xd,Wb,Xbq,Xl,ua,
    Wp (show a.length<4611686018427387904 by omega),Wp (show a.length+m.length<4611686018427387904 by omega)]
   have l1:(a++ [x]).length=a.length+1:=by simp
   rw[l1,qi,show a.length+1+m.length=a.length+m.length+1 by omega]at ih;rw[ih];simp only[Xbi,hp,Xbq,W8,List.append_assoc,List.singleton_append,Xr];rw[show a.length+m.length+1+r.length=a.length+m.length+(r.length+1) by omega]
  .obtain⟨m',ih⟩:=WrR (N:=N) a0 K r a (m++ [x]) n (by omega) (by simp;omega);refine⟨m',?_⟩;simp only[Za,Zgs,WL hj,Ww hj,Ww hi,Xl,hx,hp,Xd,Wb,Wa,Xk,
    Wp (show a.length+m.length<4611686018427387904 by omega)]
   simp only[Xaa,Xr,Xby,Xaw]at ih;rw[show a.length+(m.length+1)=a.length+m.length+1 by omega,show a++(m++ [x])++r=a++m++x::r by simp]at ih;rw[ih];simp only[Xbi,hp,Xk,Wat,Xap,Xr];simp only[Xaa];rw[show a.length+m.length+1+r.length=a.length+m.length+(r.length+1) by omega]
theorem Wqt{N:Nat}{s:List Hd}{a0:Int}(hN:1048576<N)(hs:s.length<=100000):
  Zl N s a0=some ((a0,()),(s.filter λx=>!(x.1==a0),())):=by
 unfold Zl;have h1:=Wx (l:=s) (V:={v:Int//v=a0}) (R:=Kh×Kh) (lp:=λn j v=>Ze N s (λcl bA=>some ((bA,()),(cl,()))) (λfM fV d6=>some ((d6,()),((-1:Int),()))) n j v.1) (n:=N) (by omega)
  (body:=λj x v k=>bif x.1==a0 then some ((v.1,()),(j,()))else k v) (K:=λ_ v=>some ((v.1,()),((-1:Int),())))
  (λn i v hi=>by
   obtain⟨v,rfl⟩:=v;simp only[Ze,WL hi,Ww hi,Wt hi,Wp (show i<4611686018427387904 by omega),Wb,Zgs,Xd])
  (λn v=>by simp[Ze,WW,Xm,Wa]) ⟨a0,rfl⟩
 simp only[]at h1;unfold Zq;rw[h1];rcases Wjx (body:=λj x (v:{v:Int//v=a0}) k=>bif x.1==a0 then some ((v.1,()),(j,()))else k v) (K:=λ_ v=>(some ((v.1,()),((-1:Int),())):Option (Kh×Kh))) (p:=λx=>x.1==a0)
  (E:=λj v=>some ((v.1,()),(j,()))) s 0 ⟨a0,rfl⟩ (λj x v k _=>rfl)with⟨a,x,r,c9,ha,hx,hr⟩|⟨ha,hr⟩
 .rw[hr];simp only[Xd,Xaw];have e0:((a.length:Int)== -1)=false:=by simp
  rw[e0,Wp (show a.length<4611686018427387904 by grind)];simp only[Wa];obtain⟨m',hd⟩:=WrR (N:=N) a0 (λba w6 fM cy d6=>
     (bif (decide ((0:Int)<=ba))&&(decide (ba<=((Xb cy):Int)))then
      (bif (decide ((0:Int)<=ba))&&(decide (ba<=((Xb ((Xal (Xa ba) cy)++Xp ((Xb cy) -(Xa ba)) ((0:Int),((0:Int),(0:Int)))++(List.drop (Xb cy) cy))):Int)))then
       (some ((d6,()),(Xal (Xa ba) ((Xal (Xa ba) cy)++Xp ((Xb cy) -(Xa ba)) ((0:Int),((0:Int),(0:Int)))++(List.drop (Xb cy) cy)),())))else none)else none)) r a [x] N (by grind) (by grind)
  rw[show a++ [x]++r=s by simp_all]at hd;simp only[Xr,Xby,Xaw]at hd;rw[hd];have hf:(s.filter λx=>!(x.1==a0))=a++r.filter λx=>!(x.1==a0):=by
   rw[c9,List.filter_append,Xbi];have:(a.filter λx=>!(x.1==a0))=a:=Xet.2 λy hy=>by grind
   grind
  grind
 grind [Xet]
theorem Wh2(h:HOk l)(hl:l.length<=100000)(hN:1048576<N):Znv N l who=ret (WV l who):=by
 have pD:Zfl N l=ret l:=by grind [Zfl,Wq]
 unfold Znv;rw[pD,WbR h (by omega) hN];simp only[ret,Xd,Xk,Wa];rw[Wqt hN hl];rfl
end
section
def zWd:Wd:=(0,0,0)
def WaA(m:Mm)(i:Int):Wd:=WbO m.2 i zWd
def Wwl(m:Mm)(i:Int)(w:Wd):Mm:=(m.1,Wpd m.2 i w)
variable{m:Mm}
theorem WoF(hm:W0 m=true){i:Int}{w:Wd}(hw:WnV m.1 w=true):W0 (Wwl m i w)=true:=by
 obtain⟨h8,h0,h1,ta⟩:=WC hm;unfold W0 Wwl Wpd
 grind
theorem WlS(hm:W0 m=true){i:Int}(hi:0<=i/\i<=7):WnV m.1 (WaA m i)=true:=WrL hm hi
theorem WvC(hm:W0 m=true):W0 (tick m).1=true/\0<=(tick m).2/\(tick m).2<=1000000/\((tick m).2≠0->(tick m).2=m.1+1/\(tick m).1=(m.1+1,m.2))/\((tick m).2=0->(tick m).1=m):=by
 obtain⟨h8,h0,h1,ta⟩:=WC hm;unfold tick;split
 .refine⟨?_,by omega,by omega,λ_=>⟨rfl,rfl⟩,λh=>by omega⟩;unfold W0;simp only[Xi,Wi,Xad]
  grind [WhR]
 simp_all
end
section
structure Cm where
 who:Int:=0
 rv:Int:=0
 phase:Int:=0
 pos:Int:=0
 wv:Int:=0
 puts:List Rw:=[]
 reads:List Int:=[]
def Cm.e(c:Cm):Int×Int×Int×Int×Int×List Kc×List Int:=(c.who,c.rv,c.phase,c.pos,c.wv,c.puts,c.reads)
def Cm.steps(c:Cm):Int:=
 if c.phase=1\/c.phase=4\/c.phase=5\/c.phase=7 then c.puts.length else if c.phase=3 then c.reads.length else 1
def Wep(c:Cm)(n:Int):Cm:=if n=0 then{c with phase:=8,pos:=0}else{c with phase:=7,pos:=n-1}
def Wmi(c:Cm)(ph:Int):Int:=
 if(ph=3/\c.reads.length=0\/ph=4)/\c.puts.length=0 then 6 else if ph=3/\c.reads.length=0 then 4 else ph
def Wmt(c:Cm)(ph:Int):Cm:={c with phase:=Wmi c ph,pos:=0}
def We2(c:Cm)(ph:Int):Cm:=if c.pos+1=c.steps then Wmt c ph else{c with pos:=c.pos+1}
def Wuo(m:Mm)(i who:Int):Mm:=Wwl m i ((WaA m i).1,(WaA m i).2.1,who)
def Wjy(m:Mm)(i who v:Int):Mm:=if(WaA m i).2.2=who then Wwl m i (v,(WaA m i).2)else m
def WeT(m:Mm)(i who ver:Int):Mm:=if(WaA m i).2.2=who/\(WaA m i).2.1<=ver/\ver<=m.1 then Wwl m i ((WaA m i).1,ver,0)else m
def Wdm(m:Mm)(c:Cm):Mm×Cm:=
 let p:=WbO c.puts c.pos (0,0)
 if c.phase=1 then(if(WaA m p.1).2.2=0 then(Wuo m p.1 c.who,We2 c 2)else(m,Wep c c.pos))else
 if c.phase=2 then(if(tick m).2=0 then((tick m).1,Wep c c.puts.length)else((tick m).1,Wmt {c with wv:=(tick m).2} 3))else
 if c.phase=3 then
  let w:=WaA m (WbO c.reads c.pos 0)
  if(w.2.2≠0/\w.2.2≠c.who)\/w.2.1>c.rv then(m,Wep c c.puts.length)else(m,We2 c 4)
 else
 if c.phase=4 then(Wjy m p.1 c.who p.2,We2 c 5)else
 if c.phase=5 then(WeT m p.1 c.who c.wv,We2 c 6)else
 if c.phase=7 then(WeT m p.1 c.who (WaA m p.1).2.1,Wep c c.pos)else
 (m,c)
def Wbj(c:Cm):Cm:=
 if c.phase=1 then Wep c c.pos else if c.phase=2\/c.phase=3 then Wep c c.puts.length else c
def WfW(who rv:Int)(puts reads:List Rw):Cm:=
 {who:=who,rv:=rv,phase:=if(WcO puts).length=0 then 2 else 1,puts:=WcO puts,reads:=(WcO reads).map (·.1)}
structure CmOk(c:Cm):Prop where
 who:1<=c.who/\c.who<=99
 rv:0<=c.rv/\c.rv<=1000000
 wv:0<=c.wv/\c.wv<=1000000
 phase:1<=c.phase/\c.phase<=8
 rows:WjA c.puts
 pup:c.puts.Pairwise λa b=>a.1<b.1
 plen:c.puts.length<=8
 rd:∀x∈c.reads,0<=x/\x<=7
 rup:c.reads.Pairwise (· < ·)
 rlen:c.reads.length<=8
 pos:0<=c.pos/\c.pos<c.steps
section
variable{N:Nat}{c:Cm}{m:Mm}
theorem CmOk.back(h:CmOk c){n:Int}(hn:0<=n/\n<=c.puts.length):CmOk (Wep c n):=by
 unfold Wep;split
 .exact{h with phase:=by simp_all,pos:=by simp[Cm.steps]}
 .exact{h with phase:=by simp_all,pos:=by grind [Cm.steps]}
theorem Wum(c:Cm){ph:Int}(h:2<=ph/\ph<=6):2<=Wmi c ph/\Wmi c ph<=6:=by unfold Wmi;split<;>(try split)<;>omega
theorem CmOk.adv(h:CmOk c){ph:Int}(hp:2<=ph/\ph<=6)(h5:ph=5->c.puts.length≠0):CmOk (Wmt c ph):=by
 unfold Wmt;have:=Wum c hp;refine{h with phase:=by grind,pos:=⟨Int.le_refl _,?_⟩}
 grind [Cm.steps,Wmi]
theorem CmOk.next(h:CmOk c){ph:Int}(hp:2<=ph/\ph<=6)(h5:ph=5->c.puts.length≠0):CmOk (We2 c ph):=by
 unfold We2;split
 .exact h.adv hp h5
 .have:=h.pos;exact{h with pos:=⟨by grind,by show c.pos+1<c.steps;omega⟩}
theorem Wud(hm:W0 m=true){i who:Int}(hi:0<=i/\i<=7)(hw:0<=who/\who<=99):W0 (Wuo m i who)=true:=by
 have:=WhR.1 (WlS hm hi);exact WoF hm (by grind [WhR])
theorem WsG(hm:W0 m=true){i who v:Int}(hi:0<=i/\i<=7)(hv:0<=v/\v<=65535):W0 (Wjy m i who v)=true:=by
 grind [WhR,WlS,Wjy,WoF]
theorem Wk2(hm:W0 m=true){i who ver:Int}(hi:0<=i/\i<=7):W0 (WeT m i who ver)=true:=by
 grind [WhR,WlS,WeT,WoF]
theorem CmOk.put(h:CmOk c)(hp:c.phase=1\/c.phase=4\/c.phase=5\/c.phase=7):∃(j:Nat) (hj:j<c.puts.length),c.pos=j/\WbO c.puts c.pos (0,0)=c.puts[j]/\(0<=c.puts[j].1/\c.puts[j].1<=7)/\0<=c.puts[j].2/\c.puts[j].2<=65535:=by
 have:=h.pos;unfold Cm.steps at this;rw[Wf hp]at this;have hj:c.pos.toNat<c.puts.length:=by omega
 have hr:=h.rows _ (Xv hj);exact⟨c.pos.toNat,hj,by omega,WF hj _,hr.1,hr.2⟩
theorem CmOk.read(h:CmOk c)(hp:c.phase=3):∃(j:Nat) (hj:j<c.reads.length),c.pos=j/\WbO c.reads c.pos 0=c.reads[j]/\0<=c.reads[j]/\c.reads[j]<=7:=by
 have:=h.pos;unfold Cm.steps at this;rw[Wc (by omega),Wf hp]at this;have hj:c.pos.toNat<c.reads.length:=by omega
 have hr:=h.rd _ (Xv hj);exact⟨c.pos.toNat,hj,by omega,WF hj _,hr⟩
theorem Wjz(h:CmOk c)(hm:W0 m=true):CmOk (Wdm m c).2/\W0 (Wdm m c).1=true:=by
 have co:=h.pos;have hl:c.phase=1\/c.phase=4\/c.phase=5\/c.phase=7->c.puts.length≠0:=λhp=>by obtain⟨j,hj,_⟩:=h.put hp;omega
 have bt:c.phase=1\/c.phase=4\/c.phase=5\/c.phase=7->c.pos<c.puts.length:=λhp=>by simp_all [Cm.steps,Wf]
 have hw:=h.who;unfold Wdm;simp only;split
 .obtain⟨j,hj,e1,e2,e3,e4⟩:=h.put (by omega);rw[e2];split
  .exact⟨h.next (by omega) (by omega),Wud hm e3 (by omega)⟩
  .exact⟨h.back (by omega),hm⟩
 .split
  .have ht:=WvC hm;split
   .exact⟨h.back (by omega),ht.1⟩
   .refine⟨?_,ht.1⟩;have h':CmOk {c with wv:=(tick m).2}:={h with wv:=⟨ht.2.1,ht.2.2.1⟩};exact h'.adv (by omega) (by omega)
  .split
   .split
    .exact⟨h.back (by omega),hm⟩
    .exact⟨h.next (by omega) (by omega),hm⟩
   .split
    .obtain⟨j,hj,e1,e2,e3,e4⟩:=h.put (by omega);rw[e2];exact⟨h.next (by omega) (λ_=>hl (by omega)),WsG hm e3 e4⟩
    .split
     .obtain⟨j,hj,e1,e2,e3,e4⟩:=h.put (by omega);rw[e2];exact⟨h.next (by omega) (by omega),Wk2 hm e3⟩
     .split
      .obtain⟨j,hj,e1,e2,e3,e4⟩:=h.put (by omega);have:=bt (by omega);rw[e2];exact⟨h.back (by omega),Wk2 hm e3⟩
      simp_all
theorem WqH(h:CmOk c):CmOk (Wbj c):=by
 have co:=h.pos;unfold Wbj;split
 .have:c.pos<c.puts.length:=by simp_all [Cm.steps,Wf]
  exact h.back (by omega)
 .split
  .exact h.back (by omega)
  .exact h
theorem Wub{who rv:Int}{puts reads:List Rw}(hw:1<=who/\who<=99)(hr:0<=rv/\rv<=1000000):CmOk (WfW who rv puts reads) where
 who:=hw
 rv:=hr
 wv:=by simp[WfW]
 phase:=by unfold WfW;simp only;split<;>omega
 rows:=Wgs
 pup:=WoT puts
 plen:=WcS puts
 rd:=λx hx=>by
  obtain⟨r,hr,rfl⟩:=Xw.1 hx;exact(Wgs r hr).1
 rup:=by
  simp[WfW,List.pairwise_map,WoT]
 rlen:=by simp[WfW,Xu,WcS]
 pos:=by
  unfold WfW Cm.steps
  grind
theorem cmP(c:Cm):c.e.1=c.who/\c.e.2.1=c.rv/\c.e.2.2.1=c.phase/\c.e.2.2.2.1=c.pos/\c.e.2.2.2.2.1=c.wv/\c.e.2.2.2.2.2.1=c.puts/\c.e.2.2.2.2.2.2=c.reads:=⟨rfl,rfl,rfl,rfl,rfl,rfl,rfl⟩
theorem WbU{who:Int}:Zfx N who=ret (decide (1<=who)&&decide (who<=99)):=by simp[Zfx,W1]
theorem Wd9(hm:W0 m=true):Zch N m=ret m:=by
 grind [WC,Zch,Wq]
theorem Wkf(h:CmOk c):Zil N c.e=ret c.e:=by
 unfold Zil;have:=h.plen;have:=h.rlen;rw[show Za4 N c.e.2.2.2.2.2.1=ret c.puts from WdF (show c.puts.length<=1048576 by omega),show Zm N c.e.2.2.2.2.2.2=ret c.reads from Wcu (show c.reads.length<=1048576 by omega)];rfl
theorem Wnj:Zdt N c.e=ret c.steps:=by
 unfold Zdt Cm.steps;obtain⟨c0,c1,c2,c3,c4,c5,c6⟩:=cmP c;simp only[Wu,c2,c5,c6,Wg]
 grind
theorem WhL(h:CmOk c)(hN:1048576<N):Zgf N c.e=ret true:=by
 obtain⟨c0,c1,c2,c3,c4,c5,c6⟩:=cmP c;have eU:=h.plen;have ct:=h.rlen;have hw:=h.who;have kY:=h.rv;have uM:=h.wv;have fW:=h.phase;have co:=h.pos;have jm:Waj c.puts=true:=by unfold Waj;rw[Wig.2 h.rows,We (by omega)];rfl
 unfold Zgf;simp only[c0,c1,c2,c3,c4,c5,c6,WbU,W1,Wcs (show c.puts.length<=1048576 by omega) hN,Wnj,ret,Xd,We hw.1,We hw.2,We kY.1,We kY.2,We uM.1,We uM.2,We fW.1,We fW.2,jm,Xan,Xk,Wa];have pE:c.steps<=8:=by unfold Cm.steps;split<;>(try split)<;>omega
 have xM:WT .i64 c.steps 1=c.steps-1:=WQ (by unfold I64;omega);rw[xM,We co.1,We (show c.pos<=c.steps-1 by omega)];have qz:∀(d j n:Nat),j+d=c.reads.length->d<n->Zav N c.reads c.e (some ((),(false,()))) (λt22 nN=>(some ((),(true&&true,())))) n (j:Int)=ret true:=by
  intro d
  induction d with
  |zero=>
   intro j n hj hn;obtain⟨n,rfl⟩:∃n',n=n'+1:=⟨n-1,by omega⟩;simp_all [Zav,WW,Xm,Wa]
  |succ d ih=>
   intro j n hj hn;obtain⟨n,rfl⟩:∃n',n=n'+1:=⟨n-1,by omega⟩;have ac:j<c.reads.length:=by omega
   have dm:=ih (j+1) n (by omega) (by omega);have hv:=h.rd _ (Xv ac);have bz:Wau c.reads[j]=true:=by grind [Wau]
   simp only[Zav,c6,WL ac,Ww ac,Wt ac,Wp (show j<4611686018427387904 by omega),Wb,WaH,ret,Xd,bz,Xk,Wa,dm];by_cases h0:j=0
   .grind
   .have e1:decide ((j:Int)>0)=true:=by simp;omega
    have e2:WT .i64 (j:Int) 1=((j-1:Nat):Int):=by grind [WQ,I64]
    have bK:j-1<c.reads.length:=by omega
    have hb:=Xao.1 h.rup (j-1) j bK ac (by omega);simp_all [Wb,Ww,Wt,Wk]
 have tc:∀(d j n:Nat),j+d=c.puts.length->d<n->1<=j->Zbj N c.e (some ((),(false,()))) (λbm az=>(Zav N c.reads c.e (some ((),(false,()))) (λt22 nN=>(some ((),(true&&true,())))) N (0:Int))) n (j:Int)=ret true:=by
  intro d
  induction d with
  |zero=>
   intro j n hj hn _;obtain⟨n,rfl⟩:∃n',n=n'+1:=⟨n-1,by omega⟩;have:j=c.puts.length:=by omega
   subst this;simp only[Zbj,c5,WW (Xm _),Wa];exact qz c.reads.length 0 N (by omega) (by omega)
  |succ d ih=>
   intro j n hj hn h1j;obtain⟨n,rfl⟩:∃n',n=n'+1:=⟨n-1,by omega⟩;have ac:j<c.puts.length:=by omega
   have dm:=ih (j+1) n (by omega) (by omega) (by omega);have e2:WT .i64 (j:Int) 1=((j-1:Nat):Int):=by grind [WQ,I64]
   have bK:j-1<c.puts.length:=by omega
   have hb:=Xao.1 h.pup (j-1) j bK ac (by omega);simp only[Zbj,c5,WL ac,Ww ac,Wt ac,Wp (show j<4611686018427387904 by omega),Wb,e2,Ww bK,Wt bK]
   grind
 by_cases hz:c.puts.length=0
 .obtain⟨N',rfl⟩:∃N',N=N'+1:=⟨N-1,by omega⟩;rw[Zbj,c5,Wk (by unfold Wg;omega)];exact qz c.reads.length 0 _ (by omega) (by omega)
 .exact tc (c.puts.length-1) 1 N (by omega) (by omega) (by omega)
theorem Wh7(h:CmOk c){n:Int}(hn:0<=n/\n<=8):Zu N c.e n=some (((Wep c n).e,()),()):=by
 unfold Zu Wep;rw[Wu,WQ (by unfold I64;omega)];split<;>rfl
theorem WsH{ph:Int}:Zfy N c.e ph=some (((Wmt c ph).e,()),()):=by
 obtain⟨c0,c1,c2,c3,c4,c5,c6⟩:=cmP c;unfold Zfy Wmt Wmi;simp only[Wu,c5,c6,Wg];by_cases h3:ph=3
 .subst h3;by_cases hr:c.reads.length=0<;>by_cases hp:c.puts.length=0<;>simp[hr,hp]<;>rfl
 .by_cases h4:ph=4
  .subst h4;by_cases hp:c.puts.length=0<;>simp[hp]<;>rfl
  .simp[h3,h4];rfl
theorem WtS(h:CmOk c){ph:Int}:Za7 N c.e ph=some (((We2 c ph).e,()),()):=by
 obtain⟨c0,c1,c2,c3,c4,c5,c6⟩:=cmP c;have co:=h.pos;have pE:c.steps<=8:=by have:=h.plen;have:=h.rlen;unfold Cm.steps;split<;>(try split)<;>omega
 have bt:Zdt N (Cm.e {c with pos:=c.pos+1})=ret c.steps:=Wnj;unfold Za7 We2;rw[c3,WJ (by unfold I64;omega)];rw[show(c.e.1,(c.e.2.1,(c.e.2.2.1,(c.pos+1,c.e.2.2.2.2))))=Cm.e {c with pos:=c.pos+1}from rfl,bt];simp only[ret,Xd,Wu,WsH];split<;>rfl
theorem Wr2(h:CmOk c)(hN:1048576<N):∃b,Zku N c.e=some ((),((Wbj c).e,(b,()))):=by
 obtain⟨c0,c1,c2,c3,c4,c5,c6⟩:=cmP c;have co:=h.pos;have eU:=h.plen;have pE:c.steps<=8:=by have:=h.plen;have:=h.rlen;unfold Cm.steps;split<;>(try split)<;>omega
 unfold Zku Wbj;rw[Wkf h];simp only[ret,Xd];rw[WhL h hN];simp only[ret,Xd,Xk,Wa,Wu,c2,c3,c5,Wh7 h (show 0<=c.pos/\c.pos<=8 by omega),Wh7 h (show 0<=Wg c.puts/\Wg c.puts<=8 by unfold Wg;omega)];by_cases h1:c.phase=1
 .simp_all
 .rw[Wc h1,Wc h1];by_cases h2:c.phase=2
  .rw[Wf h2,Wf h2,Wf (.inl h2)];exact⟨_,rfl⟩
  .rw[Wc h2];by_cases h3:c.phase=3
   .rw[Wf h3,Wf (.inr h3)];exact⟨_,rfl⟩
   simp_all
theorem Woi{l:List Rw}(hl:l.length<=1048576)(hN:1048576<N):Zi0 N l=ret ((WcO l).map (·.1)):=by
 unfold Zi0;rw[WdW hl hN];have hn:=WcS l;simp only[ret,Xd];have h1:=Wx (l:=WcO l) (V:=List Int) (R:=Unit×(List Int×Unit)) (lp:=λn j v=>Zc5 N (Wg (WcO l)) (WcO l) (λar aq bC=>(some ((),(bC,())))) n j v) (n:=N) (by omega)
  (body:=λj x v k=>bif Wz (v.length+ [x.1].length)then k (Xh v [x.1])else none) (K:=λ_ v=>ret v)
  (λn i v hi=>by simp only[Zc5,WL hi,Ww hi,Wt hi,Wp (show i<4611686018427387904 by omega),Wb])
  (λn v=>by simp[Zc5,WW,Xm,Wa]) []
 refine h1.trans ?_;rw[Wca (f:=λx:Rw=>x.1) (WcO l) 0 [] (by simp;omega) (λj x v k _=>rfl)];rfl
theorem Wvy{who rv:Int}{puts reads:List Rw}(hw:1<=who/\who<=99)(hr:0<=rv/\rv<=1000000)(hp:Waj puts=true)(hd:Waj reads=true)(hN:1048576<N):
  Zfk N who rv puts reads=some ((),((WfW who rv puts reads).e,(true,()))):=by
 have l1:puts.length<=300:=by grind [Waj]
 have l2:reads.length<=300:=by grind [Waj]
 unfold Zfk;simp only[WbU,W1,Wcs (show puts.length<=1048576 by omega) hN,Wcs (show reads.length<=1048576 by omega) hN,WdW (show puts.length<=1048576 by omega) hN,Woi (show reads.length<=1048576 by omega) hN,ret,Xd,We hw.1,We hw.2,We hr.1,We hr.2,hp,hd,Xan,Xk,Wa,Wu];unfold WfW Cm.e;by_cases hz:(WcO puts).length=0
 .simp_all [Wf,Wg]
 simp_all [Wc,Wg]
theorem Wdq{m:Mm}{i:Int}:Xc m.2 (Xa i) ((0:Int),((0:Int),(0:Int)))=WaA m i:=rfl
theorem Wcj(hm:W0 m=true){i:Int}(hi:0<=i/\i<=7):inb i m.2.length=true:=by
 grind [WC,inb]
theorem WdU{i:Int}(hi:0<=i/\i<=7):Wau i=true:=by grind [Wau]
theorem WnU(hm:W0 m=true){i who:Int}(hi:0<=i/\i<=7)(hw:1<=who/\who<=99)(hN:1048576<N):
  Zpp N m i who=some ((),((if(WaA m i).2.2=0 then Wuo m i who else m),(decide ((WaA m i).2.2=0),()))):=by
 unfold Zpp;rw[Wd9 hm,Wbi (by grind [WC]) hN,hm];simp only[ret,Xd,Xk,Wa,WaH,WdU hi,WbU,We hw.1,We hw.2,Xan,Wcj hm hi,Wb,Wdq,Was];by_cases h:(WaA m i).2.2=0
 .rw[Wf h,Wf h,We h];rfl
 simp_all
theorem Wmn(hm:W0 m=true){i who v:Int}(hi:0<=i/\i<=7)(hw:1<=who/\who<=99)(hv:0<=v/\v<=65535)(hN:1048576<N):
  ∃b,Zqx N m i who v=some ((),(Wjy m i who v,(b,()))):=by
 unfold Zqx Wjy;rw[Wd9 hm,Wbi (by grind [WC]) hN,hm];simp only[ret,Xd,Xk,Wa,WaH,WdU hi,WbU,Waz,Wao.2 hv,We hw.1,We hw.2,Xan,Wcj hm hi,Wb,Wdq,Was];by_cases h:(WaA m i).2.2=who
 .rw[Wf h,Wf h];exact⟨_,rfl⟩
 simp_all
theorem WfA(hm:W0 m=true){i who ver:Int}(hi:0<=i/\i<=7)(hw:1<=who/\who<=99)(hN:1048576<N):
  ∃b,Znn N m i who ver=some ((),(WeT m i who ver,(b,()))):=by
 have h8:=(WC hm).1;unfold Znn WeT;rw[Wd9 hm,Wbi (by omega) hN,hm];simp only[ret,Xd,Xk,Wa,WaH,WdU hi,WbU,W1,We hw.1,We hw.2,Xan,Wcj hm hi,Wb,Wdq,Was,Xat,Wj];by_cases h:(WaA m i).2.2=who
 .rw[Wf h];by_cases h2:(WaA m i).2.1<=ver/\ver<=m.1
  .rw[Wf ⟨h,h2.1,h2.2⟩,We h2.1,We h2.2];refine⟨true,?_⟩;have:i.toNat<m.2.length:=by omega
   simp only[Xan,Xk,Wa,WgB this,Xct];rfl
  .rw[Wc (by omega)];refine⟨false,?_⟩
   grind
 simp_all
theorem Wnd(h:CmOk c)(hm:W0 m=true)(hN:1048576<N):Zlo N m c.e=some ((),((Wdm m c).1,((Wdm m c).2.e,()))):=by
 obtain⟨c0,c1,c2,c3,c4,c5,c6⟩:=cmP c;have co:=h.pos;have eU:=h.plen;have hw:=h.who;have pE:c.steps<=8:=by have:=h.plen;have:=h.rlen;unfold Cm.steps;split<;>(try split)<;>omega
 have b1:=Wh7 (N:=N) h (show 0<=c.pos/\c.pos<=8 by omega);have b2:=Wh7 (N:=N) h (show 0<=Wg c.puts/\Wg c.puts<=8 by unfold Wg;omega);unfold Zlo Wdm;rw[Wd9 hm,Wkf h];simp only[ret,Xd];rw[Wbi (by grind [WC]) hN,WhL h hN,hm];simp only[ret,Xd,Xk,Wa,Wu,c0,c1,c2,c3,c4,c5,c6,Wal,b1,b2,WtS h];by_cases h1:c.phase=1
 .rw[Wf h1,Wf h1];obtain⟨j,hj,e1,e2,e3,e4⟩:=h.put (by omega);rw[show Xc c.puts (Xa c.pos) ((0:Int),(0:Int))=c.puts[j]from e2,e2,e1,WE,We hj,WnU hm e3 hw hN,←e1]
  grind
 .rw[Wc h1,Wc h1];by_cases h2:c.phase=2
  .rw[Wf h2,Wf h2,WnX hm hN];simp only[Xd];by_cases ht:(tick m).2=0
   .rw[Wf ht,Wf ht];rfl
   .rw[Wc ht,Wc ht];rw[show(c.who,(c.rv,(c.phase,(c.pos,((tick m).2,c.e.2.2.2.2.2)))))=Cm.e {c with wv:=(tick m).2}from rfl,WsH];rfl
  .rw[Wc h2,Wc h2];by_cases h3:c.phase=3
   .rw[Wf h3,Wf h3];obtain⟨j,hj,e1,e2,e3,e4⟩:=h.read h3;rw[show Xc c.reads (Xa c.pos) (0:Int)=c.reads[j]from e2,e2,e1,WE,We hj,Wcj hm ⟨e3,e4⟩];simp only[Wb,Was,WU];rw[show Xc m.2 (Xa c.reads[j]) ((0:Int),((0:Int),(0:Int)))=WaA m c.reads[j]from rfl];by_cases a:(WaA m c.reads[j]).2.2=0
    .rw[Wf a];by_cases b:(WaA m c.reads[j]).2.1>c.rv
     .rw[Wf b,Wf (.inr b)];rfl
     grind
    .rw[Wc a];by_cases a':(WaA m c.reads[j]).2.2=c.who
     .rw[Wf a'];by_cases b:(WaA m c.reads[j]).2.1>c.rv
      .rw[Wf b,Wf (.inr b)];rfl
      grind
     .rw[Wc a',Wf (.inl ⟨a,a'⟩)];rfl
   .rw[Wc h3,Wc h3];by_cases h4:c.phase=4
    .rw[Wf h4,Wf h4];obtain⟨j,hj,e1,e2,e3,e4⟩:=h.put (by omega)
     grind [Wmn,Xc,Xa,WE,decide_eq_true]
    .rw[Wc h4,Wc h4];by_cases h5:c.phase=5
     .rw[Wf h5,Wf h5];obtain⟨j,hj,e1,e2,e3,e4⟩:=h.put (by omega);obtain⟨b,hb⟩:=WfA (ver:=c.wv) hm e3 hw hN
      grind [Xc,Xa,WE,decide_eq_true]
     .rw[Wc h5,Wc h5];by_cases h7:c.phase=7
      .rw[Wf h7,Wf h7];obtain⟨j,hj,e1,e2,e3,e4⟩:=h.put (by omega);obtain⟨b,hb⟩:=WfA (ver:=(WaA m c.puts[j].1).2.1) hm e3 hw hN;rw[show Xc c.puts (Xa c.pos) ((0:Int),(0:Int))=c.puts[j]from e2,e2,e1,WE,We hj,Wcj hm e3];simp only[Wb,Wdq,hb,←e1];rfl
      simp_all
end
end
section
abbrev RM:=Int×Int×Int×Int×List Int
abbrev Wr:=Int×Int×List Rw
abbrev Pg:=List Opn×List (List Opn)
abbrev Ac:=Int×Int×Int
abbrev Sc:=Ki×List Pg×List Ac
structure Rt where
 phase:Int:=0
 tries:Int:=0
 spare:Int:=0
 pc:Int:=0
 rv:Int:=0
 newRv:Int:=0
 pos:Int:=0
 fate:Int:=0
 stamp:Int:=0
 began:Int:=0
 ended:Int:=0
 doomed:Bool:=false
 regs:List Int:=[]
 reads:List Rw:=[]
 writes:List Rw:=[]
 marks:List RM:=[]
 undos:List Un:=[]
 order:List Int:=[]
 busy:Bool:=false
 pb:Pb:=(0,0,0,0)
 cm:Cm:={}
 fam:Fm:={}
def Rt.e(r:Rt):Y_Root:=(r.phase,r.tries,r.spare,r.pc,r.rv,r.newRv,r.pos,r.fate,r.stamp,r.began,r.ended,r.doomed,r.regs,r.reads,r.writes,r.marks,r.undos,r.order,r.busy,r.pb,r.cm.e,r.fam.e)
structure Wo where
 now:Int:=0
 token:Int:=0
 mem:Mm:=(0,[])
 shelf:Shf:=([],0)
 holds:List Hd:=[]
 roots:List Rt:=[]
 hist:List Wr:=[]
def Wo.e(w:Wo):Y_World:=(w.now,w.token,w.mem,w.shelf,w.holds,w.roots.map Rt.e,w.hist)
def zRM:RM:=(0,0,0,0,[])
def Rt.last(x:Rt):RM:=Wgg x.marks zRM
def Wf3(x:Rt):Rt:={phase:=6,tries:=x.tries,undos:=x.undos}
def Wbv(x:Rt):Rt:=
 if x.marks.length=0\/x.spare=2 then Wf3 x else{x with spare:=x.spare+1,busy:=false,pb:=(0,0,0,0),phase:=3}
def WeM(w:Wo)(x:Rt):Wo×Rt:=({w with shelf:=WfU w.shelf (Wgg x.undos (0,0,0))},{x with undos:=x.undos.dropLast})
def WkU(w:Wo)(x:Rt)(k:Nat):Wo×Rt:=
 ({w with token:=if w.token=(k:Int)+1 then 0 else w.token},{x with phase:=8,ended:=w.now,undos:=[],doomed:=false})
def We4(w:Wo)(x:Rt)(k:Nat)(out:Int):Wo×Rt:=
 let rows:=if out=2 then []else x.writes
 if rows.length=0/\(WdX w.holds ((k:Int)+1)).length=0 then WkU w {x with fate:=out,stamp:=x.rv} k
 else(w,{x with fate:=out,cm:=WfW ((k:Int)+1) x.rv rows x.reads,phase:=5})
def Wmd(w:Wo)(x:Rt)(o:Opn):Rt:=
 match Wcd x.writes o.2.2.1 with
 |some v=>{x with regs:=Wpd x.regs o.2.1 v,pc:=x.pc+1}
 |none=>
  let p:=WaL w.mem x.rv (if x.busy then x.pb else(o.2.2.1,0,0,0))
  if p.2.1=4 then Wbv {x with busy:=true,pb:=p}
  else if p.2.1=3 then{x with regs:=Wpd x.regs o.2.1 p.2.2.2,reads:=x.reads++ [(o.2.2.1,p.2.2.2)],busy:=false,pb:=(0,0,0,0),pc:=x.pc+1}
  else{x with busy:=true,pb:=p}
def Wji(w:Wo)(x:Rt)(k:Nat)(code:List Opn):Wo×Rt:=
 if x.marks.length=0 then We4 w x k 2 else
 if(x.undos.length:Int)>x.last.2.2.2.1 then WeM w x else
 (w,{x with marks:=x.marks.dropLast,regs:=Wpd x.last.2.2.2.2 (opN code x.last.1).2.1 0,writes:=x.writes.take x.last.2.2.1.toNat,pc:=Wkc code x.last.1.toNat+1})
def WfP(w:Wo)(x:Rt)(k:Nat)(o:Opn):Wo×Rt:=
 match Wc7 w.holds ((k:Int)+1) (WbZ o).1 (WbZ o).2 with
 |none=>(w,Wbv x)
 |some hs=>
  let b:=Wa2 w.shelf o x.regs
  ({w with holds:=hs,shelf:=b.1},{x with regs:=b.2.1,undos:=if b.2.2.1=0 then x.undos else x.undos++ [b.2.2],pc:=x.pc+1})
def Woy(w:Wo)(x:Rt)(k:Nat)(p:Pg):Wo×Rt:=
 if x.pc>=p.1.length then We4 w x k 1 else
 let o:=opN p.1 x.pc
 if o.1=5 then(w,Wmd w x o)else
 if o.1=10 then Wji w x k p.1 else
 if o.1=11 then(w,{x with phase:=2,fam:=Wc5 x.rv x.regs x.writes p.2.length})else
 if o.1>=12 then WfP w x k o else
 if o.1=6 then(w,{x with writes:=x.writes++ [(o.2.1,WbO x.regs o.2.2.1 0)],pc:=x.pc+1})else
 if o.1=7 then(w,{x with pc:=(if WbO x.regs o.2.1 0=0 then x.pc+o.2.2.1 else x.pc)+1})else
 if o.1=8 then(w,{x with marks:=x.marks++ [(x.pc,(x.reads.length:Int),(x.writes.length:Int),(x.undos.length:Int),x.regs)],pc:=x.pc+1})else
 if o.1=9 then(w,{x with marks:=x.marks.dropLast,regs:=Wpd x.regs (opN p.1 x.last.1).2.1 1,pc:=x.pc+1})else
 (w,{x with regs:=Wne o x.regs,pc:=x.pc+1})
def WaI(k:Nat):List Rt->Nat->Bool
 | [],_=>true
 |x::l,i=>(decide (i=k)||(decide (x.phase=0)||decide (x.phase=8)))&&WaI k l (i+1)
def WeR(w:Wo)(x:Rt)(k:Nat):Wo×Rt:=
 if w.token≠0/\w.token≠(k:Int)+1 then(w,x)else
 if x.tries>=3/\w.token=0 then({w with token:=(k:Int)+1},x)else
 if w.token=(k:Int)+1/\WaI k w.roots 0=false then(w,x)else
 (w,{phase:=1,tries:=x.tries,rv:=w.mem.1,began:=w.now,regs:=[0,0,0,0]})
def Whi(x:Rt):Rt:=
 if x.fam.lost then Wf3 x else
 if WcH x.fam then{x with regs:=WfZ x.fam,writes:=Wg6 x.fam,reads:=x.reads++x.fam.reads,order:=x.fam.order,fam:={},phase:=1,pc:=x.pc+1}
 else x
def WbA(w:Wo)(x:Rt):Wo×Rt:=
 if(x.undos.length:Int)>x.last.2.2.2.1 then WeM w x else(w,{x with newRv:=w.mem.1,pos:=0,phase:=4})
def WbX(w:Wo)(x:Rt):Rt:=
 if x.pos<x.last.2.1 then
  let c:=WaA w.mem (WbO x.reads x.pos (0,0)).1
  if c.2.2≠0\/c.2.1>x.rv then Wf3 x else{x with pos:=x.pos+1}
 else{x with rv:=x.newRv,newRv:=0,pos:=0,reads:=x.reads.take x.last.2.1.toNat,writes:=x.writes.take x.last.2.2.1.toNat,regs:=x.last.2.2.2.2,pc:=x.last.1+1,phase:=1}
def WmZ(x:Rt):Rt:=
 if x.cm.phase=8 then Wf3 x else
 if x.cm.phase=6 then{x with stamp:=x.cm.wv,cm:={},phase:=if x.fate=2 then 6 else 7}else x
def Wbl(w:Wo)(x:Rt)(k:Nat):Wo×Rt:=
 if x.doomed then(w,if(Wbj x.cm).phase=8 then Wf3 x else{x with cm:=Wbj x.cm,doomed:=false})else
 let q:=Wdm w.mem x.cm
 ({w with mem:=q.1,hist:=if x.cm.phase<=3/\q.2.phase=4 then w.hist++ [(q.2.wv,(k:Int)+1,q.2.puts)]else w.hist},WmZ {x with cm:=q.2})
def Whp(w:Wo)(x:Rt)(k:Nat)(p:Pg):Wo×Rt:=
 if x.doomed=true/\1<=x.phase/\x.phase<=4 then(w,Wf3 x)else
 if x.phase=0 then WeR w x k else
 if x.phase=1 then Woy w x k p else
 if x.phase=2 then(w,Whi x)else
 if x.phase=3 then WbA w x else
 if x.phase=4 then(w,WbX w x)else
 if x.phase=5 then Wbl w x k else
 if x.phase=6 then(if x.undos.length>0 then WeM w x else(w,{x with phase:=7}))else
 if x.phase=7 then
  (if x.fate=0 then({w with holds:=WV w.holds ((k:Int)+1)},{tries:=x.tries+1})
   else WkU {w with holds:=WV w.holds ((k:Int)+1)} x k)
 else(w,x)
def Wo.put(q:Wo×Rt)(k:Nat):Wo:={q.1 with roots:=q.1.roots.set k q.2}
def rt0:Rt:={}
def pg0:Pg:=([],[])
def WrT(w:Wo)(k:Nat)(p:Pg):Wo:=Wo.put (Whp w (w.roots.getD k rt0) k p) k
def WxE(w:Wo)(x:Rt)(k j:Nat)(p:Pg):Wo:=Wo.put (w,{x with fam:=Wgw w.mem x.fam j (p.2.getD j [])}) k
def Wp2(s:Sc)(w0:Wo)(a:Ac):Wo:=
 let w:={w0 with now:=w0.now+1}
 if 0<=a.2.1/\a.2.1<w.roots.length then
  let k:=a.2.1.toNat
  let x:=w.roots.getD k rt0
  let p:=s.2.1.getD k pg0
  if a.1=1 then WrT w k p else
  if a.1=2 then(if x.phase=2/\0<=a.2.2/\a.2.2<p.2.length then WxE w x k a.2.2.toNat p else w)else
  if a.1=3 then(if(1<=x.phase/\x.phase<=4)\/(x.phase=5/\x.cm.phase<=3)then Wo.put (w,{x with doomed:=true}) k else w)else w
 else w
def Wry(s:Sc):Wo:={mem:=WnW s.1.1,shelf:=(Wkk s.1.2.1,s.1.2.2),roots:=Xp s.2.1.length {}}
def Wtp(s:Sc):Wo:=s.2.2.foldl (Wp2 s) (Wry s)
structure RMk(code:List Opn)(pc:Nat)(marks:List RM)(rl wl ul:Nat):Prop where
 pcs:marks.map (·.1)=(stk code pc).map λm:Nat=>(m:Int)
 each:∀q∈marks,Vals 4 q.2.2.2.2/\(0<=q.2.1/\q.2.1<=q.1+72*frk code q.1.toNat/\q.2.1<=rl)/\(0<=q.2.2.1/\q.2.2.1<=q.1+8/\q.2.2.1<=wl)/\0<=q.2.2.2.1/\q.2.2.2.1<=q.1/\q.2.2.2.1<=ul
 up:marks.Pairwise λa b=>a.2.1<=b.2.1/\a.2.2.1<=b.2.2.1/\a.2.2.2.1<=b.2.2.2.1
structure RLive(p:Pg)(n:Int)(x:Rt):Prop where
 pc:0<=x.pc/\x.pc<=p.1.length
 spare:0<=x.spare/\x.spare<=2
 rv:0<=x.rv/\x.rv<=1000000
 regs:Vals 4 x.regs
 reads:WjA x.reads
 rl:(x.reads.length:Int)<=x.pc+72*frk p.1 x.pc.toNat
 writes:WjA x.writes
 wl:(x.writes.length:Int)<=x.pc+8
 ul:(x.undos.length:Int)<=x.pc
 marks:RMk p.1 x.pc.toNat x.marks x.reads.length x.writes.length x.undos.length
 pb:x.busy=true->WjJ x.pb=true
 fork:x.phase=2->x.pc<p.1.length/\(opN p.1 x.pc).1=11/\FOk p.2 n x.fam
 back:x.phase=3\/x.phase=4->x.marks.length≠0
 newRv:0<=x.newRv/\x.newRv<=1000000
 pos:x.phase=4->0<=x.pos/\x.pos<=x.last.2.1
 unw:x.phase=4->(x.undos.length:Int)<=x.last.2.2.2.1
structure ROk(p:Pg)(n:Int)(x:Rt):Prop where
 phase:0<=x.phase/\x.phase<=8
 tries:0<=x.tries/\x.tries<=n
 live:1<=x.phase/\x.phase<=4->RLive p n x
 comm:x.phase=5->CmOk x.cm
 undos:∀u∈x.undos,UnV u
 ul:x.undos.length<=24
 rg:x.regs.length<=4
 ord:x.order.length<=3
structure POk(p:Pg):Prop where
 code:CC p.1
 kids:∀c∈p.2,KC c
 k3:p.2.length<=3
def HE(h:Wr):Prop:=h.2.2.length<=8/\WjA h.2.2/\1<=h.2.1/\h.2.1<=9
structure WOk(ps:List Pg)(n:Int)(w:Wo):Prop where
 len:w.roots.length=ps.length
 l4:ps.length<=4
 progs:∀p∈ps,POk p
 now:w.now=n
 n0:0<=n
 mem:W0 w.mem=true
 shelf:ShOk w.shelf
 holds:HOk w.holds
 hist:(w.hist.length:Int)<=n
 histE:∀h∈w.hist,HE h
 root:∀(k:Nat) (h:k<w.roots.length),ROk (ps.getD k pg0) n w.roots[k]
end
section
theorem rtP(x:Rt):x.e.1=x.phase/\x.e.2.1=x.tries/\x.e.2.2.1=x.spare/\x.e.2.2.2.1=x.pc/\P4 x.e=x.rv/\P5 x.e=x.newRv/\P6 x.e=x.pos/\P7 x.e=x.fate/\P8 x.e=x.stamp/\P11 x.e=x.doomed/\P12 x.e=x.regs/\P13 x.e=x.reads/\P14 x.e=x.writes/\P15 x.e=x.marks/\P16 x.e=x.undos/\P18 x.e=x.busy/\P19 x.e=x.pb/\P20 x.e=x.cm.e/\Q21 x.e=x.fam.e/\P24 x.e=x.fam.lost/\P28 x.e=x.fam.order/\P29 x.e=x.fam.reads:=
 ⟨rfl,rfl,rfl,rfl,rfl,rfl,rfl,rfl,rfl,rfl,rfl,rfl,rfl,rfl,rfl,rfl,rfl,rfl,rfl,rfl,rfl,rfl⟩
theorem S5e(w:Wo)(k:Nat)(x:Rt):S5 (Xe (w.roots.map Rt.e) k x.e) w.e=Wo.e {w with roots:=w.roots.set k x}:=by
 unfold S5 Wo.e;rw[List.map_set]
theorem Wdf{w w':Wo}{k:Nat}{x':Rt}{y:Y_Root}{g:Y_World}(hy:y=x'.e)(hg:g=w'.e)(hr:w'.roots=w.roots):
  some ((S5 (Xe (w.roots.map Rt.e) k y) g,()),())=some (((Wo.put (w',x') k).e,()),()):=by
 subst hy hg;rw[←hr,S5e];rfl
variable{N:Nat}{w:Wo}{k:Nat}{x:Rt}{o:Opn}{p:Pg}{n:Int}{code:List Opn}
theorem woG(hk:k<w.roots.length)(aN:w.roots[k]=x):Xc (w.roots.map Rt.e) k d_Root=x.e/\Xc (w.roots.map Rt.e) (Xa (k:Int)) d_Root=x.e/\S5 (Xe (w.roots.map Rt.e) (Xa (k:Int)) x.e) w.e=w.e/\inb (k:Int) (w.roots.map Rt.e).length=true/\S5 (Xe (w.roots.map Rt.e) k x.e) w.e=w.e:=by
 have h1:Xc (w.roots.map Rt.e) k d_Root=x.e:=by
  have:=Wnp Rt.e w.roots k {};rw[WF hk,aN]at this;exact this
 have h2:S5 (Xe (w.roots.map Rt.e) k x.e) w.e=w.e:=by rw[S5e,←aN,Xbg]
 rw[Xl];refine⟨h1,h1,h2,?_,h2⟩;rw[WE,Xu];exact We hk
theorem Wl9(hk:k<w.roots.length)(aN:w.roots[k]=x):Wo.put (w,x) k=w:=by
 unfold Wo.put;simp only;rw[←aN,Xbg]
theorem Wfm:Zat N x.e=some (((Wf3 x).e,()),()):=rfl
theorem WeI(hs:0<=x.spare/\x.spare<=2):Zds N x.e=some (((Wbv x).e,()),()):=by
 obtain⟨r0,r1,r2,r3,r4,r5,r6,r7,r8,eR,ew,dB,dF,dG,dV,fA,fB,eS,eT,fC,fD,fE⟩:=rtP x;unfold Zds Wbv;simp only[Wu,dG,r2,Wg,Wfm,Xd];by_cases h1:x.marks.length=0
 .rw[Wf (by omega),Wf (.inl h1)]
 .rw[Wc (by omega)];by_cases h2:x.spare=2
  .rw[Wf h2,Wf (.inr h2)]
  .rw[Wc h2,Wc (by omega),WJ (by unfold I64;omega)];rfl
theorem Wbr{α:Type}{l:List α}(h:l.length≠0)(hl:l.length<=1000)(d:α):inb (WT .i64 (Wg l) 1) l.length=true/\Xc l (Xa (WT .i64 (Wg l) 1)) d=Wgg l d/\Xal (Xa (WT .i64 (Wg l) 1)) l=l.dropLast/\(decide ((0:Int)<=WT .i64 (Wg l) 1)&&decide (WT .i64 (Wg l) 1<=(l.length:Int)))=true:=by
 have e:WT .i64 (Wg l) 1=((l.length-1:Nat):Int):=by rw[WiY (by omega)];omega
 rw[e];refine⟨by rw[WE];exact We (by omega),by rw[Xl];rfl,by rw[Xl,Xge],by simp⟩
theorem WmU(h:x.marks.length≠0)(hl:x.marks.length<=1000):Zes N x.e=some ((),((x.last.1,(x.last.2.1,(x.last.2.2.1,x.last.2.2.2.1))),())):=by
 obtain⟨a,b,c,d⟩:=Wbr h hl zRM;unfold Zes;simp only[Wj];rw[show P15 x.e=x.marks from rfl,a];simp only[Wb];rw[show((0:Int),((0:Int),((0:Int),((0:Int),([]:List Int)))))=zRM from rfl,b];rfl
theorem Wl0(hk:k<w.roots.length)(aN:w.roots[k]=x)(hz:x.undos.length≠0)(hl:x.undos.length<=1000)(hu:∀u∈x.undos,UnV u)(hs:ShOk w.shelf)(hN:1048576<N):
  Zcj N w.e k=some (((Wo.put (WeM w x) k).e,()),()):=by
 obtain⟨g1,g2,g3,g4,g5⟩:=woG hk aN;obtain⟨a,b,c,d⟩:=Wbr hz hl ((0,0,0):Un);have aM:Wgg x.undos ((0,0,0):Un)∈x.undos:=by
  unfold Wgg;rw[WF (show x.undos.length-1<x.undos.length by omega)];exact Xv _
 unfold Zcj WeM;simp only[Wj];rw[show P5 w.e=w.roots.map Rt.e from rfl,g1];rw[show x.e.2.2.2.2.2.2.2.2.2.2.2.2.2.2.2.2.1=x.undos from rfl,a,b,show w.e.2.2.2.1=w.shelf from rfl,Wjj hs (hu _ aM) hN,c];simp only[Wb,Xd,d];exact Wdf rfl rfl rfl
theorem WrN(hk:k<w.roots.length)(aN:w.roots[k]=x)(gy:k<=1000):Zhd N w.e (k:Int)=some (((Wo.put (WkU w x k) k).e,()),()):=by
 obtain⟨g1,g2,g3,g4,g5⟩:=woG hk aN;unfold Zhd WkU;simp only[Wj];rw[show P5 w.e=w.roots.map Rt.e from rfl,g4,g2,Wap (by omega),Xl];simp only[Wb,Wu];rw[show w.e.2.1=w.token from rfl];by_cases h:w.token=(k:Int)+1
 .rw[Wf h];simp only[Wf h];exact Wdf rfl rfl rfl
 .rw[Wc h];simp only[Wc h];exact Wdf rfl rfl rfl
theorem WnZ(hk:k<w.roots.length)(aN:w.roots[k]=x)(gy:k<=8)(hh:HOk w.holds)(kY:0<=x.rv/\x.rv<=1000000)(hr:Waj x.reads=true)(hw:Waj x.writes=true){out:Int}(hN:1048576<N):
  Zhu N w.e (k:Int) out=some (((Wo.put (We4 w x k out) k).e,()),()):=by
 obtain⟨g1,g2,g3,g4,g5⟩:=woG hk aN;obtain⟨r0,r1,r2,r3,r4,r5,r6,r7,r8,eR,ew,dB,dF,dG,dV,fA,fB,eS,eT,fC,fD,fE⟩:=rtP x;have nC:=Wd8 hh;have oh:∀y:Rt,Zhd N (S5 (Xe (w.roots.map Rt.e) (Xa (k:Int)) y.e) w.e) (k:Int)=some (((Wo.put (WkU w y k) k).e,()),()):=λy=>by
  rw[Xl,S5e];have h1:k<({w with roots:=w.roots.set k y}:Wo).roots.length:=by simpa using hk
  rw[WrN (x:=y) h1 (by simp) (by omega)];unfold WkU Wo.put;simp only[Xct]
 unfold Zhu We4;simp only[Wj];rw[show P5 w.e=w.roots.map Rt.e from rfl,g4,g2,Wap (by omega),show P4 w.e=w.holds from rfl];have td:∀{α:Type} (a b:α),(bif ((0:Int)==(0:Int))then a else b)=a:=λ_ _=>rfl;have xN:∀{α:Type} (a b:α),(bif ((0:Nat)==(0:Nat))then a else b)=a:=λ_ _=>rfl;simp only[td,xN];simp only[Wb,Wu,r4,dB,dF,Wir (who:=(k:Int)+1) hh (by omega) hN,ret,Xd,Wg];have pF:∀rows,Waj rows=true->Zfk N ((k:Int)+1) x.rv rows x.reads=some ((),((WfW ((k:Int)+1) x.rv rows x.reads).e,(true,()))):=λrows jm=>Wvy (by omega) kY jm hr hN;have bJ:Zfk N ((k:Int)+1) x.rv ([]:List Kc) x.reads=some ((),((WfW ((k:Int)+1) x.rv [] x.reads).e,(true,()))):=pF [] rfl;have bt:(S8 x.rv (S7 out x.e))=Rt.e {x with fate:=out,stamp:=x.rv}:=rfl;rw[bJ,pF _ hw,bt,oh];simp only[Xd];by_cases ho:out=2
 .rw[Wf ho,Wf ho];by_cases hz:(WdX w.holds ((k:Int)+1)).length=0
  .rw[Wf (by omega),Wf ⟨rfl,hz⟩]
  .rw[Wc (by omega),Wc (λh=>hz h.2),Xl];exact Wdf rfl rfl rfl
 .rw[Wc ho,Wc ho];by_cases hy:x.writes.length=0
  .rw[Wf (by omega)];by_cases hz:(WdX w.holds ((k:Int)+1)).length=0
   .rw[Wf (by omega),Wf ⟨hy,hz⟩]
   .rw[Wc (by omega),Wc (λh=>hz h.2),Xl];exact Wdf rfl rfl rfl
  .rw[Wc (by omega),Wc (λh=>hy h.1),Xl];exact Wdf rfl rfl rfl
theorem Wna{l:List Rw}(h:WjA l)(hl:l.length<=300):Waj l=true:=by
 unfold Waj;rw[Wig.2 h,We hl];rfl
theorem WsZ(hc:CC code):∀j,j<=code.length->frk code j<=1
 |0,_=>by simp[frk]
 |j+1,h=>by
  have hj:j<code.length:=by omega
  by_cases gq:code[j].1=11
  .exact(hc.fk j hj gq).2
  .rw[Wh6 hj,show(code[j].1==11)=false by simpa using gq];have:=WsZ hc j (by omega);simpa using this
theorem RLive.sz(hc:CC p.1)(h:RLive p n x):x.reads.length<=96/\x.writes.length<=32/\x.undos.length<=24/\x.marks.length<=24/\Waj x.reads=true/\Waj x.writes=true:=by
 have h1:=h.pc;have h2:=hc.len;have h3:=WsZ hc x.pc.toNat (by omega);have h4:=h.rl;have h5:=h.wl;have h6:=h.ul;have h7:=Wm Xb h.marks.pcs;simp only[Xu]at h7;have h8:=Wa3 hc.up x.pc.toNat (by omega);have h9:=(Wct p.1 x.pc.toNat).2;exact⟨by omega,by omega,by omega,by omega,Wna h.reads (by omega),Wna h.writes (by omega)⟩
theorem Wpo(hb:x.busy=true->WjJ x.pb=true){c:Int}(hc:0<=c/\c<=7):WjJ (if x.busy then x.pb else(c,0,0,0))=true:=by
 split
 .exact hb ‹_›
 .rw[Wfp];simp only;omega
theorem WtE(hk:k<w.roots.length)(aN:w.roots[k]=x)(hc:CC p.1)(hx:RLive p n x)(hm:W0 w.mem=true)(h5:o.1=5)(ho:WdV o=true)(hN:1048576<N):
  Zln N w.e k o=some (((Wo.put (w,Wmd w x o) k).e,()),()):=by
 obtain⟨g1,g2,g3,g4,g5⟩:=woG hk aN;obtain⟨r0,r1,r2,r3,r4,r5,r6,r7,r8,eR,ew,dB,dF,dG,dV,fA,fB,eS,eT,fC,fD,fE⟩:=rtP x;obtain⟨z1,z2,z3,z4,z5,z6⟩:=hx.sz hc;obtain⟨hA,hB⟩:=Wwh ho h5;have hB':0<=o.2.2.1/\o.2.2.1<=7:=by unfold Wau at hB;simpa using hB
 have ct:=hx.regs.len;have bB:=hx.pc;have cP:=hc.len;have gr:=hx.spare;unfold Zln Wmd;simp only[Wj];rw[show P5 w.e=w.roots.map Rt.e from rfl,g1,show w.e.2.2.1=w.mem from rfl];simp only[r3,r4,ew,dB,dF,fA,fB];rw[WeW (by omega) hN,WS hA ct,Wap (by omega)];cases hl:Wcd x.writes o.2.2.1 with
 |some v=>
  simp only[opI,Xd,Wb];exact Wdf rfl rfl rfl
 |none=>
  have ax:Wz (x.reads.length+ [(o.2.2.1,(0:Int))].length)=true:=Wq (by simp;omega);have ll:Zgd N o.2.2.1=some ((),((o.2.2.1,0,0,0),(true,()))):=by
   unfold Zgd;rw[WaH,hB];rfl
  have fX:=Wpo hx.pb hB';have pG:S18 true x.e=Rt.e {x with busy:=true}:=rfl;simp only[opI,Xd,Wa,Wu,ll,pG];have gd:∀q:Pb,S19 q (Rt.e {x with busy:=true})=Rt.e {x with busy:=true,pb:=q}:=λq=>rfl;simp only[gd,WeI (x:={x with busy:=true,pb:=_}) gr];cases hb:x.busy with
  |false=>
   rw[hb]at fX;simp only[Xap,Wat]at fX;rw[Wfq hm fX hN];simp only[Xbq,Wb,ret,Xd,Xap,Wat];generalize WaL w.mem x.rv (o.2.2.1,0,0,0)=q;by_cases h4:q.2.1=4
   .rw[Wf h4,Wf h4];exact Wdf rfl rfl rfl
   .rw[Wc h4,Wc h4];by_cases h3:q.2.1=3
    .rw[Wf h3,Wf h3,Wq (by simp;omega)];exact Wdf rfl rfl rfl
    .rw[Wc h3,Wc h3];exact Wdf rfl rfl rfl
  |true=>
   have cg:∀q:Pb,S19 q x.e=Rt.e {x with busy:=true,pb:=q}:=λq=>by
    have:S19 q x.e=Rt.e {x with pb:=q}:=rfl;rw[this]
    conv=>lhs;rw[show({x with pb:=q}:Rt)={x with busy:=x.busy,pb:=q}from rfl,hb]
   rw[hb]at fX;simp only[W8]at fX;rw[Wfq hm fX hN];simp only[Xk,Wa,ret,Xd,W8,cg,WeI (x:={x with busy:=true,pb:=_}) gr];generalize WaL w.mem x.rv x.pb=q;by_cases h4:q.2.1=4
   .rw[Wf h4,Wf h4];exact Wdf rfl rfl rfl
   .rw[Wc h4,Wc h4];by_cases h3:q.2.1=3
    .rw[Wf h3,Wf h3,Wq (by simp;omega)];exact Wdf rfl rfl rfl
    .rw[Wc h3,Wc h3];exact Wdf rfl rfl rfl
end
section
variable{N:Nat}{w:Wo}{k:Nat}{x:Rt}{o:Opn}{p:Pg}{n:Int}{code:List Opn}
theorem RLive.mk24(hc:CC p.1)(h:RLive p n x)(hz:x.marks.length≠0):∃(m:Nat) (q:List RM),x.marks=q++ [x.last]/\x.last.1=(m:Int)/\(∃hm:m<p.1.length,p.1[m].1=8)/\(m:Int)<x.pc/\Mate p.1 m (Wkc p.1 m)/\x.pc<=Wkc p.1 m/\stk p.1 m=(stk p.1 x.pc.toNat).dropLast/\x.marks.dropLast=q/\
  Vals 4 x.last.2.2.2.2/\(0<=x.last.2.1/\x.last.2.1<=x.last.1+72*frk p.1 x.last.1.toNat/\x.last.2.1<=x.reads.length)/\(0<=x.last.2.2.1/\x.last.2.2.1<=x.last.1+8/\x.last.2.2.1<=x.writes.length)/\0<=x.last.2.2.2.1/\x.last.2.2.2.1<=x.last.1/\x.last.2.2.2.1<=x.undos.length:=by
 have hp:=h.pc;obtain⟨m,q,y,e1,e2,e3,e4,e5,e6,e7,e8,e9⟩:=WiU (d:=zRM) hc (show x.pc.toNat<=p.1.length by omega) h.marks.pcs hz;have hl:x.last=y:=e2;have hy:=h.marks.each y (by grind)
 grind
theorem WwB(h:x.marks.length≠0)(hl:x.marks.length<=1000):(inb (WT .i64 (x.marks.length:Int) 1) x.marks.length&&true)=true/\(inb (WT .i64 (x.marks.length:Int) 1) x.marks.length&&Nat.beq (Xa (WT .i64 (x.marks.length:Int) 1)) (Xa (WT .i64 (x.marks.length:Int) 1)))=true/\
  Xc x.marks (Xa (WT .i64 (x.marks.length:Int) 1)) ((0:Int),((0:Int),((0:Int),((0:Int),([]:List Int)))))=x.last/\Xe x.marks (Xa (WT .i64 (x.marks.length:Int) 1)) x.last=x.marks/\decide (WT .i64 (x.marks.length:Int) 1<=((Xa (WT .i64 (x.marks.length:Int) 1):Nat):Int))=true:=by
 obtain⟨a,b,c,d⟩:=Wbr h hl zRM;have a':inb (WT .i64 (x.marks.length:Int) 1) x.marks.length=true:=a;have b':Xc x.marks (Xa (WT .i64 (x.marks.length:Int) 1)) zRM=x.last:=b;refine⟨by rw[a'];rfl,by rw[a'];simp,b',?_,We (Int.self_le_toNat _)⟩;rw[←b',Xbl];apply List.ext_getElem?;intro i;rw[List.getElem?_set];split
 .rename_i e;subst e;split
  .rename_i ac;rw[Xq ac];rfl
  .rename_i ac;rw[List.getElem?_eq_none (by omega)]
 .rfl
theorem WrP(hk:k<w.roots.length)(aN:w.roots[k]=x)(gy:k<=8)(hc:CC p.1)(hx:RLive p n x)(hu:∀u∈x.undos,UnV u)(hs:ShOk w.shelf)(hh:HOk w.holds)(hN:1048576<N):
  Zkt N w.e (k:Int) p.1=some (((Wo.put (Wji w x k p.1) k).e,()),()):=by
 obtain⟨g1,g2,g3,g4,g5⟩:=woG hk aN;obtain⟨r0,r1,r2,r3,r4,r5,r6,r7,r8,eR,ew,dB,dF,dG,dV,fA,fB,eS,eT,fC,fD,fE⟩:=rtP x;obtain⟨z1,z2,z3,z4,z5,z6⟩:=hx.sz hc;have cP:=hc.len;unfold Zkt Wji;simp only[Wj];rw[show P5 w.e=w.roots.map Rt.e from rfl,g4,g2];simp only[Wb,Wu,dG,Wg];by_cases hz:x.marks.length=0
 .rw[Wf (by omega),Wf hz,g3,WnZ hk aN gy hh hx.rv z5 z6 hN];rfl
 .rw[Wc (by omega),Wc hz];obtain⟨i1,i2,i3,i4,i5⟩:=WwB hz (by omega);rw[i1,Wb,i2,Wb,i3,i4,show S15 x.marks x.e=x.e from rfl];simp only[Xd,dV,WU];obtain⟨m,q,e1,e2,⟨hm,gz⟩,e4,e5,e6,e7,e8,e9,ji,jH,iS,iT,hD⟩:=hx.mk24 hc hz;by_cases fF:(x.undos.length:Int)>x.last.2.2.2.1
  .rw[Wf fF,Wf fF,g3,Xl,Wl0 hk aN (by omega) (by omega) hu hs hN];rfl
  .rw[Wc fF,Wc fF];simp only[dF,dG];obtain⟨a,b,c,d⟩:=Wbr hz (by omega) zRM;have d':(decide ((0:Int)<=WT .i64 (x.marks.length:Int) 1)&&decide (WT .i64 (x.marks.length:Int) 1<=(x.marks.length:Int))&&decide (WT .i64 (x.marks.length:Int) 1<=((Xa (WT .i64 (x.marks.length:Int) 1):Nat):Int)))=true:=by
    have d0:(decide ((0:Int)<=WT .i64 (x.marks.length:Int) 1)&&decide (WT .i64 (x.marks.length:Int) 1<=(x.marks.length:Int)))=true:=d;rw[d0,i5];rfl
   have c':Xal (Xa (WT .i64 (x.marks.length:Int) 1)) x.marks=x.marks.dropLast:=c;rw[d',c',Wbs (by rw[e9.len];omega),e2,WE,We hm];have o1:Xc p.1 (Xa ((m:Nat):Int)) ((0,0,0,0):Opn)=opN p.1 (m:Int):=rfl;have hr:=WuQ (hc.ok m hm).1 gz;rw[←We0 hm]at hr;simp only[Wb,ret,Xd,o1];rw[WS hr e9.len];have b2:(decide ((0:Int)<=x.last.2.2.1)&&decide (x.last.2.2.1<=(x.writes.length:Int)))=true:=by simp;omega
   rw[b2];simp only[Wb];rw[WdF (by grind),Wjd (by omega) hN ⟨hm,gz⟩ e5];simp only[ret,Xd];rw[Wap (by have:=e5.len;omega),Xl];exact Wdf rfl rfl rfl
theorem Wr8(hk:k<w.roots.length)(aN:w.roots[k]=x)(gy:k<=8)(hc:CC p.1)(hx:RLive p n x)(ho:WdV o=true)(ek:12<=o.1)(hs:ShOk w.shelf)(hh:HOk w.holds)(hN:1048576<N):
  Zhv N w.e (k:Int) o=some (((Wo.put (WfP w x k o) k).e,()),()):=by
 obtain⟨g1,g2,g3,g4,g5⟩:=woG hk aN;obtain⟨r0,r1,r2,r3,r4,r5,r6,r7,r8,eR,ew,dB,dF,dG,dV,fA,fB,eS,eT,fC,fD,fE⟩:=rtP x;obtain⟨z1,z2,z3,z4,z5,z6⟩:=hx.sz hc;have nC:=Wd8 hh;have bB:=hx.pc;have cP:=hc.len;have mn:(0<=(WbZ o).1/\(WbZ o).1<=8)/\1<=(WbZ o).2/\(WbZ o).2<=2:=by
  grind [WbZ,Wj8,WeL,Wrk,WqJ,Wbb,Wsd]
 unfold Zhv WfP;simp only[Wj,Wal];rw[show P5 w.e=w.roots.map Rt.e from rfl,g4,g2,Wap (by omega),Wly ho ek,show P4 w.e=w.holds from rfl,show w.e.2.2.2.1=w.shelf from rfl];simp only[Wb,Xd,WiE hh (show 1<=(k:Int)+1/\(k:Int)+1<=9 by omega) mn.1 mn.2 (by omega) hN,r3,ew,dV,WeI hx.spare];cases ha:Wc7 w.holds ((k:Int)+1) (WbZ o).1 (WbZ o).2 with
 |none=>
  simp only[Option.isSome_none,Xbq,Wb,Xl];exact Wdf rfl rfl rfl
 |some c9=>
  simp only[Xfd,Xk,Wa,Xds,Xl,Wi1 hs hx.regs ho ek hN,Xd,Was];rw[Wap (by omega),Wq (by simp;omega)];by_cases hz:(Wa2 w.shelf o x.regs).2.2.1=0
  .rw[Wf hz,Wf hz];exact Wdf rfl rfl rfl
  .rw[Wc hz,Wc hz];exact Wdf rfl rfl rfl
theorem Wv1(hk:k<w.roots.length)(aN:w.roots[k]=x)(gy:k<=8)(hp:POk p)(hx:RLive p n x)(hu:∀u∈x.undos,UnV u)(hm:W0 w.mem=true)(hs:ShOk w.shelf)(hh:HOk w.holds)(hN:1048576<N):
  Zjt N w.e (k:Int) p=some (((Wo.put (Woy w x k p) k).e,()),()):=by
 obtain⟨g1,g2,g3,g4,g5⟩:=woG hk aN;obtain⟨r0,r1,r2,r3,r4,r5,r6,r7,r8,eR,ew,dB,dF,dG,dV,fA,fB,eS,eT,fC,fD,fE⟩:=rtP x;have hc:=hp.code;obtain⟨z1,z2,z3,z4,z5,z6⟩:=hx.sz hc;have bB:=hx.pc;have cP:=hc.len;have ct:=hx.regs.len;unfold Zjt Woy;simp only[Wj];rw[show P5 w.e=w.roots.map Rt.e from rfl,g4,g2,g3];simp only[Wb,r3,r4,ew,dB,dF,dG,dV,WU,Wu,show Wg p.1=(p.1.length:Int)from rfl];by_cases dq:x.pc>=p.1.length
 .rw[Wf dq,Wf dq,WnZ hk aN gy hh hx.rv z5 z6 hN];rfl
 .rw[Wc dq,Wc dq];obtain⟨j,hj,ej,eo⟩:=Wjr (l:=p.1) bB.1 (by omega);have nd:Xc p.1 (Xa x.pc) ((0,0,0,0):Opn)=opN p.1 x.pc:=rfl;have dj:inb x.pc p.1.length=true:=by grind [WE,decide_eq_true]
  rw[dj];obtain⟨ok,o1,ip⟩:=hc.ok j hj;simp only[Wb,nd];rw[←eo]at ok o1 ip;rw[Wap (show 0<=x.pc/\x.pc<=1000000 by omega)];have kN:(opN p.1 x.pc).1=9->x.marks.length≠0:=λh9 hz=>by
   have h1:=Wm Xb hx.marks.pcs;simp only[Xu,hz]at h1;have h2:=Wa3 hc.up j (by omega);have h3:=hc.up j hj
   grind [WaC,Wl4,Xl]
  generalize opN p.1 x.pc=o at*;have nh:o.1>=12->Zhv N w.e (k:Int) o=some (((Wo.put (WfP w x k o) k).e,()),()):=λek=>Wr8 hk aN gy hc hx ok ek hs hh hN;by_cases h5:o.1=5
  .rw[Wf h5,Wf h5,Xl,WtE hk aN hc hx hm h5 ok hN];rfl
  .rw[Wc h5,Wc h5];by_cases cJ:o.1=10
   .rw[Wf cJ,Wf cJ,WrP hk aN gy hc hx hu hs hh hN];rfl
   .rw[Wc cJ,Wc cJ];by_cases gq:o.1=11
    .rw[Wf gq,Wf gq,show Wg p.2=((p.2.length:Nat):Int)from rfl,WjQ (by omega) (by omega) hp.k3 hN,Xl];exact Wdf rfl rfl rfl
    .rw[Wc gq,Wc gq];by_cases ek:o.1>=12
     .rw[Wf ek];have hb:=nh ek;have:o.1=12\/o.1=13\/o.1=14\/o.1=15\/o.1=16:=by omega
      rcases this with h|h|h|h|h
      .rw[Wf h,Wf h,hb];rfl
      .rw[Wc (by omega),Wf h,Wf h,hb];rfl
      .rw[Wc (by omega),Wc (by omega),Wf h,Wf h,hb];rfl
      .rw[Wc (by omega),Wc (by omega),Wc (by omega),Wf h,Wf h,hb];rfl
      .rw[Wc (by omega),Wc (by omega),Wc (by omega),Wc (by omega),Wf h,hb];rfl
     .rw[Wc ek,Wc (show¬o.1=12 by omega),Wc (show¬o.1=13 by omega),Wc (show¬o.1=14 by omega),Wc (show¬o.1=15 by omega),Wc (show¬o.1=16 by omega)];by_cases h6:o.1=6
      .rw[Wf h6,Wf h6,WS (Wwf ok h6).2 ct,Wq (by simp;omega),Xl];exact Wdf rfl rfl rfl
      .rw[Wc h6,Wc h6];by_cases h7:o.1=7
       .rw[Wf h7,Wf h7];have h:=Wwg ok h7;rw[WS h.1 ct,WJ (a:=x.pc) (b:=o.2.2.1) (by unfold I64;omega),Wap (a:=x.pc+o.2.2.1) (by omega),Xl];by_cases hg:Xc x.regs (Xa o.2.1) 0=0
        .rw[Wf hg,Wf (show WbO x.regs o.2.1 0=0 from hg)];exact Wdf rfl rfl rfl
        .rw[Wc hg,Wc (show¬WbO x.regs o.2.1 0=0 from hg)];exact Wdf rfl rfl rfl
       .rw[Wc h7,Wc h7];by_cases h8:o.1=8
        .rw[Wf h8,Wf h8,Wbs (by omega)];simp only[ret,Xd];rw[Wq (by simp;omega),Xl];exact Wdf rfl rfl rfl
        .rw[Wc h8,Wc h8];by_cases h9:o.1=9
         .rw[Wf h9,Wf h9];have hz:=kN h9;obtain⟨a,b,c,d⟩:=Wbr hz (by omega) zRM;obtain⟨m,q,e1,e2,⟨eB,gz⟩,e4,e5,e6,e7,e8,e9,ji,jH,iS,iT,hD⟩:=hx.mk24 hc hz;rw[WmU hz (by omega)];simp only[Xd];rw[d,c,e2,WE,We eB];have o1:Xc p.1 (Xa ((m:Nat):Int)) ((0,0,0,0):Opn)=opN p.1 (m:Int):=rfl;have hr:=WuQ (hc.ok m eB).1 gz;rw[←We0 eB]at hr;simp only[Wb,o1];rw[WS hr ct,Xl];exact Wdf rfl rfl rfl
         .rw[Wc h9,Wc h9,Whr hN ok (by omega) (by omega) hx.regs,Xl];exact Wdf rfl rfl rfl
theorem Wuh(hk:k<w.roots.length)(aN:w.roots[k]=x)(mo:w.roots.length<=8)(hN:1048576<N):
  Zgr N w.e (k:Int)=some (((Wo.put (WeR w x k) k).e,()),()):=by
 obtain⟨g1,g2,g3,g4,g5⟩:=woG hk aN;have dz:=Wl9 hk aN;have ct:(w.roots.map Rt.e).length=w.roots.length:=by simp
 unfold Zgr;rw[show P5 w.e=w.roots.map Rt.e from rfl,g4,g2,Wap (by omega),Xl];simp only[Wb,Was,Wu,WU,show w.e.2.1=w.token from rfl,show x.e.2.1=x.tries from rfl,show w.e.1=w.now from rfl,show w.e.2.2.1.1=w.mem.1 from rfl];have mE:∀(K0:Bool->Int->Bool->Option ((Y_World×Unit)×Unit)) (d j n:Nat) (al:Bool),j+d=w.roots.length->d<n->
   Zaa N (k:Int) k (Wg (w.roots.map Rt.e)) w.now w.token w.mem.1 w.e.2.2.2.1.2 (w.roots.map Rt.e) w.e.2.2.1.2 w.e.2.2.2.1.1 (P4 w.e) (Q6 w.e) K0 n al (j:Int)=K0 (al&&WaI k (w.roots.drop j) j) (w.roots.length:Int) false:=by
  intro K0 d
  induction d with
  |zero=>
   intro j n al hj hn;obtain⟨n,rfl⟩:∃n',n=n'+1:=⟨n-1,by omega⟩;have:j=(w.roots.map Rt.e).length:=by omega
   rw[Zaa,this,WW (Xm _),ct,Xbz];simp[WaI]
  |succ d ih=>
   intro j n al hj hn;obtain⟨n,rfl⟩:∃n',n=n'+1:=⟨n-1,by omega⟩;have ac:j<(w.roots.map Rt.e).length:=by omega
   have gQ:j<w.roots.length:=by omega
   rw[Zaa];simp only[WL ac,Ww ac,Wt ac,Wp (show j<4611686018427387904 by omega),Wb,ih (j+1) n _ (by omega) (by omega),List.getElem_map];rw[Xaz gQ,WaI];generalize WaI k (w.roots.drop (j+1)) (j+1)=b;have hp:(Rt.e w.roots[j]).1=w.roots[j].phase:=rfl;rw[hp];simp only[Wu];cases al with
   |false=>simp
   |true=>
    simp only[Wb,Xcb];by_cases h1:j=k
    .rw[Wf (by omega),We h1];simp
    .rw[Wc (by omega),Wk h1];by_cases h2:w.roots[j].phase=0
     .rw[Wf h2,We h2];simp
     .rw[Wc h2,Wk h2];have:(w.roots[j].phase==8)=decide (w.roots[j].phase=8):=by
       by_cases h3:w.roots[j].phase=8<;>simp[h3]
      rw[this];simp
 have:=mE;refine(mE _ w.roots.length 0 N true (by omega) (by omega)).trans ?_;rw[List.drop_zero,Xcb];unfold WeR;have cX:some ((S5 (Xe (w.roots.map Rt.e) k ((1:Int),(x.tries,((0:Int),((0:Int),(w.mem.1,((0:Int),((0:Int),((0:Int),((0:Int),(w.now,((0:Int),(false,(Xp (Xa (4:Int)) (0:Int),(([]:List Kc),(([]:List Kc),(([]:List Kf),(([]:List Kb),(([]:List Int),(false,(((0:Int),((0:Int),((0:Int),(0:Int)))),(((0:Int),((0:Int),((0:Int),((0:Int),((0:Int),(([]:List Kc),([]:List Int))))))),d_Family)))))))))))))))))))))) w.e,()),())=some (((Wo.put (w,{phase:=1,tries:=x.tries,rv:=w.mem.1,began:=w.now,regs:=[0,0,0,0]}) k).e,()),()):=Wdf (x':={phase:=1,tries:=x.tries,rv:=w.mem.1,began:=w.now,regs:=[0,0,0,0]}) (w':=w) rfl rfl rfl;have tf:some (((w.now,((k:Int)+1,w.e.2.2)),()),())=some (((Wo.put ({w with token:=(k:Int)+1},x) k).e,()),()):=by
  have:Wo.put ({w with token:=(k:Int)+1},x) k={w with token:=(k:Int)+1}:=by unfold Wo.put;simp only;rw[←aN,Xbg]
  rw[this];rfl
 have ax:(((decide ((0:Int)<=(4:Int)))&&(decide ((4:Int)<=(4:Int))))&&(Wz (Xa (4:Int))))=true:=rfl;have cg:some ((w.e,()),())=some (((Wo.put (w,x) k).e,()),()):=by rw[dz]
 rw[ax];simp only[Wb,cX];by_cases t0:w.token=0
 .rw[Wf t0];rw[Wc (show¬(w.token≠0/\w.token≠(k:Int)+1) by omega)];by_cases ht:x.tries>=3
  .rw[Wf ht,Wf t0,Wf ⟨ht,t0⟩];exact tf
  .rw[Wc ht,Wc (show¬w.token=(k:Int)+1 by omega),Wc (λh=>ht h.1),Wc (by omega)]
 .rw[Wc t0];by_cases t1:w.token=(k:Int)+1
  .rw[Wf t1,Wc (show¬(w.token≠0/\w.token≠(k:Int)+1) by omega),Wc (show¬(x.tries>=3/\w.token=0) by omega)];have eJ:∀b:Bool,(bif !b then some ((w.e,()),())else some (((Wo.put (w,{phase:=1,tries:=x.tries,rv:=w.mem.1,began:=w.now,regs:=[0,0,0,0]}) k).e,()),()))=some (((Wo.put (if w.token=(k:Int)+1/\b=false then(w,x)else(w,{phase:=1,tries:=x.tries,rv:=w.mem.1,began:=w.now,regs:=[0,0,0,0]})) k).e,()),()):=λb=>by
    cases b with
    |false=>rw[Wf ⟨t1,rfl⟩];exact cg
    |true=>rw[Wc (by simp)];rfl
   by_cases ht:x.tries>=3
   .rw[Wf ht,Wc t0,Wf t1];exact eJ _
   .rw[Wc ht,Wf t1];exact eJ _
  .rw[Wc t1,Wf ⟨t0,t1⟩];exact cg
theorem Wuk(hp:POk p)(hx:RLive p n x)(h2:x.phase=2)(hN:1048576<N):Zju N x.e=some (((Whi x).e,()),()):=by
 obtain⟨r0,r1,r2,r3,r4,r5,r6,r7,r8,eR,ew,dB,dF,dG,dV,fA,fB,eS,eT,fC,fD,fE⟩:=rtP x;have hc:=hp.code;obtain⟨z1,z2,z3,z4,z5,z6⟩:=hx.sz hc;obtain⟨f1,f2,f3⟩:=hx.fork h2;have bB:=hx.pc;have cP:=hc.len;have pH:x.fam.kids.length<=3:=by have:=f3.len;have:=hp.k3;omega
 have kL:=f3.len3 hp.k3;have pB:=f3.readsL;unfold Zju Whi;simp only[r3,dB,eT,fC,fD,fE,Wfm,Xd];rw[WmW pH hN,Wlb f3.regs pH (λy hy=>by
  obtain⟨i,hi,rfl⟩:=Xca hy;rw[(f3.kid i hi).regs.len];omega) hN,Wm0 (by have:=f3.buf8;omega) hN,Wq (by omega),Wbs (by omega),Wap (by omega),Wdn]
 by_cases hl:x.fam.lost=true
 .rw[Wf hl,Wf hl]
 .rw[Wc hl,Wc hl];simp only[ret,Xd,Wb];cases ho:WcH x.fam
  .rw[Wc (by simp)];rfl
  .rw[Wf rfl];rfl
theorem Wra(hk:k<w.roots.length)(aN:w.roots[k]=x)(hp:POk p)(hx:RLive p n x)(h4:x.phase=4)(hm:W0 w.mem=true):
  Zg3 N w.e k=some (((Wo.put (w,WbX w x) k).e,()),()):=by
 obtain⟨g1,g2,g3,g4,g5⟩:=woG hk aN;obtain⟨r0,r1,r2,r3,r4,r5,r6,r7,r8,eR,ew,dB,dF,dG,dV,fA,fB,eS,eT,fC,fD,fE⟩:=rtP x;have hc:=hp.code;obtain⟨z1,z2,z3,z4,z5,z6⟩:=hx.sz hc;have hz:=hx.back (.inr h4);obtain⟨m,q,e1,e2,⟨eB,gz⟩,e4,e5,e6,e7,e8,e9,ji,jH,iS,iT,hD⟩:=hx.mk24 hc hz;have co:=hx.pos h4;have bB:=hx.pc;have cP:=hc.len;unfold Zg3 WbX;simp only[Wj];obtain⟨i1,i2,i3,i4,i5⟩:=WwB hz (by omega);rw[show P5 w.e=w.roots.map Rt.e from rfl,g1,dG];simp only[Wg];rw[i1,Wb,i2,Wb];simp only[i3,i4,show S15 x.marks x.e=x.e from rfl];simp only[Xd,r4,r5,r6,dB,dF,WU,Wfm,show w.e.2.2.1.2=w.mem.2 from rfl];by_cases ac:x.pos<x.last.2.1
 .rw[Wf ac,Wf ac];have hj:x.pos.toNat<x.reads.length:=by omega
  have dj:inb x.pos x.reads.length=true:=by unfold inb;simp;omega
  have hg:Xc x.reads (Xa x.pos) ((0:Int),(0:Int))=WbO x.reads x.pos (0,0):=rfl;have hv:0<=(WbO x.reads x.pos (0,0)).1/\(WbO x.reads x.pos (0,0)).1<=7:=by
   unfold WbO;rw[WF hj];exact(hx.reads _ (Xv hj)).1
  rw[dj,hg,Wcj hm hv,show Xc w.mem.2 (Xa (WbO x.reads x.pos (0,0)).1) ((0:Int),((0:Int),(0:Int)))=WaA w.mem (WbO x.reads x.pos (0,0)).1 from rfl,Wap (by omega)];simp only[Wb,Was];by_cases a:(WaA w.mem (WbO x.reads x.pos (0,0)).1).2.2=0
  .rw[Wf a];by_cases b:(WaA w.mem (WbO x.reads x.pos (0,0)).1).2.1>x.rv
   .rw[Wf b,Wf (.inr b)];exact Wdf rfl rfl rfl
   .rw[Wc b,Wc (by omega)];exact Wdf rfl rfl rfl
  .rw[Wc a,Wf (.inl a)];exact Wdf rfl rfl rfl
 .rw[Wc ac,Wc ac];have b1:(decide ((0:Int)<=x.last.2.1)&&decide (x.last.2.1<=(x.reads.length:Int)))=true:=by simp;omega
  have b2:(decide ((0:Int)<=x.last.2.2.1)&&decide (x.last.2.2.1<=(x.writes.length:Int)))=true:=by simp;omega
  rw[b1,b2,WdF (by rw[Xbj];omega),WdF (by rw[Xbj];omega),Wbs (by rw[e9.len];omega),Wap (by omega)];simp only[Wb,ret,Xd];exact Wdf rfl rfl rfl
theorem Wrm(hk:k<w.roots.length)(aN:w.roots[k]=x)(gy:k<=8)(iZ:CmOk x.cm)(hm:W0 w.mem=true)(hh:w.hist.length<=500000)(hN:1048576<N):
  Zg4 N w.e (k:Int)=some (((Wo.put (Wbl w x k) k).e,()),()):=by
 obtain⟨g1,g2,g3,g4,g5⟩:=woG hk aN;obtain⟨r0,r1,r2,r3,r4,r5,r6,r7,r8,eR,ew,dB,dF,dG,dV,fA,fB,eS,eT,fC,fD,fE⟩:=rtP x;have bt:=Wjz iZ hm;unfold Zg4 Wbl;simp only[Wj,Wal];rw[show P5 w.e=w.roots.map Rt.e from rfl,g4,g2,Wap (by omega),Xl];simp only[Wb,r7,eR,eS,show w.e.2.2.1=w.mem from rfl,show Q6 w.e=w.hist from rfl];rw[Wdn];by_cases hd:x.doomed=true
 .rw[Wf hd,Wf hd];obtain⟨b,hb⟩:=Wr2 (N:=N) iZ hN;rw[hb];simp only[Xd,Wu,show(Wbj x.cm).e.2.2.1=(Wbj x.cm).phase from rfl];by_cases h8:(Wbj x.cm).phase=8
  .rw[Wf h8,Wf h8];have:S20 (Wbj x.cm).e (S11 false x.e)=Rt.e {x with cm:=Wbj x.cm,doomed:=false}:=rfl;rw[this,Wfm];exact Wdf rfl rfl rfl
  .rw[Wc h8,Wc h8];exact Wdf rfl rfl rfl
 .rw[Wc hd,Wc hd,Wnd iZ hm hN];simp only[Xd];obtain⟨m',c',hq⟩:∃m' c',Wdm w.mem x.cm=(m',c'):=⟨_,_,rfl⟩;rw[hq]at bt⊢;simp only at bt⊢;have pD:Za4 N (P5 c'.e)=ret c'.puts:=WdF (by have:=bt.1.plen;show c'.puts.length<=1048576;omega);have hS:S20 c'.e x.e=Rt.e {x with cm:=c'}:=rfl;rw[pD,hS,Wfm];simp only[ret,Xd];rw[Wq (by simp;omega)];simp only[Wb,Wu,WU,show c'.e.2.2.1=c'.phase from rfl,show(Cm.e x.cm).2.2.1=x.cm.phase from rfl,show P4 c'.e=c'.wv from rfl];unfold WmZ;simp only;by_cases h3:x.cm.phase<=3
  .rw[Wf h3];by_cases h4:c'.phase=4
   .rw[Wf h4,Wc (by omega),Wc (by omega),Wf (show x.cm.phase<=3/\c'.phase=4 from⟨h3,h4⟩),Wc (by omega),Wc (by omega)];exact Wdf (w':={w with mem:=m',hist:=w.hist++ [(c'.wv,(k:Int)+1,c'.puts)]}) rfl rfl rfl
   .rw[Wc h4,Wc (show¬(x.cm.phase<=3/\c'.phase=4)fromλh=>h4 h.2)];by_cases h8:c'.phase=8
    .rw[Wf h8,Wf h8];exact Wdf (w':={w with mem:=m'}) rfl rfl rfl
    .rw[Wc h8,Wc h8];by_cases h6:c'.phase=6
     .rw[Wf h6,Wf h6];by_cases h2:x.fate=2
      .rw[Wf h2,Wf h2];exact Wdf (w':={w with mem:=m'}) rfl rfl rfl
      .rw[Wc h2,Wc h2];exact Wdf (w':={w with mem:=m'}) rfl rfl rfl
     .rw[Wc h6,Wc h6];exact Wdf (w':={w with mem:=m'}) rfl rfl rfl
  .rw[Wc h3,Wc (show¬(x.cm.phase<=3/\c'.phase=4)fromλh=>h3 h.1)];by_cases h8:c'.phase=8
   .rw[Wf h8,Wf h8];exact Wdf (w':={w with mem:=m'}) rfl rfl rfl
   .rw[Wc h8,Wc h8];by_cases h6:c'.phase=6
    .rw[Wf h6,Wf h6];by_cases h2:x.fate=2
     .rw[Wf h2,Wf h2];exact Wdf (w':={w with mem:=m'}) rfl rfl rfl
     .rw[Wc h2,Wc h2];exact Wdf (w':={w with mem:=m'}) rfl rfl rfl
    .rw[Wc h6,Wc h6];exact Wdf (w':={w with mem:=m'}) rfl rfl rfl
end
section
section
variable{code:List Opn}{pc eI rl wl ul nV kK nW:Nat}{ms q:List RM}{y:RM}{n n':Int}{x:Rt}{w:Wo}{p:Pg}{k:Nat}{o:Opn}
theorem WpS(code:List Opn){a b:Nat}(h:a<=b):frk code a<=frk code b:=by
 simp_all [frk,List.Sublist.countP_le,List.take_sublist_take_left]
theorem RMk.mono(h:RMk code pc ms rl wl ul)(hs:stk code eI=stk code pc)(h1:rl<=nV)(h2:wl<=kK)(h3:ul<=nW):RMk code eI ms nV kK nW:=
 ⟨by rw[hs];exact h.pcs,λq hq=>by obtain⟨a,b,c,d⟩:=h.each q hq;grind,h.up⟩
theorem RMk.cut(h:RMk code pc ms rl wl ul)(nU:ms=q++ [y])(h1:y.2.1<=nV)(h2:y.2.2.1<=kK)(h3:y.2.2.2.1<=nW):RMk code pc ms nV kK nW:=by
 refine⟨h.pcs,λa ha=>?_,h.up⟩;obtain⟨c1,c2,c3,c4⟩:=h.each a ha;have bd:a.2.1<=y.2.1/\a.2.2.1<=y.2.2.1/\a.2.2.2.1<=y.2.2.2.1:=by
  have hu:=h.up;rw[nU]at ha hu;rcases Xo.1 ha with ha|ha
  .exact(Xah.1 hu).2.2 a ha y (by simp)
  simp_all
 grind
theorem RMk.begin(h:RMk code pc ms rl wl ul)(hp:pc<code.length)(h8:code[pc].1=8){regs:List Int}(hr:Vals 4 regs)(h1:rl<=pc+72*frk code pc)(h2:wl<=pc+8)(h3:ul<=pc):
  RMk code (pc+1) (ms++ [((pc:Int),(rl:Int),(wl:Int),(ul:Int),regs)]) rl wl ul:=by
 refine⟨?_,?_,?_⟩
 .rw[Wmm hp h8,Xz,Xz,h.pcs];rfl
 .intro q hq;rcases Xo.1 hq with hq|hq
  .exact h.each q hq
  grind
 .refine Xah.2 ⟨h.up,List.pairwise_singleton _ _,λa ha b hb=>?_⟩;rw[Xag]at hb;subst hb;obtain⟨c1,c2,c3,c4⟩:=h.each a ha;simp_all
theorem RMk.drop(h:RMk code pc ms rl wl ul)(nU:ms=q++ [y])(hs:stk code eI=(stk code pc).dropLast)(h1:y.2.1<=nV)(h2:y.2.2.1<=kK)(h3:y.2.2.2.1<=nW):RMk code eI q nV kK nW:=by
 have h':=h.cut nU h1 h2 h3;subst nU;have e:=h.pcs;refine⟨?_,λa ha=>h'.each a (List.mem_append_left _ ha),(Xah.1 h.up).1⟩
 grind
theorem RLive.wk(h:RLive p n x)(hn:n<=n'):RLive p n' x:={h with fork:=λh2=>by obtain⟨a,b,c⟩:=h.fork h2;exact⟨a,b,c.wk hn⟩}
theorem ROk.wk(h:ROk p n x)(hn:n<=n'):ROk p n' x:={h with tries:=by have:=h.tries;omega,live:=λhl=>(h.live hl).wk hn}
theorem RLive.on(cn:CC p.1)(h:RLive p n x)(h1:x.phase=1){i:Nat}(hi:i<p.1.length)(bB:x.pc=i){regs:List Int}{reads writes:List Rw}{marks:List RM}{undos:List Un}{busy:Bool}{pb:Pb}{eI:Nat}
  (hp:eI<=p.1.length) (ac:i<eI) (hr:Vals 4 regs) (pB:WjA reads) (ct:reads.length<=x.reads.length+1) (xO:WjA writes) (kJ:writes.length<=x.writes.length+1) (dr:undos.length<=x.undos.length+1) (hm:RMk p.1 eI marks reads.length writes.length undos.length) (hb:busy=true->WjJ pb=true):
  RLive p n {x with regs:=regs,reads:=reads,writes:=writes,marks:=marks,undos:=undos,busy:=busy,pb:=pb,pc:=(eI:Int)} where
 pc:=by simp_all
 spare:=h.spare
 rv:=h.rv
 regs:=hr
 reads:=pB
 rl:=by
  have h2:=h.rl;have h3:=WpS p.1 (show i<=eI by omega)
  grind
 writes:=xO
 wl:=by have:=h.wl;grind
 ul:=by have:=h.ul;grind
 marks:=by simp_all
 pb:=hb
 fork:=λh2=>by simp_all
 back:=λh2=>by simp_all
 newRv:=h.newRv
 pos:=λh2=>by simp_all
 unw:=λh2=>by simp_all
theorem Vals.le4{r:List Int}(h:Vals 4 r):r.length<=4:=Nat.le_of_eq h.len
theorem Wfl(h:ROk p n x):ROk p n (Wf3 x) where
 phase:=by show(0:Int)<=6/\(6:Int)<=8;omega
 tries:=h.tries
 live:=λh=>by(change (1:Int)<=6/\(6:Int)<=4 at h;omega)
 comm:=λh=>by(change (6:Int)=5 at h;omega)
 undos:=h.undos
 ul:=h.ul
 rg:=by show([]:List Int).length<=4;simp
 ord:=by show([]:List Int).length<=3;simp
theorem WhO(h:ROk p n x)(hl:RLive p n x):ROk p n (Wbv x):=by
 unfold Wbv;split
 .exact Wfl h
 .rename_i hc;exact{h with
   phase:=by simp_all
   live:=λ_=>{hl with
    spare:=by have:=hl.spare;grind
    pb:=λh=>by cases h
    fork:=λh=>by simp_all
    back:=λ_=>by simp_all
    pos:=λh=>by simp_all
    unw:=λh=>by simp_all}
   comm:=λh=>by simp_all}
structure QOk(p:Pg)(n:Int)(w:Wo)(q:Wo×Rt):Prop where
 root:ROk p n q.2
 mem:W0 q.1.mem=true
 shelf:ShOk q.1.shelf
 holds:HOk q.1.holds
 hist:q.1.hist.length<=w.hist.length+1
 histE:∀h∈q.1.hist,h∈w.hist\/HE h
 roots:q.1.roots=w.roots
 now:q.1.now=w.now
structure GOk(w:Wo):Prop where
 mem:W0 w.mem=true
 shelf:ShOk w.shelf
 holds:HOk w.holds
theorem GOk.st(h:GOk w){y:Rt}(hy:ROk p n y):QOk p n w (w,y):=⟨hy,h.mem,h.shelf,h.holds,by simp,λ_ hh=>.inl hh,rfl,rfl⟩
theorem GOk.qt(h:GOk w){y:Rt}(hy:ROk p n y)(t:Int):QOk p n w ({w with token:=t},y):=⟨hy,h.mem,h.shelf,h.holds,by simp,λ_ hh=>.inl hh,rfl,rfl⟩
theorem Wr5(h:GOk w)(hx:ROk p n x):QOk p n w (WkU w x k):=by
 unfold WkU;refine h.qt ?_ _;exact{hx with
  phase:=by simp_all
  live:=λh=>by simp_all
  comm:=λh=>by simp_all
  undos:=λu hu=>by cases hu
  ul:=by simp}
theorem Wno(h:GOk w)(hx:ROk p n x)(kY:0<=x.rv/\x.rv<=1000000)(hk:k<=8){out:Int}:QOk p n w (We4 w x k out):=by
 unfold We4;simp only;generalize (if out=2 then []else x.writes)=rows;split
 .exact Wr5 (x:={x with fate:=out,stamp:=x.rv}) h
   {phase:=hx.phase,tries:=hx.tries,live:=λhh=>{hx.live hh with},comm:=hx.comm,undos:=hx.undos,ul:=hx.ul,rg:=hx.rg,ord:=hx.ord}
 .refine h.st ?_;exact{hx with
   phase:=by simp_all
   live:=λh=>by simp_all
   comm:=λ_=>Wub (by omega) kY}
theorem WrS{α:Type}{l:List α}(h:l.length≠0)(d:α):Wgg l d∈l:=by
 grind [Wgg,WF,Xv]
theorem Wmj(h:GOk w)(hx:ROk p n x)(hz:x.undos.length≠0)(cn:1<=x.phase/\x.phase<=4->CC p.1/\(x.marks.length≠0->x.last.2.2.2.1<x.undos.length)):QOk p n w (WeM w x):=by
 unfold WeM;refine⟨?_,h.mem,WqL h.shelf (hx.undos _ (WrS hz _)),h.holds,by simp,λ_ hh=>.inl hh,rfl,rfl⟩;have li:x.undos.dropLast.length=x.undos.length-1:=List.length_dropLast;exact{hx with
  live:=λhh=>by
   have hl:=hx.live hh;obtain⟨c1,c2⟩:=cn hh;exact{hl with
    ul:=by have:=hl.ul;grind
    unw:=λh4=>by have:=hl.unw h4;show(x.undos.dropLast.length:Int)<=x.last.2.2.2.1;omega
    marks:=by
     show RMk p.1 x.pc.toNat x.marks x.reads.length x.writes.length x.undos.dropLast.length;by_cases hm:x.marks.length=0
     .have:x.marks= []:=Xx hm;have hM:=hl.marks;rw[this]at hM⊢;exact⟨hM.pcs,(λq hq=>by cases hq),hM.up⟩
     .obtain⟨m,q,e1,e2,⟨eB,gz⟩,e4,e5,e6,e7,e8,e9,ji,jH,iS,iT,hD⟩:=hl.mk24 c1 hm;have:=c2 hm;exact hl.marks.cut e1 ji.2.2 jH.2.2 (by omega)}
  undos:=λu hu=>hx.undos u (by grind [Xge,Xco])
  ul:=by have:=hx.ul;grind}
theorem WtD(cn:CC p.1)(h:GOk w)(hx:ROk p n x)(hl:RLive p n x)(h1:x.phase=1){i:Nat}(hi:i<p.1.length)(bB:x.pc=i)(h5:p.1[i].1=5):ROk p n (Wmd w x p.1[i]):=by
 have ci:=Wwh (cn.ok i hi).1 h5;have hB:0<=p.1[i].2.2.1/\p.1[i].2.2.1<=7:=by grind [Wau]
 have hM:=hl.marks;rw[bB,Xl]at hM;have bt:stk p.1 (i+1)=stk p.1 i:=WgI hi (by omega) (by omega);have cz:x.pc+1=((i+1:Nat):Int):=by omega
 unfold Wmd;cases hlr:Wcd x.writes p.1[i].2.2.1 with
 |some v=>
  have hv:=hl.writes _ (WiJ hlr).2;simp only[cz];exact{hx with rg:=Vals.le4 (hl.regs.set _ hv.2),live:=λ_=>RLive.on cn hl h1 hi bB (by omega) (by omega) (hl.regs.set _ hv.2) hl.reads (by omega) hl.writes (by omega) (by omega) (hM.mono bt (by omega) (by omega) (by omega)) hl.pb}
 |none=>
  simp only;have co:=WmI (rv:=x.rv) h.mem (Wpo hl.pb hB);generalize WaL w.mem x.rv (if x.busy=true then x.pb else(p.1[i].2.2.1,0,0,0))=b at*;have hp:=Wfp.1 co.1;have xP:RLive p n {x with busy:=true,pb:=b}:={hl with pb:=λ_=>co.1};have hbo:ROk p n {x with busy:=true,pb:=b}:={hx with live:=λ_=>xP};split
  .grind [WhO]
  .split
   .simp only[cz];refine{hx with rg:=Vals.le4 (hl.regs.set _ hp.2.2.2),live:=λ_=>RLive.on cn hl h1 hi bB (by omega) (by omega) (hl.regs.set _ hp.2.2.2) (λr hr=>?_) (by simp) hl.writes (by omega) (by omega) (hM.mono bt (by simp) (by omega) (by omega)) (λh=>by cases h)};rcases Xo.1 hr with hr|hr
    .exact hl.reads r hr
    simp_all
   omega
theorem Wth(cn:CC p.1)(h:GOk w)(hx:ROk p n x)(hl:RLive p n x)(h1:x.phase=1)(hk:k<=8){i:Nat}(hi:i<p.1.length)(bB:x.pc=i):QOk p n w (Wji w x k p.1):=by
 have hM:=hl.marks;rw[bB,Xl]at hM;unfold Wji;split
 .exact Wno h hx hl.rv hk
 .rename_i hz;obtain⟨m,q,e1,e2,⟨eB,gz⟩,e4,e5,e6,e7,e8,e9,ji,jH,iS,iT,hD⟩:=hl.mk24 cn hz;split
  .grind [Wmj]
  .refine h.st ?_;rw[e8];simp only[e2,Xl,←Int.natCast_succ];have ad:=e5.len;have ht:(Xal x.last.2.2.1.toNat x.writes).length=x.last.2.2.1.toNat:=by simp_all
   refine{hx with rg:=Vals.le4 (e9.set _ (by omega)),live:=λ_=>RLive.on cn hl h1 hi bB (eI:=Wkc p.1 m+1) (by omega) (by omega) (e9.set _ (by omega)) hl.reads (by omega) (λr hr=>hl.writes r (Xco hr)) (by omega) (by omega) ?_ hl.pb};exact hM.drop e1 (by rw[e5.st,e7,bB];rfl) (by omega) (by omega) (by omega)
theorem Wtg(cn:CC p.1)(h:GOk w)(hx:ROk p n x)(hl:RLive p n x)(h1:x.phase=1)(hk:k<=8){i:Nat}(hi:i<p.1.length)(bB:x.pc=i)(ek:12<=p.1[i].1):QOk p n w (WfP w x k p.1[i]):=by
 have ho:=(cn.ok i hi).1;have hM:=hl.marks;rw[bB,Xl]at hM;have bt:stk p.1 (i+1)=stk p.1 i:=WgI hi (by omega) (by omega);have cz:x.pc+1=((i+1:Nat):Int):=by omega
 have dr:=hl.ul;have cP:=cn.len;have mn:(0<=(WbZ p.1[i]).1/\(WbZ p.1[i]).1<=8)/\1<=(WbZ p.1[i]).2/\(WbZ p.1[i]).2<=2:=by
  grind [WbZ,Wj8,WeL,Wrk,WqJ,Wbb,Wsd]
 unfold WfP;cases ha:Wc7 w.holds ((k:Int)+1) (WbZ p.1[i]).1 (WbZ p.1[i]).2 with
 |none=>exact h.st (WhO hx hl)
 |some hs=>
  have xQ:HOk hs:=by
   unfold Wc7 at ha;split at ha
   .injection ha with ha;subst ha;exact Wqm h.holds (by omega) mn.1 mn.2 ‹_›
   .cases ha
  obtain⟨b1,b2,b3,b4⟩:=Wqr h.shelf hl.regs ho ek;simp only[cz];refine⟨?_,h.mem,b1,xQ,by simp,λ_ hh=>.inl hh,rfl,rfl⟩;by_cases hz:(Wa2 w.shelf p.1[i] x.regs).2.2.1=0
  .simp only[Wf hz];exact{hx with rg:=Vals.le4 b2,live:=λ_=>RLive.on cn hl h1 hi bB (by omega) (by omega) b2 hl.reads (by omega) hl.writes (by omega) (by omega) (hM.mono bt (by omega) (by omega) (by omega)) hl.pb}
  .simp only[Wc hz];refine{hx with rg:=Vals.le4 b2,live:=λ_=>RLive.on cn hl h1 hi bB (by omega) (by omega) b2 hl.reads (by omega) hl.writes (by omega) (by simp) (hM.mono bt (by omega) (by omega) (by simp)) hl.pb,undos:=λu hu=>?_,ul:=by simp;omega};rcases Xo.1 hu with hu|hu
   .exact hx.undos u hu
   simp_all
theorem WsL(hp:POk p)(h:GOk w)(hx:ROk p n x)(h1:x.phase=1)(hk:k<=8)(hn:0<=n):QOk p n w (Woy w x k p):=by
 have hl:=hx.live (by omega);have cn:=hp.code;unfold Woy;split
 .exact Wno h hx hl.rv hk
 .obtain⟨i,hi,bB,ho⟩:=Wjr (l:=p.1) hl.pc.1 (by omega);simp only[ho];obtain⟨ok,o1,ip⟩:=cn.ok i hi;have hM:=hl.marks;rw[bB,Xl]at hM;have cz:x.pc+1=((i+1:Nat):Int):=by omega
  have ct:=hl.rl;have kJ:=hl.wl;have dr:=hl.ul;rw[bB,Xl]at ct;split
  .exact h.st (WtD cn h hx hl h1 hi bB ‹_›)
  .split
   .grind [Wth]
   .split
    .rename_i gq;refine h.st ?_;exact{hx with
      phase:=by simp_all
      live:=λ_=>{hl with
       fork:=λ_=>⟨by simp_all,by simp_all,Wr9 hl.regs hn⟩
       back:=λh=>by simp_all
       pos:=λh=>by simp_all
       unw:=λh=>by simp_all}
      comm:=λh=>by simp_all}
    .split
     .grind [Wtg]
     .split
      .refine h.st ?_;have hk:=Wwf ok ‹_›;have bt:stk p.1 (i+1)=stk p.1 i:=WgI hi (by omega) (by omega);simp only[cz];refine{hx with live:=λ_=>RLive.on cn hl h1 hi bB (by omega) (by omega) hl.regs hl.reads (by omega) (λr hr=>?_) (by simp) (by omega) (hM.mono bt (by omega) (by simp) (by omega)) hl.pb};rcases Xo.1 hr with hr|hr
       .exact hl.writes r hr
       .rw[Xag]at hr;subst hr;have:=hk.1;unfold Wau at this;exact⟨by simp_all,hl.regs.get _⟩
      .split
       .refine h.st ?_;obtain⟨s1,s2⟩:=cn.sk i hi ‹_›;have hk:=Wwg ok ‹_›;have bt:stk p.1 (i+1)=stk p.1 i:=WgI hi (by omega) (by omega);have nf:stk p.1 (i+1+p.1[i].2.2.1.toNat)=stk p.1 i:=by grind [Wpw]
        by_cases hg:WbO x.regs p.1[i].2.1 0=0
        .simp only[Wf hg,show x.pc+p.1[i].2.2.1+1=((i+1+p.1[i].2.2.1.toNat:Nat):Int) by omega];exact{hx with live:=λ_=>RLive.on cn hl h1 hi bB s1 (by omega) hl.regs hl.reads (by omega) hl.writes (by omega) (by omega) (hM.mono nf (by omega) (by omega) (by omega)) hl.pb}
        .simp only[Wc hg,cz];exact{hx with live:=λ_=>RLive.on cn hl h1 hi bB (by omega) (by omega) hl.regs hl.reads (by omega) hl.writes (by omega) (by omega) (hM.mono bt (by omega) (by omega) (by omega)) hl.pb}
       .split
        .refine h.st ?_;simp only[cz];rw[bB];exact{hx with live:=λ_=>RLive.on cn hl h1 hi bB (by omega) (by omega) hl.regs hl.reads (by omega) hl.writes (by omega) (by omega) (hM.begin hi ‹_› hl.regs (by omega) (by omega) (by omega)) hl.pb}
        .split
         .rename_i h9;refine h.st ?_;have hz:x.marks.length≠0:=λhz=>by
           have h1:=Wm Xb hM.pcs;simp only[Xu,hz]at h1;have h2:=Wa3 cn.up i (by omega);have h3:=cn.up i hi
           grind [WaC,Wl4]
          obtain⟨m,q,e1,e2,⟨eB,gz⟩,e4,e5,e6,e7,e8,e9,ji,jH,iS,iT,hD⟩:=hl.mk24 cn hz;simp only[cz];rw[e8];exact{hx with rg:=Vals.le4 (hl.regs.set _ (by omega)),live:=λ_=>RLive.on cn hl h1 hi bB (by omega) (by omega) (hl.regs.set _ (by omega)) hl.reads (by omega) hl.writes (by omega) (by omega) (hM.drop e1 (Wn7 hi h9) (by omega) (by omega) (by omega)) hl.pb}
         .refine h.st ?_;have bt:stk p.1 (i+1)=stk p.1 i:=WgI hi (by omega) (by omega);simp only[cz];exact{hx with rg:=Vals.le4 (Wmr ok (by omega) (by omega) hl.regs),live:=λ_=>RLive.on cn hl h1 hi bB (by omega) (by omega) (Wmr ok (by omega) (by omega) hl.regs) hl.reads (by omega) hl.writes (by omega) (by omega) (hM.mono bt (by omega) (by omega) (by omega)) hl.pb}
theorem WtL(h:GOk w)(hx:ROk p n x)(hu:x.phase=0)(cP:0<=(p.1.length:Int)):QOk p n w (WeR w x k):=by
 have ls:=WC h.mem;unfold WeR;split
 .exact h.st hx
 .split
  .exact h.qt hx _
  .split
   .exact h.st hx
   .refine h.st ?_;exact{
     phase:=by simp_all
     tries:=hx.tries
     live:=λ_=>{
      pc:=by simp_all
      spare:=by simp_all
      rv:=⟨ls.2.1,ls.2.2.1⟩
      regs:=⟨rfl,λv hv=>by simp_all⟩
      reads:=λr hr=>by cases hr
      rl:=by simp;omega
      writes:=λr hr=>by cases hr
      wl:=by simp
      ul:=by simp
      marks:=⟨by simp[stk],(λq hq=>by cases hq),List.Pairwise.nil⟩
      pb:=λh=>by cases h
      fork:=λh=>by simp_all
      back:=λh=>by simp_all
      newRv:=by simp_all
      pos:=λh=>by simp_all
      unw:=λh=>by simp_all}
     comm:=λh=>by simp_all
     undos:=λu hu=>by cases hu
     ul:=by simp
     rg:=by simp
     ord:=by simp}
theorem Wnx{codes:List (List Opn)}{f:Fm}(h:FOk codes n f):WjA (Wg6 f)/\(Wg6 f).length<=8:=by
 refine⟨λr hr=>?_,by unfold Wg6;rw[Xu];exact h.buf8⟩;obtain⟨e,he,rfl⟩:=Xw.1 hr;have:=h.bufE e he;omega
theorem WkB{codes:List (List Opn)}{f:Fm}(h:FOk codes n f)(h3:codes.length<=3):Vals 4 (WfZ f):=by
 have hl:=h.len;have hr:=h.regs;unfold WfZ;rw[Wf ⟨Wcn.2 hr,by omega⟩];refine⟨by simp[hr.len];omega,λv hv=>?_⟩;rcases Xo.1 hv with hv|hv
 .obtain⟨y,hy,rfl⟩:=Xw.1 hv;unfold WuF;split
  .rename_i hc;exact(Wcn.1 hc.2).get _
  .omega
 .exact hr.val v (List.mem_of_mem_drop hv)
theorem WtU(hp:POk p)(hx:ROk p n x)(h2:x.phase=2):ROk p n (Whi x):=by
 have hl:=hx.live (by omega);have cn:=hp.code;obtain⟨f1,f2,f3⟩:=hl.fork h2;obtain⟨i,hi,bB,ho⟩:=Wjr (l:=p.1) hl.pc.1 f1;rw[ho]at f2;have hM:=hl.marks;have ct:=hl.rl;have dr:=hl.ul;rw[bB,Xl]at hM ct;unfold Whi;split
 .exact Wfl hx
 .split
  .have hz:x.marks= []:=by
    have h1:=Wm Xb hM.pcs;simp only[Xu]at h1;have h3:=Wa3 cn.up i (by omega);have h4:=(cn.fk i hi f2).1;simp_all
   have bt:stk p.1 (i+1)=stk p.1 i:=WgI hi (by omega) (by omega);have xR:=Wnx f3;have kL:=f3.len3 hp.k3;have xS:=f3.readsL;have hfk:frk p.1 (i+1)=frk p.1 i+1:=by grind [Wh6]
   exact{hx with
    phase:=by simp_all
    rg:=(WkB f3 hp.k3).le4
    ord:=kL
    live:=λ_=>{hl with
     pc:=by grind
     regs:=WkB f3 hp.k3
     reads:=λr hr=>by
      rcases Xo.1 hr with hr|hr
      .exact hl.reads r hr
      .exact f3.readsE r hr
     rl:=by
      grind
     writes:=xR.1
     wl:=by grind
     ul:=by grind
     marks:=by
      show RMk p.1 (x.pc+1).toNat x.marks _ _ _;rw[show(x.pc+1).toNat=i+1 by omega];rw[hz]at hM⊢;exact⟨by rw[bt];exact hM.pcs,(λq hq=>by cases hq),List.Pairwise.nil⟩
     fork:=λh=>by simp_all
     back:=λh=>by simp_all
     pos:=λh=>by simp_all
     unw:=λh=>by simp_all}
    comm:=λh=>by simp_all}
  .exact hx
theorem Wq4(hp:POk p)(h:GOk w)(hx:ROk p n x)(h3:x.phase=3):QOk p n w (WbA w x):=by
 have hl:=hx.live (by omega);have hz:=hl.back (.inl h3);obtain⟨m,q,e1,e2,⟨eB,gz⟩,e4,e5,e6,e7,e8,e9,ji,jH,iS,iT,hD⟩:=hl.mk24 hp.code hz;have ls:=WC h.mem;unfold WbA;split
 .exact Wmj h hx (by omega) λ_=>⟨hp.code,λ_=>by omega⟩
 .refine h.st ?_;exact{hx with
   phase:=by simp_all
   live:=λ_=>{hl with
    fork:=λh=>by simp_all
    back:=λ_=>hz
    newRv:=⟨ls.2.1,ls.2.2.1⟩
    pos:=λ_=>by(show(0:Int)<=0/\(0:Int)<=x.last.2.1;omega)
    unw:=λ_=>by(show(x.undos.length:Int)<=x.last.2.2.2.1;omega)}
   comm:=λh=>by simp_all}
theorem WqW(hp:POk p)(h:GOk w)(hx:ROk p n x)(h4:x.phase=4):ROk p n (WbX w x):=by
 have hl:=hx.live (by omega);have hz:=hl.back (.inr h4);have co:=hl.pos h4;obtain⟨m,q,e1,e2,⟨eB,gz⟩,e4,e5,e6,e7,e8,e9,ji,jH,iS,iT,hD⟩:=hl.mk24 hp.code hz;unfold WbX;split
 .simp only;split
  .exact Wfl hx
  .exact{hx with live:=λ_=>{hl with pos:=λ_=>by(show 0<=x.pos+1/\x.pos+1<=x.last.2.1;omega)}}
 .rename_i dq;have bt:stk p.1 (m+1)=stk p.1 x.pc.toNat:=by
   have xT:=hl.pc;rw[Wmm eB gz,e7];rcases Wcf (stk p.1 x.pc.toNat)with h0|⟨t,j,ht⟩
   .have h1:=Wm Xb hl.marks.pcs;simp_all
   .have h1:=hl.marks.pcs;rw[e1,ht]at h1;simp only[Xz,List.map_cons,List.map_nil]at h1;have h2:=(List.append_inj' h1 rfl).2;injection h2 with h2;rw[e2]at h2;rw[ht,List.dropLast_concat,show m=j by omega]
  have un:=WpS p.1 (show m<=m+1 by omega);rw[e2,Xl]at ji;have cz:x.last.1+1=((m+1:Nat):Int):=by omega
  have t1:(Xal x.last.2.1.toNat x.reads).length=x.last.2.1.toNat:=by simp_all
  have t2:(Xal x.last.2.2.1.toNat x.writes).length=x.last.2.2.1.toNat:=by simp_all
  exact{hx with
   phase:=by simp_all
   rg:=e9.le4
   live:=λ_=>{hl with
    pc:=by grind
    rv:=hl.newRv
    regs:=e9
    reads:=λr hr=>hl.reads r (Xco hr)
    rl:=by
     grind
    writes:=λr hr=>hl.writes r (Xco hr)
    wl:=by grind
    ul:=by
     show(x.undos.length:Int)<=x.last.1+1;have:=hl.unw h4;omega
    marks:=by
     show RMk p.1 (x.last.1+1).toNat x.marks (Xal x.last.2.1.toNat x.reads).length (Xal x.last.2.2.1.toNat x.writes).length x.undos.length;rw[cz,Xl,t1,t2];exact(hl.marks.cut e1 (by omega) (by omega) hD).mono bt (Xm _) (Xm _) (Xm _)
    fork:=λh=>by simp_all
    back:=λh=>by omega
    newRv:=by simp_all
    pos:=λh=>by simp_all
    unw:=λh=>by simp_all}
   comm:=λh=>by simp_all}
end
end
section
section
variable{N:Nat}{w:Wo}{k:Nat}{x:Rt}{p:Pg}{n:Int}{ps:List Pg}
theorem Wrg(h:GOk w)(hx:ROk p n x)(h5:x.phase=5)(hk:k<=8):QOk p n w (Wbl w x k):=by
 have hc:=hx.comm h5;unfold Wbl;split
 .split
  .exact h.st (Wfl hx)
  .refine h.st ?_;exact{hx with live:=λhh=>by simp_all,comm:=λ_=>WqH hc}
 .have bt:=Wjz hc h.mem;obtain⟨m',c',hq⟩:∃m' c',Wdm w.mem x.cm=(m',c'):=⟨_,_,rfl⟩;simp only[hq]at bt⊢;refine⟨?_,bt.2,h.shelf,h.holds,?_,?_,rfl,rfl⟩
  .have hy:ROk p n {x with cm:=c'}:={hx with live:=λhh=>by simp_all,comm:=λ_=>bt.1};unfold WmZ;simp only;split
   .exact Wfl hy
   .split
    .have fW:(if x.fate=2 then(6:Int)else 7)=6\/(if x.fate=2 then(6:Int)else 7)=7:=by split<;>simp
     generalize (if x.fate=2 then(6:Int)else 7)=ph at*;exact{hx with
      phase:=by grind
      live:=λhh=>by grind
      comm:=λhh=>by simp_all}
    .exact hy
  .simp only;split<;>simp
  .simp only;intro h hh;split at hh
   .rcases Xo.1 hh with hh|hh
    .grind
    .rw[Xag]at hh;subst hh;exact .inr ⟨bt.1.plen,bt.1.rows,by grind,by grind⟩
   simp_all
theorem WpG(hp:POk p)(h:GOk w)(hx:ROk p n x)(hk:k<=8)(hn:0<=n):QOk p (n+1) w (Whp w x k p):=by
 have jW:=hx.wk (show n<=n+1 by omega);unfold Whp;by_cases hd:x.doomed=true/\1<=x.phase/\x.phase<=4
 .rw[Wf hd];exact h.st (Wfl jW)
 rw[Wc hd];by_cases h0:x.phase=0
 .simp_all [Wf,WtL]
 rw[Wc h0];by_cases h1:x.phase=1
 .rw[Wf h1];grind [WsL]
 rw[Wc h1];by_cases h2:x.phase=2
 .rw[Wf h2];exact h.st (WtU hp jW h2)
 rw[Wc h2];by_cases h3:x.phase=3
 .simp_all [Wf,Wq4]
 rw[Wc h3];by_cases h4:x.phase=4
 .rw[Wf h4];exact h.st (WqW hp h jW h4)
 rw[Wc h4];by_cases h5:x.phase=5
 .simp_all [Wf,Wrg]
 rw[Wc h5];by_cases h6:x.phase=6
 .rw[Wf h6];by_cases hz:x.undos.length>0
  .rw[Wf hz];grind [Wmj]
  .rw[Wc hz];refine h.st ?_;exact{jW with
    phase:=by simp_all
    live:=λhh=>by simp_all
    comm:=λhh=>by simp_all}
 rw[Wc h6];by_cases h7:x.phase=7
 .rw[Wf h7];have hg:GOk {w with holds:=WV w.holds ((k:Int)+1)}:=⟨h.mem,h.shelf,WiP h.holds⟩;by_cases hf:x.fate=0
  .rw[Wf hf];refine⟨?_,h.mem,h.shelf,WiP h.holds,by simp,λ_ hh=>.inl hh,rfl,rfl⟩;exact{
    phase:=by simp_all
    tries:=by have:=hx.tries;grind
    live:=λhh=>by simp_all
    comm:=λhh=>by simp_all
    undos:=λu hu=>by cases hu
    ul:=by simp
    rg:=by simp
    ord:=by simp}
  .rw[Wc hf];have:=Wr5 (k:=k) hg jW;exact⟨this.root,this.mem,this.shelf,this.holds,this.hist,this.histE,this.roots,this.now⟩
 .rw[Wc h7];exact h.st jW
theorem WtK(hk:k<w.roots.length)(aN:w.roots[k]=x)(mo:w.roots.length<=8)(hp:POk p)(h:GOk w)(hx:ROk p n x)(hn:n<=200000)(hh:w.hist.length<=500000)(hN:1048576<N):
  Zim N w.e (k:Int) p=some (((Wo.put (Whp w x k p) k).e,()),()):=by
 obtain⟨g1,g2,g3,g4,g5⟩:=woG hk aN;obtain⟨r0,r1,r2,r3,r4,r5,r6,r7,r8,eR,ew,dB,dF,dG,dV,fA,fB,eS,eT,fC,fD,fE⟩:=rtP x;have ni:k<=8:=by omega
 have dz:=Wl9 hk aN;have xU:=hx.tries;have tg:=hx.ul;have nC:=Wd8 h.holds;unfold Zim Whp;simp only[Wj];rw[show P5 w.e=w.roots.map Rt.e from rfl,g4,g2,Wap (by omega),Wap (show 0<=x.e.2.1/\x.e.2.1<=1000000 by omega)];simp(maxSteps:=4000000) only[g3,r0,r7,eR,dV,Wb,W1,ret,Xd,Wfm,Wu,WU,show w.e.2.2.1.1=w.mem.1 from rfl,Wg,show P4 w.e=w.holds from rfl];rw[Wh2 h.holds (by omega) hN];simp only[ret,Xd];have hS4:S4 (WV w.holds ((k:Int)+1)) w.e=Wo.e {w with holds:=WV w.holds ((k:Int)+1)}:=rfl;have xV:S5 (Xe (w.roots.map Rt.e) (Xa (k:Int)) x.e) (S4 (WV w.holds ((k:Int)+1)) w.e)=Wo.e {w with holds:=WV w.holds ((k:Int)+1)}:=(woG (w:={w with holds:=WV w.holds ((k:Int)+1)}) hk aN).2.2.1;rw[xV,WrN (w:={w with holds:=WV w.holds ((k:Int)+1)}) hk aN (by omega),Wuh hk aN mo hN];have gJ:∀(A:Option ((Y_World×Unit)×Unit)),A=some (((Wo.put (
   if x.phase=0 then WeR w x k else
   if x.phase=1 then Woy w x k p else
   if x.phase=2 then(w,Whi x)else
   if x.phase=3 then WbA w x else
   if x.phase=4 then(w,WbX w x)else
   if x.phase=5 then Wbl w x k else
   if x.phase=6 then(if x.undos.length>0 then WeM w x else(w,{x with phase:=7}))else
   if x.phase=7 then
    (if x.fate=0 then({w with holds:=WV w.holds ((k:Int)+1)},{tries:=x.tries+1})
     else WkU {w with holds:=WV w.holds ((k:Int)+1)} x k)
   else(w,x)) k).e,()),())->¬(x.doomed=true/\1<=x.phase/\x.phase<=4)->A=some (((Wo.put (
   if x.doomed=true/\1<=x.phase/\x.phase<=4 then(w,Wf3 x)else
   if x.phase=0 then WeR w x k else
   if x.phase=1 then Woy w x k p else
   if x.phase=2 then(w,Whi x)else
   if x.phase=3 then WbA w x else
   if x.phase=4 then(w,WbX w x)else
   if x.phase=5 then Wbl w x k else
   if x.phase=6 then(if x.undos.length>0 then WeM w x else(w,{x with phase:=7}))else
   if x.phase=7 then
    (if x.fate=0 then({w with holds:=WV w.holds ((k:Int)+1)},{tries:=x.tries+1})
     else WkU {w with holds:=WV w.holds ((k:Int)+1)} x k)
   else(w,x)) k).e,()),()):=λA hA hn=>by grind
 have kO:(if x.phase=0 then(some (((Wo.put (WeR w x k) k).e,()),()):Option ((Y_World×Unit)×Unit)).bind (λo6=>some ((o6.1.1,()),()))
   else if x.phase=1 then(Zjt N w.e (k:Int) p).bind (λo7=>some ((o7.1.1,()),()))
   else if x.phase=2 then(Zju N x.e).bind (λo8=>some ((S5 (Xe (w.roots.map Rt.e) (Xa (k:Int)) o8.1.1) w.e,()),()))
   else if x.phase=3 then(Zes N x.e).bind (λo9=>if(x.undos.length:Int)>o9.2.1.2.2.2 then(Zcj N w.e (Xa (k:Int))).bind (λbo=>some ((bo.1.1,()),()))else some ((S5 (Xe (w.roots.map Rt.e) (Xa (k:Int)) (S6 0 (S5 w.mem.1 (S0 4 x.e)))) w.e,()),()))
   else if x.phase=4 then(Zg3 N w.e (Xa (k:Int))).bind (λcL=>some ((cL.1.1,()),()))
   else if x.phase=5 then(Zg4 N w.e (k:Int)).bind (λcF=>some ((cF.1.1,()),()))
   else if x.phase=6 then(if(x.undos.length:Int)>0 then(Zcj N w.e (Xa (k:Int))).bind (λbZ=>some ((bZ.1.1,()),()))else some ((S5 (Xe (w.roots.map Rt.e) (Xa (k:Int)) (7,x.e.2)) w.e,()),()))
   else if x.phase=7 then(if x.fate=0 then some ((S5 (Xe (w.roots.map Rt.e) (Xa (k:Int)) ((0:Int),(x.e.2.1+1,((0:Int),((0:Int),((0:Int),((0:Int),((0:Int),((0:Int),((0:Int),((0:Int),((0:Int),(false,(([]:List Int),(([]:List Kc),(([]:List Kc),(([]:List Kf),(([]:List Kb),(([]:List Int),(false,(((0:Int),((0:Int),((0:Int),(0:Int)))),(((0:Int),((0:Int),((0:Int),((0:Int),((0:Int),(([]:List Kc),([]:List Int))))))),d_Family)))))))))))))))))))))) (S4 (WV w.holds ((k:Int)+1)) w.e),()),())else(some (((Wo.put (WkU {w with holds:=WV w.holds ((k:Int)+1)} x k) k).e,()),()):Option ((Y_World×Unit)×Unit)).bind (λku=>some ((ku.1.1,()),())))
   else some ((w.e,()),()))=some (((Wo.put (
   if x.phase=0 then WeR w x k else
   if x.phase=1 then Woy w x k p else
   if x.phase=2 then(w,Whi x)else
   if x.phase=3 then WbA w x else
   if x.phase=4 then(w,WbX w x)else
   if x.phase=5 then Wbl w x k else
   if x.phase=6 then(if x.undos.length>0 then WeM w x else(w,{x with phase:=7}))else
   if x.phase=7 then
    (if x.fate=0 then({w with holds:=WV w.holds ((k:Int)+1)},{tries:=x.tries+1})
     else WkU {w with holds:=WV w.holds ((k:Int)+1)} x k)
   else(w,x)) k).e,()),()):=by
  rw[Xl];by_cases h0:x.phase=0
  .simp_all
  .rw[Wc h0,Wc h0];by_cases h1:x.phase=1
   .rw[Wf h1,Wf h1,Wv1 hk aN ni hp (hx.live (by omega)) hx.undos h.mem h.shelf h.holds hN];rfl
   .rw[Wc h1,Wc h1];by_cases h2:x.phase=2
    .rw[Wf h2,Wf h2,Wuk hp (hx.live (by omega)) h2 hN];exact Wdf rfl rfl rfl
    .rw[Wc h2,Wc h2];by_cases h3:x.phase=3
     .have hl:=hx.live (by omega);obtain⟨z1,z2,z3,z4,z5,z6⟩:=hl.sz hp.code;rw[Wf h3,Wf h3,WmU (hl.back (.inl h3)) (by omega)];simp only[Xd];have pI:=(hl.mk24 hp.code (hl.back (.inl h3)));obtain⟨m,q,e1,e2,_,_,_,_,_,_,_,_,_,hD⟩:=pI;unfold WbA;by_cases fF:(x.undos.length:Int)>x.last.2.2.2.1
      .rw[Wf fF,Wf fF,Wl0 hk aN (by omega) (by omega) hx.undos h.shelf hN];rfl
      .rw[Wc fF,Wc fF];exact Wdf rfl rfl rfl
     .rw[Wc h3,Wc h3];by_cases h4:x.phase=4
      .rw[Wf h4,Wf h4,Wra hk aN hp (hx.live (by omega)) h4 h.mem];rfl
      .rw[Wc h4,Wc h4];by_cases h5:x.phase=5
       .rw[Wf h5,Wf h5,Wrm hk aN ni (hx.comm h5) h.mem hh hN];rfl
       .rw[Wc h5,Wc h5];by_cases h6:x.phase=6
        .rw[Wf h6,Wf h6];by_cases hz:x.undos.length>0
         .rw[Wf (by omega),Wf hz,Wl0 hk aN (by omega) (by omega) hx.undos h.shelf hN];rfl
         .rw[Wc (by omega),Wc hz];exact Wdf rfl rfl rfl
        .rw[Wc h6,Wc h6];by_cases h7:x.phase=7
         .rw[Wf h7,Wf h7];by_cases hf:x.fate=0
          .rw[Wf hf,Wf hf,hS4];exact Wdf (w:=w) (w':={w with holds:=WV w.holds ((k:Int)+1)}) (x':={tries:=x.tries+1}) rfl rfl rfl
          .rw[Wc hf,Wc hf];rfl
         simp_all
 rw[Wdn];by_cases hd:x.doomed=true
 .rw[Wf hd];by_cases fW:1<=x.phase/\x.phase<=4
  .rw[We fW.1,We fW.2,Wf (show x.doomed=true/\1<=x.phase/\x.phase<=4 from⟨hd,fW⟩),Xl];exact Wdf rfl rfl rfl
  .have hb:(decide (1<=x.phase)&&decide (x.phase<=4))=false:=by
    rw[Xcl,Ws,Ws];omega
   rw[hb];exact gJ _ kO (λhc=>fW hc.2)
 grind
end
end
section
noncomputable def WoA(p:Pg):Bool:=p.2.all Whe&&(Wrr p.1&&(decide (p.2.length<=3)&&beq (p.1.any λo=>o.1==11) (decide (p.2.length>0))))
noncomputable def WpN(s:Sc):Bool:=WtT s.1&&(decide (s.2.1.length<=4)&&(decide (s.2.2.length<=400)&&s.2.1.all WoA))
structure PB(p:Pg):Prop where
 code:p.1.length<=1048576
 kids:p.2.length<=1048576
 each:∀c∈p.2,c.length<=1048576
structure SB(s:Sc):Prop where
 cells:s.1.1.length<=1048576
 map:s.1.2.1.length<=1048576
 progs:s.2.1.length<=1048576
 each:∀p∈s.2.1,PB p
 acts:s.2.2.length<=1048576
variable{N:Nat}{s:Sc}{p:Pg}{w:Wo}{n:Int}{a:Ac}
theorem Wv3(h:WoA p=true):POk p:=by
 unfold WoA at h;simp only[Xi,Xad,Wi]at h;exact⟨WwA h.2.1,λc hc=>Wxd (h.1 c hc),h.2.2.1⟩
theorem WjC(h:WpN s=true):ThOk s.1/\s.2.1.length<=4/\s.2.2.length<=400/\∀p∈s.2.1,POk p:=by
 simp_all [WpN,Xi,Xad,Wi,Wtm,Wv3]
theorem WoK{α:Type}(l:List α)(k:Nat):decide ((Wg l)<=(k:Int))=decide (l.length<=k):=by
 simp[Wg,We,Wk]
theorem Wjm{α:Type}(l:List α)(k:Nat):decide ((Wg l)>(k:Int))=decide (l.length>k):=by
 simp[Wg,We,Wk]
theorem WiO(l k:Nat):decide (l>k)= !decide (l<=k):=by
 grind
theorem WmD{l:List Opn}(hl:l.length<=1048576)(hN:1048576<N):Ziy N l=ret (l.any λo=>o.1==11):=by
 unfold Ziy Zae Zs;have h1:=Win (l:=l) (p:=λo=>o.1==11) (N:=N) (lp:=λn j=>Zg N l (λaq=>(some ((),(aq,())))) (λaz bc=>(some ((),((-1:Int),())))) n j) (K0:=λj=>some ((),(j,()))) (K1:=some ((),((-1:Int),()))) (by omega) (by omega)
  (λn j hj=>by
   simp only[Zg,WL hj,Ww hj,Wt hj,Wp (show j<4611686018427387904 by omega),Wb,Zqe,Xd])
  (λn=>by simp[Zg,WW,Xm,Wa])
 rw[h1];have h2:=Wlx (p:=λo:Opn=>o.1==11) l 0;cases hf:fnd (λo:Opn=>o.1==11) l 0 with
 |some r=>
  simp_all
 |none=>
  grind
theorem Wns(h:PB p)(hN:1048576<N):Zkh N p=ret (WoA p):=by
 have hc:=h.code;have hk:=h.kids;unfold Zkh WoA;have h1:=Wx (l:=p.2) (V:=Unit) (R:=Unit×Ko) (lp:=λn j v=>Zee N p.2 p (some ((),(false,()))) (λaq az=>
  ((Zdl N p.1).bind λbZ=>
 (bif bZ.2.1 then
 (bif decide ((Wg p.2)<=(3:Int))then
 ((Ziy N p.1).bind λdQ=>
 (some ((),(beq dQ.2.1 (decide ((Wg p.2)>(0:Int))),()))))
 else
 (some ((),(false,()))))
 else
 (some ((),(false,())))))) n j) (n:=N) (by omega)
  (body:=λj x v k=>(Zjn N x).bind λo=>bif !o.2.1 then some ((),(false,()))else k v) (K:=λ_ v=>((Zdl N p.1).bind λbZ=>
 (bif bZ.2.1 then
 (bif decide ((Wg p.2)<=(3:Int))then
 ((Ziy N p.1).bind λdQ=>
 (some ((),(beq dQ.2.1 (decide ((Wg p.2)>(0:Int))),()))))
 else
 (some ((),(false,()))))
 else
 (some ((),(false,()))))))
  (λn i v hi=>by simp only[Zee,WL hi,Ww hi,Wt hi,Wp (show i<4611686018427387904 by omega),Wb])
  (λn v=>by simp[Zee,WW,Xm,Wa]) ()
 refine h1.trans ?_;rw[W7 (p:=λx=>!Whe x) (E:=λ_=>some ((),(false,()))) p.2 0 () (λj x v k hx=>by rw[Wpi (by have:=h.each x hx;omega) hN];rfl),Wbm,WhG (by omega) hN,WmD (by omega) hN];simp only[ret,Xd];rw[show(3:Int)=((3:Nat):Int)from rfl,WoK,show(0:Int)=((0:Nat):Int)from rfl,Wjm];cases p.2.all Whe<;>cases Wrr p.1<;>cases decide (p.2.length<=3)<;>rfl
theorem Wn0(h:PB p)(hN:1048576<N):Zih N p=ret (WoA p):=by
 have hc:=h.code;have hk:=h.kids;unfold Zih WoA;have h1:=Wx (l:=p.2) (V:=Unit) (R:=Unit×Ko) (lp:=λn j v=>Zci N p (some ((),(false,()))) (λaT aq=>(some ((),(true,())))) n j) (n:=N) (by omega)
  (body:=λj x v k=>(Zjl N x).bind λo=>bif !o.2.1 then some ((),(false,()))else k v) (K:=λ_ v=>some ((),(true,())))
  (λn i v hi=>by simp only[Zci,WL hi,Ww hi,Wt hi,Wp (show i<4611686018427387904 by omega),Wb])
  (λn v=>by simp[Zci,WW,Xm,Wa]) ()
 have h2:Zci N p (some ((),(false,()))) (λaT aq=>(some ((),(true,())))) N 0=ret (p.2.all Whe):=by
  refine h1.trans ?_;rw[W7 (p:=λx=>!Whe x) (E:=λ_=>some ((),(false,()))) p.2 0 () (λj x v k hx=>by rw[Wo5 (by have:=h.each x hx;omega) hN];rfl),Wbm];cases p.2.all Whe<;>rfl
 rw[h2,WhC (by omega) hN,Whx (by omega) hN];simp only[ret,Xd];rw[show(3:Int)=((3:Nat):Int)from rfl,Wjm,WiO,show(0:Int)=((0:Nat):Int)from rfl,Wjm];generalize beq (p.1.any λo=>o.1==11) (decide (p.2.length>0))=b;cases p.2.all Whe<;>cases Wrr p.1<;>cases decide (p.2.length<=3)<;>cases b<;>rfl
theorem Wke{t:List Int×List Int×Int}(h1:t.1.length<=1048576)(h2:t.2.1.length<=1048576)(hN:1048576<N):Zh4 N t=ret (WtT t):=by
 unfold Zh4 WtT WnI;have e:((Wg t.2.1) !=(8:Int))= !decide (t.2.1.length=8):=by
  grind [Wg]
 have h3:=Wx (l:=t.2.1) (V:=Unit) (R:=Unit×Ko) (lp:=λn j v=>Zbh N t (some ((),(false,()))) (λaT aq=>(some ((),(true,())))) n j) (n:=N) (by omega)
  (body:=λj x v k=>bif !(decide (0<=x)&&decide (x<=65536))then some ((),(false,()))else k v) (K:=λ_ v=>some ((),(true,())))
  (λn i v hi=>by simp only[Zbh,WL hi,Ww hi,Wt hi,Wp (show i<4611686018427387904 by omega),Wb,WcF,ret,Xd])
  (λn v=>by simp[Zbh,WW,Xm,Wa]) ()
 have h4:Zbh N t (some ((),(false,()))) (λaT aq=>(some ((),(true,())))) N 0=ret (t.2.1.all λx=>decide (0<=x)&&decide (x<=65536)):=by
  refine h3.trans ?_;rw[W7 (p:=λx=>!(decide (0<=x)&&decide (x<=65536))) (E:=λ_=>some ((),(false,()))) t.2.1 0 () (λj x v k _=>rfl),Wbm];cases t.2.1.all _<;>rfl
 rw[WhE h1 hN,e,Wak,h4];cases Wdr t.1<;>cases decide (t.2.1.length=8)<;>cases Wbf t.2.2<;>cases t.2.1.all _<;>rfl
theorem Wj6(h:SB s)(hN:1048576<N):Zh5 N s=ret (WpN s):=by
 have h1:=h.cells;have h2:=h.map;have h3:=h.progs;unfold Zh5 WpN;have h4:=Wx (l:=s.2.1) (V:=Unit) (R:=Unit×Ko) (lp:=λn j v=>Zbi N s (some ((),(false,()))) (λi9 ar=>(some ((),(true,())))) n j) (n:=N) (by omega)
  (body:=λj x v k=>(Zih N x).bind λo=>bif !o.2.1 then some ((),(false,()))else k v) (K:=λ_ v=>some ((),(true,())))
  (λn i v hi=>by simp only[Zbi,WL hi,Ww hi,Wt hi,Wp (show i<4611686018427387904 by omega),Wb])
  (λn v=>by simp[Zbi,WW,Xm,Wa]) ()
 have h5:Zbi N s (some ((),(false,()))) (λi9 ar=>(some ((),(true,())))) N 0=ret (s.2.1.all WoA):=by
  refine h4.trans ?_;rw[W7 (p:=λx=>!WoA x) (E:=λ_=>some ((),(false,()))) s.2.1 0 () (λj x v k hx=>by rw[Wn0 (h.each x hx) hN];rfl),Wbm];cases s.2.1.all WoA<;>rfl
 rw[h5,Wke (by omega) (by omega) hN];simp only[ret,Xd];rw[show(4:Int)=((4:Nat):Int)from rfl,Wjm,WiO,show(400:Int)=((400:Nat):Int)from rfl,Wjm,WiO];cases WtT s.1<;>cases decide (s.2.1.length<=4)<;>cases decide (s.2.2.length<=400)<;>rfl
theorem WjX(h:SB s)(hN:1048576<N):Znu N s=ret (WpN s):=by
 have h1:=h.cells;have h2:=h.map;have h3:=h.progs;unfold Znu WpN Z8 Zp;have h4:=Wx (l:=s.2.1) (V:=Unit) (R:=Unit×Kh) (lp:=λn j v=>Zb N s.2.1 (λaq=>(some ((),(aq,())))) (λaz bc=>(some ((),((-1:Int),())))) n j) (n:=N) (by omega)
  (body:=λj x v k=>(Zlm N x).bind λo=>bif o.2.1 then some ((),(j,()))else k v) (K:=λ_ v=>some ((),((-1:Int),())))
  (λn i v hi=>by simp only[Zb,WL hi,Ww hi,Wt hi,Wp (show i<4611686018427387904 by omega),Wb])
  (λn v=>by simp[Zb,WW,Xm,Wa]) ()
 have h5:((Zb N s.2.1 (λaq=>(some ((),(aq,())))) (λaz bc=>(some ((),((-1:Int),())))) N 0).bind λo2=>some ((),(decide (o2.2.1>=(0:Int)),())))=ret (!s.2.1.all WoA):=by
  have h6:=h4;rw[h6,WdT (p:=λx=>!WoA x) (E:=λj _=>some ((),(j,()))) s.2.1 0 () (λj x v k hx=>by unfold Zlm;rw[Wns (h.each x hx) hN];rfl)];have h7:=Wlx (p:=λx=>!WoA x) s.2.1 0;rw[Wbm]at h7;rw[←h7];cases hf:fnd (λx=>!WoA x) s.2.1 0 with
  |some r=>simp_all
  |none=>rfl
 rw[Wj0 (by omega) (by omega) hN];simp only[ret,Xd];rw[h5,show(4:Int)=((4:Nat):Int)from rfl,WoK,show(400:Int)=((400:Nat):Int)from rfl,WoK];cases WtT s.1<;>cases decide (s.2.1.length<=4)<;>cases decide (s.2.2.length<=400)<;>cases s.2.1.all WoA<;>rfl
end
end Go.Sx
