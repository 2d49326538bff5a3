/- Plain laws of the Lean functions. -/
import Derived.Test.YtaohbbihecfgcaaGreatMW1
open Int renaming tdiv_eq_ediv_of_nonneg→Xcx,toNat→Xa,toNat_natCast→Xk
open Option renaming bind_some→Xd,getD_some→Xdn,isSome_some→Xey
open Bool renaming and_self→Xal,not_true→Xo,and_eq_true→Xi,and_eq_false_iff→Xbw,not_false→Xbn,false_eq_true→Xbc,true_and→Xbv
open Nat renaming le_refl→Xl,zero_add→Xat,sub_zero→Xdf,lt_trichotomy→Xfa
open List renaming getElem?_eq_getElem→Xs,getElem_mem→Xab,length_set→Xav,getElem_set→Xci,length→Xb,set→Xe,set_set→Xcq,all_eq_true→Xae,replicate→Xp,getElem_replicate→Xdi,mem_cons_self→Xj,length_cons→Xq,mem_cons_of_mem→Xf,drop_length→Xbr,drop_eq_getElem_cons→Xai,pairwise_iff_getElem→Xap,filter_cons→Xbg,append→Xg,append_eq→Xaz,mem_append→Xn,mem_singleton→Xag,eq_nil_of_length_eq_zero→Xz,mem_map→Xv,mem_filter→Xax,getElem_of_mem→Xbu,getD→Xc,length_append→Xw,length_nil→Xbq,take→Xaj,filter_eq_self→Xeo,length_map→Xx,set_getElem_self→Xba,dropLast_eq_take→Xge,length_take→Xbh,pairwise_append→Xah,map_append→Xy,mem_of_mem_take→Xcj
namespace Go.Sx
set_option linter.unusedVariables false
set_option linter.unusedSimpArgs false
section
def Wa1(s:Int):Int:=(s-1)/65536
def WaR(k:Int):Int:=(7*k+3)%4
structure SlOk(l:List Int):Prop where
 len:l.length=16
 each:∀i (h:i<l.length),l[i]=0\/((1<=l[i]/\l[i]<=524288)/\WaR (Wa1 l[i])=((i/4:Nat):Int))
 one:∀i j (hi:i<l.length) (hj:j<l.length),i<j->l[i]≠0->l[j]≠0->Wa1 l[i]≠Wa1 l[j]
def WkO(k s:Int):Bool:=decide (s>0)&&decide (Wa1 s=k)
def Wkw(l:List Int)(k:Int):Option (Nat×Int):=fnd (WkO k) l 0
def Wed(l:List Int)(k:Int):Nat:=if Wbt l (4*WaR k) 0=0 then(4*WaR k).toNat else(4*WaR k).toNat+1
def Wkf(l:List Int)(k v:Int):List Int:=match Wkw l k with
 |some r=>l.set r.1 (1+65536*k+v)
 |none=>l.set (Wed l k) (1+65536*k+v)
def Wca(l:List Int)(k:Int):Int:=match Wkw l k with
 |some r=>(r.2-1)%65536+1
 |none=>0
def Whi(l:List Int)(k:Int):List Int:=match Wkw l k with
 |some r=>l.set r.1 0
 |none=>l
variable{N:Nat}{l:List Int}{k v:Int}
theorem WrR{n:Int}(h:I64 n):IntKind.wrap .i64 n=n:=wrap_i64 h
theorem WlT{s:Int}(h:1<=s/\s<=524288):Zjg N s=ret (Wa1 s):=by
 unfold Zjg;rw[WQ (by unfold I64;omega)];have:Wom .i64 (s-1) 65536=Wa1 s:=by
  unfold Wom Wa1;rw[Xcx (by omega),WrR (by unfold I64;omega)]
 rw[this];rfl
theorem Whw{s:Int}(h:1<=s/\s<=524288):0<=Wa1 s/\Wa1 s<=7:=by unfold Wa1;omega
theorem Wd7:Za4 N k=ret (decide (0<=k)&&decide (k<=7)):=by simp[Za4,WX]
theorem WjO(hk:0<=k/\k<=7)(hv:0<=v/\v<=65535):Zka N k v=ret (1+65536*k+v):=by
 unfold Zka;rw[WgF (by unfold I64;omega),WI (a:=1) (by unfold I64;omega),WI (by unfold I64;omega)]
theorem WjJ(hk:0<=k/\k<=7):Zkl N k=ret (WaR k):=by
 unfold Zkl;rw[Wd7,WgF (by unfold I64;omega),WI (by unfold I64;omega)];have:Wgi (7*k+3) 4=WaR k:=by grind [Wgi,WaR,Int.tmod_eq_emod_of_nonneg]
 simp only[ret,Xd,We hk.1,We hk.2,Xal,Xo,Wc,this];rfl
theorem SlOk.val(h:SlOk l){i:Nat}(hi:i<l.length)(hn:l[i]≠0):1<=l[i]/\l[i]<=524288:=by
 rcases h.each i hi with h0|h0
 .omega
 omega
theorem Wez(h:SlOk l)(hN:1048576<N):Zhm N l k=ret (match Wkw l k with|some r=>(r.1:Int)|none=>-1):=by
 unfold Zhm Wkw;have hl:=h.len;have h1:=Wio (l:=l) (p:=WkO k) (N:=N) (lp:=λn j=>Zea N k l (λaU=>(some ((),(aU,())))) (λdH bR=>(some ((),((-1:Int),())))) n j) (K0:=λj=>some ((),(j,()))) (K1:=some ((),((-1:Int),()))) (by omega) (by omega)
  (λn j hj=>by
   simp only[Zea,WF hj,Wu hj,Ww hj,Wm (show j<4611686018427387904 by omega),Wa];unfold WkO;by_cases h0:l[j]>0
   .rw[WlT (h.val hj (by omega))]
    grind
   grind)
  (λn=>by simp[Zea,WO,Xl,Wc])
 rw[h1];cases fnd (WkO k) l 0<;>rfl
theorem WbF(h:SlOk l)(hN:1048576<N):Zdk N l=ret true:=by
 have hl:=h.len;have lp:∀(d j n:Nat) (s:List Bool),j+d=16->d<n->s.length=8->(∀c:Nat,s.getD c false=true->∃i,∃hi:i<l.length,i<j/\l[i]≠0/\Wa1 l[i]=c)->
   Zb2 N l (some ((),(false,()))) (λqc tG ip=>(some ((),(true,())))) n (j:Int) s=ret true:=by
  intro d
  induction d with
  |zero=>
   intro j n s hj hn _ _;obtain⟨n,rfl⟩:∃n',n=n'+1:=⟨n-1,by omega⟩;have:j=l.length:=by omega
   subst this;simp[Zb2,WO,Xl,Wc]
  |succ d ih=>
   intro j n s hj hn hs hb;obtain⟨n,rfl⟩:∃n',n=n'+1:=⟨n-1,by omega⟩;have hlt:j<l.length:=by omega
   simp only[Zb2,WF hlt,Wu hlt,Ww hlt,Wm (show j<4611686018427387904 by omega),Wa,Wv];by_cases h0:l[j]=0
   .rw[Wf h0];exact ih (j+1) n s (by omega) (by omega) hs λc hc=>by
     grind
   .rw[Wb h0];have hv:=h.val hlt h0;have hk:=Whw hv;have qP:WaR (Wa1 l[j])=((j/4:Nat):Int):=by
     rcases h.each j hlt with h1|h1
     .omega
     omega
    have hq:Wom .i64 (j:Int) 4=((j/4:Nat):Int):=by
     unfold Wom;rw[Xcx (by omega),WrR (by unfold I64;omega)];omega
    have cJ:s.getD (Xa (Wa1 l[j])) false=false:=by
     rw[Bool.eq_false_iff];intro hc;obtain⟨i,hi,h1,h2,h3⟩:=hb _ hc;exact h.one i j hi hlt h1 h2 h0 (by omega)
    rw[WjO (k:=7) (v:=65535) (by omega) (by omega),WlT hv];simp only[ret,Xd,WX,show(1:Int)+65536*7+65535=524288 from rfl,We hv.1,We hv.2,Xal,Xo,Wc,WjJ hk,qP,hq,bne_self_eq_false];rw[show inz (4:Int)=true from rfl];simp only[Wa];rw[show inb (Wa1 l[j]) 8=true by grind [inb],hs,We rfl,cJ];simp only[Xal,Wa,Wc];refine ih (j+1) n _ (by omega) (by omega) (by simp_all) λc hc=>?_;by_cases hcj:c=(Wa1 l[j]).toNat
    .grind
    .have:s.getD c false=true:=by
      grind
     grind
 unfold Zdk;rw[show((Wh l) !=(16:Int))=false by grind [Wh]];simp only[Wc];refine lp 16 0 N _ (by omega) (by omega) (by simp) λc hc=>?_;rw[List.getD_eq_getElem?_getD]at hc;by_cases h8:c<8
 .grind
 simp_all
theorem Wb9(h:SlOk l){r:Nat×Int}(hr:Wkw l k=some r):∃hi:r.1<l.length,l[r.1]=r.2/\1<=r.2/\r.2<=524288/\Wa1 r.2=k/\WaR k=((r.1/4:Nat):Int):=by
 obtain⟨h1,h2,h3,h4⟩:=Wcl hr;rw[Xat]at h3;rw[Xdf,Xs h3]at h4;injection h4 with h4;unfold WkO at h1;simp only[Xi,Wi]at h1;have h5:=h.val h3 (by omega);rcases h.each r.1 h3 with h6|h6
 .omega
 simp_all
theorem WhW(h:SlOk l)(hr:Wkw l k=none)(i:Nat)(hi:i<l.length)(hn:l[i]≠0):Wa1 l[i]≠k:=by
 have:=Wgh hr l[i] (Xab hi);unfold WkO at this;have h1:=h.val hi hn
 grind
theorem WqD(k:Int):0<=WaR k/\WaR k<=3:=by unfold WaR;omega
theorem Wik(h:SlOk l)(hk:0<=k/\k<=7)(hr:Wkw l k=none):∃hi:Wed l k<l.length,l[Wed l k]=0/\WaR k=((Wed l k/4:Nat):Int)/\(Wed l k=(4*WaR k).toNat\/(Wed l k=(4*WaR k).toNat+1/\Wbt l (4*WaR k) 0≠0)):=by
 have hl:=h.len;have hb:=WqD k;unfold Wed;have h1:(4*WaR k).toNat<l.length:=by omega
 have hg:Wbt l (4*WaR k) 0=l[(4*WaR k).toNat]:=WJ h1 _;by_cases h0:Wbt l (4*WaR k) 0=0
 .grind
 .simp only[Wb h0];have h2:(4*WaR k).toNat+1<l.length:=by omega
  refine⟨h2,?_,by omega,.inr ⟨trivial,h0⟩⟩;refine Classical.byContradiction λhn=>?_;rw[hg]at h0;have a1:=WhW h hr _ h1 h0;have a2:=WhW h hr _ h2 hn;have a3:=h.one _ _ h1 h2 (by omega) h0 hn;have b1:=Whw (h.val h1 h0);have b2:=Whw (h.val h2 hn);rcases h.each _ h1 with c1|c1
  .exact h0 c1
  .rcases h.each _ h2 with c2|c2
   .exact hn c2
   grind [Wa1,WaR]
theorem Wse(hk:0<=k/\k<=7)(hv:0<=v/\v<=65535):(1<=1+65536*k+v/\1+65536*k+v<=524288)/\Wa1 (1+65536*k+v)=k:=by unfold Wa1;omega
theorem Wj2(h:SlOk l){i:Nat}(hi:i<l.length){s:Int}(hs:s=0\/((1<=s/\s<=524288)/\WaR (Wa1 s)=((i/4:Nat):Int)))(ho:s≠0->∀j (hj:j<l.length),j≠i->l[j]≠0->Wa1 l[j]≠Wa1 s):SlOk (l.set i s) where
 len:=by rw[Xav];exact h.len
 each:=λj hj=>by
  rw[Xav]at hj;rw[Xci];by_cases he:i=j
  .simp_all
  .rw[Wb he];exact h.each j hj
 one:=λa b ha hb fL=>by
  rw[Xav]at ha hb;rw[Xci,Xci];by_cases h1:i=a
  .grind
  .rw[Wb h1];by_cases h2:i=b
   .grind
   .rw[Wb h2];exact h.one a b ha hb fL
theorem WfP(h:SlOk l)(hk:0<=k/\k<=7)(hv:0<=v/\v<=65535):SlOk (Wkf l k v):=by
 obtain⟨k1,k2⟩:=Wse hk hv;unfold Wkf;cases hr:Wkw l k with
 |some r=>
  obtain⟨hi,h1,h2,h3,h4,h5⟩:=Wb9 h hr;refine Wj2 h hi (.inr ⟨k1,by simp_all⟩) λ_ j hj hne hn=>?_;rw[k2,←h4,←h1];rcases Nat.lt_or_gt_of_ne hne with hlt|hlt
  .exact h.one j r.1 hj hi hlt hn (by omega)
  .exactλe=>h.one r.1 j hi hj hlt (by omega) hn e.symm
 |none=>
  grind [Wik,Wj2,WhW]
theorem Wlj(h:SlOk l):SlOk (Whi l k):=by
 unfold Whi;cases hr:Wkw l k with
 |some r=>
  obtain⟨hi,h1,_⟩:=Wb9 h hr;exact Wj2 h hi (.inl rfl) λh=>WC rfl h
 |none=>exact h
theorem WcR(l:List Int)(k:Int):0<=Wca l k/\Wca l k<=65536:=by
 unfold Wca;cases Wkw l k<;>simp only<;>omega
theorem WcB(h:SlOk l)(hk:0<=k/\k<=7)(hN:1048576<N):Zis N l k=some ((),((if Wca l k=0 then 0 else Wca l k-1),(decide (Wca l k≠0),()))):=by
 unfold Zis Wca;rw[WbF h hN,Wd7,Wez h hN];simp only[ret,Xd,Xo,Wc,We hk.1,We hk.2,Xal];cases hr:Wkw l k with
 |none=>rfl
 |some r=>
  obtain⟨hi,h1,h2,h3,h4,h5⟩:=Wb9 h hr;simp only[Wk (show¬((r.1:Int)<0) by omega),Wc,WB,We hi,Wa,Ww hi,h1];rw[WQ (by unfold I64;omega),Was (by omega),Wb (by omega),We (by omega)];simp only[Int.add_sub_cancel];rfl
theorem WcH(h:SlOk l)(hk:0<=k/\k<=7)(hv:0<=v/\v<=65535)(hN:1048576<N):Zfm N l k v=some ((),(Wkf l k v,(Wca l k,(true,())))):=by
 have hl:=h.len;unfold Zfm;rw[Wb3 (by omega),WbF h hN,Wd7,War,Wez h hN,WcB h hk hN,WjO hk hv,WjJ hk];simp only[ret,Xd,Xo,Wc,We hk.1,We hk.2,Xal,Wag.2 hv];unfold Wkf Wca;cases hr:Wkw l k with
 |some r=>
  obtain⟨hi,h1,h2,h3,h4,h5⟩:=Wb9 h hr;simp only[We (show((r.1:Int)>=0) by omega),Wa,WB,We hi,Xk];rw[Wb (by omega),WI (by unfold I64;omega)];simp_all
 |none=>
  simp only[show decide ((-1:Int)>=0)=false from rfl,Wc];have hb:=WqD k;obtain⟨hi,h1,h2,h3⟩:=Wik h hk hr;rw[WgF (by unfold I64;omega)];obtain⟨N',rfl⟩:∃N',N=N'+1+1:=⟨N-2,by omega⟩;have gU:4*WaR k=(((4*WaR k).toNat:Nat):Int):=by omega
  have fq:∀n,Zcw (N'+1+1) k v l (λjD hC=>(bif inb jD (Xb l)then(some ((),(Xe l (Xa jD) (1+65536*k+v),(0,(true,())))))else none)) (n+1) (Wed l k:Int)=some ((),(l.set (Wed l k) (1+65536*k+v),((0:Int),(true,())))):=λn=>by
   simp only[Zcw,Wu hi,Ww hi,h1,Wa,bne_self_eq_false,Wc];rw[Xk]
  rcases h3 with h3|⟨h3,h4⟩
  .grind
  .have hlt:(4*WaR k).toNat<l.length:=by omega
   have hg:Wbt l (4*WaR k) 0=l[(4*WaR k).toNat]:=WJ hlt _;rw[hg]at h4;have dj:=fq N';rw[gU];rw[Zcw];simp only[Wu hlt,Ww hlt,Wa];rw[show(l[(4*WaR k).toNat] !=0)=true by grind,Wm (by omega),←h3]
   grind
theorem Wd0(h:SlOk l)(hk:0<=k/\k<=7)(hN:1048576<N):Zkm N l k=some ((),(Whi l k,(Wca l k,(true,())))):=by
 have hl:=h.len;unfold Zkm;rw[Wb3 (by omega),WbF h hN,Wd7,Wez h hN,WcB h hk hN];simp only[ret,Xd,Xo,Wc,We hk.1,We hk.2,Xal];unfold Whi Wca;cases hr:Wkw l k with
 |some r=>
  obtain⟨hi,h1,h2,h3,h4,h5⟩:=Wb9 h hr;simp only[Wk (show¬((r.1:Int)<0) by omega),Wa,Wc,WB,We hi,Xk];rw[Wb (by omega),WI (by unfold I64;omega)];simp_all
 |none=>rfl
end
section
abbrev Shf:=List Int×Int
abbrev Un:=Int×Int×Int
structure ShOk(s:Shf):Prop where
 slots:SlOk s.1
 cnt:0<=s.2/\s.2<=65535
def UnV(u:Un):Prop:=(u.1=1/\(0<=u.2.1/\u.2.1<=7)/\0<=u.2.2/\u.2.2<=65535)\/(u.1=2/\(0<=u.2.1/\u.2.1<=7)/\u.2.2=0)\/(u.1=3/\u.2.1=0/\0<=u.2.2/\u.2.2<=65535)
def WfB(s:Shf)(u:Un):Shf:=
 if u.1=1 then(Wkf s.1 u.2.1 u.2.2,s.2)else if u.1=2 then(Whi s.1 u.2.1,s.2)else if u.1=3 then(s.1,(s.2-u.2.2+65536)%65536)else s
def Wfg(k e:Int):Un:=if e=0 then(2,k,0)else(1,k,e-1)
def WaM(s:Shf)(o:Opn)(r:List Int):Shf×List Int×Un:=
 if o.1=12 then((Wkf s.1 o.2.1 (Wbt r o.2.2.1 0),s.2),WnD r o.2.2.2 (Wca s.1 o.2.1%65536),Wfg o.2.1 (Wca s.1 o.2.1))else
 if o.1=13 then(s,WnD r o.2.1 (Wca s.1 o.2.2.1%65536),(0,0,0))else
 if o.1=14 then((Whi s.1 o.2.1,s.2),WnD r o.2.2.1 (Wca s.1 o.2.1%65536),Wfg o.2.1 (Wca s.1 o.2.1))else
 if o.1=15 then((s.1,(s.2+Wbt r o.2.1 0)%65536),r,(3,0,Wbt r o.2.1 0))else
 (s,WnD r o.2.1 s.2,(0,0,0))
def WbB(o:Opn):Int×Int:=
 if o.1=12\/o.1=14 then(o.2.1,2)else if o.1=13 then(o.2.2.1,1)else if o.1=15 then(8,1)else(8,2)
section
variable{o:Opn}
theorem Wp5(h:Wdx o=true)(h5:o.1=12):Wem o.2.1=true/\W3 o.2.2.1=true/\W3 o.2.2.2=true:=by
 obtain⟨k,a,b,c⟩:=o;simp only at h5;subst h5;have:(Wem a&&W3 b&&W3 c)=true:=h;simp_all
theorem WrI(h:Wdx o=true)(h5:o.1=13):W3 o.2.1=true/\Wem o.2.2.1=true:=by
 obtain⟨k,a,b,c⟩:=o;simp only at h5;subst h5;have:(W3 a&&Wem b&&(c==(0:Int)))=true:=h;simp_all
theorem WpV(h:Wdx o=true)(h5:o.1=14):Wem o.2.1=true/\W3 o.2.2.1=true:=by
 obtain⟨k,a,b,c⟩:=o;simp only at h5;subst h5;have:(Wem a&&W3 b&&(c==(0:Int)))=true:=h;simp_all
theorem Wux(h:Wdx o=true)(h5:o.1=15):W3 o.2.1=true:=by
 obtain⟨k,a,b,c⟩:=o;simp only at h5;subst h5;have:(W3 a&&(b==(0:Int))&&(c==(0:Int)))=true:=h;simp_all
theorem Ws3(h:Wdx o=true)(h5:o.1=16):W3 o.2.1=true:=by
 obtain⟨k,a,b,c⟩:=o;simp only at h5;subst h5;have:(W3 a&&(b==(0:Int))&&(c==(0:Int)))=true:=h;simp_all
end
theorem WaY{x:Int}:Wem x=true↔0<=x/\x<=7:=by unfold Wem;simp
variable{N:Nat}{s:Shf}{u:Un}{o:Opn}{r:List Int}
theorem Wmp{k e:Int}(hk:0<=k/\k<=7)(he:0<=e/\e<=65536):UnV (Wfg k e):=by
 unfold Wfg UnV
 grind
theorem WpQ(h:ShOk s)(hu:UnV u):ShOk (WfB s u):=by
 unfold WfB;rcases hu with⟨h1,h2,h3⟩|⟨h1,h2,h3⟩|⟨h1,h2,h3⟩
 .rw[Wf h1];exact⟨WfP h.slots h2 h3,h.cnt⟩
 .rw[Wb (by omega),Wf h1];exact⟨Wlj h.slots,h.cnt⟩
 .rw[Wb (by omega),Wb (by omega),Wf h1];exact⟨h.slots,by omega⟩
theorem Wpg(h:ShOk s)(hr:Vals 4 r)(ho:Wdx o=true)(dQ:12<=o.1):ShOk (WaM s o r).1/\Vals 4 (WaM s o r).2.1/\((WaM s o r).2.2.1≠0->UnV (WaM s o r).2.2)/\((WaM s o r).2.2.1=0->(WaM s o r).1=s):=by
 have mz:=WiZ ho;unfold WaM;split
 .obtain⟨a,b,c⟩:=Wp5 ho ‹_›;rw[WaY]at a;have hg:=WcR s.1 o.2.1;exact⟨⟨WfP h.slots a (hr.get _),h.cnt⟩,hr.set _ (by omega),λ_=>Wmp a hg,λh=>by unfold Wfg at h;split at h<;>(simp_all)⟩
 .split
  .exact⟨h,hr.set _ (by omega),λh=>WC rfl h,λ_=>rfl⟩
  .split
   .obtain⟨a,b⟩:=WpV ho ‹_›;rw[WaY]at a;have hg:=WcR s.1 o.2.1;exact⟨⟨Wlj h.slots,h.cnt⟩,hr.set _ (by omega),λ_=>Wmp a hg,λh=>by unfold Wfg at h;split at h<;>(simp_all)⟩
   .split
    .have:=hr.get o.2.1.toNat;have:=h.cnt;refine⟨⟨h.slots,by grind⟩,hr,λ_=>.inr (.inr ⟨rfl,rfl,hr.get _⟩),λh=>by simp_all⟩
    .exact⟨h,hr.set _ h.cnt,λh=>WC rfl h,λ_=>rfl⟩
theorem Wes(h:ShOk s)(hN:1048576<N):Zl4 N s=ret true:=by
 unfold Zl4;rw[WbF h.slots hN,War,Wag.2 h.cnt];rfl
theorem WfR(h:ShOk s):Zji N s=ret s:=by
 unfold Zji;rw[Wb3 (by have:=h.slots.len;omega)];rfl
theorem WiS(hu:UnV u):Zrr N u=ret true:=by
 unfold Zrr;simp only[Wv,Wd7,War,ret,Xd];rcases hu with⟨h1,h2,h3⟩|⟨h1,h2,h3⟩|⟨h1,h2,h3⟩
 .simp_all [Wb,Wf,Wag]
 .simp_all
 simp_all [Wb,Wf,Wag]
theorem Wis(h:ShOk s)(hu:UnV u)(hN:1048576<N):Zp9 N s u=some ((),(WfB s u,(true,()))):=by
 unfold Zp9 WfB;rw[WfR h,WiS hu];simp only[ret,Xd];rw[Wes h hN];simp only[ret,Xd,Xo,Wc,Wv];have hc:=h.cnt;rcases hu with⟨h1,h2,h3⟩|⟨h1,h2,h3⟩|⟨h1,h2,h3⟩
 .rw[Wf h1,Wf h1,WcH h.slots h2 h3 hN];rfl
 .rw[Wb (by omega),Wf h1,Wb (by omega),Wf h1,Wd0 h.slots h2 hN];rfl
 .rw[Wb (by omega),Wb (by omega),Wf h1,Wb (by omega),Wb (by omega),Wf h1];rw[WQ (by unfold I64;omega),WI (by unfold I64;omega),Was (by omega)];rfl
theorem We7{k e:Int}(he:0<=e/\e<=65536):Zn2 N k e=ret (Wfg k e):=by
 unfold Zn2 Wfg;rw[Wv,WQ (by unfold I64;omega)];split<;>rfl
theorem WkG(ho:Wdx o=true)(dQ:12<=o.1):Zml N o=some ((),((WbB o).1,((WbB o).2,()))):=by
 have mz:=WiZ ho;unfold Zml WbB;rw[WeN,ho];simp only[ret,Xd,Xo,Wc,Wv];have:o.1=12\/o.1=13\/o.1=14\/o.1=15\/o.1=16:=by omega
 rcases this with h|h|h|h|h<;>simp[h]
theorem WiI(h:ShOk s)(hr:Vals 4 r)(ho:Wdx o=true)(dQ:12<=o.1)(hN:1048576<N):
  Zqa N s o r=some ((),((WaM s o r).1,((WaM s o r).2.1,((WaM s o r).2.2,(true,()))))):=by
 have mz:=WiZ ho;have bQ:=hr.len;have hc:=h.cnt;unfold Zqa WaM;rw[WfR h,Wb3 (by omega)];simp only[ret,Xd];rw[Wes h hN,Wc3 (by omega) hN,Wb1.2 hr,Wgb,Wk2 ho dQ];simp only[ret,Xd,Xo,Wc,bne_self_eq_false,Wv,show inz (65536:Int)=true from rfl,Wa,Ws,Xav];by_cases e1:o.1=12
 .obtain⟨a,b,c⟩:=Wp5 ho e1;rw[WaY]at a;rw[Wf e1,Wf e1,WR b bQ,WR c bQ];have hg:=WcR s.1 o.2.1;rw[WcH h.slots a (hr.get _) hN];simp only[Wa,Xd,We7 hg,ret];rw[Was (by omega)];rfl
 .rw[Wb e1,Wb e1];by_cases e2:o.1=13
  .obtain⟨a,b⟩:=WrI ho e2;rw[WaY]at b;have hg:=WcR s.1 o.2.2.1;rw[Wf e2,Wf e2,WR a bQ,WcB h.slots b hN];simp only[Wa,Xd];by_cases hz:Wca s.1 o.2.2.1=0
   .rw[hz];rfl
   .rw[Wb hz,We hz,WI (by unfold I64;omega),Was (by omega),Int.sub_add_cancel];simp only[Wa,Xcq];rfl
  .rw[Wb e2,Wb e2];by_cases e3:o.1=14
   .obtain⟨a,b⟩:=WpV ho e3;rw[WaY]at a;have hg:=WcR s.1 o.2.1;rw[Wf e3,Wf e3,WR b bQ,Wd0 h.slots a hN];simp only[Wa,Xd,We7 hg,ret];rw[Was (by omega)];rfl
   .rw[Wb e3,Wb e3];by_cases e4:o.1=15
    .have a:=Wux ho e4;have hv:=hr.get o.2.1.toNat;rw[Wf e4,Wf e4,WR a bQ];simp only[Wa];rw[WI (by unfold I64;omega),Was (by omega)];rfl
    .have a:=Ws3 ho (by omega);rw[Wb e4,Wb e4,WR a bQ];rfl
def Wl4(l:List Int):Bool:=decide (l.length=8)&&l.all λx=>decide (0<=x)&&decide (x<=65536)
structure ThOk(t:List Int×List Int×Int):Prop where
 cells:Vals 8 t.1
 map:t.2.1.length=8/\∀x∈t.2.1,0<=x/\x<=65536
 cnt:0<=t.2.2/\t.2.2<=65535
def WrU(t:List Int×List Int×Int):Bool:=WcT t.1&&(Wl4 t.2.1&&Wa2 t.2.2)
theorem Wso{t:List Int×List Int×Int}:WrU t=true↔ThOk t:=by
 unfold WrU Wl4;simp only[Xi,WkN,Wag,Wi,Xae];exact⟨λh=>⟨h.1,h.2.1,h.2.2⟩,λh=>⟨h.cells,h.map,h.cnt⟩⟩
theorem WhV{l:List Int}(hl:l.length<=1048576)(hN:1048576<N):Zjf N l=ret (Wl4 l):=by
 unfold Zjf Wl4;have h1:=Wy (l:=l) (V:=Unit) (R:=Unit×Kq) (lp:=λn j v=>Ze5 N l (some ((),(false,()))) (λaw aB=>(some ((),((Wh l)==(8:Int),())))) n j) (n:=N) (by omega)
  (body:=λj x v k=>bif !(decide (0<=x)&&decide (x<=65536))then some ((),(false,()))else k v) (K:=λ_ v=>some ((),((Wh l)==(8:Int),())))
  (λn i v hi=>by simp only[Ze5,WF hi,Wu hi,Ww hi,Wm (show i<4611686018427387904 by omega),Wa,WX,ret,Xd])
  (λn v=>by simp[Ze5,WO,Xl,Wc]) ()
 refine h1.trans ?_;rw[W4 (p:=λx=>!(decide (0<=x)&&decide (x<=65536))) (E:=λ_=>some ((),(false,()))) l 0 () (λj x v k _=>rfl),Wa4];have e:((Wh l)==(8:Int))=decide (l.length=8):=by
  grind [Wh]
 rw[e];cases l.all _<;>cases decide (l.length=8)<;>rfl
theorem WiX{t:List Int×List Int×Int}(h1:t.1.length<=1048576)(h2:t.2.1.length<=1048576)(hN:1048576<N):Zol N t=ret (WrU t):=by
 unfold Zol WrU;rw[Wg2 h1 hN,WhV h2 hN,War];cases WcT t.1<;>cases Wl4 t.2.1<;>rfl
def Wct:List Int->Nat->List Int->List Int
 | [],_,l=>l
 |x::m,k,l=>Wct m (k+1) (if x>0 then Wkf l k (x-1)else l)
def WjQ(m:List Int):List Int:=Wct m 0 (Xp 16 0)
theorem Win:SlOk (Xp 16 0) where
 len:=by simp
 each:=λi h=>.inl (Xdi ..)
 one:=λi j hi hj _ h=>WC (Xdi ..) h
theorem WiJ:∀(m:List Int) (k:Nat) (l:List Int),k+m.length<=8->(∀x∈m,0<=x/\x<=65536)->SlOk l->SlOk (Wct m k l)
 | [],_,l,_,_,h=>h
 |x::m,k,l,hk,hx,h=>by
  have h0:=hx x (Xj ..);rw[Xq]at hk;refine WiJ m (k+1) _ (by omega) (λy hy=>hx y (Xf _ hy)) ?_
  grind [WfP]
theorem Wqx{m:List Int}(hl:m.length=8)(hx:∀x∈m,0<=x/\x<=65536):SlOk (WjQ m):=WiJ m 0 _ (by omega) hx Win
theorem WgJ{m:List Int}(hl:m.length=8)(hx:∀x∈m,0<=x/\x<=65536)(hN:1048576<N):Za5 N m=ret (WjQ m):=by
 have hm:Wl4 m=true:=by simp_all [Wl4,Xi,Wi,Xae]
 unfold Za5 WjQ;rw[WhV (by omega) hN,hm];simp only[ret,Xd,Xo,Wc];rw[show Zuv N=ret (Xp 16 0)from rfl];simp only[ret,Xd];have lp:∀(d j n:Nat) (l:List Int),j+d=m.length->d<n->SlOk l->Zbg N m (λdH bR cC=>(some ((),(cC,())))) n (j:Int) l=ret (Wct (m.drop j) j l):=by
  intro d
  induction d with
  |zero=>
   intro j n l hj hn hs;obtain⟨n,rfl⟩:∃n',n=n'+1:=⟨n-1,by omega⟩;have:j=m.length:=by omega
   subst this;simp[Zbg,WO,Xl,Wc,Xbr,Wct]
  |succ d ih=>
   intro j n l hj hn hs;obtain⟨n,rfl⟩:∃n',n=n'+1:=⟨n-1,by omega⟩;have hlt:j<m.length:=by omega
   have hb:=hx m[j] (Xab hlt);simp only[Zbg,WF hlt,Wu hlt,Ww hlt,Wm (show j<4611686018427387904 by omega),Wa,WT];rw[Xai hlt,Wct];by_cases h0:m[j]>0
   .rw[Wf h0,Wf h0,WQ (by unfold I64;omega),WcH hs (by omega) (by omega) hN]
    grind [WfP]
   grind
 have:=lp m.length 0 N (Xp 16 0) (by omega) (by omega) Win;simp_all
end
section
abbrev Hd:=Int×Int×Int
def HdV(h:Hd):Prop:=(1<=h.1/\h.1<=9)/\(0<=h.2.1/\h.2.1<=8)/\1<=h.2.2/\h.2.2<=2
def HdB(a b:Hd):Prop:=cfH a b<0/\(a.2.1=b.2.1->a.2.2≠2/\b.2.2≠2)
structure HOk(l:List Hd):Prop where
 val:∀h∈l,HdV h
 up:l.Pairwise HdB
theorem HOk.ris{l:List Hd}(h:HOk l):Ris cfH l:=h.up.imp λh=>h.1
def Wdy(l:List Hd)(who:Int):List Int:=(l.filter λh=>decide (h.1=who)).map (·.2.1)
def blk(who what mode:Int)(h:Hd):Bool:=decide (h.2.1=what)&&(decide (h.1≠who)&&(decide (mode=2)||decide (h.2.2=2)))
def Wfe(l:List Hd)(who what mode:Int):List Int:=(l.filter (blk who what mode)).map (·.1)
def WlO(who what:Int)(h:Hd):Bool:=decide (h.1=who)&&decide (h.2.1=what)
def WiG(l:List Hd)(who what:Int):Int:=match fnd (WlO who what) l 0 with
 |some r=>r.2.2.2
 |none=>0
def WmV(a b:Int):Int:=if a<=b then b else a
def Wle(l:List Hd)(who what mode:Int):List Hd:=Wbq cfH l (who,what,WmV (WiG l who what) mode)
def WcI(l:List Hd)(who what mode:Int):Option (List Hd):=if Wfe l who what mode= []then some (Wle l who what mode)else none
def WS(l:List Hd)(who:Int):List Hd:=l.filter λh=>!(h.1==who)
theorem W6{α:Type}{a b:Int}{x y:α}:(bif a !=b then x else y)=if a=b then y else x:=by
 simp_all
theorem Wts{α:Type}{cf:α->α->Int}(hc:Lin cf){L M:List α}(hL:Ris cf L)(hM:Ris cf M)(hm:∀x,x∈L↔x∈M):L=M:=by
 rw[←Wne hc hM (hL.imp λh=>.inl h) hm,Wne hc hL (hL.imp λh=>.inl h) λx=>Iff.rfl]
theorem apH{a b:Hd}:Ap cfH a b↔¬(a.1=b.1/\a.2.1=b.2.1):=by grind [Ap,Wa3]
theorem Wiq{a b c d:Hd}(h1:a.1=c.1)(h2:a.2.1=c.2.1)(h3:b.1=d.1)(h4:b.2.1=d.2.1):cfH a b<0↔cfH c d<0:=by simp_all [Wa3]
variable{N:Nat}{l:List Hd}{who what mode:Int}
theorem WsS(h:Ris cfH l){i:Nat}(hi:i<l.length){e:Hd}(h1:e.1=l[i].1)(h2:e.2.1=l[i].2.1):Ris cfH (l.set i e):=by
 unfold Ris at*;rw[Xap]at*;intro a b ha hb fL;rw[Xav]at ha hb;rw[Xci,Xci];have:=h a b ha hb fL;by_cases c1:i=a
 .subst c1;rw[Wf rfl,Wb (by omega)];exact(Wiq h1 h2 rfl rfl).2 this
 .rw[Wb c1];by_cases c2:i=b
  .subst c2;rw[Wf rfl];exact(Wiq rfl rfl h1 h2).2 this
  simp_all
theorem WtQ(h:Ris cfH l){i:Nat}(hi:i<l.length){e:Hd}(h1:e.1=l[i].1)(h2:e.2.1=l[i].2.1):l.set i e=Wbq cfH l e:=by
 refine Wts WoB (WsS h hi h1 h2) (Wb2 WoB h) λx=>?_;rw[(WmM WoB (h.imp λh=>.inl h) hi (by grind [apH])).2 x,Wcc WoB h]
theorem Wqe{h:Hd}:(decide (1<=h.1)&&decide (h.1<=9))=true/\(decide (0<=h.2.1)&&decide (h.2.1<=8))=true/\(decide (1<=h.2.2)&&decide (h.2.2<=2))=true↔HdV h:=by
 simp[HdV,Xi,Wi]
theorem We8{h:Hd}(hv:HdV h):Zkb N h.1 h.2.1 h.2.2=ret true:=by
 obtain⟨a,b,c⟩:=Wqe.2 hv;simp_all [Zkb,WX,ret,Xd,Wa]
theorem Wlx{a b:Hd}(ha:HdV a)(hb:HdV b):Zjv N a b=ret (cfH a b):=by
 obtain⟨a1,a2,a3⟩:=ha;obtain⟨b1,b2,b3⟩:=hb
 grind [Zjv,cfH,WQ,I64]
theorem Wbw(h:HOk l)(hl:l.length<=1048576)(hN:1048576<N):Zfn N l=ret true:=by
 have lp:∀(d j n:Nat),j+d=l.length->d<n->Zaj N l (some ((),(false,()))) (λdH bR=>(some ((),(true,())))) n (j:Int)=ret true:=by
  intro d
  induction d with
  |zero=>
   intro j n hj hn;obtain⟨n,rfl⟩:∃n',n=n'+1:=⟨n-1,by omega⟩;simp_all [Zaj,WO,Xl,Wc]
  |succ d ih=>
   intro j n hj hn;obtain⟨n,rfl⟩:∃n',n=n'+1:=⟨n-1,by omega⟩;have hlt:j<l.length:=by omega
   have hv:=h.val l[j] (Xab hlt);have cx:=ih (j+1) n (by omega) (by omega);simp only[Zaj,WF hlt,Wu hlt,Ww hlt,Wm (show j<4611686018427387904 by omega),Wa,We8 hv,ret,Xd,Xo,Wc,cx];by_cases h0:j=0
   .grind
   .have e1:decide ((j:Int)>0)=true:=by simp;omega
    have e2:WV .i64 (j:Int) 1=((j-1:Nat):Int):=by grind [WQ,I64]
    have bv:j-1<l.length:=by omega
    have hw:=h.val l[j-1] (Xab bv);have hb:=Xap.1 h.up (j-1) j bv hlt (by omega);simp only[e1,e2,Wa,Wu bv,Ww bv,Wlx hw hv,ret,Xd];rw[Wk (show¬(cfH l[j-1] l[j]>=0) by have:=hb.1;omega)];simp only[Wc,Wv];by_cases hs:l[j-1].2.1=l[j].2.1
    .rw[Wf hs,Wb (hb.2 hs).2,Wb (hb.2 hs).1]
    simp_all
 exact lp l.length 0 N (by omega) (by omega)
theorem Wdu{α β R:Type}{body:Int->α->List β->(List β->Option R)->Option R}{K:Int->List β->Option R}{p:α->Bool}{f:α->β}:∀(l:List α) (j:Nat) (o:List β),o.length+l.length<=2000000->
  (∀(j:Nat) x (v:List β) k,x∈l->v.length<=2000000->body j x v k=bif p x then k (v++ [f x])else k v)->Wbm body K l j o=K ((j+l.length:Nat):Int) (o++(l.filter p).map f)
 | [],j,o,_,_=>by simp[Wbm]
 |x::l,j,o,h,hb=>by
  rw[Xq]at h;rw[Wbm,hb j x o _ (Xj ..) (by omega),Xbg];have ih:=λo' gR=>Wdu (body:=body) (K:=K) (p:=p) (f:=f) l (j+1) o' gR λj y v k hy=>hb j y v k (Xf _ hy)
  grind
theorem Wiw(h:HOk l)(hl:l.length<=1048576)(hN:1048576<N):Zg7 N l who=ret (Wdy l who):=by
 unfold Zg7 Wdy;rw[Wbw h hl hN];simp only[ret,Xd,Xo,Wc];have h1:=Wy (l:=l) (V:=List Int) (R:=Unit×(List Int×Unit)) (lp:=λn j v=>Zb3 N who l (λaB aU bi=>(some ((),(bi,())))) n j v) (n:=N) (by omega)
  (body:=λj x v k=>bif x.1==who then(bif Wz (v.length+ [x.2.1].length)then k (Xg v [x.2.1])else none)else k v) (K:=λ_ v=>ret v)
  (λn i v hi=>by simp only[Zb3,WF hi,Wu hi,Ww hi,Wm (show i<4611686018427387904 by omega),Wa])
  (λn v=>by simp[Zb3,WO,Xl,Wc]) []
 refine h1.trans ?_;rw[Wdu (p:=λh=>decide (h.1=who)) (f:=(·.2.1)) l 0 [] (by simp;omega) (λj x v k _ hv=>by rw[Wt (by simp;omega)];simp only[Wv,WT,Wa,Xaz])];rfl
theorem Wje(h:HOk l)(hm:1<=mode/\mode<=2)(hl:l.length<=1048576)(hN:1048576<N):Zkc N l who what mode=ret (Wfe l who what mode):=by
 unfold Zkc Wfe;rw[Wbw h hl hN];simp only[ret,Xd,Xo,Wc,WX,We hm.1,We hm.2,Xal];have h1:=Wy (l:=l) (V:=List Int) (R:=Unit×(List Int×Unit)) (lp:=λn j v=>Zax N who what mode l (λfu fv ax=>(some ((),(ax,())))) n j v) (n:=N) (by omega)
  (body:=λj x v k=>bif x.2.1==what then(bif x.1 !=who then(bif mode==2 then(bif Wz (v.length+ [x.1].length)then k (Xg v [x.1])else none)else(bif x.2.2==2 then(bif Wz (v.length+ [x.1].length)then k (Xg v [x.1])else none)else k v))else k v)else k v) (K:=λ_ v=>ret v)
  (λn i v hi=>by simp only[Zax,WF hi,Wu hi,Ww hi,Wm (show i<4611686018427387904 by omega),Wa])
  (λn v=>by simp[Zax,WO,Xl,Wc]) []
 refine h1.trans ?_;rw[Wdu (p:=blk who what mode) (f:=(·.1)) l 0 [] (by simp;omega) (λj x v k _ hv=>by
  rw[Wt (by simp;omega)];unfold blk;simp only[Wv,W6,Wa,Xaz];by_cases c1:x.2.1=what<;>by_cases c2:x.1=who<;>by_cases c3:mode=2<;>by_cases c4:x.2.2=2<;>simp[c1,c2,c3,c4])]
 rfl
theorem Wtv(h:HOk l):0<=WiG l who what/\WiG l who what<=2:=by
 unfold WiG;cases hf:fnd (WlO who what) l 0 with
 |none=>simp
 |some r=>
  have:=Wcl hf;have:=h.val r.2 (List.mem_of_getElem? this.2.2.2)
  grind [HdV]
theorem Wie(h:HOk l)(hw:1<=who/\who<=9)(ht:0<=what/\what<=8)(hm:1<=mode/\mode<=2)(hl:l.length<=1048000)(hN:1048576<N):
  Ziu N l who what mode=some ((),((WcI l who what mode).getD l,((WcI l who what mode).isSome,()))):=by
 unfold Ziu WcI;have nY:Ze7 N l=ret l:=by grind [Ze7,Wt]
 have ue:Zkb N who what mode=ret true:=We8 (h:=(who,what,mode)) ⟨hw,ht,hm⟩;rw[nY,Wbw h (by omega) hN,ue,Wje h hm (by omega) hN];simp only[ret,Xd,Xo,Wc,WT];by_cases hb:Wfe l who what mode= []
 .rw[Wb (by rw[hb];simp[Wh]),Wf hb];have h1:=Wio (l:=l) (p:=WlO who what) (N:=N) (lp:=λn j=>Zb4 N who what mode (Wh l) l (λcb=>(some ((),(cb,(true,()))))) (λhC nJ=>
  (bif Wz ((Xb l)+(Xb ([(who,(what,mode))])))then
 ((Zo N (Xg l ([(who,(what,mode))]))).bind λio=>
 (some ((),(io.1.1,(true,())))))else none)) n j)
   (K0:=λj=>some ((),(l.set j.toNat ((l.getD j.toNat (0,0,0)).1,(l.getD j.toNat (0,0,0)).2.1,WqR (l.getD j.toNat (0,0,0)).2.2 mode),(true,())))) (K1:=(bif Wz ((Xb l)+(Xb ([(who,(what,mode))])))then
 ((Zo N (Xg l ([(who,(what,mode))]))).bind λio=>
 (some ((),(io.1.1,(true,())))))else none)) (by omega) (by omega)
   (λn j hj=>by
    simp only[Zb4,WF hj,Wu hj,Ww hj,Wm (show j<4611686018427387904 by omega),Wa];simp[WlO,Wv,Wsg,WT])
   (λn=>by simp[Zb4,WO,Xl,Wc])
  rw[h1];unfold Wle WiG;cases hf:fnd (WlO who what) l 0 with
  |some r=>
   obtain⟨g1,g2,g3,g4⟩:=Wcl hf;rw[Xat]at g3;rw[Xdf,Xs g3]at g4;injection g4 with g4;unfold WlO at g1;simp only[Xi,Wi]at g1;simp only[Ww g3,g4,Xdn,Xey];rw[Xk];have:WqR r.2.2.2 mode=WmV r.2.2.2 mode:=by grind [WqR,WmV]
   rw[this,g1.1,g1.2,WtQ h.ris g3 (e:=(who,what,WmV r.2.2.2 mode)) (by simp_all) (by simp_all)]
  |none=>
   have hn:=Wgh hf;simp only;rw[Wt (by simp;omega)];have hmx:WmV 0 mode=mode:=by unfold WmV;rw[Wf (by omega)]
   have qM:=WjW (cf:=cfH) (L:=l) (e:=(who,what,mode)) (h.ris.imp λh=>.inl h) (λx hx=>by
    grind [apH,WlO,Xbw,decide_eq_false_iff_not])
   unfold Zo;simp only[Wa,Xaz];rw[WoW (rng:=WtW) (N:=N) WoB (M:=Wbq cfH l (who,what,mode)) (Wb2 WoB h.ris) qM.1 (λx=>by rw[qM.2 x,Wcc WoB h.ris]) (λx hx=>by
    rcases Xn.1 hx with hx|hx
    .have:=h.val x hx
     grind [HdV,WtW,Ws5]
    grind [Xag,WtW,Ws5]) (by simp;omega)]
   simp_all
 .rw[Wf (by
   simp_all [Wfe,Xz,Wh]),Wb hb]
  rfl
theorem Wp1(h:HOk l)(hw:1<=who/\who<=9)(ht:0<=what/\what<=8)(hm:1<=mode/\mode<=2)(hb:Wfe l who what mode= []):HOk (Wle l who what mode):=by
 have kn:=Wtv (who:=who) (what:=what) h;have hbl:∀x∈l,x.2.1=what->x.1≠who->mode≠2/\x.2.2≠2:=λx hx h1 h2=>by
  refine Classical.byContradiction λhc=>?_;have:x.1∈Wfe l who what mode:=Xv.2 ⟨x,Xax.2 ⟨hx,by grind [blk]⟩,rfl⟩;simp_all
 have ls:∀x∈l,x.2.1=what->x.1≠who->WiG l who what≠2:=λx hx h1 h2=>by
  unfold WiG;cases hf:fnd (WlO who what) l 0 with
  |none=>simp
  |some r=>
   obtain⟨g1,g2,g3,g4⟩:=Wcl hf;rw[Xat]at g3;rw[Xdf,Xs g3]at g4;injection g4 with g4;unfold WlO at g1;simp only[Xi,Wi]at g1;obtain⟨j,hj,rfl⟩:=Xbu hx;have hp:=Xap.1 h.up;simp only;rw[←g4]at g1⊢;rcases Xfa r.1 j with hlt|heq|hlt
   .exact((hp r.1 j g3 hj hlt).2 (by rw[h1,g1.2])).1
   .simp_all
   .exact((hp j r.1 hj g3 hlt).2 (by rw[h1,g1.2])).2
 unfold Wle;refine⟨λx hx=>?_,?_⟩
 .rcases(Wcc WoB h.ris).1 hx with rfl|hx
  .refine⟨hw,ht,?_⟩;simp only;unfold WmV;split<;>omega
  .exact h.val x hx.1
 .have hr:=Wb2 (e:=(who,what,WmV (WiG l who what) mode)) WoB h.ris;have hmem:=λx=>Wcc (e:=(who,what,WmV (WiG l who what) mode)) (x:=x) WoB h.ris;have hmj:∀x∈l,x.2.1=what->x.1≠who->WmV (WiG l who what) mode≠2:=λx hx h1 h2=>by
   have:=ls x hx h1 h2;have:=(hbl x hx h1 h2).1;unfold WmV;split<;>omega
  unfold Ris at hr;rw[Xap]at hr⊢;intro i j hi hj hij;refine⟨hr i j hi hj hij,λhs=>?_⟩;have hlt:=hr i j hi hj hij;have m1:=(hmem _).1 (Xab hi);have m2:=(hmem _).1 (Xab hj);generalize (Wbq cfH l (who,what,WmV (WiG l who what) mode))[i]=x at*;generalize (Wbq cfH l (who,what,WmV (WiG l who what) mode))[j]=y at*;rcases m1 with rfl|m1<;>rcases m2 with rfl|m2
  .exact WC hlt (WoB.irr _)
  .grind [apH]
  .grind [apH]
  .obtain⟨a,ha,rfl⟩:=Xbu m1.1;obtain⟨b,hb',rfl⟩:=Xbu m2.1;have hp:=Xap.1 h.up;rcases Xfa a b with fL|fL|fL
   .exact(hp a b ha hb' fL).2 hs
   .subst fL;exact WC hlt (WoB.irr _)
   .exact WC (WoB.tr _ _ _ hlt (hp b a hb' ha fL).1) (WoB.irr _)
theorem Wir(h:HOk l):HOk (WS l who):=⟨λx hx=>h.val x (Xax.1 hx).1,h.up.filter _⟩
theorem WeP(h:HOk l):l.length<=81:=by
 have key:∀(l:List Hd) (c:Int),Ris cfH l->(∀e∈l,HdV e/\c<=9*e.2.1+e.1)->1<=c->(l.length:Int)<=82-c\/l= []:=by
  intro l
  induction l with
  |nil=>simp_all
  |cons a l ih=>
   intro c hr hb hc;left;have h1:=List.pairwise_cons.1 hr;have ha:=hb a (Xj ..);unfold HdV at ha;rcases ih (9*a.2.1+a.1+1) h1.2 (λe he=>⟨(hb e (Xf _ he)).1,by
    grind [Wa3,Xf,HdV]⟩) (by omega)with h|h
   .grind
   grind
 rcases key l 1 h.ris (λe he=>⟨h.val e he,by have:=h.val e he;grind [HdV]⟩) (by omega)with h|h
 .omega
 simp_all
theorem WiE{α V R:Type}{body:Int->α->V->(V->Option R)->Option R}{K:Int->V->Option R}{p:α->Bool}{E:Int->V->Option R}:∀(l:List α) (j:Nat) (v:V),(∀(j:Nat) x v k,x∈l->body j x v k=bif p x then E j v else k v)->
  (∃a x r,l=a++x::r/\(∀y∈a,p y=false)/\p x=true/\Wbm body K l j v=E ((j+a.length:Nat):Int) v)\/((∀y∈l,p y=false)/\Wbm body K l j v=K ((j+l.length:Nat):Int) v)
 | [],j,v,_=>.inr ⟨by simp,rfl⟩
 |x::l,j,v,h=>by
  rw[Wbm,h j x v _ (Xj ..)];cases hp:p x
  .simp only[Wc];rcases WiE (E:=E) l (j+1) v λj y v k hy=>h j y v k (Xf _ hy)with⟨a,y,r,h1,h2,h3,h4⟩|⟨h1,h2⟩
   .refine .inl ⟨x::a,y,r,by rw[h1];rfl,λz hz=>?_,h3,?_⟩
    .rcases List.mem_cons.1 hz with rfl|hz
     .exact hp
     .exact h2 z hz
    .rw[h4,Xq,show j+1+a.length=j+(a.length+1) by omega]
   grind
  .exact .inl ⟨[],x,l,rfl,by simp,hp,rfl⟩
theorem Wrm{N:Nat}(a0:Int){R:Type}(K:Int->Int->Bool->List Hd->Int->Option R):
  ∀(r a m:List Hd) (n:Nat),r.length<n->a.length+m.length+r.length<=1048576->∃m',
   Za N K n (a.length:Int) ((a.length+m.length:Nat):Int) (a++m++r) a0=
    K ((a++r.filter λx=>!(x.1==a0)).length:Int) ((a.length+m.length+r.length:Nat):Int) false ((a++r.filter λx=>!(x.1==a0))++m') a0
 | [],a,m,0,h,_=>by simp at h
 | [],a,m,n+1,h,_=>by
  refine⟨m,?_⟩;have e1:decide (((a.length+m.length:Nat):Int)<Wh (a++m++ []))=false:=by simp[Wh]
  simp only[Za,e1,Wc];simp
 |x::r,a,m,0,h,_=>by simp at h
 |x::r,a,m,n+1,h,hb=>by
  simp only[Xq]at h hb;have hj:a.length+m.length<(a++m++x::r).length:=by simp
  have hi:a.length<(a++m++x::r).length:=by simp;omega
  have hx:Xc (a++m++x::r) (a.length+m.length) ((0:Int),((0:Int),(0:Int)))=x:=by
   simp_all
  cases hp:x.1==a0
  .obtain⟨m2,ov,rn⟩:∃m2:List Hd,m2.length=m.length/\(a++m++x::r).set a.length x=(a++ [x])++m2++r:=by
    cases m with
    |nil=>simp_all
    |cons y m=>grind
   obtain⟨m',ih⟩:=Wrm (N:=N) a0 K r (a++ [x]) m2 n (by omega) (by simp;omega);refine⟨m',?_⟩;simp only[Za,Zgq,WF hj,Wu hj,Wu hi,Xk,hx,hp,Xd,Wa,Xbn,Xk,rn,
    Wm (show a.length<4611686018427387904 by omega),Wm (show a.length+m.length<4611686018427387904 by omega)]
   have l1:(a++ [x]).length=a.length+1:=by simp
   rw[l1,ov,show a.length+1+m.length=a.length+m.length+1 by omega]at ih;rw[ih];simp only[Xbg,hp,Xbn,W2,List.append_assoc,List.singleton_append,Xq];rw[show a.length+m.length+1+r.length=a.length+m.length+(r.length+1) by omega]
  .obtain⟨m',ih⟩:=Wrm (N:=N) a0 K r a (m++ [x]) n (by omega) (by simp;omega);refine⟨m',?_⟩;simp only[Za,Zgq,WF hj,Wu hj,Wu hi,Xk,hx,hp,Xd,Wa,Wc,Xo,
    Wm (show a.length+m.length<4611686018427387904 by omega)]
   simp only[Xw,Xq,Xbq,Xat]at ih;rw[show a.length+(m.length+1)=a.length+m.length+1 by omega,show a++(m++ [x])++r=a++m++x::r by simp]at ih;rw[ih];simp only[Xbg,hp,Xo,Wal,Xbc,Xq];simp only[Xw];rw[show a.length+m.length+1+r.length=a.length+m.length+(r.length+1) by omega]
theorem Wpx{N:Nat}{s:List Hd}{a0:Int}(hN:1048576<N)(hs:s.length<=100000):
  Zl N s a0=some ((a0,()),(s.filter λx=>!(x.1==a0),())):=by
 unfold Zl;have h1:=Wy (l:=s) (V:={v:Int//v=a0}) (R:=Kh×Kh) (lp:=λn j v=>Ze N s (λbR aC=>some ((aC,()),(bR,()))) (λfu fv dL=>some ((dL,()),((-1:Int),()))) n j v.1) (n:=N) (by omega)
  (body:=λj x v k=>bif x.1==a0 then some ((v.1,()),(j,()))else k v) (K:=λ_ v=>some ((v.1,()),((-1:Int),())))
  (λn i v hi=>by
   obtain⟨v,rfl⟩:=v;simp only[Ze,WF hi,Wu hi,Ww hi,Wm (show i<4611686018427387904 by omega),Wa,Zgq,Xd])
  (λn v=>by simp[Ze,WO,Xl,Wc]) ⟨a0,rfl⟩
 simp only[]at h1;unfold Zq;rw[h1];rcases WiE (body:=λj x (v:{v:Int//v=a0}) k=>bif x.1==a0 then some ((v.1,()),(j,()))else k v) (K:=λ_ v=>(some ((v.1,()),((-1:Int),())):Option (Kh×Kh))) (p:=λx=>x.1==a0)
  (E:=λj v=>some ((v.1,()),(j,()))) s 0 ⟨a0,rfl⟩ (λj x v k _=>rfl)with⟨a,x,r,cT,ha,hx,hr⟩|⟨ha,hr⟩
 .rw[hr];simp only[Xd,Xat];have e0:((a.length:Int)== -1)=false:=by simp
  rw[e0,Wm (show a.length<4611686018427387904 by grind)];simp only[Wc];obtain⟨m',hd⟩:=Wrm (N:=N) a0 (λaR tH fu cb dL=>
     (bif (decide ((0:Int)<=aR))&&(decide (aR<=((Xb cb):Int)))then
      (bif (decide ((0:Int)<=aR))&&(decide (aR<=((Xb ((Xaj (Xa aR) cb)++Xp ((Xb cb) -(Xa aR)) ((0:Int),((0:Int),(0:Int)))++(List.drop (Xb cb) cb))):Int)))then
       (some ((dL,()),(Xaj (Xa aR) ((Xaj (Xa aR) cb)++Xp ((Xb cb) -(Xa aR)) ((0:Int),((0:Int),(0:Int)))++(List.drop (Xb cb) cb)),())))else none)else none)) r a [x] N (by grind) (by grind)
  rw[show a++ [x]++r=s by simp_all]at hd;simp only[Xq,Xbq,Xat]at hd;rw[hd];have hf:(s.filter λx=>!(x.1==a0))=a++r.filter λx=>!(x.1==a0):=by
   rw[cT,List.filter_append,Xbg];have:(a.filter λx=>!(x.1==a0))=a:=Xeo.2 λy hy=>by grind
   grind
  grind
 grind [Xeo]
theorem Whm(h:HOk l)(hl:l.length<=100000)(hN:1048576<N):Zom N l who=ret (WS l who):=by
 have nY:Ze7 N l=ret l:=by grind [Ze7,Wt]
 unfold Zom;rw[nY,Wbw h (by omega) hN];simp only[ret,Xd,Xo,Wc];rw[Wpx hN hl];rfl
end
section
def zWd:Wd:=(0,0,0)
def Wan(m:Mm)(i:Int):Wd:=Wbt m.2 i zWd
def Wuv(m:Mm)(i:Int)(w:Wd):Mm:=(m.1,WnD m.2 i w)
variable{m:Mm}
theorem Wn5(hm:WY m=true){i:Int}{w:Wd}(hw:Wlt m.1 w=true):WY (Wuv m i w)=true:=by
 obtain⟨h8,h0,h1,qQ⟩:=WE hm;unfold WY Wuv WnD
 grind
theorem Wkq(hm:WY m=true){i:Int}(hi:0<=i/\i<=7):Wlt m.1 (Wan m i)=true:=Wrn hm hi
theorem Wt5(hm:WY m=true):WY (tick m).1=true/\0<=(tick m).2/\(tick m).2<=1000000/\((tick m).2≠0->(tick m).2=m.1+1/\(tick m).1=(m.1+1,m.2))/\((tick m).2=0->(tick m).1=m):=by
 obtain⟨h8,h0,h1,qQ⟩:=WE hm;unfold tick;split
 .refine⟨?_,by omega,by omega,λ_=>⟨rfl,rfl⟩,λh=>by omega⟩;unfold WY;simp only[Xi,Wi,Xae]
  grind [Whf]
 simp_all
end
section
structure Cm where
 who:Int:=0
 rv:Int:=0
 phase:Int:=0
 pos:Int:=0
 wv:Int:=0
 puts:List Rw:=[]
 reads:List Int:=[]
def Cm.e(c:Cm):Int×Int×Int×Int×Int×List Kc×List Int:=(c.who,c.rv,c.phase,c.pos,c.wv,c.puts,c.reads)
def Cm.steps(c:Cm):Int:=
 if c.phase=1\/c.phase=4\/c.phase=5\/c.phase=7 then c.puts.length else if c.phase=3 then c.reads.length else 1
def Wd2(c:Cm)(n:Int):Cm:=if n=0 then{c with phase:=8,pos:=0}else{c with phase:=7,pos:=n-1}
def Wk9(c:Cm)(ph:Int):Int:=
 if(ph=3/\c.reads.length=0\/ph=4)/\c.puts.length=0 then 6 else if ph=3/\c.reads.length=0 then 4 else ph
def Wk7(c:Cm)(ph:Int):Cm:={c with phase:=Wk9 c ph,pos:=0}
def Weh(c:Cm)(ph:Int):Cm:=if c.pos+1=c.steps then Wk7 c ph else{c with pos:=c.pos+1}
def WrW(m:Mm)(i who:Int):Mm:=Wuv m i ((Wan m i).1,(Wan m i).2.1,who)
def Wh0(m:Mm)(i who v:Int):Mm:=if(Wan m i).2.2=who then Wuv m i (v,(Wan m i).2)else m
def Weu(m:Mm)(i who ver:Int):Mm:=if(Wan m i).2.2=who/\(Wan m i).2.1<=ver/\ver<=m.1 then Wuv m i ((Wan m i).1,ver,0)else m
def Wdo(m:Mm)(c:Cm):Mm×Cm:=
 let p:=Wbt c.puts c.pos (0,0)
 if c.phase=1 then(if(Wan m p.1).2.2=0 then(WrW m p.1 c.who,Weh c 2)else(m,Wd2 c c.pos))else
 if c.phase=2 then(if(tick m).2=0 then((tick m).1,Wd2 c c.puts.length)else((tick m).1,Wk7 {c with wv:=(tick m).2} 3))else
 if c.phase=3 then
  let w:=Wan m (Wbt c.reads c.pos 0)
  if(w.2.2≠0/\w.2.2≠c.who)\/w.2.1>c.rv then(m,Wd2 c c.puts.length)else(m,Weh c 4)
 else
 if c.phase=4 then(Wh0 m p.1 c.who p.2,Weh c 5)else
 if c.phase=5 then(Weu m p.1 c.who c.wv,Weh c 6)else
 if c.phase=7 then(Weu m p.1 c.who (Wan m p.1).2.1,Wd2 c c.pos)else
 (m,c)
def Wa6(c:Cm):Cm:=
 if c.phase=1 then Wd2 c c.pos else if c.phase=2\/c.phase=3 then Wd2 c c.puts.length else c
def Wfs(who rv:Int)(puts reads:List Rw):Cm:=
 {who:=who,rv:=rv,phase:=if(Wcq puts).length=0 then 2 else 1,puts:=Wcq puts,reads:=(Wcq reads).map (·.1)}
structure CmOk(c:Cm):Prop where
 who:1<=c.who/\c.who<=99
 rv:0<=c.rv/\c.rv<=1000000
 wv:0<=c.wv/\c.wv<=1000000
 phase:1<=c.phase/\c.phase<=8
 rows:Wjb c.puts
 pup:c.puts.Pairwise λa b=>a.1<b.1
 plen:c.puts.length<=8
 rd:∀x∈c.reads,0<=x/\x<=7
 rup:c.reads.Pairwise (· < ·)
 rlen:c.reads.length<=8
 pos:0<=c.pos/\c.pos<c.steps
section
variable{N:Nat}{c:Cm}{m:Mm}
theorem CmOk.back(h:CmOk c){n:Int}(hn:0<=n/\n<=c.puts.length):CmOk (Wd2 c n):=by
 unfold Wd2;split
 .exact{h with phase:=by simp_all,pos:=by simp[Cm.steps]}
 .exact{h with phase:=by simp_all,pos:=by grind [Cm.steps]}
theorem WsB(c:Cm){ph:Int}(h:2<=ph/\ph<=6):2<=Wk9 c ph/\Wk9 c ph<=6:=by unfold Wk9;split<;>(try split)<;>omega
theorem CmOk.adv(h:CmOk c){ph:Int}(hp:2<=ph/\ph<=6)(h5:ph=5->c.puts.length≠0):CmOk (Wk7 c ph):=by
 unfold Wk7;have:=WsB c hp;refine{h with phase:=by grind,pos:=⟨Int.le_refl _,?_⟩}
 grind [Cm.steps,Wk9]
theorem CmOk.next(h:CmOk c){ph:Int}(hp:2<=ph/\ph<=6)(h5:ph=5->c.puts.length≠0):CmOk (Weh c ph):=by
 unfold Weh;split
 .exact h.adv hp h5
 .have:=h.pos;exact{h with pos:=⟨by grind,by show c.pos+1<c.steps;omega⟩}
theorem Wsq(hm:WY m=true){i who:Int}(hi:0<=i/\i<=7)(hw:0<=who/\who<=99):WY (WrW m i who)=true:=by
 have:=Whf.1 (Wkq hm hi);exact Wn5 hm (by grind [Whf])
theorem Wqb(hm:WY m=true){i who v:Int}(hi:0<=i/\i<=7)(hv:0<=v/\v<=65535):WY (Wh0 m i who v)=true:=by
 grind [Whf,Wkq,Wh0,Wn5]
theorem Wjj(hm:WY m=true){i who ver:Int}(hi:0<=i/\i<=7):WY (Weu m i who ver)=true:=by
 grind [Whf,Wkq,Weu,Wn5]
theorem CmOk.put(h:CmOk c)(hp:c.phase=1\/c.phase=4\/c.phase=5\/c.phase=7):∃(j:Nat) (hj:j<c.puts.length),c.pos=j/\Wbt c.puts c.pos (0,0)=c.puts[j]/\(0<=c.puts[j].1/\c.puts[j].1<=7)/\0<=c.puts[j].2/\c.puts[j].2<=65535:=by
 have:=h.pos;unfold Cm.steps at this;rw[Wf hp]at this;have hj:c.pos.toNat<c.puts.length:=by omega
 have hr:=h.rows _ (Xab hj);exact⟨c.pos.toNat,hj,by omega,WJ hj _,hr.1,hr.2⟩
theorem CmOk.read(h:CmOk c)(hp:c.phase=3):∃(j:Nat) (hj:j<c.reads.length),c.pos=j/\Wbt c.reads c.pos 0=c.reads[j]/\0<=c.reads[j]/\c.reads[j]<=7:=by
 have:=h.pos;unfold Cm.steps at this;rw[Wb (by omega),Wf hp]at this;have hj:c.pos.toNat<c.reads.length:=by omega
 have hr:=h.rd _ (Xab hj);exact⟨c.pos.toNat,hj,by omega,WJ hj _,hr⟩
theorem Wiu(h:CmOk c)(hm:WY m=true):CmOk (Wdo m c).2/\WY (Wdo m c).1=true:=by
 have bT:=h.pos;have hl:c.phase=1\/c.phase=4\/c.phase=5\/c.phase=7->c.puts.length≠0:=λhp=>by obtain⟨j,hj,_⟩:=h.put hp;omega
 have be:c.phase=1\/c.phase=4\/c.phase=5\/c.phase=7->c.pos<c.puts.length:=λhp=>by simp_all [Cm.steps,Wf]
 have hw:=h.who;unfold Wdo;simp only;split
 .obtain⟨j,hj,e1,e2,e3,e4⟩:=h.put (by omega);rw[e2];split
  .exact⟨h.next (by omega) (by omega),Wsq hm e3 (by omega)⟩
  .exact⟨h.back (by omega),hm⟩
 .split
  .have ht:=Wt5 hm;split
   .exact⟨h.back (by omega),ht.1⟩
   .refine⟨?_,ht.1⟩;have h':CmOk {c with wv:=(tick m).2}:={h with wv:=⟨ht.2.1,ht.2.2.1⟩};exact h'.adv (by omega) (by omega)
  .split
   .split
    .exact⟨h.back (by omega),hm⟩
    .exact⟨h.next (by omega) (by omega),hm⟩
   .split
    .obtain⟨j,hj,e1,e2,e3,e4⟩:=h.put (by omega);rw[e2];exact⟨h.next (by omega) (λ_=>hl (by omega)),Wqb hm e3 e4⟩
    .split
     .obtain⟨j,hj,e1,e2,e3,e4⟩:=h.put (by omega);rw[e2];exact⟨h.next (by omega) (by omega),Wjj hm e3⟩
     .split
      .obtain⟨j,hj,e1,e2,e3,e4⟩:=h.put (by omega);have:=be (by omega);rw[e2];exact⟨h.back (by omega),Wjj hm e3⟩
      simp_all
theorem WpC(h:CmOk c):CmOk (Wa6 c):=by
 have bT:=h.pos;unfold Wa6;split
 .have:c.pos<c.puts.length:=by simp_all [Cm.steps,Wf]
  exact h.back (by omega)
 .split
  .exact h.back (by omega)
  .exact h
theorem Wss{who rv:Int}{puts reads:List Rw}(hw:1<=who/\who<=99)(hr:0<=rv/\rv<=1000000):CmOk (Wfs who rv puts reads) where
 who:=hw
 rv:=hr
 wv:=by simp[Wfs]
 phase:=by unfold Wfs;simp only;split<;>omega
 rows:=Wgn
 pup:=WnZ puts
 plen:=WcX puts
 rd:=λx hx=>by
  obtain⟨r,hr,rfl⟩:=Xv.1 hx;exact(Wgn r hr).1
 rup:=by
  simp[Wfs,List.pairwise_map,WnZ]
 rlen:=by simp[Wfs,Xx,WcX]
 pos:=by
  unfold Wfs Cm.steps
  grind
theorem cmP(c:Cm):c.e.1=c.who/\c.e.2.1=c.rv/\c.e.2.2.1=c.phase/\c.e.2.2.2.1=c.pos/\c.e.2.2.2.2.1=c.wv/\c.e.2.2.2.2.2.1=c.puts/\c.e.2.2.2.2.2.2=c.reads:=⟨rfl,rfl,rfl,rfl,rfl,rfl,rfl⟩
theorem Wbv{who:Int}:Zfo N who=ret (decide (1<=who)&&decide (who<=99)):=by simp[Zfo,WX]
theorem WdJ(hm:WY m=true):Zcf N m=ret m:=by
 grind [WE,Zcf,Wt]
theorem Wjw(h:CmOk c):Zig N c.e=ret c.e:=by
 unfold Zig;have:=h.plen;have:=h.rlen;rw[show Zbf N c.e.2.2.2.2.2.1=ret c.puts from Wdl (show c.puts.length<=1048576 by omega),show Zm N c.e.2.2.2.2.2.2=ret c.reads from Wb3 (show c.reads.length<=1048576 by omega)];rfl
theorem Wmq:Zdm N c.e=ret c.steps:=by
 unfold Zdm Cm.steps;obtain⟨c0,c1,c2,c3,c4,c5,c6⟩:=cmP c;simp only[Wv,c2,c5,c6,Wh]
 grind
theorem Whd(h:CmOk c)(hN:1048576<N):Zga N c.e=ret true:=by
 obtain⟨c0,c1,c2,c3,c4,c5,c6⟩:=cmP c;have eE:=h.plen;have bQ:=h.rlen;have hw:=h.who;have jX:=h.rv;have sa:=h.wv;have eH:=h.phase;have bT:=h.pos;have hY:Wad c.puts=true:=by unfold Wad;rw[Whx.2 h.rows,We (by omega)];rfl
 unfold Zga;simp only[c0,c1,c2,c3,c4,c5,c6,Wbv,WX,Wcg (show c.puts.length<=1048576 by omega) hN,Wmq,ret,Xd,We hw.1,We hw.2,We jX.1,We jX.2,We sa.1,We sa.2,We eH.1,We eH.2,hY,Xal,Xo,Wc];have nZ:c.steps<=8:=by unfold Cm.steps;split<;>(try split)<;>omega
 have qR:WV .i64 c.steps 1=c.steps-1:=WQ (by unfold I64;omega);rw[qR,We bT.1,We (show c.pos<=c.steps-1 by omega)];have oR:∀(d j n:Nat),j+d=c.reads.length->d<n->Za8 N c.reads c.e (some ((),(false,()))) (λt22 mx=>(some ((),(true&&true,())))) n (j:Int)=ret true:=by
  intro d
  induction d with
  |zero=>
   intro j n hj hn;obtain⟨n,rfl⟩:∃n',n=n'+1:=⟨n-1,by omega⟩;simp_all [Za8,WO,Xl,Wc]
  |succ d ih=>
   intro j n hj hn;obtain⟨n,rfl⟩:∃n',n=n'+1:=⟨n-1,by omega⟩;have hlt:j<c.reads.length:=by omega
   have cx:=ih (j+1) n (by omega) (by omega);have hv:=h.rd _ (Xab hlt);have bm:Wam c.reads[j]=true:=by grind [Wam]
   simp only[Za8,c6,WF hlt,Wu hlt,Ww hlt,Wm (show j<4611686018427387904 by omega),Wa,Wax,ret,Xd,bm,Xo,Wc,cx];by_cases h0:j=0
   .grind
   .have e1:decide ((j:Int)>0)=true:=by simp;omega
    have e2:WV .i64 (j:Int) 1=((j-1:Nat):Int):=by grind [WQ,I64]
    have bv:j-1<c.reads.length:=by omega
    have hb:=Xap.1 h.rup (j-1) j bv hlt (by omega);simp_all [Wa,Wu,Ww,Wk]
 have qS:∀(d j n:Nat),j+d=c.puts.length->d<n->1<=j->Zbs N c.e (some ((),(false,()))) (λbZ aB=>(Za8 N c.reads c.e (some ((),(false,()))) (λt22 mx=>(some ((),(true&&true,())))) N (0:Int))) n (j:Int)=ret true:=by
  intro d
  induction d with
  |zero=>
   intro j n hj hn _;obtain⟨n,rfl⟩:∃n',n=n'+1:=⟨n-1,by omega⟩;have:j=c.puts.length:=by omega
   subst this;simp only[Zbs,c5,WO (Xl _),Wc];exact oR c.reads.length 0 N (by omega) (by omega)
  |succ d ih=>
   intro j n hj hn h1j;obtain⟨n,rfl⟩:∃n',n=n'+1:=⟨n-1,by omega⟩;have hlt:j<c.puts.length:=by omega
   have cx:=ih (j+1) n (by omega) (by omega) (by omega);have e2:WV .i64 (j:Int) 1=((j-1:Nat):Int):=by grind [WQ,I64]
   have bv:j-1<c.puts.length:=by omega
   have hb:=Xap.1 h.pup (j-1) j bv hlt (by omega);simp only[Zbs,c5,WF hlt,Wu hlt,Ww hlt,Wm (show j<4611686018427387904 by omega),Wa,e2,Wu bv,Ww bv]
   grind
 by_cases hz:c.puts.length=0
 .obtain⟨N',rfl⟩:∃N',N=N'+1:=⟨N-1,by omega⟩;rw[Zbs,c5,Wk (by unfold Wh;omega)];exact oR c.reads.length 0 _ (by omega) (by omega)
 .exact qS (c.puts.length-1) 1 N (by omega) (by omega) (by omega)
theorem Why(h:CmOk c){n:Int}(hn:0<=n/\n<=8):Zv N c.e n=some (((Wd2 c n).e,()),()):=by
 unfold Zv Wd2;rw[Wv,WQ (by unfold I64;omega)];split<;>rfl
theorem WrE{ph:Int}:Zfp N c.e ph=some (((Wk7 c ph).e,()),()):=by
 obtain⟨c0,c1,c2,c3,c4,c5,c6⟩:=cmP c;unfold Zfp Wk7 Wk9;simp only[Wv,c5,c6,Wh];by_cases h3:ph=3
 .subst h3;by_cases hr:c.reads.length=0<;>by_cases hp:c.puts.length=0<;>simp[hr,hp]<;>rfl
 .by_cases h4:ph=4
  .subst h4;by_cases hp:c.puts.length=0<;>simp[hp]<;>rfl
  .simp[h3,h4];rfl
theorem Wsh(h:CmOk c){ph:Int}:Zbi N c.e ph=some (((Weh c ph).e,()),()):=by
 obtain⟨c0,c1,c2,c3,c4,c5,c6⟩:=cmP c;have bT:=h.pos;have nZ:c.steps<=8:=by have:=h.plen;have:=h.rlen;unfold Cm.steps;split<;>(try split)<;>omega
 have be:Zdm N (Cm.e {c with pos:=c.pos+1})=ret c.steps:=Wmq;unfold Zbi Weh;rw[c3,WI (by unfold I64;omega)];rw[show(c.e.1,(c.e.2.1,(c.e.2.2.1,(c.pos+1,c.e.2.2.2.2))))=Cm.e {c with pos:=c.pos+1}from rfl,be];simp only[ret,Xd,Wv,WrE];split<;>rfl
theorem WqV(h:CmOk c)(hN:1048576<N):∃b,Zko N c.e=some ((),((Wa6 c).e,(b,()))):=by
 obtain⟨c0,c1,c2,c3,c4,c5,c6⟩:=cmP c;have bT:=h.pos;have eE:=h.plen;have nZ:c.steps<=8:=by have:=h.plen;have:=h.rlen;unfold Cm.steps;split<;>(try split)<;>omega
 unfold Zko Wa6;rw[Wjw h];simp only[ret,Xd];rw[Whd h hN];simp only[ret,Xd,Xo,Wc,Wv,c2,c3,c5,Why h (show 0<=c.pos/\c.pos<=8 by omega),Why h (show 0<=Wh c.puts/\Wh c.puts<=8 by unfold Wh;omega)];by_cases h1:c.phase=1
 .simp_all
 .rw[Wb h1,Wb h1];by_cases h2:c.phase=2
  .rw[Wf h2,Wf h2,Wf (.inl h2)];exact⟨_,rfl⟩
  .rw[Wb h2];by_cases h3:c.phase=3
   .rw[Wf h3,Wf (.inr h3)];exact⟨_,rfl⟩
   simp_all
theorem Wnp{l:List Rw}(hl:l.length<=1048576)(hN:1048576<N):Zit N l=ret ((Wcq l).map (·.1)):=by
 unfold Zit;rw[WdG hl hN];have hn:=WcX l;simp only[ret,Xd];have h1:=Wy (l:=Wcq l) (V:=List Int) (R:=Unit×(List Int×Unit)) (lp:=λn j v=>Zcx N (Wh (Wcq l)) (Wcq l) (λar aw aV=>(some ((),(aV,())))) n j v) (n:=N) (by omega)
  (body:=λj x v k=>bif Wz (v.length+ [x.1].length)then k (Xg v [x.1])else none) (K:=λ_ v=>ret v)
  (λn i v hi=>by simp only[Zcx,WF hi,Wu hi,Ww hi,Wm (show i<4611686018427387904 by omega),Wa])
  (λn v=>by simp[Zcx,WO,Xl,Wc]) []
 refine h1.trans ?_;rw[WbT (f:=λx:Rw=>x.1) (Wcq l) 0 [] (by simp;omega) (λj x v k _=>rfl)];rfl
theorem Wty{who rv:Int}{puts reads:List Rw}(hw:1<=who/\who<=99)(hr:0<=rv/\rv<=1000000)(hp:Wad puts=true)(hd:Wad reads=true)(hN:1048576<N):
  Ze6 N who rv puts reads=some ((),((Wfs who rv puts reads).e,(true,()))):=by
 have l1:puts.length<=300:=by grind [Wad]
 have l2:reads.length<=300:=by grind [Wad]
 unfold Ze6;simp only[Wbv,WX,Wcg (show puts.length<=1048576 by omega) hN,Wcg (show reads.length<=1048576 by omega) hN,WdG (show puts.length<=1048576 by omega) hN,Wnp (show reads.length<=1048576 by omega) hN,ret,Xd,We hw.1,We hw.2,We hr.1,We hr.2,hp,hd,Xal,Xo,Wc,Wv];unfold Wfs Cm.e;by_cases hz:(Wcq puts).length=0
 .simp_all [Wf,Wh]
 simp_all [Wb,Wh]
theorem Wc8{m:Mm}{i:Int}:Xc m.2 (Xa i) ((0:Int),((0:Int),(0:Int)))=Wan m i:=rfl
theorem WbP(hm:WY m=true){i:Int}(hi:0<=i/\i<=7):inb i m.2.length=true:=by
 grind [WE,inb]
theorem Wdj{i:Int}(hi:0<=i/\i<=7):Wam i=true:=by grind [Wam]
theorem WlH(hm:WY m=true){i who:Int}(hi:0<=i/\i<=7)(hw:1<=who/\who<=99)(hN:1048576<N):
  Zrn N m i who=some ((),((if(Wan m i).2.2=0 then WrW m i who else m),(decide ((Wan m i).2.2=0),()))):=by
 unfold Zrn;rw[WdJ hm,WaZ (by grind [WE]) hN,hm];simp only[ret,Xd,Xo,Wc,Wax,Wdj hi,Wbv,We hw.1,We hw.2,Xal,WbP hm hi,Wa,Wc8,W6];by_cases h:(Wan m i).2.2=0
 .rw[Wf h,Wf h,We h];rfl
 simp_all
theorem Wkc(hm:WY m=true){i who v:Int}(hi:0<=i/\i<=7)(hw:1<=who/\who<=99)(hv:0<=v/\v<=65535)(hN:1048576<N):
  ∃b,Ztk N m i who v=some ((),(Wh0 m i who v,(b,()))):=by
 unfold Ztk Wh0;rw[WdJ hm,WaZ (by grind [WE]) hN,hm];simp only[ret,Xd,Xo,Wc,Wax,Wdj hi,Wbv,War,Wag.2 hv,We hw.1,We hw.2,Xal,WbP hm hi,Wa,Wc8,W6];by_cases h:(Wan m i).2.2=who
 .rw[Wf h,Wf h];exact⟨_,rfl⟩
 simp_all
theorem Wff(hm:WY m=true){i who ver:Int}(hi:0<=i/\i<=7)(hw:1<=who/\who<=99)(hN:1048576<N):
  ∃b,Zn3 N m i who ver=some ((),(Weu m i who ver,(b,()))):=by
 have h8:=(WE hm).1;unfold Zn3 Weu;rw[WdJ hm,WaZ (by omega) hN,hm];simp only[ret,Xd,Xo,Wc,Wax,Wdj hi,Wbv,WX,We hw.1,We hw.2,Xal,WbP hm hi,Wa,Wc8,W6,Xav,Ws];by_cases h:(Wan m i).2.2=who
 .rw[Wf h];by_cases h2:(Wan m i).2.1<=ver/\ver<=m.1
  .rw[Wf ⟨h,h2.1,h2.2⟩,We h2.1,We h2.2];refine⟨true,?_⟩;have:i.toNat<m.2.length:=by omega
   simp only[Xal,Xo,Wc,Wgd this,Xcq];rfl
  .rw[Wb (by omega)];refine⟨false,?_⟩
   grind
 simp_all
theorem Wmm(h:CmOk c)(hm:WY m=true)(hN:1048576<N):Zli N m c.e=some ((),((Wdo m c).1,((Wdo m c).2.e,()))):=by
 obtain⟨c0,c1,c2,c3,c4,c5,c6⟩:=cmP c;have bT:=h.pos;have eE:=h.plen;have hw:=h.who;have nZ:c.steps<=8:=by have:=h.plen;have:=h.rlen;unfold Cm.steps;split<;>(try split)<;>omega
 have b1:=Why (N:=N) h (show 0<=c.pos/\c.pos<=8 by omega);have b2:=Why (N:=N) h (show 0<=Wh c.puts/\Wh c.puts<=8 by unfold Wh;omega);unfold Zli Wdo;rw[WdJ hm,Wjw h];simp only[ret,Xd];rw[WaZ (by grind [WE]) hN,Whd h hN,hm];simp only[ret,Xd,Xo,Wc,Wv,c0,c1,c2,c3,c4,c5,c6,Waj,b1,b2,Wsh h];by_cases h1:c.phase=1
 .rw[Wf h1,Wf h1];obtain⟨j,hj,e1,e2,e3,e4⟩:=h.put (by omega);rw[show Xc c.puts (Xa c.pos) ((0:Int),(0:Int))=c.puts[j]from e2,e2,e1,WB,We hj,WlH hm e3 hw hN,←e1]
  grind
 .rw[Wb h1,Wb h1];by_cases h2:c.phase=2
  .rw[Wf h2,Wf h2,Wl6 hm hN];simp only[Xd];by_cases ht:(tick m).2=0
   .rw[Wf ht,Wf ht];rfl
   .rw[Wb ht,Wb ht];rw[show(c.who,(c.rv,(c.phase,(c.pos,((tick m).2,c.e.2.2.2.2.2)))))=Cm.e {c with wv:=(tick m).2}from rfl,WrE];rfl
  .rw[Wb h2,Wb h2];by_cases h3:c.phase=3
   .rw[Wf h3,Wf h3];obtain⟨j,hj,e1,e2,e3,e4⟩:=h.read h3;rw[show Xc c.reads (Xa c.pos) (0:Int)=c.reads[j]from e2,e2,e1,WB,We hj,WbP hm ⟨e3,e4⟩];simp only[Wa,W6,WT];rw[show Xc m.2 (Xa c.reads[j]) ((0:Int),((0:Int),(0:Int)))=Wan m c.reads[j]from rfl];by_cases a:(Wan m c.reads[j]).2.2=0
    .rw[Wf a];by_cases b:(Wan m c.reads[j]).2.1>c.rv
     .rw[Wf b,Wf (.inr b)];rfl
     grind
    .rw[Wb a];by_cases a':(Wan m c.reads[j]).2.2=c.who
     .rw[Wf a'];by_cases b:(Wan m c.reads[j]).2.1>c.rv
      .rw[Wf b,Wf (.inr b)];rfl
      grind
     .rw[Wb a',Wf (.inl ⟨a,a'⟩)];rfl
   .rw[Wb h3,Wb h3];by_cases h4:c.phase=4
    .rw[Wf h4,Wf h4];obtain⟨j,hj,e1,e2,e3,e4⟩:=h.put (by omega)
     grind [Wkc,Xc,Xa,WB,decide_eq_true]
    .rw[Wb h4,Wb h4];by_cases h5:c.phase=5
     .rw[Wf h5,Wf h5];obtain⟨j,hj,e1,e2,e3,e4⟩:=h.put (by omega);obtain⟨b,hb⟩:=Wff (ver:=c.wv) hm e3 hw hN
      grind [Xc,Xa,WB,decide_eq_true]
     .rw[Wb h5,Wb h5];by_cases h7:c.phase=7
      .rw[Wf h7,Wf h7];obtain⟨j,hj,e1,e2,e3,e4⟩:=h.put (by omega);obtain⟨b,hb⟩:=Wff (ver:=(Wan m c.puts[j].1).2.1) hm e3 hw hN;rw[show Xc c.puts (Xa c.pos) ((0:Int),(0:Int))=c.puts[j]from e2,e2,e1,WB,We hj,WbP hm e3];simp only[Wa,Wc8,hb,←e1];rfl
      simp_all
end
end
section
abbrev RM:=Int×Int×Int×Int×List Int
abbrev Wr:=Int×Int×List Rw
abbrev Pg:=List Opn×List (List Opn)
abbrev Ac:=Int×Int×Int
abbrev Sc:=Kf×List Pg×List Ac
structure Rt where
 phase:Int:=0
 tries:Int:=0
 spare:Int:=0
 pc:Int:=0
 rv:Int:=0
 newRv:Int:=0
 pos:Int:=0
 fate:Int:=0
 stamp:Int:=0
 began:Int:=0
 ended:Int:=0
 doomed:Bool:=false
 regs:List Int:=[]
 reads:List Rw:=[]
 writes:List Rw:=[]
 marks:List RM:=[]
 undos:List Un:=[]
 order:List Int:=[]
 busy:Bool:=false
 pb:Pb:=(0,0,0,0)
 cm:Cm:={}
 fam:Fm:={}
def Rt.e(r:Rt):Y_Root:=(r.phase,r.tries,r.spare,r.pc,r.rv,r.newRv,r.pos,r.fate,r.stamp,r.began,r.ended,r.doomed,r.regs,r.reads,r.writes,r.marks,r.undos,r.order,r.busy,r.pb,r.cm.e,r.fam.e)
structure Wo where
 now:Int:=0
 token:Int:=0
 mem:Mm:=(0,[])
 shelf:Shf:=([],0)
 holds:List Hd:=[]
 roots:List Rt:=[]
 hist:List Wr:=[]
def Wo.e(w:Wo):Y_World:=(w.now,w.token,w.mem,w.shelf,w.holds,w.roots.map Rt.e,w.hist)
def zRM:RM:=(0,0,0,0,[])
def Rt.last(x:Rt):RM:=WfO x.marks zRM
def Wix(x:Rt):Rt:={phase:=6,tries:=x.tries,undos:=x.undos}
def Wcf(x:Rt):Rt:=
 if x.marks.length=0\/x.spare=2 then Wix x else{x with spare:=x.spare+1,busy:=false,pb:=(0,0,0,0),phase:=3}
def WfE(w:Wo)(x:Rt):Wo×Rt:=({w with shelf:=WfB w.shelf (WfO x.undos (0,0,0))},{x with undos:=x.undos.dropLast})
def WlC(w:Wo)(x:Rt)(k:Nat):Wo×Rt:=
 ({w with token:=if w.token=(k:Int)+1 then 0 else w.token},{x with phase:=8,ended:=w.now,undos:=[],doomed:=false})
def WfT(w:Wo)(x:Rt)(k:Nat)(out:Int):Wo×Rt:=
 let rows:=if out=2 then []else x.writes
 if rows.length=0/\(Wdy w.holds ((k:Int)+1)).length=0 then WlC w {x with fate:=out,stamp:=x.rv} k
 else(w,{x with fate:=out,cm:=Wfs ((k:Int)+1) x.rv rows x.reads,phase:=5})
def Wm5(w:Wo)(x:Rt)(o:Opn):Rt:=
 match WbY x.writes o.2.2.1 with
 |some v=>{x with regs:=WnD x.regs o.2.1 v,pc:=x.pc+1}
 |none=>
  let p:=WaD w.mem x.rv (if x.busy then x.pb else(o.2.2.1,0,0,0))
  if p.2.1=4 then Wcf {x with busy:=true,pb:=p}
  else if p.2.1=3 then{x with regs:=WnD x.regs o.2.1 p.2.2.2,reads:=x.reads++ [(o.2.2.1,p.2.2.2)],busy:=false,pb:=(0,0,0,0),pc:=x.pc+1}
  else{x with busy:=true,pb:=p}
def WjC(w:Wo)(x:Rt)(k:Nat)(code:List Opn):Wo×Rt:=
 if x.marks.length=0 then WfT w x k 2 else
 if(x.undos.length:Int)>x.last.2.2.2.1 then WfE w x else
 (w,{x with marks:=x.marks.dropLast,regs:=WnD x.last.2.2.2.2 (opN code x.last.1).2.1 0,writes:=x.writes.take x.last.2.2.1.toNat,pc:=Wjc code x.last.1.toNat+1})
def Wgp(w:Wo)(x:Rt)(k:Nat)(o:Opn):Wo×Rt:=
 match WcI w.holds ((k:Int)+1) (WbB o).1 (WbB o).2 with
 |none=>(w,Wcf x)
 |some hs=>
  let b:=WaM w.shelf o x.regs
  ({w with holds:=hs,shelf:=b.1},{x with regs:=b.2.1,undos:=if b.2.2.1=0 then x.undos else x.undos++ [b.2.2],pc:=x.pc+1})
def WpP(w:Wo)(x:Rt)(k:Nat)(p:Pg):Wo×Rt:=
 if x.pc>=p.1.length then WfT w x k 1 else
 let o:=opN p.1 x.pc
 if o.1=5 then(w,Wm5 w x o)else
 if o.1=10 then WjC w x k p.1 else
 if o.1=11 then(w,{x with phase:=2,fam:=WcW x.rv x.regs x.writes p.2.length})else
 if o.1>=12 then Wgp w x k o else
 if o.1=6 then(w,{x with writes:=x.writes++ [(o.2.1,Wbt x.regs o.2.2.1 0)],pc:=x.pc+1})else
 if o.1=7 then(w,{x with pc:=(if Wbt x.regs o.2.1 0=0 then x.pc+o.2.2.1 else x.pc)+1})else
 if o.1=8 then(w,{x with marks:=x.marks++ [(x.pc,(x.reads.length:Int),(x.writes.length:Int),(x.undos.length:Int),x.regs)],pc:=x.pc+1})else
 if o.1=9 then(w,{x with marks:=x.marks.dropLast,regs:=WnD x.regs (opN p.1 x.last.1).2.1 1,pc:=x.pc+1})else
 (w,{x with regs:=Wls o x.regs,pc:=x.pc+1})
def Way(k:Nat):List Rt->Nat->Bool
 | [],_=>true
 |x::l,i=>(decide (i=k)||(decide (x.phase=0)||decide (x.phase=8)))&&Way k l (i+1)
def WeX(w:Wo)(x:Rt)(k:Nat):Wo×Rt:=
 if w.token≠0/\w.token≠(k:Int)+1 then(w,x)else
 if x.tries>=3/\w.token=0 then({w with token:=(k:Int)+1},x)else
 if w.token=(k:Int)+1/\Way k w.roots 0=false then(w,x)else
 (w,{phase:=1,tries:=x.tries,rv:=w.mem.1,began:=w.now,regs:=[0,0,0,0]})
def Who(x:Rt):Rt:=
 if x.fam.lost then Wix x else
 if Wck x.fam then{x with regs:=Wfo x.fam,writes:=Wgy x.fam,reads:=x.reads++x.fam.reads,order:=x.fam.order,fam:={},phase:=1,pc:=x.pc+1}
 else x
def WbG(w:Wo)(x:Rt):Wo×Rt:=
 if(x.undos.length:Int)>x.last.2.2.2.1 then WfE w x else(w,{x with newRv:=w.mem.1,pos:=0,phase:=4})
def WbW(w:Wo)(x:Rt):Rt:=
 if x.pos<x.last.2.1 then
  let c:=Wan w.mem (Wbt x.reads x.pos (0,0)).1
  if c.2.2≠0\/c.2.1>x.rv then Wix x else{x with pos:=x.pos+1}
 else{x with rv:=x.newRv,newRv:=0,pos:=0,reads:=x.reads.take x.last.2.1.toNat,writes:=x.writes.take x.last.2.2.1.toNat,regs:=x.last.2.2.2.2,pc:=x.last.1+1,phase:=1}
def Woa(x:Rt):Rt:=
 if x.cm.phase=8 then Wix x else
 if x.cm.phase=6 then{x with stamp:=x.cm.wv,cm:={},phase:=if x.fate=2 then 6 else 7}else x
def Wbn(w:Wo)(x:Rt)(k:Nat):Wo×Rt:=
 if x.doomed then(w,if(Wa6 x.cm).phase=8 then Wix x else{x with cm:=Wa6 x.cm,doomed:=false})else
 let q:=Wdo w.mem x.cm
 ({w with mem:=q.1,hist:=if x.cm.phase<=3/\q.2.phase=4 then w.hist++ [(q.2.wv,(k:Int)+1,q.2.puts)]else w.hist},Woa {x with cm:=q.2})
def Wi5(w:Wo)(x:Rt)(k:Nat)(p:Pg):Wo×Rt:=
 if x.doomed=true/\1<=x.phase/\x.phase<=4 then(w,Wix x)else
 if x.phase=0 then WeX w x k else
 if x.phase=1 then WpP w x k p else
 if x.phase=2 then(w,Who x)else
 if x.phase=3 then WbG w x else
 if x.phase=4 then(w,WbW w x)else
 if x.phase=5 then Wbn w x k else
 if x.phase=6 then(if x.undos.length>0 then WfE w x else(w,{x with phase:=7}))else
 if x.phase=7 then
  (if x.fate=0 then({w with holds:=WS w.holds ((k:Int)+1)},{tries:=x.tries+1})
   else WlC {w with holds:=WS w.holds ((k:Int)+1)} x k)
 else(w,x)
def Wo.put(q:Wo×Rt)(k:Nat):Wo:={q.1 with roots:=q.1.roots.set k q.2}
def rt0:Rt:={}
def pg0:Pg:=([],[])
def WqU(w:Wo)(k:Nat)(p:Pg):Wo:=Wo.put (Wi5 w (w.roots.getD k rt0) k p) k
def Wu5(w:Wo)(x:Rt)(k j:Nat)(p:Pg):Wo:=Wo.put (w,{x with fam:=Wiz w.mem x.fam j (p.2.getD j [])}) k
def Wce(s:Sc)(w0:Wo)(a:Ac):Wo:=
 let w:={w0 with now:=w0.now+1}
 if 0<=a.2.1/\a.2.1<w.roots.length then
  let k:=a.2.1.toNat
  let x:=w.roots.getD k rt0
  let p:=s.2.1.getD k pg0
  if a.1=1 then WqU w k p else
  if a.1=2 then(if x.phase=2/\0<=a.2.2/\a.2.2<p.2.length then Wu5 w x k a.2.2.toNat p else w)else
  if a.1=3 then(if(1<=x.phase/\x.phase<=4)\/(x.phase=5/\x.cm.phase<=3)then Wo.put (w,{x with doomed:=true}) k else w)else w
 else w
def WmL(s:Sc):Wo:={mem:=Wmr s.1.1,shelf:=(WjQ s.1.2.1,s.1.2.2),roots:=Xp s.2.1.length {}}
def Wuu(s:Sc):Wo:=s.2.2.foldl (Wce s) (WmL s)
structure RMk(code:List Opn)(pc:Nat)(marks:List RM)(rl wl ul:Nat):Prop where
 pcs:marks.map (·.1)=(stk code pc).map λm:Nat=>(m:Int)
 each:∀q∈marks,Vals 4 q.2.2.2.2/\(0<=q.2.1/\q.2.1<=q.1+72*frk code q.1.toNat/\q.2.1<=rl)/\(0<=q.2.2.1/\q.2.2.1<=q.1+8/\q.2.2.1<=wl)/\0<=q.2.2.2.1/\q.2.2.2.1<=q.1/\q.2.2.2.1<=ul
 up:marks.Pairwise λa b=>a.2.1<=b.2.1/\a.2.2.1<=b.2.2.1/\a.2.2.2.1<=b.2.2.2.1
structure RLive(p:Pg)(n:Int)(x:Rt):Prop where
 pc:0<=x.pc/\x.pc<=p.1.length
 spare:0<=x.spare/\x.spare<=2
 rv:0<=x.rv/\x.rv<=1000000
 regs:Vals 4 x.regs
 reads:Wjb x.reads
 rl:(x.reads.length:Int)<=x.pc+72*frk p.1 x.pc.toNat
 writes:Wjb x.writes
 wl:(x.writes.length:Int)<=x.pc+8
 ul:(x.undos.length:Int)<=x.pc
 marks:RMk p.1 x.pc.toNat x.marks x.reads.length x.writes.length x.undos.length
 pb:x.busy=true->WiM x.pb=true
 fork:x.phase=2->x.pc<p.1.length/\(opN p.1 x.pc).1=11/\FOk p.2 n x.fam
 back:x.phase=3\/x.phase=4->x.marks.length≠0
 newRv:0<=x.newRv/\x.newRv<=1000000
 pos:x.phase=4->0<=x.pos/\x.pos<=x.last.2.1
 unw:x.phase=4->(x.undos.length:Int)<=x.last.2.2.2.1
structure ROk(p:Pg)(n:Int)(x:Rt):Prop where
 phase:0<=x.phase/\x.phase<=8
 tries:0<=x.tries/\x.tries<=n
 live:1<=x.phase/\x.phase<=4->RLive p n x
 comm:x.phase=5->CmOk x.cm
 undos:∀u∈x.undos,UnV u
 ul:x.undos.length<=24
 rg:x.regs.length<=4
 ord:x.order.length<=3
structure POk(p:Pg):Prop where
 code:CC p.1
 kids:∀c∈p.2,KC c
 k3:p.2.length<=3
def HE(h:Wr):Prop:=h.2.2.length<=8/\Wjb h.2.2/\1<=h.2.1/\h.2.1<=9
structure WOk(ps:List Pg)(n:Int)(w:Wo):Prop where
 len:w.roots.length=ps.length
 l4:ps.length<=4
 progs:∀p∈ps,POk p
 now:w.now=n
 n0:0<=n
 mem:WY w.mem=true
 shelf:ShOk w.shelf
 holds:HOk w.holds
 hist:(w.hist.length:Int)<=n
 histE:∀h∈w.hist,HE h
 root:∀(k:Nat) (h:k<w.roots.length),ROk (ps.getD k pg0) n w.roots[k]
end
section
theorem rtP(x:Rt):x.e.1=x.phase/\x.e.2.1=x.tries/\x.e.2.2.1=x.spare/\x.e.2.2.2.1=x.pc/\P4 x.e=x.rv/\P5 x.e=x.newRv/\P6 x.e=x.pos/\P7 x.e=x.fate/\P8 x.e=x.stamp/\P11 x.e=x.doomed/\P12 x.e=x.regs/\P13 x.e=x.reads/\P14 x.e=x.writes/\P15 x.e=x.marks/\P16 x.e=x.undos/\P18 x.e=x.busy/\P19 x.e=x.pb/\P20 x.e=x.cm.e/\Q21 x.e=x.fam.e/\P24 x.e=x.fam.lost/\P28 x.e=x.fam.order/\P29 x.e=x.fam.reads:=
 ⟨rfl,rfl,rfl,rfl,rfl,rfl,rfl,rfl,rfl,rfl,rfl,rfl,rfl,rfl,rfl,rfl,rfl,rfl,rfl,rfl,rfl,rfl⟩
theorem S5e(w:Wo)(k:Nat)(x:Rt):S5 (Xe (w.roots.map Rt.e) k x.e) w.e=Wo.e {w with roots:=w.roots.set k x}:=by
 unfold S5 Wo.e;rw[List.map_set]
theorem WcO{w w':Wo}{k:Nat}{x':Rt}{y:Y_Root}{g:Y_World}(hy:y=x'.e)(hg:g=w'.e)(hr:w'.roots=w.roots):
  some ((S5 (Xe (w.roots.map Rt.e) k y) g,()),())=some (((Wo.put (w',x') k).e,()),()):=by
 subst hy hg;rw[←hr,S5e];rfl
variable{N:Nat}{w:Wo}{k:Nat}{x:Rt}{o:Opn}{p:Pg}{n:Int}{code:List Opn}
theorem woG(hk:k<w.roots.length)(aG:w.roots[k]=x):Xc (w.roots.map Rt.e) k d_Root=x.e/\Xc (w.roots.map Rt.e) (Xa (k:Int)) d_Root=x.e/\S5 (Xe (w.roots.map Rt.e) (Xa (k:Int)) x.e) w.e=w.e/\inb (k:Int) (w.roots.map Rt.e).length=true/\S5 (Xe (w.roots.map Rt.e) k x.e) w.e=w.e:=by
 have h1:Xc (w.roots.map Rt.e) k d_Root=x.e:=by
  have:=WhM Rt.e w.roots k {};rw[WJ hk,aG]at this;exact this
 have h2:S5 (Xe (w.roots.map Rt.e) k x.e) w.e=w.e:=by rw[S5e,←aG,Xba]
 rw[Xk];refine⟨h1,h1,h2,?_,h2⟩;rw[WB,Xx];exact We hk
theorem Wkt(hk:k<w.roots.length)(aG:w.roots[k]=x):Wo.put (w,x) k=w:=by
 unfold Wo.put;simp only;rw[←aG,Xba]
theorem WeE:Za6 N x.e=some (((Wix x).e,()),()):=rfl
theorem Weg(hs:0<=x.spare/\x.spare<=2):Zdl N x.e=some (((Wcf x).e,()),()):=by
 obtain⟨r0,r1,r2,r3,r4,r5,r6,r7,r8,eB,dR,dc,dh,dC,dD,fa,fb,eC,eD,fe,ff,fg⟩:=rtP x;unfold Zdl Wcf;simp only[Wv,dC,r2,Wh,WeE,Xd];by_cases h1:x.marks.length=0
 .rw[Wf (by omega),Wf (.inl h1)]
 .rw[Wb (by omega)];by_cases h2:x.spare=2
  .rw[Wf h2,Wf (.inr h2)]
  .rw[Wb h2,Wb (by omega),WI (by unfold I64;omega)];rfl
theorem Wbd{α:Type}{l:List α}(h:l.length≠0)(hl:l.length<=1000)(d:α):inb (WV .i64 (Wh l) 1) l.length=true/\Xc l (Xa (WV .i64 (Wh l) 1)) d=WfO l d/\Xaj (Xa (WV .i64 (Wh l) 1)) l=l.dropLast/\(decide ((0:Int)<=WV .i64 (Wh l) 1)&&decide (WV .i64 (Wh l) 1<=(l.length:Int)))=true:=by
 have e:WV .i64 (Wh l) 1=((l.length-1:Nat):Int):=by rw[Wh3 (by omega)];omega
 rw[e];refine⟨by rw[WB];exact We (by omega),by rw[Xk];rfl,by rw[Xk,Xge],by simp⟩
theorem Wol(h:x.marks.length≠0)(hl:x.marks.length<=1000):Zjh N x.e=some ((x.e,()),(x.last,())):=by
 obtain⟨a,b,c,d⟩:=Wbd h hl zRM;unfold Zjh;rw[show x.e.2.2.2.2.2.2.2.2.2.2.2.2.2.2.2.1=x.marks from rfl,a];simp only[Wa];rw[show((0:Int),((0:Int),((0:Int),((0:Int),([]:List Int)))))=zRM from rfl,b];rfl
theorem WmR(h:x.marks.length≠0)(hl:x.marks.length<=1000):Zeg N x.e=some ((),((x.last.1,(x.last.2.1,(x.last.2.2.1,x.last.2.2.2.1))),())):=by
 obtain⟨a,b,c,d⟩:=Wbd h hl zRM;unfold Zeg;simp only[Ws];rw[show P15 x.e=x.marks from rfl,a];simp only[Wa];rw[show((0:Int),((0:Int),((0:Int),((0:Int),([]:List Int)))))=zRM from rfl,b];rfl
theorem Wla(hk:k<w.roots.length)(aG:w.roots[k]=x)(hz:x.undos.length≠0)(hl:x.undos.length<=1000)(hu:∀u∈x.undos,UnV u)(hs:ShOk w.shelf)(hN:1048576<N):
  Zch N w.e k=some (((Wo.put (WfE w x) k).e,()),()):=by
 obtain⟨g1,g2,g3,g4,g5⟩:=woG hk aG;obtain⟨a,b,c,d⟩:=Wbd hz hl ((0,0,0):Un);have hmem:WfO x.undos ((0,0,0):Un)∈x.undos:=by
  unfold WfO;rw[WJ (show x.undos.length-1<x.undos.length by omega)];exact Xab _
 unfold Zch WfE;simp only[Ws];rw[show P5 w.e=w.roots.map Rt.e from rfl,g1];rw[show x.e.2.2.2.2.2.2.2.2.2.2.2.2.2.2.2.2.1=x.undos from rfl,a,b,show w.e.2.2.2.1=w.shelf from rfl,Wis hs (hu _ hmem) hN,c];simp only[Wa,Xd,d];exact WcO rfl rfl rfl
theorem WrF(hk:k<w.roots.length)(aG:w.roots[k]=x)(fY:k<=1000):Zg8 N w.e (k:Int)=some (((Wo.put (WlC w x k) k).e,()),()):=by
 obtain⟨g1,g2,g3,g4,g5⟩:=woG hk aG;unfold Zg8 WlC;simp only[Ws];rw[show P5 w.e=w.roots.map Rt.e from rfl,g4,g2,Wai (by omega),Xk];simp only[Wa,Wv];rw[show w.e.2.1=w.token from rfl];by_cases h:w.token=(k:Int)+1
 .rw[Wf h];simp only[Wf h];exact WcO rfl rfl rfl
 .rw[Wb h];simp only[Wb h];exact WcO rfl rfl rfl
theorem Wl2(hk:k<w.roots.length)(aG:w.roots[k]=x)(fY:k<=8)(hh:HOk w.holds)(jX:0<=x.rv/\x.rv<=1000000)(hr:Wad x.reads=true)(hw:Wad x.writes=true){out:Int}(hN:1048576<N):
  Zhr N w.e (k:Int) out=some (((Wo.put (WfT w x k out) k).e,()),()):=by
 obtain⟨g1,g2,g3,g4,g5⟩:=woG hk aG;obtain⟨r0,r1,r2,r3,r4,r5,r6,r7,r8,eB,dR,dc,dh,dC,dD,fa,fb,eC,eD,fe,ff,fg⟩:=rtP x;have mh:=WeP hh;have mL:∀y:Rt,Zg8 N (S5 (Xe (w.roots.map Rt.e) (Xa (k:Int)) y.e) w.e) (k:Int)=some (((Wo.put (WlC w y k) k).e,()),()):=λy=>by
  rw[Xk,S5e];have h1:k<({w with roots:=w.roots.set k y}:Wo).roots.length:=by simpa using hk
  rw[WrF (x:=y) h1 (by simp) (by omega)];unfold WlC Wo.put;simp only[Xcq]
 unfold Zhr WfT;simp only[Ws];rw[show P5 w.e=w.roots.map Rt.e from rfl,g4,g2,Wai (by omega),show P4 w.e=w.holds from rfl];have qT:∀{α:Type} (a b:α),(bif ((0:Int)==(0:Int))then a else b)=a:=λ_ _=>rfl;have uf:∀{α:Type} (a b:α),(bif ((0:Nat)==(0:Nat))then a else b)=a:=λ_ _=>rfl;simp only[qT,uf];simp only[Wa,Wv,r4,dc,dh,Wiw (who:=(k:Int)+1) hh (by omega) hN,ret,Xd,Wh];have n7:∀rows,Wad rows=true->Ze6 N ((k:Int)+1) x.rv rows x.reads=some ((),((Wfs ((k:Int)+1) x.rv rows x.reads).e,(true,()))):=λrows hY=>Wty (by omega) jX hY hr hN;have bu:Ze6 N ((k:Int)+1) x.rv ([]:List Kc) x.reads=some ((),((Wfs ((k:Int)+1) x.rv [] x.reads).e,(true,()))):=n7 [] rfl;have be:(S8 x.rv (S7 out x.e))=Rt.e {x with fate:=out,stamp:=x.rv}:=rfl;rw[bu,n7 _ hw,be,mL];simp only[Xd];by_cases ho:out=2
 .rw[Wf ho,Wf ho];by_cases hz:(Wdy w.holds ((k:Int)+1)).length=0
  .rw[Wf (by omega),Wf ⟨rfl,hz⟩]
  .rw[Wb (by omega),Wb (λh=>hz h.2),Xk];exact WcO rfl rfl rfl
 .rw[Wb ho,Wb ho];by_cases hy:x.writes.length=0
  .rw[Wf (by omega)];by_cases hz:(Wdy w.holds ((k:Int)+1)).length=0
   .rw[Wf (by omega),Wf ⟨hy,hz⟩]
   .rw[Wb (by omega),Wb (λh=>hz h.2),Xk];exact WcO rfl rfl rfl
  .rw[Wb (by omega),Wb (λh=>hy h.1),Xk];exact WcO rfl rfl rfl
theorem Wmf{l:List Rw}(h:Wjb l)(hl:l.length<=300):Wad l=true:=by
 unfold Wad;rw[Whx.2 h,We hl];rfl
theorem Wq0(hc:CC code):∀j,j<=code.length->frk code j<=1
 |0,_=>by simp[frk]
 |j+1,h=>by
  have hj:j<code.length:=by omega
  by_cases fT:code[j].1=11
  .exact(hc.fk j hj fT).2
  .rw[Whr hj,show(code[j].1==11)=false by simpa using fT];have:=Wq0 hc j (by omega);simpa using this
theorem RLive.sz(hc:CC p.1)(h:RLive p n x):x.reads.length<=96/\x.writes.length<=32/\x.undos.length<=24/\x.marks.length<=24/\Wad x.reads=true/\Wad x.writes=true:=by
 have h1:=h.pc;have h2:=hc.len;have h3:=Wq0 hc x.pc.toNat (by omega);have h4:=h.rl;have h5:=h.wl;have h6:=h.ul;have h7:=Wn Xb h.marks.pcs;simp only[Xx]at h7;have h8:=WaT hc.up x.pc.toNat (by omega);have h9:=(Wco p.1 x.pc.toNat).2;exact⟨by omega,by omega,by omega,by omega,Wmf h.reads (by omega),Wmf h.writes (by omega)⟩
theorem WmY(hb:x.busy=true->WiM x.pb=true){c:Int}(hc:0<=c/\c<=7):WiM (if x.busy then x.pb else(c,0,0,0))=true:=by
 split
 .exact hb ‹_›
 .rw[WeU];simp only;omega
theorem Wsy(hk:k<w.roots.length)(aG:w.roots[k]=x)(hc:CC p.1)(hx:RLive p n x)(hm:WY w.mem=true)(h5:o.1=5)(ho:Wdx o=true)(hN:1048576<N):
  Zlh N w.e k o=some (((Wo.put (w,Wm5 w x o) k).e,()),()):=by
 obtain⟨g1,g2,g3,g4,g5⟩:=woG hk aG;obtain⟨r0,r1,r2,r3,r4,r5,r6,r7,r8,eB,dR,dc,dh,dC,dD,fa,fb,eC,eD,fe,ff,fg⟩:=rtP x;obtain⟨z1,z2,z3,z4,z5,z6⟩:=hx.sz hc;obtain⟨hA,hB⟩:=Wt7 ho h5;have hB':0<=o.2.2.1/\o.2.2.1<=7:=by unfold Wam at hB;simpa using hB
 have bQ:=hx.regs.len;have bp:=hx.pc;have hcl:=hc.len;have fV:=hx.spare;unfold Zlh Wm5;simp only[Ws];rw[show P5 w.e=w.roots.map Rt.e from rfl,g1,show w.e.2.2.1=w.mem from rfl];simp only[r3,r4,dR,dc,dh,fa,fb];rw[Wd9 (by omega) hN,WR hA bQ,Wai (by omega)];cases hl:WbY x.writes o.2.2.1 with
 |some v=>
  simp only[opI,Xd,Wa];exact WcO rfl rfl rfl
 |none=>
  have ao:Wz (x.reads.length+ [(o.2.2.1,(0:Int))].length)=true:=Wt (by simp;omega);have j8:Zf8 N o.2.2.1=some ((),((o.2.2.1,0,0,0),(true,()))):=by
   unfold Zf8;rw[Wax,hB];rfl
  have fH:=WmY hx.pb hB';have oa:S18 true x.e=Rt.e {x with busy:=true}:=rfl;simp only[opI,Xd,Wc,Wv,j8,oa];have fI:∀q:Pb,S19 q (Rt.e {x with busy:=true})=Rt.e {x with busy:=true,pb:=q}:=λq=>rfl;simp only[fI,Weg (x:={x with busy:=true,pb:=_}) fV];cases hb:x.busy with
  |false=>
   rw[hb]at fH;simp only[Xbc,Wal]at fH;rw[WeK hm fH hN];simp only[Xbn,Wa,ret,Xd,Xbc,Wal];generalize WaD w.mem x.rv (o.2.2.1,0,0,0)=q;by_cases h4:q.2.1=4
   .rw[Wf h4,Wf h4];exact WcO rfl rfl rfl
   .rw[Wb h4,Wb h4];by_cases h3:q.2.1=3
    .rw[Wf h3,Wf h3,Wt (by simp;omega)];exact WcO rfl rfl rfl
    .rw[Wb h3,Wb h3];exact WcO rfl rfl rfl
  |true=>
   have bO:∀q:Pb,S19 q x.e=Rt.e {x with busy:=true,pb:=q}:=λq=>by
    have:S19 q x.e=Rt.e {x with pb:=q}:=rfl;rw[this]
    conv=>lhs;rw[show({x with pb:=q}:Rt)={x with busy:=x.busy,pb:=q}from rfl,hb]
   rw[hb]at fH;simp only[W2]at fH;rw[WeK hm fH hN];simp only[Xo,Wc,ret,Xd,W2,bO,Weg (x:={x with busy:=true,pb:=_}) fV];generalize WaD w.mem x.rv x.pb=q;by_cases h4:q.2.1=4
   .rw[Wf h4,Wf h4];exact WcO rfl rfl rfl
   .rw[Wb h4,Wb h4];by_cases h3:q.2.1=3
    .rw[Wf h3,Wf h3,Wt (by simp;omega)];exact WcO rfl rfl rfl
    .rw[Wb h3,Wb h3];exact WcO rfl rfl rfl
end
section
variable{N:Nat}{w:Wo}{k:Nat}{x:Rt}{o:Opn}{p:Pg}{n:Int}{code:List Opn}
theorem RLive.mk24(hc:CC p.1)(h:RLive p n x)(hz:x.marks.length≠0):∃(m:Nat) (q:List RM),x.marks=q++ [x.last]/\x.last.1=(m:Int)/\(∃hm:m<p.1.length,p.1[m].1=8)/\(m:Int)<x.pc/\Mate p.1 m (Wjc p.1 m)/\x.pc<=Wjc p.1 m/\stk p.1 m=(stk p.1 x.pc.toNat).dropLast/\x.marks.dropLast=q/\
  Vals 4 x.last.2.2.2.2/\(0<=x.last.2.1/\x.last.2.1<=x.last.1+72*frk p.1 x.last.1.toNat/\x.last.2.1<=x.reads.length)/\(0<=x.last.2.2.1/\x.last.2.2.1<=x.last.1+8/\x.last.2.2.1<=x.writes.length)/\0<=x.last.2.2.2.1/\x.last.2.2.2.1<=x.last.1/\x.last.2.2.2.1<=x.undos.length:=by
 have hp:=h.pc;obtain⟨m,q,y,e1,e2,e3,e4,e5,e6,e7,e8,e9⟩:=Wh5 (d:=zRM) hc (show x.pc.toNat<=p.1.length by omega) h.marks.pcs hz;have hl:x.last=y:=e2;have hy:=h.marks.each y (by grind)
 grind
theorem Wqr(hk:k<w.roots.length)(aG:w.roots[k]=x)(fY:k<=8)(hc:CC p.1)(hx:RLive p n x)(hu:∀u∈x.undos,UnV u)(hs:ShOk w.shelf)(hh:HOk w.holds)(hN:1048576<N):
  Zkn N w.e (k:Int) p.1=some (((Wo.put (WjC w x k p.1) k).e,()),()):=by
 obtain⟨g1,g2,g3,g4,g5⟩:=woG hk aG;obtain⟨r0,r1,r2,r3,r4,r5,r6,r7,r8,eB,dR,dc,dh,dC,dD,fa,fb,eC,eD,fe,ff,fg⟩:=rtP x;obtain⟨z1,z2,z3,z4,z5,z6⟩:=hx.sz hc;have hcl:=hc.len;unfold Zkn WjC;simp only[Ws];rw[show P5 w.e=w.roots.map Rt.e from rfl,g4,g2];simp only[Wa,Wv,dC,Wh];by_cases hz:x.marks.length=0
 .rw[Wf (by omega),Wf hz,g3,Wl2 hk aG fY hh hx.rv z5 z6 hN];rfl
 .rw[Wb (by omega),Wb hz,Wol hz (by omega)];simp only[Xd,dD,WT];obtain⟨m,q,e1,e2,⟨hm,fZ⟩,e4,e5,e6,e7,e8,e9,iJ,ji,jN,jO,iL⟩:=hx.mk24 hc hz;by_cases fh:(x.undos.length:Int)>x.last.2.2.2.1
  .rw[Wf fh,Wf fh,g3,Xk,Wla hk aG (by omega) (by omega) hu hs hN];rfl
  .rw[Wb fh,Wb fh];simp only[dh,dC];obtain⟨a,b,c,d⟩:=Wbd hz (by omega) zRM;have d':(decide ((0:Int)<=WV .i64 (x.marks.length:Int) 1)&&decide (WV .i64 (x.marks.length:Int) 1<=(x.marks.length:Int)))=true:=d;have c':Xaj (Xa (WV .i64 (x.marks.length:Int) 1)) x.marks=x.marks.dropLast:=c;rw[d',c',Wa9 (by rw[e9.len];omega),e2,WB,We hm];have o1:Xc p.1 (Xa ((m:Nat):Int)) ((0,0,0,0):Opn)=opN p.1 (m:Int):=rfl;have hr:=WsX (hc.ok m hm).1 fZ;rw[←Wd6 hm]at hr;simp only[Wa,ret,Xd,o1];rw[WR hr e9.len];have b2:(decide ((0:Int)<=x.last.2.2.1)&&decide (x.last.2.2.1<=(x.writes.length:Int)))=true:=by simp;omega
   rw[b2];simp only[Wa];rw[Wdl (by grind),Wii (by omega) hN ⟨hm,fZ⟩ e5];simp only[ret,Xd];rw[Wai (by have:=e5.len;omega),Xk];exact WcO rfl rfl rfl
theorem WqH(hk:k<w.roots.length)(aG:w.roots[k]=x)(fY:k<=8)(hc:CC p.1)(hx:RLive p n x)(ho:Wdx o=true)(dQ:12<=o.1)(hs:ShOk w.shelf)(hh:HOk w.holds)(hN:1048576<N):
  Zhs N w.e (k:Int) o=some (((Wo.put (Wgp w x k o) k).e,()),()):=by
 obtain⟨g1,g2,g3,g4,g5⟩:=woG hk aG;obtain⟨r0,r1,r2,r3,r4,r5,r6,r7,r8,eB,dR,dc,dh,dC,dD,fa,fb,eC,eD,fe,ff,fg⟩:=rtP x;obtain⟨z1,z2,z3,z4,z5,z6⟩:=hx.sz hc;have mh:=WeP hh;have bp:=hx.pc;have hcl:=hc.len;have ld:(0<=(WbB o).1/\(WbB o).1<=8)/\1<=(WbB o).2/\(WbB o).2<=2:=by
  grind [WbB,WiZ,Wem,Wp5,WpV,WaY,WrI]
 unfold Zhs Wgp;simp only[Ws,Waj];rw[show P5 w.e=w.roots.map Rt.e from rfl,g4,g2,Wai (by omega),WkG ho dQ,show P4 w.e=w.holds from rfl,show w.e.2.2.2.1=w.shelf from rfl];simp only[Wa,Xd,Wie hh (show 1<=(k:Int)+1/\(k:Int)+1<=9 by omega) ld.1 ld.2 (by omega) hN,r3,dR,dD,Weg hx.spare];cases ha:WcI w.holds ((k:Int)+1) (WbB o).1 (WbB o).2 with
 |none=>
  simp only[Option.isSome_none,Xbn,Wa,Xk];exact WcO rfl rfl rfl
 |some cT=>
  simp only[Xey,Xo,Wc,Xdn,Xk,WiI hs hx.regs ho dQ hN,Xd,W6];rw[Wai (by omega),Wt (by simp;omega)];by_cases hz:(WaM w.shelf o x.regs).2.2.1=0
  .rw[Wf hz,Wf hz];exact WcO rfl rfl rfl
  .rw[Wb hz,Wb hz];exact WcO rfl rfl rfl
theorem WtA(hk:k<w.roots.length)(aG:w.roots[k]=x)(fY:k<=8)(hp:POk p)(hx:RLive p n x)(hu:∀u∈x.undos,UnV u)(hm:WY w.mem=true)(hs:ShOk w.shelf)(hh:HOk w.holds)(hN:1048576<N):
  Zjj N w.e (k:Int) p=some (((Wo.put (WpP w x k p) k).e,()),()):=by
 obtain⟨g1,g2,g3,g4,g5⟩:=woG hk aG;obtain⟨r0,r1,r2,r3,r4,r5,r6,r7,r8,eB,dR,dc,dh,dC,dD,fa,fb,eC,eD,fe,ff,fg⟩:=rtP x;have hc:=hp.code;obtain⟨z1,z2,z3,z4,z5,z6⟩:=hx.sz hc;have bp:=hx.pc;have hcl:=hc.len;have bQ:=hx.regs.len;unfold Zjj WpP;simp only[Ws];rw[show P5 w.e=w.roots.map Rt.e from rfl,g4,g2,g3];simp only[Wa,r3,r4,dR,dc,dh,dC,dD,WT,Wv,show Wh p.1=(p.1.length:Int)from rfl];by_cases cW:x.pc>=p.1.length
 .rw[Wf cW,Wf cW,Wl2 hk aG fY hh hx.rv z5 z6 hN];rfl
 .rw[Wb cW,Wb cW];obtain⟨j,hj,ej,eo⟩:=WiK (l:=p.1) bp.1 (by omega);have lY:Xc p.1 (Xa x.pc) ((0,0,0,0):Opn)=opN p.1 x.pc:=rfl;have eK:inb x.pc p.1.length=true:=by grind [WB,decide_eq_true]
  rw[eK];obtain⟨ok,o1,gY⟩:=hc.ok j hj;simp only[Wa,lY];rw[←eo]at ok o1 gY;rw[Wai (show 0<=x.pc/\x.pc<=1000000 by omega)];have jP:(opN p.1 x.pc).1=9->x.marks.length≠0:=λh9 hz=>by
   have h1:=Wn Xb hx.marks.pcs;simp only[Xx,hz]at h1;have h2:=WaT hc.up j (by omega);have h3:=hc.up j hj
   grind [Wat,WkE,Xk]
  generalize opN p.1 x.pc=o at*;have ug:o.1>=12->Zhs N w.e (k:Int) o=some (((Wo.put (Wgp w x k o) k).e,()),()):=λdQ=>WqH hk aG fY hc hx ok dQ hs hh hN;by_cases h5:o.1=5
  .rw[Wf h5,Wf h5,Xk,Wsy hk aG hc hx hm h5 ok hN];rfl
  .rw[Wb h5,Wb h5];by_cases cu:o.1=10
   .rw[Wf cu,Wf cu,Wqr hk aG fY hc hx hu hs hh hN];rfl
   .rw[Wb cu,Wb cu];by_cases fT:o.1=11
    .rw[Wf fT,Wf fT,show Wh p.2=((p.2.length:Nat):Int)from rfl,WiQ (by omega) (by omega) hp.k3 hN,Xk];exact WcO rfl rfl rfl
    .rw[Wb fT,Wb fT];by_cases dQ:o.1>=12
     .rw[Wf dQ];have hb:=ug dQ;have:o.1=12\/o.1=13\/o.1=14\/o.1=15\/o.1=16:=by omega
      rcases this with h|h|h|h|h
      .rw[Wf h,Wf h,hb];rfl
      .rw[Wb (by omega),Wf h,Wf h,hb];rfl
      .rw[Wb (by omega),Wb (by omega),Wf h,Wf h,hb];rfl
      .rw[Wb (by omega),Wb (by omega),Wb (by omega),Wf h,Wf h,hb];rfl
      .rw[Wb (by omega),Wb (by omega),Wb (by omega),Wb (by omega),Wf h,hb];rfl
     .rw[Wb dQ,Wb (show¬o.1=12 by omega),Wb (show¬o.1=13 by omega),Wb (show¬o.1=14 by omega),Wb (show¬o.1=15 by omega),Wb (show¬o.1=16 by omega)];by_cases h6:o.1=6
      .rw[Wf h6,Wf h6,WR (Wt8 ok h6).2 bQ,Wt (by simp;omega),Xk];exact WcO rfl rfl rfl
      .rw[Wb h6,Wb h6];by_cases h7:o.1=7
       .rw[Wf h7,Wf h7];have h:=Wt6 ok h7;rw[WR h.1 bQ,WI (a:=x.pc) (b:=o.2.2.1) (by unfold I64;omega),Wai (a:=x.pc+o.2.2.1) (by omega),Xk];by_cases hg:Xc x.regs (Xa o.2.1) 0=0
        .rw[Wf hg,Wf (show Wbt x.regs o.2.1 0=0 from hg)];exact WcO rfl rfl rfl
        .rw[Wb hg,Wb (show¬Wbt x.regs o.2.1 0=0 from hg)];exact WcO rfl rfl rfl
       .rw[Wb h7,Wb h7];by_cases h8:o.1=8
        .rw[Wf h8,Wf h8,Wa9 (by omega)];simp only[ret,Xd];rw[Wt (by simp;omega),Xk];exact WcO rfl rfl rfl
        .rw[Wb h8,Wb h8];by_cases h9:o.1=9
         .rw[Wf h9,Wf h9];have hz:=jP h9;obtain⟨a,b,c,d⟩:=Wbd hz (by omega) zRM;obtain⟨m,q,e1,e2,⟨dV,fZ⟩,e4,e5,e6,e7,e8,e9,iJ,ji,jN,jO,iL⟩:=hx.mk24 hc hz;rw[WmR hz (by omega)];simp only[Xd];rw[d,c,e2,WB,We dV];have o1:Xc p.1 (Xa ((m:Nat):Int)) ((0,0,0,0):Opn)=opN p.1 (m:Int):=rfl;have hr:=WsX (hc.ok m dV).1 fZ;rw[←Wd6 dV]at hr;simp only[Wa,o1];rw[WR hr bQ,Xk];exact WcO rfl rfl rfl
         .rw[Wb h9,Wb h9,Wg7 hN ok (by omega) (by omega) hx.regs,Xk];exact WcO rfl rfl rfl
theorem Wr5(hk:k<w.roots.length)(aG:w.roots[k]=x)(j7:w.roots.length<=8)(hN:1048576<N):
  Zgp N w.e (k:Int)=some (((Wo.put (WeX w x k) k).e,()),()):=by
 obtain⟨g1,g2,g3,g4,g5⟩:=woG hk aG;have c9:=Wkt hk aG;have bQ:(w.roots.map Rt.e).length=w.roots.length:=by simp
 unfold Zgp;rw[show P5 w.e=w.roots.map Rt.e from rfl,g4,g2,Wai (by omega),Xk];simp only[Wa,W6,Wv,WT,show w.e.2.1=w.token from rfl,show x.e.2.1=x.tries from rfl,show w.e.1=w.now from rfl,show w.e.2.2.1.1=w.mem.1 from rfl];have ly:∀(K0:Bool->Int->Bool->Option ((Y_World×Unit)×Unit)) (d j n:Nat) (al:Bool),j+d=w.roots.length->d<n->
   Zal N (k:Int) k (Wh (w.roots.map Rt.e)) w.now w.token w.mem.1 w.e.2.2.2.1.2 (w.roots.map Rt.e) w.e.2.2.1.2 w.e.2.2.2.1.1 (P4 w.e) (Q6 w.e) K0 n al (j:Int)=K0 (al&&Way k (w.roots.drop j) j) (w.roots.length:Int) false:=by
  intro K0 d
  induction d with
  |zero=>
   intro j n al hj hn;obtain⟨n,rfl⟩:∃n',n=n'+1:=⟨n-1,by omega⟩;have:j=(w.roots.map Rt.e).length:=by omega
   rw[Zal,this,WO (Xl _),bQ,Xbr];simp[Way]
  |succ d ih=>
   intro j n al hj hn;obtain⟨n,rfl⟩:∃n',n=n'+1:=⟨n-1,by omega⟩;have hlt:j<(w.roots.map Rt.e).length:=by omega
   have fU:j<w.roots.length:=by omega
   rw[Zal];simp only[WF hlt,Wu hlt,Ww hlt,Wm (show j<4611686018427387904 by omega),Wa,ih (j+1) n _ (by omega) (by omega),List.getElem_map];rw[Xai fU,Way];generalize Way k (w.roots.drop (j+1)) (j+1)=b;have hp:(Rt.e w.roots[j]).1=w.roots[j].phase:=rfl;rw[hp];simp only[Wv];cases al with
   |false=>simp
   |true=>
    simp only[Wa,Xbv];by_cases h1:j=k
    .rw[Wf (by omega),We h1];simp
    .rw[Wb (by omega),Wk h1];by_cases h2:w.roots[j].phase=0
     .rw[Wf h2,We h2];simp
     .rw[Wb h2,Wk h2];have:(w.roots[j].phase==8)=decide (w.roots[j].phase=8):=by
       by_cases h3:w.roots[j].phase=8<;>simp[h3]
      rw[this];simp
 have:=ly;refine(ly _ w.roots.length 0 N true (by omega) (by omega)).trans ?_;rw[List.drop_zero,Xbv];unfold WeX;have cJ:some ((S5 (Xe (w.roots.map Rt.e) k ((1:Int),(x.tries,((0:Int),((0:Int),(w.mem.1,((0:Int),((0:Int),((0:Int),((0:Int),(w.now,((0:Int),(false,(Xp (Xa (4:Int)) (0:Int),(([]:List Kc),(([]:List Kc),(([]:List Kg),(([]:List Kb),(([]:List Int),(false,(((0:Int),((0:Int),((0:Int),(0:Int)))),(((0:Int),((0:Int),((0:Int),((0:Int),((0:Int),(([]:List Kc),([]:List Int))))))),d_Family)))))))))))))))))))))) w.e,()),())=some (((Wo.put (w,{phase:=1,tries:=x.tries,rv:=w.mem.1,began:=w.now,regs:=[0,0,0,0]}) k).e,()),()):=WcO (x':={phase:=1,tries:=x.tries,rv:=w.mem.1,began:=w.now,regs:=[0,0,0,0]}) (w':=w) rfl rfl rfl;have qU:some (((w.now,((k:Int)+1,w.e.2.2)),()),())=some (((Wo.put ({w with token:=(k:Int)+1},x) k).e,()),()):=by
  have:Wo.put ({w with token:=(k:Int)+1},x) k={w with token:=(k:Int)+1}:=by unfold Wo.put;simp only;rw[←aG,Xba]
  rw[this];rfl
 have ao:(((decide ((0:Int)<=(4:Int)))&&(decide ((4:Int)<=(4:Int))))&&(Wz (Xa (4:Int))))=true:=rfl;have bO:some ((w.e,()),())=some (((Wo.put (w,x) k).e,()),()):=by rw[c9]
 rw[ao];simp only[Wa,cJ];by_cases t0:w.token=0
 .rw[Wf t0];rw[Wb (show¬(w.token≠0/\w.token≠(k:Int)+1) by omega)];by_cases ht:x.tries>=3
  .rw[Wf ht,Wf t0,Wf ⟨ht,t0⟩];exact qU
  .rw[Wb ht,Wb (show¬w.token=(k:Int)+1 by omega),Wb (λh=>ht h.1),Wb (by omega)]
 .rw[Wb t0];by_cases t1:w.token=(k:Int)+1
  .rw[Wf t1,Wb (show¬(w.token≠0/\w.token≠(k:Int)+1) by omega),Wb (show¬(x.tries>=3/\w.token=0) by omega)];have fq:∀b:Bool,(bif !b then some ((w.e,()),())else some (((Wo.put (w,{phase:=1,tries:=x.tries,rv:=w.mem.1,began:=w.now,regs:=[0,0,0,0]}) k).e,()),()))=some (((Wo.put (if w.token=(k:Int)+1/\b=false then(w,x)else(w,{phase:=1,tries:=x.tries,rv:=w.mem.1,began:=w.now,regs:=[0,0,0,0]})) k).e,()),()):=λb=>by
    cases b with
    |false=>rw[Wf ⟨t1,rfl⟩];exact bO
    |true=>rw[Wb (by simp)];rfl
   by_cases ht:x.tries>=3
   .rw[Wf ht,Wb t0,Wf t1];exact fq _
   .rw[Wb ht,Wf t1];exact fq _
  .rw[Wb t1,Wf ⟨t0,t1⟩];exact bO
theorem WrY(hp:POk p)(hx:RLive p n x)(h2:x.phase=2)(hN:1048576<N):Zjk N x.e=some (((Who x).e,()),()):=by
 obtain⟨r0,r1,r2,r3,r4,r5,r6,r7,r8,eB,dR,dc,dh,dC,dD,fa,fb,eC,eD,fe,ff,fg⟩:=rtP x;have hc:=hp.code;obtain⟨z1,z2,z3,z4,z5,z6⟩:=hx.sz hc;obtain⟨f1,f2,f3⟩:=hx.fork h2;have bp:=hx.pc;have hcl:=hc.len;have oc:x.fam.kids.length<=3:=by have:=f3.len;have:=hp.k3;omega
 have jL:=f3.len3 hp.k3;have nW:=f3.readsL;unfold Zjk Who;simp only[r3,dc,eD,fe,ff,fg,WeE,Xd];rw[WlF oc hN,Wk8 f3.regs oc (λy hy=>by
  obtain⟨i,hi,rfl⟩:=Xbu hy;rw[(f3.kid i hi).regs.len];omega) hN,Wmb (by have:=f3.buf8;omega) hN,Wt (by omega),Wa9 (by omega),Wai (by omega),Wc4]
 by_cases hl:x.fam.lost=true
 .rw[Wf hl,Wf hl]
 .rw[Wb hl,Wb hl];simp only[ret,Xd,Wa];cases ho:Wck x.fam
  .rw[Wb (by simp)];rfl
  .rw[Wf rfl];rfl
theorem WpK(hk:k<w.roots.length)(aG:w.roots[k]=x)(hp:POk p)(hx:RLive p n x)(h4:x.phase=4)(hm:WY w.mem=true):
  Zg1 N w.e k=some (((Wo.put (w,WbW w x) k).e,()),()):=by
 obtain⟨g1,g2,g3,g4,g5⟩:=woG hk aG;obtain⟨r0,r1,r2,r3,r4,r5,r6,r7,r8,eB,dR,dc,dh,dC,dD,fa,fb,eC,eD,fe,ff,fg⟩:=rtP x;have hc:=hp.code;obtain⟨z1,z2,z3,z4,z5,z6⟩:=hx.sz hc;have hz:=hx.back (.inr h4);obtain⟨m,q,e1,e2,⟨dV,fZ⟩,e4,e5,e6,e7,e8,e9,iJ,ji,jN,jO,iL⟩:=hx.mk24 hc hz;have bT:=hx.pos h4;have bp:=hx.pc;have hcl:=hc.len;unfold Zg1 WbW;simp only[Ws];rw[show P5 w.e=w.roots.map Rt.e from rfl,g1,Wol hz (by omega)];simp only[Xd,r4,r5,r6,dc,dh,WT,WeE,show w.e.2.2.1.2=w.mem.2 from rfl];by_cases hlt:x.pos<x.last.2.1
 .rw[Wf hlt,Wf hlt];have hj:x.pos.toNat<x.reads.length:=by omega
  have eK:inb x.pos x.reads.length=true:=by unfold inb;simp;omega
  have hg:Xc x.reads (Xa x.pos) ((0:Int),(0:Int))=Wbt x.reads x.pos (0,0):=rfl;have hv:0<=(Wbt x.reads x.pos (0,0)).1/\(Wbt x.reads x.pos (0,0)).1<=7:=by
   unfold Wbt;rw[WJ hj];exact(hx.reads _ (Xab hj)).1
  rw[eK,hg,WbP hm hv,show Xc w.mem.2 (Xa (Wbt x.reads x.pos (0,0)).1) ((0:Int),((0:Int),(0:Int)))=Wan w.mem (Wbt x.reads x.pos (0,0)).1 from rfl,Wai (by omega)];simp only[Wa,W6];by_cases a:(Wan w.mem (Wbt x.reads x.pos (0,0)).1).2.2=0
  .rw[Wf a];by_cases b:(Wan w.mem (Wbt x.reads x.pos (0,0)).1).2.1>x.rv
   .rw[Wf b,Wf (.inr b)];exact WcO rfl rfl rfl
   .rw[Wb b,Wb (by omega)];exact WcO rfl rfl rfl
  .rw[Wb a,Wf (.inl a)];exact WcO rfl rfl rfl
 .rw[Wb hlt,Wb hlt];have b1:(decide ((0:Int)<=x.last.2.1)&&decide (x.last.2.1<=(x.reads.length:Int)))=true:=by simp;omega
  have b2:(decide ((0:Int)<=x.last.2.2.1)&&decide (x.last.2.2.1<=(x.writes.length:Int)))=true:=by simp;omega
  rw[b1,b2,Wdl (by rw[Xbh];omega),Wdl (by rw[Xbh];omega),Wa9 (by rw[e9.len];omega),Wai (by omega)];simp only[Wa,ret,Xd];exact WcO rfl rfl rfl
theorem Wpo(hk:k<w.roots.length)(aG:w.roots[k]=x)(fY:k<=8)(iy:CmOk x.cm)(hm:WY w.mem=true)(hh:w.hist.length<=500000)(hN:1048576<N):
  Zg2 N w.e (k:Int)=some (((Wo.put (Wbn w x k) k).e,()),()):=by
 obtain⟨g1,g2,g3,g4,g5⟩:=woG hk aG;obtain⟨r0,r1,r2,r3,r4,r5,r6,r7,r8,eB,dR,dc,dh,dC,dD,fa,fb,eC,eD,fe,ff,fg⟩:=rtP x;have be:=Wiu iy hm;unfold Zg2 Wbn;simp only[Ws,Waj];rw[show P5 w.e=w.roots.map Rt.e from rfl,g4,g2,Wai (by omega),Xk];simp only[Wa,r7,eB,eC,show w.e.2.2.1=w.mem from rfl,show Q6 w.e=w.hist from rfl];rw[Wc4];by_cases hd:x.doomed=true
 .rw[Wf hd,Wf hd];obtain⟨b,hb⟩:=WqV (N:=N) iy hN;rw[hb];simp only[Xd,Wv,show(Wa6 x.cm).e.2.2.1=(Wa6 x.cm).phase from rfl];by_cases h8:(Wa6 x.cm).phase=8
  .rw[Wf h8,Wf h8];have:S20 (Wa6 x.cm).e (S11 false x.e)=Rt.e {x with cm:=Wa6 x.cm,doomed:=false}:=rfl;rw[this,WeE];exact WcO rfl rfl rfl
  .rw[Wb h8,Wb h8];exact WcO rfl rfl rfl
 .rw[Wb hd,Wb hd,Wmm iy hm hN];simp only[Xd];obtain⟨m',c',hq⟩:∃m' c',Wdo w.mem x.cm=(m',c'):=⟨_,_,rfl⟩;rw[hq]at be⊢;simp only at be⊢;have nY:Zbf N (P5 c'.e)=ret c'.puts:=Wdl (by have:=be.1.plen;show c'.puts.length<=1048576;omega);have hS:S20 c'.e x.e=Rt.e {x with cm:=c'}:=rfl;rw[nY,hS,WeE];simp only[ret,Xd];rw[Wt (by simp;omega)];simp only[Wa,Wv,WT,show c'.e.2.2.1=c'.phase from rfl,show(Cm.e x.cm).2.2.1=x.cm.phase from rfl,show P4 c'.e=c'.wv from rfl];unfold Woa;simp only;by_cases h3:x.cm.phase<=3
  .rw[Wf h3];by_cases h4:c'.phase=4
   .rw[Wf h4,Wb (by omega),Wb (by omega),Wf (show x.cm.phase<=3/\c'.phase=4 from⟨h3,h4⟩),Wb (by omega),Wb (by omega)];exact WcO (w':={w with mem:=m',hist:=w.hist++ [(c'.wv,(k:Int)+1,c'.puts)]}) rfl rfl rfl
   .rw[Wb h4,Wb (show¬(x.cm.phase<=3/\c'.phase=4)fromλh=>h4 h.2)];by_cases h8:c'.phase=8
    .rw[Wf h8,Wf h8];exact WcO (w':={w with mem:=m'}) rfl rfl rfl
    .rw[Wb h8,Wb h8];by_cases h6:c'.phase=6
     .rw[Wf h6,Wf h6];by_cases h2:x.fate=2
      .rw[Wf h2,Wf h2];exact WcO (w':={w with mem:=m'}) rfl rfl rfl
      .rw[Wb h2,Wb h2];exact WcO (w':={w with mem:=m'}) rfl rfl rfl
     .rw[Wb h6,Wb h6];exact WcO (w':={w with mem:=m'}) rfl rfl rfl
  .rw[Wb h3,Wb (show¬(x.cm.phase<=3/\c'.phase=4)fromλh=>h3 h.1)];by_cases h8:c'.phase=8
   .rw[Wf h8,Wf h8];exact WcO (w':={w with mem:=m'}) rfl rfl rfl
   .rw[Wb h8,Wb h8];by_cases h6:c'.phase=6
    .rw[Wf h6,Wf h6];by_cases h2:x.fate=2
     .rw[Wf h2,Wf h2];exact WcO (w':={w with mem:=m'}) rfl rfl rfl
     .rw[Wb h2,Wb h2];exact WcO (w':={w with mem:=m'}) rfl rfl rfl
    .rw[Wb h6,Wb h6];exact WcO (w':={w with mem:=m'}) rfl rfl rfl
end
section
section
variable{code:List Opn}{pc ek rl wl ul mC jK mD:Nat}{ms q:List RM}{y:RM}{n n':Int}{x:Rt}{w:Wo}{p:Pg}{k:Nat}{o:Opn}
theorem Wob(code:List Opn){a b:Nat}(h:a<=b):frk code a<=frk code b:=by
 simp_all [frk,List.Sublist.countP_le,List.take_sublist_take_left]
theorem RMk.mono(h:RMk code pc ms rl wl ul)(hs:stk code ek=stk code pc)(h1:rl<=mC)(h2:wl<=jK)(h3:ul<=mD):RMk code ek ms mC jK mD:=
 ⟨by rw[hs];exact h.pcs,λq hq=>by obtain⟨a,b,c,d⟩:=h.each q hq;grind,h.up⟩
theorem RMk.cut(h:RMk code pc ms rl wl ul)(mB:ms=q++ [y])(h1:y.2.1<=mC)(h2:y.2.2.1<=jK)(h3:y.2.2.2.1<=mD):RMk code pc ms mC jK mD:=by
 refine⟨h.pcs,λa ha=>?_,h.up⟩;obtain⟨c1,c2,c3,c4⟩:=h.each a ha;have hle:a.2.1<=y.2.1/\a.2.2.1<=y.2.2.1/\a.2.2.2.1<=y.2.2.2.1:=by
  have hu:=h.up;rw[mB]at ha hu;rcases Xn.1 ha with ha|ha
  .exact(Xah.1 hu).2.2 a ha y (by simp)
  simp_all
 grind
theorem RMk.begin(h:RMk code pc ms rl wl ul)(hp:pc<code.length)(h8:code[pc].1=8){regs:List Int}(hr:Vals 4 regs)(h1:rl<=pc+72*frk code pc)(h2:wl<=pc+8)(h3:ul<=pc):
  RMk code (pc+1) (ms++ [((pc:Int),(rl:Int),(wl:Int),(ul:Int),regs)]) rl wl ul:=by
 refine⟨?_,?_,?_⟩
 .rw[Wlb hp h8,Xy,Xy,h.pcs];rfl
 .intro q hq;rcases Xn.1 hq with hq|hq
  .exact h.each q hq
  grind
 .refine Xah.2 ⟨h.up,List.pairwise_singleton _ _,λa ha b hb=>?_⟩;rw[Xag]at hb;subst hb;obtain⟨c1,c2,c3,c4⟩:=h.each a ha;simp_all
theorem RMk.drop(h:RMk code pc ms rl wl ul)(mB:ms=q++ [y])(hs:stk code ek=(stk code pc).dropLast)(h1:y.2.1<=mC)(h2:y.2.2.1<=jK)(h3:y.2.2.2.1<=mD):RMk code ek q mC jK mD:=by
 have h':=h.cut mB h1 h2 h3;subst mB;have e:=h.pcs;refine⟨?_,λa ha=>h'.each a (List.mem_append_left _ ha),(Xah.1 h.up).1⟩
 grind
theorem RLive.wk(h:RLive p n x)(hn:n<=n'):RLive p n' x:={h with fork:=λh2=>by obtain⟨a,b,c⟩:=h.fork h2;exact⟨a,b,c.wk hn⟩}
theorem ROk.wk(h:ROk p n x)(hn:n<=n'):ROk p n' x:={h with tries:=by have:=h.tries;omega,live:=λhl=>(h.live hl).wk hn}
theorem RLive.on(bS:CC p.1)(h:RLive p n x)(h1:x.phase=1){i:Nat}(hi:i<p.1.length)(bp:x.pc=i){regs:List Int}{reads writes:List Rw}{marks:List RM}{undos:List Un}{busy:Bool}{pb:Pb}{ek:Nat}
  (hp:ek<=p.1.length) (hlt:i<ek) (hr:Vals 4 regs) (nW:Wjb reads) (bQ:reads.length<=x.reads.length+1) (uh:Wjb writes) (jJ:writes.length<=x.writes.length+1) (cX:undos.length<=x.undos.length+1) (hm:RMk p.1 ek marks reads.length writes.length undos.length) (hb:busy=true->WiM pb=true):
  RLive p n {x with regs:=regs,reads:=reads,writes:=writes,marks:=marks,undos:=undos,busy:=busy,pb:=pb,pc:=(ek:Int)} where
 pc:=by simp_all
 spare:=h.spare
 rv:=h.rv
 regs:=hr
 reads:=nW
 rl:=by
  have h2:=h.rl;have h3:=Wob p.1 (show i<=ek by omega)
  grind
 writes:=uh
 wl:=by have:=h.wl;grind
 ul:=by have:=h.ul;grind
 marks:=by simp_all
 pb:=hb
 fork:=λh2=>by simp_all
 back:=λh2=>by simp_all
 newRv:=h.newRv
 pos:=λh2=>by simp_all
 unw:=λh2=>by simp_all
theorem Vals.le4{r:List Int}(h:Vals 4 r):r.length<=4:=Nat.le_of_eq h.len
theorem WeI(h:ROk p n x):ROk p n (Wix x) where
 phase:=by show(0:Int)<=6/\(6:Int)<=8;omega
 tries:=h.tries
 live:=λh=>by(change (1:Int)<=6/\(6:Int)<=4 at h;omega)
 comm:=λh=>by(change (6:Int)=5 at h;omega)
 undos:=h.undos
 ul:=h.ul
 rg:=by show([]:List Int).length<=4;simp
 ord:=by show([]:List Int).length<=3;simp
theorem WgT(h:ROk p n x)(hl:RLive p n x):ROk p n (Wcf x):=by
 unfold Wcf;split
 .exact WeI h
 .rename_i hc;exact{h with
   phase:=by simp_all
   live:=λ_=>{hl with
    spare:=by have:=hl.spare;grind
    pb:=λh=>by cases h
    fork:=λh=>by simp_all
    back:=λ_=>by simp_all
    pos:=λh=>by simp_all
    unw:=λh=>by simp_all}
   comm:=λh=>by simp_all}
structure QOk(p:Pg)(n:Int)(w:Wo)(q:Wo×Rt):Prop where
 root:ROk p n q.2
 mem:WY q.1.mem=true
 shelf:ShOk q.1.shelf
 holds:HOk q.1.holds
 hist:q.1.hist.length<=w.hist.length+1
 histE:∀h∈q.1.hist,h∈w.hist\/HE h
 roots:q.1.roots=w.roots
 now:q.1.now=w.now
structure GOk(w:Wo):Prop where
 mem:WY w.mem=true
 shelf:ShOk w.shelf
 holds:HOk w.holds
theorem GOk.st(h:GOk w){y:Rt}(hy:ROk p n y):QOk p n w (w,y):=⟨hy,h.mem,h.shelf,h.holds,by simp,λ_ hh=>.inl hh,rfl,rfl⟩
theorem GOk.qt(h:GOk w){y:Rt}(hy:ROk p n y)(t:Int):QOk p n w ({w with token:=t},y):=⟨hy,h.mem,h.shelf,h.holds,by simp,λ_ hh=>.inl hh,rfl,rfl⟩
theorem WrH(h:GOk w)(hx:ROk p n x):QOk p n w (WlC w x k):=by
 unfold WlC;refine h.qt ?_ _;exact{hx with
  phase:=by simp_all
  live:=λh=>by simp_all
  comm:=λh=>by simp_all
  undos:=λu hu=>by cases hu
  ul:=by simp}
theorem Wmv(h:GOk w)(hx:ROk p n x)(jX:0<=x.rv/\x.rv<=1000000)(hk:k<=8){out:Int}:QOk p n w (WfT w x k out):=by
 unfold WfT;simp only;generalize (if out=2 then []else x.writes)=rows;split
 .exact WrH (x:={x with fate:=out,stamp:=x.rv}) h
   {phase:=hx.phase,tries:=hx.tries,live:=λhh=>{hx.live hh with},comm:=hx.comm,undos:=hx.undos,ul:=hx.ul,rg:=hx.rg,ord:=hx.ord}
 .refine h.st ?_;exact{hx with
   phase:=by simp_all
   live:=λh=>by simp_all
   comm:=λ_=>Wss (by omega) jX}
theorem Wqg{α:Type}{l:List α}(h:l.length≠0)(d:α):WfO l d∈l:=by
 grind [WfO,WJ,Xab]
theorem Wko(h:GOk w)(hx:ROk p n x)(hz:x.undos.length≠0)(bS:1<=x.phase/\x.phase<=4->CC p.1/\(x.marks.length≠0->x.last.2.2.2.1<x.undos.length)):QOk p n w (WfE w x):=by
 unfold WfE;refine⟨?_,h.mem,WpQ h.shelf (hx.undos _ (Wqg hz _)),h.holds,by simp,λ_ hh=>.inl hh,rfl,rfl⟩;have hdl:x.undos.dropLast.length=x.undos.length-1:=List.length_dropLast;exact{hx with
  live:=λhh=>by
   have hl:=hx.live hh;obtain⟨c1,c2⟩:=bS hh;exact{hl with
    ul:=by have:=hl.ul;grind
    unw:=λh4=>by have:=hl.unw h4;show(x.undos.dropLast.length:Int)<=x.last.2.2.2.1;omega
    marks:=by
     show RMk p.1 x.pc.toNat x.marks x.reads.length x.writes.length x.undos.dropLast.length;by_cases hm:x.marks.length=0
     .have:x.marks= []:=Xz hm;have hM:=hl.marks;rw[this]at hM⊢;exact⟨hM.pcs,(λq hq=>by cases hq),hM.up⟩
     .obtain⟨m,q,e1,e2,⟨dV,fZ⟩,e4,e5,e6,e7,e8,e9,iJ,ji,jN,jO,iL⟩:=hl.mk24 c1 hm;have:=c2 hm;exact hl.marks.cut e1 iJ.2.2 ji.2.2 (by omega)}
  undos:=λu hu=>hx.undos u (by grind [Xge,Xcj])
  ul:=by have:=hx.ul;grind}
theorem WsF(bS:CC p.1)(h:GOk w)(hx:ROk p n x)(hl:RLive p n x)(h1:x.phase=1){i:Nat}(hi:i<p.1.length)(bp:x.pc=i)(h5:p.1[i].1=5):ROk p n (Wm5 w x p.1[i]):=by
 have ci:=Wt7 (bS.ok i hi).1 h5;have hB:0<=p.1[i].2.2.1/\p.1[i].2.2.1<=7:=by grind [Wam]
 have hM:=hl.marks;rw[bp,Xk]at hM;have be:stk p.1 (i+1)=stk p.1 i:=Wf5 hi (by omega) (by omega);have ch:x.pc+1=((i+1:Nat):Int):=by omega
 unfold Wm5;cases hlr:WbY x.writes p.1[i].2.2.1 with
 |some v=>
  have hv:=hl.writes _ (Wij hlr).2;simp only[ch];exact{hx with rg:=Vals.le4 (hl.regs.set _ hv.2),live:=λ_=>RLive.on bS hl h1 hi bp (by omega) (by omega) (hl.regs.set _ hv.2) hl.reads (by omega) hl.writes (by omega) (by omega) (hM.mono be (by omega) (by omega) (by omega)) hl.pb}
 |none=>
  simp only;have bT:=Wly (rv:=x.rv) h.mem (WmY hl.pb hB);generalize WaD w.mem x.rv (if x.busy=true then x.pb else(p.1[i].2.2.1,0,0,0))=b at*;have hp:=WeU.1 bT.1;have ui:RLive p n {x with busy:=true,pb:=b}:={hl with pb:=λ_=>bT.1};have hbo:ROk p n {x with busy:=true,pb:=b}:={hx with live:=λ_=>ui};split
  .grind [WgT]
  .split
   .simp only[ch];refine{hx with rg:=Vals.le4 (hl.regs.set _ hp.2.2.2),live:=λ_=>RLive.on bS hl h1 hi bp (by omega) (by omega) (hl.regs.set _ hp.2.2.2) (λr hr=>?_) (by simp) hl.writes (by omega) (by omega) (hM.mono be (by simp) (by omega) (by omega)) (λh=>by cases h)};rcases Xn.1 hr with hr|hr
    .exact hl.reads r hr
    simp_all
   omega
theorem Wq7(bS:CC p.1)(h:GOk w)(hx:ROk p n x)(hl:RLive p n x)(h1:x.phase=1)(hk:k<=8){i:Nat}(hi:i<p.1.length)(bp:x.pc=i):QOk p n w (WjC w x k p.1):=by
 have hM:=hl.marks;rw[bp,Xk]at hM;unfold WjC;split
 .exact Wmv h hx hl.rv hk
 .rename_i hz;obtain⟨m,q,e1,e2,⟨dV,fZ⟩,e4,e5,e6,e7,e8,e9,iJ,ji,jN,jO,iL⟩:=hl.mk24 bS hz;split
  .grind [Wko]
  .refine h.st ?_;rw[e8];simp only[e2,Xk,←Int.natCast_succ];have hlen:=e5.len;have ht:(Xaj x.last.2.2.1.toNat x.writes).length=x.last.2.2.1.toNat:=by simp_all
   refine{hx with rg:=Vals.le4 (e9.set _ (by omega)),live:=λ_=>RLive.on bS hl h1 hi bp (ek:=Wjc p.1 m+1) (by omega) (by omega) (e9.set _ (by omega)) hl.reads (by omega) (λr hr=>hl.writes r (Xcj hr)) (by omega) (by omega) ?_ hl.pb};exact hM.drop e1 (by rw[e5.st,e7,bp];rfl) (by omega) (by omega) (by omega)
theorem WrO(bS:CC p.1)(h:GOk w)(hx:ROk p n x)(hl:RLive p n x)(h1:x.phase=1)(hk:k<=8){i:Nat}(hi:i<p.1.length)(bp:x.pc=i)(dQ:12<=p.1[i].1):QOk p n w (Wgp w x k p.1[i]):=by
 have ho:=(bS.ok i hi).1;have hM:=hl.marks;rw[bp,Xk]at hM;have be:stk p.1 (i+1)=stk p.1 i:=Wf5 hi (by omega) (by omega);have ch:x.pc+1=((i+1:Nat):Int):=by omega
 have cX:=hl.ul;have hcl:=bS.len;have ld:(0<=(WbB p.1[i]).1/\(WbB p.1[i]).1<=8)/\1<=(WbB p.1[i]).2/\(WbB p.1[i]).2<=2:=by
  grind [WbB,WiZ,Wem,Wp5,WpV,WaY,WrI]
 unfold Wgp;cases ha:WcI w.holds ((k:Int)+1) (WbB p.1[i]).1 (WbB p.1[i]).2 with
 |none=>exact h.st (WgT hx hl)
 |some hs=>
  have uj:HOk hs:=by
   unfold WcI at ha;split at ha
   .injection ha with ha;subst ha;exact Wp1 h.holds (by omega) ld.1 ld.2 ‹_›
   .cases ha
  obtain⟨b1,b2,b3,b4⟩:=Wpg h.shelf hl.regs ho dQ;simp only[ch];refine⟨?_,h.mem,b1,uj,by simp,λ_ hh=>.inl hh,rfl,rfl⟩;by_cases hz:(WaM w.shelf p.1[i] x.regs).2.2.1=0
  .simp only[Wf hz];exact{hx with rg:=Vals.le4 b2,live:=λ_=>RLive.on bS hl h1 hi bp (by omega) (by omega) b2 hl.reads (by omega) hl.writes (by omega) (by omega) (hM.mono be (by omega) (by omega) (by omega)) hl.pb}
  .simp only[Wb hz];refine{hx with rg:=Vals.le4 b2,live:=λ_=>RLive.on bS hl h1 hi bp (by omega) (by omega) b2 hl.reads (by omega) hl.writes (by omega) (by simp) (hM.mono be (by omega) (by omega) (by simp)) hl.pb,undos:=λu hu=>?_,ul:=by simp;omega};rcases Xn.1 hu with hu|hu
   .exact hx.undos u hu
   simp_all
theorem Wq6(hp:POk p)(h:GOk w)(hx:ROk p n x)(h1:x.phase=1)(hk:k<=8)(hn:0<=n):QOk p n w (WpP w x k p):=by
 have hl:=hx.live (by omega);have bS:=hp.code;unfold WpP;split
 .exact Wmv h hx hl.rv hk
 .obtain⟨i,hi,bp,ho⟩:=WiK (l:=p.1) hl.pc.1 (by omega);simp only[ho];obtain⟨ok,o1,gY⟩:=bS.ok i hi;have hM:=hl.marks;rw[bp,Xk]at hM;have ch:x.pc+1=((i+1:Nat):Int):=by omega
  have bQ:=hl.rl;have jJ:=hl.wl;have cX:=hl.ul;rw[bp,Xk]at bQ;split
  .exact h.st (WsF bS h hx hl h1 hi bp ‹_›)
  .split
   .grind [Wq7]
   .split
    .rename_i fT;refine h.st ?_;exact{hx with
      phase:=by simp_all
      live:=λ_=>{hl with
       fork:=λ_=>⟨by simp_all,by simp_all,Wrt hl.regs hn⟩
       back:=λh=>by simp_all
       pos:=λh=>by simp_all
       unw:=λh=>by simp_all}
      comm:=λh=>by simp_all}
    .split
     .grind [WrO]
     .split
      .refine h.st ?_;have hk:=Wt8 ok ‹_›;have be:stk p.1 (i+1)=stk p.1 i:=Wf5 hi (by omega) (by omega);simp only[ch];refine{hx with live:=λ_=>RLive.on bS hl h1 hi bp (by omega) (by omega) hl.regs hl.reads (by omega) (λr hr=>?_) (by simp) (by omega) (hM.mono be (by omega) (by simp) (by omega)) hl.pb};rcases Xn.1 hr with hr|hr
       .exact hl.writes r hr
       .rw[Xag]at hr;subst hr;have:=hk.1;unfold Wam at this;exact⟨by simp_all,hl.regs.get _⟩
      .split
       .refine h.st ?_;obtain⟨s1,s2⟩:=bS.sk i hi ‹_›;have hk:=Wt6 ok ‹_›;have be:stk p.1 (i+1)=stk p.1 i:=Wf5 hi (by omega) (by omega);have lZ:stk p.1 (i+1+p.1[i].2.2.1.toNat)=stk p.1 i:=by grind [WoF]
        by_cases hg:Wbt x.regs p.1[i].2.1 0=0
        .simp only[Wf hg,show x.pc+p.1[i].2.2.1+1=((i+1+p.1[i].2.2.1.toNat:Nat):Int) by omega];exact{hx with live:=λ_=>RLive.on bS hl h1 hi bp s1 (by omega) hl.regs hl.reads (by omega) hl.writes (by omega) (by omega) (hM.mono lZ (by omega) (by omega) (by omega)) hl.pb}
        .simp only[Wb hg,ch];exact{hx with live:=λ_=>RLive.on bS hl h1 hi bp (by omega) (by omega) hl.regs hl.reads (by omega) hl.writes (by omega) (by omega) (hM.mono be (by omega) (by omega) (by omega)) hl.pb}
       .split
        .refine h.st ?_;simp only[ch];rw[bp];exact{hx with live:=λ_=>RLive.on bS hl h1 hi bp (by omega) (by omega) hl.regs hl.reads (by omega) hl.writes (by omega) (by omega) (hM.begin hi ‹_› hl.regs (by omega) (by omega) (by omega)) hl.pb}
        .split
         .rename_i h9;refine h.st ?_;have hz:x.marks.length≠0:=λhz=>by
           have h1:=Wn Xb hM.pcs;simp only[Xx,hz]at h1;have h2:=WaT bS.up i (by omega);have h3:=bS.up i hi
           grind [Wat,WkE]
          obtain⟨m,q,e1,e2,⟨dV,fZ⟩,e4,e5,e6,e7,e8,e9,iJ,ji,jN,jO,iL⟩:=hl.mk24 bS hz;simp only[ch];rw[e8];exact{hx with rg:=Vals.le4 (hl.regs.set _ (by omega)),live:=λ_=>RLive.on bS hl h1 hi bp (by omega) (by omega) (hl.regs.set _ (by omega)) hl.reads (by omega) hl.writes (by omega) (by omega) (hM.drop e1 (Wmo hi h9) (by omega) (by omega) (by omega)) hl.pb}
         .refine h.st ?_;have be:stk p.1 (i+1)=stk p.1 i:=Wf5 hi (by omega) (by omega);simp only[ch];exact{hx with rg:=Vals.le4 (WkA ok (by omega) (by omega) hl.regs),live:=λ_=>RLive.on bS hl h1 hi bp (by omega) (by omega) (WkA ok (by omega) (by omega) hl.regs) hl.reads (by omega) hl.writes (by omega) (by omega) (hM.mono be (by omega) (by omega) (by omega)) hl.pb}
theorem Wsv(h:GOk w)(hx:ROk p n x)(hu:x.phase=0)(hcl:0<=(p.1.length:Int)):QOk p n w (WeX w x k):=by
 have kd:=WE h.mem;unfold WeX;split
 .exact h.st hx
 .split
  .exact h.qt hx _
  .split
   .exact h.st hx
   .refine h.st ?_;exact{
     phase:=by simp_all
     tries:=hx.tries
     live:=λ_=>{
      pc:=by simp_all
      spare:=by simp_all
      rv:=⟨kd.2.1,kd.2.2.1⟩
      regs:=⟨rfl,λv hv=>by simp_all⟩
      reads:=λr hr=>by cases hr
      rl:=by simp;omega
      writes:=λr hr=>by cases hr
      wl:=by simp
      ul:=by simp
      marks:=⟨by simp[stk],(λq hq=>by cases hq),List.Pairwise.nil⟩
      pb:=λh=>by cases h
      fork:=λh=>by simp_all
      back:=λh=>by simp_all
      newRv:=by simp_all
      pos:=λh=>by simp_all
      unw:=λh=>by simp_all}
     comm:=λh=>by simp_all
     undos:=λu hu=>by cases hu
     ul:=by simp
     rg:=by simp
     ord:=by simp}
theorem WmP{codes:List (List Opn)}{f:Fm}(h:FOk codes n f):Wjb (Wgy f)/\(Wgy f).length<=8:=by
 refine⟨λr hr=>?_,by unfold Wgy;rw[Xx];exact h.buf8⟩;obtain⟨e,he,rfl⟩:=Xv.1 hr;have:=h.bufE e he;omega
theorem WjE{codes:List (List Opn)}{f:Fm}(h:FOk codes n f)(h3:codes.length<=3):Vals 4 (Wfo f):=by
 have hl:=h.len;have hr:=h.regs;unfold Wfo;rw[Wf ⟨Wb1.2 hr,by omega⟩];refine⟨by simp[hr.len];omega,λv hv=>?_⟩;rcases Xn.1 hv with hv|hv
 .obtain⟨y,hy,rfl⟩:=Xv.1 hv;unfold Wth;split
  .rename_i hc;exact(Wb1.1 hc.2).get _
  .omega
 .exact hr.val v (List.mem_of_mem_drop hv)
theorem Wr7(hp:POk p)(hx:ROk p n x)(h2:x.phase=2):ROk p n (Who x):=by
 have hl:=hx.live (by omega);have bS:=hp.code;obtain⟨f1,f2,f3⟩:=hl.fork h2;obtain⟨i,hi,bp,ho⟩:=WiK (l:=p.1) hl.pc.1 f1;rw[ho]at f2;have hM:=hl.marks;have bQ:=hl.rl;have cX:=hl.ul;rw[bp,Xk]at hM bQ;unfold Who;split
 .exact WeI hx
 .split
  .have hz:x.marks= []:=by
    have h1:=Wn Xb hM.pcs;simp only[Xx]at h1;have h3:=WaT bS.up i (by omega);have h4:=(bS.fk i hi f2).1;simp_all
   have be:stk p.1 (i+1)=stk p.1 i:=Wf5 hi (by omega) (by omega);have uk:=WmP f3;have jL:=f3.len3 hp.k3;have um:=f3.readsL;have hfk:frk p.1 (i+1)=frk p.1 i+1:=by grind [Whr]
   exact{hx with
    phase:=by simp_all
    rg:=(WjE f3 hp.k3).le4
    ord:=jL
    live:=λ_=>{hl with
     pc:=by grind
     regs:=WjE f3 hp.k3
     reads:=λr hr=>by
      rcases Xn.1 hr with hr|hr
      .exact hl.reads r hr
      .exact f3.readsE r hr
     rl:=by
      grind
     writes:=uk.1
     wl:=by grind
     ul:=by grind
     marks:=by
      show RMk p.1 (x.pc+1).toNat x.marks _ _ _;rw[show(x.pc+1).toNat=i+1 by omega];rw[hz]at hM⊢;exact⟨by rw[be];exact hM.pcs,(λq hq=>by cases hq),List.Pairwise.nil⟩
     fork:=λh=>by simp_all
     back:=λh=>by simp_all
     pos:=λh=>by simp_all
     unw:=λh=>by simp_all}
    comm:=λh=>by simp_all}
  .exact hx
theorem WpB(hp:POk p)(h:GOk w)(hx:ROk p n x)(h3:x.phase=3):QOk p n w (WbG w x):=by
 have hl:=hx.live (by omega);have hz:=hl.back (.inl h3);obtain⟨m,q,e1,e2,⟨dV,fZ⟩,e4,e5,e6,e7,e8,e9,iJ,ji,jN,jO,iL⟩:=hl.mk24 hp.code hz;have kd:=WE h.mem;unfold WbG;split
 .exact Wko h hx (by omega) λ_=>⟨hp.code,λ_=>by omega⟩
 .refine h.st ?_;exact{hx with
   phase:=by simp_all
   live:=λ_=>{hl with
    fork:=λh=>by simp_all
    back:=λ_=>hz
    newRv:=⟨kd.2.1,kd.2.2.1⟩
    pos:=λ_=>by(show(0:Int)<=0/\(0:Int)<=x.last.2.1;omega)
    unw:=λ_=>by(show(x.undos.length:Int)<=x.last.2.2.2.1;omega)}
   comm:=λh=>by simp_all}
theorem Wpy(hp:POk p)(h:GOk w)(hx:ROk p n x)(h4:x.phase=4):ROk p n (WbW w x):=by
 have hl:=hx.live (by omega);have hz:=hl.back (.inr h4);have bT:=hl.pos h4;obtain⟨m,q,e1,e2,⟨dV,fZ⟩,e4,e5,e6,e7,e8,e9,iJ,ji,jN,jO,iL⟩:=hl.mk24 hp.code hz;unfold WbW;split
 .simp only;split
  .exact WeI hx
  .exact{hx with live:=λ_=>{hl with pos:=λ_=>by(show 0<=x.pos+1/\x.pos+1<=x.last.2.1;omega)}}
 .rename_i cW;have be:stk p.1 (m+1)=stk p.1 x.pc.toNat:=by
   have un:=hl.pc;rw[Wlb dV fZ,e7];rcases WbX (stk p.1 x.pc.toNat)with h0|⟨t,j,ht⟩
   .have h1:=Wn Xb hl.marks.pcs;simp_all
   .have h1:=hl.marks.pcs;rw[e1,ht]at h1;simp only[Xy,List.map_cons,List.map_nil]at h1;have h2:=(List.append_inj' h1 rfl).2;injection h2 with h2;rw[e2]at h2;rw[ht,List.dropLast_concat,show m=j by omega]
  have rH:=Wob p.1 (show m<=m+1 by omega);rw[e2,Xk]at iJ;have ch:x.last.1+1=((m+1:Nat):Int):=by omega
  have t1:(Xaj x.last.2.1.toNat x.reads).length=x.last.2.1.toNat:=by simp_all
  have t2:(Xaj x.last.2.2.1.toNat x.writes).length=x.last.2.2.1.toNat:=by simp_all
  exact{hx with
   phase:=by simp_all
   rg:=e9.le4
   live:=λ_=>{hl with
    pc:=by grind
    rv:=hl.newRv
    regs:=e9
    reads:=λr hr=>hl.reads r (Xcj hr)
    rl:=by
     grind
    writes:=λr hr=>hl.writes r (Xcj hr)
    wl:=by grind
    ul:=by
     show(x.undos.length:Int)<=x.last.1+1;have:=hl.unw h4;omega
    marks:=by
     show RMk p.1 (x.last.1+1).toNat x.marks (Xaj x.last.2.1.toNat x.reads).length (Xaj x.last.2.2.1.toNat x.writes).length x.undos.length;rw[ch,Xk,t1,t2];exact(hl.marks.cut e1 (by omega) (by omega) iL).mono be (Xl _) (Xl _) (Xl _)
    fork:=λh=>by simp_all
    back:=λh=>by omega
    newRv:=by simp_all
    pos:=λh=>by simp_all
    unw:=λh=>by simp_all}
   comm:=λh=>by simp_all}
end
end
section
section
variable{N:Nat}{w:Wo}{k:Nat}{x:Rt}{p:Pg}{n:Int}{ps:List Pg}
theorem Wps(h:GOk w)(hx:ROk p n x)(h5:x.phase=5)(hk:k<=8):QOk p n w (Wbn w x k):=by
 have hc:=hx.comm h5;unfold Wbn;split
 .split
  .exact h.st (WeI hx)
  .refine h.st ?_;exact{hx with live:=λhh=>by simp_all,comm:=λ_=>WpC hc}
 .have be:=Wiu hc h.mem;obtain⟨m',c',hq⟩:∃m' c',Wdo w.mem x.cm=(m',c'):=⟨_,_,rfl⟩;simp only[hq]at be⊢;refine⟨?_,be.2,h.shelf,h.holds,?_,?_,rfl,rfl⟩
  .have hy:ROk p n {x with cm:=c'}:={hx with live:=λhh=>by simp_all,comm:=λ_=>be.1};unfold Woa;simp only;split
   .exact WeI hy
   .split
    .have eH:(if x.fate=2 then(6:Int)else 7)=6\/(if x.fate=2 then(6:Int)else 7)=7:=by split<;>simp
     generalize (if x.fate=2 then(6:Int)else 7)=ph at*;exact{hx with
      phase:=by grind
      live:=λhh=>by grind
      comm:=λhh=>by simp_all}
    .exact hy
  .simp only;split<;>simp
  .simp only;intro h hh;split at hh
   .rcases Xn.1 hh with hh|hh
    .grind
    .rw[Xag]at hh;subst hh;exact .inr ⟨be.1.plen,be.1.rows,by grind,by grind⟩
   simp_all
theorem WoR(hp:POk p)(h:GOk w)(hx:ROk p n x)(hk:k<=8)(hn:0<=n):QOk p (n+1) w (Wi5 w x k p):=by
 have jj:=hx.wk (show n<=n+1 by omega);unfold Wi5;by_cases hd:x.doomed=true/\1<=x.phase/\x.phase<=4
 .rw[Wf hd];exact h.st (WeI jj)
 rw[Wb hd];by_cases h0:x.phase=0
 .simp_all [Wf,Wsv]
 rw[Wb h0];by_cases h1:x.phase=1
 .rw[Wf h1];grind [Wq6]
 rw[Wb h1];by_cases h2:x.phase=2
 .rw[Wf h2];exact h.st (Wr7 hp jj h2)
 rw[Wb h2];by_cases h3:x.phase=3
 .simp_all [Wf,WpB]
 rw[Wb h3];by_cases h4:x.phase=4
 .rw[Wf h4];exact h.st (Wpy hp h jj h4)
 rw[Wb h4];by_cases h5:x.phase=5
 .simp_all [Wf,Wps]
 rw[Wb h5];by_cases h6:x.phase=6
 .rw[Wf h6];by_cases hz:x.undos.length>0
  .rw[Wf hz];grind [Wko]
  .rw[Wb hz];refine h.st ?_;exact{jj with
    phase:=by simp_all
    live:=λhh=>by simp_all
    comm:=λhh=>by simp_all}
 rw[Wb h6];by_cases h7:x.phase=7
 .rw[Wf h7];have hg:GOk {w with holds:=WS w.holds ((k:Int)+1)}:=⟨h.mem,h.shelf,Wir h.holds⟩;by_cases hf:x.fate=0
  .rw[Wf hf];refine⟨?_,h.mem,h.shelf,Wir h.holds,by simp,λ_ hh=>.inl hh,rfl,rfl⟩;exact{
    phase:=by simp_all
    tries:=by have:=hx.tries;grind
    live:=λhh=>by simp_all
    comm:=λhh=>by simp_all
    undos:=λu hu=>by cases hu
    ul:=by simp
    rg:=by simp
    ord:=by simp}
  .rw[Wb hf];have:=WrH (k:=k) hg jj;exact⟨this.root,this.mem,this.shelf,this.holds,this.hist,this.histE,this.roots,this.now⟩
 .rw[Wb h7];exact h.st jj
theorem WsC(hk:k<w.roots.length)(aG:w.roots[k]=x)(j7:w.roots.length<=8)(hp:POk p)(h:GOk w)(hx:ROk p n x)(hn:n<=200000)(hh:w.hist.length<=500000)(hN:1048576<N):
  Zih N w.e (k:Int) p=some (((Wo.put (Wi5 w x k p) k).e,()),()):=by
 obtain⟨g1,g2,g3,g4,g5⟩:=woG hk aG;obtain⟨r0,r1,r2,r3,r4,r5,r6,r7,r8,eB,dR,dc,dh,dC,dD,fa,fb,eC,eD,fe,ff,fg⟩:=rtP x;have ma:k<=8:=by omega
 have c9:=Wkt hk aG;have uq:=hx.tries;have qV:=hx.ul;have mh:=WeP h.holds;unfold Zih Wi5;simp only[Ws];rw[show P5 w.e=w.roots.map Rt.e from rfl,g4,g2,Wai (by omega),Wai (show 0<=x.e.2.1/\x.e.2.1<=1000000 by omega)];simp(maxSteps:=4000000) only[g3,r0,r7,eB,dD,Wa,WX,ret,Xd,WeE,Wv,WT,show w.e.2.2.1.1=w.mem.1 from rfl,Wh,show P4 w.e=w.holds from rfl];rw[Whm h.holds (by omega) hN];simp only[ret,Xd];have hS4:S4 (WS w.holds ((k:Int)+1)) w.e=Wo.e {w with holds:=WS w.holds ((k:Int)+1)}:=rfl;have ur:S5 (Xe (w.roots.map Rt.e) (Xa (k:Int)) x.e) (S4 (WS w.holds ((k:Int)+1)) w.e)=Wo.e {w with holds:=WS w.holds ((k:Int)+1)}:=(woG (w:={w with holds:=WS w.holds ((k:Int)+1)}) hk aG).2.2.1;rw[ur,WrF (w:={w with holds:=WS w.holds ((k:Int)+1)}) hk aG (by omega),Wr5 hk aG j7 hN];have gj:∀(A:Option ((Y_World×Unit)×Unit)),A=some (((Wo.put (
   if x.phase=0 then WeX w x k else
   if x.phase=1 then WpP w x k p else
   if x.phase=2 then(w,Who x)else
   if x.phase=3 then WbG w x else
   if x.phase=4 then(w,WbW w x)else
   if x.phase=5 then Wbn w x k else
   if x.phase=6 then(if x.undos.length>0 then WfE w x else(w,{x with phase:=7}))else
   if x.phase=7 then
    (if x.fate=0 then({w with holds:=WS w.holds ((k:Int)+1)},{tries:=x.tries+1})
     else WlC {w with holds:=WS w.holds ((k:Int)+1)} x k)
   else(w,x)) k).e,()),())->¬(x.doomed=true/\1<=x.phase/\x.phase<=4)->A=some (((Wo.put (
   if x.doomed=true/\1<=x.phase/\x.phase<=4 then(w,Wix x)else
   if x.phase=0 then WeX w x k else
   if x.phase=1 then WpP w x k p else
   if x.phase=2 then(w,Who x)else
   if x.phase=3 then WbG w x else
   if x.phase=4 then(w,WbW w x)else
   if x.phase=5 then Wbn w x k else
   if x.phase=6 then(if x.undos.length>0 then WfE w x else(w,{x with phase:=7}))else
   if x.phase=7 then
    (if x.fate=0 then({w with holds:=WS w.holds ((k:Int)+1)},{tries:=x.tries+1})
     else WlC {w with holds:=WS w.holds ((k:Int)+1)} x k)
   else(w,x)) k).e,()),()):=λA hA hn=>by grind
 have jQ:(if x.phase=0 then(some (((Wo.put (WeX w x k) k).e,()),()):Option ((Y_World×Unit)×Unit)).bind (λo6=>some ((o6.1.1,()),()))
   else if x.phase=1 then(Zjj N w.e (k:Int) p).bind (λo7=>some ((o7.1.1,()),()))
   else if x.phase=2 then(Zjk N x.e).bind (λo8=>some ((S5 (Xe (w.roots.map Rt.e) (Xa (k:Int)) o8.1.1) w.e,()),()))
   else if x.phase=3 then(Zeg N x.e).bind (λo9=>if(x.undos.length:Int)>o9.2.1.2.2.2 then(Zch N w.e (Xa (k:Int))).bind (λbn=>some ((bn.1.1,()),()))else some ((S5 (Xe (w.roots.map Rt.e) (Xa (k:Int)) (S6 0 (S5 w.mem.1 (S0 4 x.e)))) w.e,()),()))
   else if x.phase=4 then(Zg1 N w.e (Xa (k:Int))).bind (λcZ=>some ((cZ.1.1,()),()))
   else if x.phase=5 then(Zg2 N w.e (k:Int)).bind (λcD=>some ((cD.1.1,()),()))
   else if x.phase=6 then(if(x.undos.length:Int)>0 then(Zch N w.e (Xa (k:Int))).bind (λbL=>some ((bL.1.1,()),()))else some ((S5 (Xe (w.roots.map Rt.e) (Xa (k:Int)) (7,x.e.2)) w.e,()),()))
   else if x.phase=7 then(if x.fate=0 then some ((S5 (Xe (w.roots.map Rt.e) (Xa (k:Int)) ((0:Int),(x.e.2.1+1,((0:Int),((0:Int),((0:Int),((0:Int),((0:Int),((0:Int),((0:Int),((0:Int),((0:Int),(false,(([]:List Int),(([]:List Kc),(([]:List Kc),(([]:List Kg),(([]:List Kb),(([]:List Int),(false,(((0:Int),((0:Int),((0:Int),(0:Int)))),(((0:Int),((0:Int),((0:Int),((0:Int),((0:Int),(([]:List Kc),([]:List Int))))))),d_Family)))))))))))))))))))))) (S4 (WS w.holds ((k:Int)+1)) w.e),()),())else(some (((Wo.put (WlC {w with holds:=WS w.holds ((k:Int)+1)} x k) k).e,()),()):Option ((Y_World×Unit)×Unit)).bind (λjC=>some ((jC.1.1,()),())))
   else some ((w.e,()),()))=some (((Wo.put (
   if x.phase=0 then WeX w x k else
   if x.phase=1 then WpP w x k p else
   if x.phase=2 then(w,Who x)else
   if x.phase=3 then WbG w x else
   if x.phase=4 then(w,WbW w x)else
   if x.phase=5 then Wbn w x k else
   if x.phase=6 then(if x.undos.length>0 then WfE w x else(w,{x with phase:=7}))else
   if x.phase=7 then
    (if x.fate=0 then({w with holds:=WS w.holds ((k:Int)+1)},{tries:=x.tries+1})
     else WlC {w with holds:=WS w.holds ((k:Int)+1)} x k)
   else(w,x)) k).e,()),()):=by
  rw[Xk];by_cases h0:x.phase=0
  .simp_all
  .rw[Wb h0,Wb h0];by_cases h1:x.phase=1
   .rw[Wf h1,Wf h1,WtA hk aG ma hp (hx.live (by omega)) hx.undos h.mem h.shelf h.holds hN];rfl
   .rw[Wb h1,Wb h1];by_cases h2:x.phase=2
    .rw[Wf h2,Wf h2,WrY hp (hx.live (by omega)) h2 hN];exact WcO rfl rfl rfl
    .rw[Wb h2,Wb h2];by_cases h3:x.phase=3
     .have hl:=hx.live (by omega);obtain⟨z1,z2,z3,z4,z5,z6⟩:=hl.sz hp.code;rw[Wf h3,Wf h3,WmR (hl.back (.inl h3)) (by omega)];simp only[Xd];have od:=(hl.mk24 hp.code (hl.back (.inl h3)));obtain⟨m,q,e1,e2,_,_,_,_,_,_,_,_,_,iL⟩:=od;unfold WbG;by_cases fh:(x.undos.length:Int)>x.last.2.2.2.1
      .rw[Wf fh,Wf fh,Wla hk aG (by omega) (by omega) hx.undos h.shelf hN];rfl
      .rw[Wb fh,Wb fh];exact WcO rfl rfl rfl
     .rw[Wb h3,Wb h3];by_cases h4:x.phase=4
      .rw[Wf h4,Wf h4,WpK hk aG hp (hx.live (by omega)) h4 h.mem];rfl
      .rw[Wb h4,Wb h4];by_cases h5:x.phase=5
       .rw[Wf h5,Wf h5,Wpo hk aG ma (hx.comm h5) h.mem hh hN];rfl
       .rw[Wb h5,Wb h5];by_cases h6:x.phase=6
        .rw[Wf h6,Wf h6];by_cases hz:x.undos.length>0
         .rw[Wf (by omega),Wf hz,Wla hk aG (by omega) (by omega) hx.undos h.shelf hN];rfl
         .rw[Wb (by omega),Wb hz];exact WcO rfl rfl rfl
        .rw[Wb h6,Wb h6];by_cases h7:x.phase=7
         .rw[Wf h7,Wf h7];by_cases hf:x.fate=0
          .rw[Wf hf,Wf hf,hS4];exact WcO (w:=w) (w':={w with holds:=WS w.holds ((k:Int)+1)}) (x':={tries:=x.tries+1}) rfl rfl rfl
          .rw[Wb hf,Wb hf];rfl
         simp_all
 rw[Wc4];by_cases hd:x.doomed=true
 .rw[Wf hd];by_cases eH:1<=x.phase/\x.phase<=4
  .rw[We eH.1,We eH.2,Wf (show x.doomed=true/\1<=x.phase/\x.phase<=4 from⟨hd,eH⟩),Xk];exact WcO rfl rfl rfl
  .have hb:(decide (1<=x.phase)&&decide (x.phase<=4))=false:=by
    rw[Xbw,Wp,Wp];omega
   rw[hb];exact gj _ jQ (λhc=>eH hc.2)
 grind
end
end
section
noncomputable def WnC(p:Pg):Bool:=p.2.all Wgx&&(Wpn p.1&&(decide (p.2.length<=3)&&beq (p.1.any λo=>o.1==11) (decide (p.2.length>0))))
noncomputable def WlP(s:Sc):Bool:=WrU s.1&&(decide (s.2.1.length<=4)&&(decide (s.2.2.length<=400)&&s.2.1.all WnC))
structure PB(p:Pg):Prop where
 code:p.1.length<=1048576
 kids:p.2.length<=1048576
 each:∀c∈p.2,c.length<=1048576
structure SB(s:Sc):Prop where
 cells:s.1.1.length<=1048576
 map:s.1.2.1.length<=1048576
 progs:s.2.1.length<=1048576
 each:∀p∈s.2.1,PB p
 acts:s.2.2.length<=1048576
variable{N:Nat}{s:Sc}{p:Pg}{w:Wo}{n:Int}{a:Ac}
theorem WtH(h:WnC p=true):POk p:=by
 unfold WnC at h;simp only[Xi,Xae,Wi]at h;exact⟨Wuh h.2.1,λc hc=>Wu1 (h.1 c hc),h.2.2.1⟩
theorem WdA(h:WlP s=true):ThOk s.1/\s.2.1.length<=4/\s.2.2.length<=400/\∀p∈s.2.1,POk p:=by
 simp_all [WlP,Xi,Xae,Wi,Wso,WtH]
theorem Wnr{α:Type}(l:List α)(k:Nat):decide ((Wh l)<=(k:Int))=decide (l.length<=k):=by
 simp[Wh,We,Wk]
theorem Wh2{α:Type}(l:List α)(k:Nat):decide ((Wh l)>(k:Int))=decide (l.length>k):=by
 simp[Wh,We,Wk]
theorem WhU(l k:Nat):decide (l>k)= !decide (l<=k):=by
 grind
theorem WlY{l:List Opn}(hl:l.length<=1048576)(hN:1048576<N):Zir N l=ret (l.any λo=>o.1==11):=by
 unfold Zir Zao Zt;have h1:=Wio (l:=l) (p:=λo=>o.1==11) (N:=N) (lp:=λn j=>Zh N l (λaw=>(some ((),(aw,())))) (λaB aU=>(some ((),((-1:Int),())))) n j) (K0:=λj=>some ((),(j,()))) (K1:=some ((),((-1:Int),()))) (by omega) (by omega)
  (λn j hj=>by
   simp only[Zh,WF hj,Wu hj,Ww hj,Wm (show j<4611686018427387904 by omega),Wa,Zr9,Xd])
  (λn=>by simp[Zh,WO,Xl,Wc])
 rw[h1];have h2:=Wkd (p:=λo:Opn=>o.1==11) l 0;cases hf:fnd (λo:Opn=>o.1==11) l 0 with
 |some r=>
  simp_all
 |none=>
  grind
theorem WmI(h:PB p)(hN:1048576<N):Zj9 N p=ret (WnC p):=by
 have hc:=h.code;have hk:=h.kids;unfold Zj9 WnC;have h1:=Wy (l:=p.2) (V:=Unit) (R:=Unit×Kq) (lp:=λn j v=>Zd4 N p.2 p (some ((),(false,()))) (λaw aB=>
  ((Zde N p.1).bind λbL=>
 (bif bL.2.1 then
 (bif decide ((Wh p.2)<=(3:Int))then
 ((Zir N p.1).bind λdv=>
 (some ((),(beq dv.2.1 (decide ((Wh p.2)>(0:Int))),()))))
 else
 (some ((),(false,()))))
 else
 (some ((),(false,())))))) n j) (n:=N) (by omega)
  (body:=λj x v k=>(Zjc N x).bind λo=>bif !o.2.1 then some ((),(false,()))else k v) (K:=λ_ v=>((Zde N p.1).bind λbL=>
 (bif bL.2.1 then
 (bif decide ((Wh p.2)<=(3:Int))then
 ((Zir N p.1).bind λdv=>
 (some ((),(beq dv.2.1 (decide ((Wh p.2)>(0:Int))),()))))
 else
 (some ((),(false,()))))
 else
 (some ((),(false,()))))))
  (λn i v hi=>by simp only[Zd4,WF hi,Wu hi,Ww hi,Wm (show i<4611686018427387904 by omega),Wa])
  (λn v=>by simp[Zd4,WO,Xl,Wc]) ()
 refine h1.trans ?_;rw[W4 (p:=λx=>!Wgx x) (E:=λ_=>some ((),(false,()))) p.2 0 () (λj x v k hx=>by rw[Wm2 (by have:=h.each x hx;omega) hN];rfl),Wa4,Wg1 (by omega) hN,WlY (by omega) hN];simp only[ret,Xd];rw[show(3:Int)=((3:Nat):Int)from rfl,Wnr,show(0:Int)=((0:Nat):Int)from rfl,Wh2];cases p.2.all Wgx<;>cases Wpn p.1<;>cases decide (p.2.length<=3)<;>rfl
theorem Wmh(h:PB p)(hN:1048576<N):Zic N p=ret (WnC p):=by
 have hc:=h.code;have hk:=h.kids;unfold Zic WnC;have h1:=Wy (l:=p.2) (V:=Unit) (R:=Unit×Kq) (lp:=λn j v=>Zcg N p (some ((),(false,()))) (λbo aw=>(some ((),(true,())))) n j) (n:=N) (by omega)
  (body:=λj x v k=>(Zja N x).bind λo=>bif !o.2.1 then some ((),(false,()))else k v) (K:=λ_ v=>some ((),(true,())))
  (λn i v hi=>by simp only[Zcg,WF hi,Wu hi,Ww hi,Wm (show i<4611686018427387904 by omega),Wa])
  (λn v=>by simp[Zcg,WO,Xl,Wc]) ()
 have h2:Zcg N p (some ((),(false,()))) (λbo aw=>(some ((),(true,())))) N 0=ret (p.2.all Wgx):=by
  refine h1.trans ?_;rw[W4 (p:=λx=>!Wgx x) (E:=λ_=>some ((),(false,()))) p.2 0 () (λj x v k hx=>by rw[Wng (by have:=h.each x hx;omega) hN];rfl),Wa4];cases p.2.all Wgx<;>rfl
 rw[h2,Whc (by omega) hN,Wg0 (by omega) hN];simp only[ret,Xd];rw[show(3:Int)=((3:Nat):Int)from rfl,Wh2,WhU,show(0:Int)=((0:Nat):Int)from rfl,Wh2];generalize beq (p.1.any λo=>o.1==11) (decide (p.2.length>0))=b;cases p.2.all Wgx<;>cases Wpn p.1<;>cases decide (p.2.length<=3)<;>cases b<;>rfl
theorem Wi7{t:List Int×List Int×Int}(h1:t.1.length<=1048576)(h2:t.2.1.length<=1048576)(hN:1048576<N):Zh0 N t=ret (WrU t):=by
 unfold Zh0 WrU Wl4;have e:((Wh t.2.1) !=(8:Int))= !decide (t.2.1.length=8):=by
  grind [Wh]
 have h3:=Wy (l:=t.2.1) (V:=Unit) (R:=Unit×Kq) (lp:=λn j v=>Zbq N t (some ((),(false,()))) (λbo aw=>(some ((),(true,())))) n j) (n:=N) (by omega)
  (body:=λj x v k=>bif !(decide (0<=x)&&decide (x<=65536))then some ((),(false,()))else k v) (K:=λ_ v=>some ((),(true,())))
  (λn i v hi=>by simp only[Zbq,WF hi,Wu hi,Ww hi,Wm (show i<4611686018427387904 by omega),Wa,Wcn,ret,Xd])
  (λn v=>by simp[Zbq,WO,Xl,Wc]) ()
 have h4:Zbq N t (some ((),(false,()))) (λbo aw=>(some ((),(true,())))) N 0=ret (t.2.1.all λx=>decide (0<=x)&&decide (x<=65536)):=by
  refine h3.trans ?_;rw[W4 (p:=λx=>!(decide (0<=x)&&decide (x<=65536))) (E:=λ_=>some ((),(false,()))) t.2.1 0 () (λj x v k _=>rfl),Wa4];cases t.2.1.all _<;>rfl
 rw[Whh h1 hN,e,Wae,h4];cases WcT t.1<;>cases decide (t.2.1.length=8)<;>cases Wa2 t.2.2<;>cases t.2.1.all _<;>rfl
theorem Wjd(h:SB s)(hN:1048576<N):Zh1 N s=ret (WlP s):=by
 have h1:=h.cells;have h2:=h.map;have h3:=h.progs;unfold Zh1 WlP;have h4:=Wy (l:=s.2.1) (V:=Unit) (R:=Unit×Kq) (lp:=λn j v=>Zbr N s (some ((),(false,()))) (λi9 ar=>(some ((),(true,())))) n j) (n:=N) (by omega)
  (body:=λj x v k=>(Zic N x).bind λo=>bif !o.2.1 then some ((),(false,()))else k v) (K:=λ_ v=>some ((),(true,())))
  (λn i v hi=>by simp only[Zbr,WF hi,Wu hi,Ww hi,Wm (show i<4611686018427387904 by omega),Wa])
  (λn v=>by simp[Zbr,WO,Xl,Wc]) ()
 have h5:Zbr N s (some ((),(false,()))) (λi9 ar=>(some ((),(true,())))) N 0=ret (s.2.1.all WnC):=by
  refine h4.trans ?_;rw[W4 (p:=λx=>!WnC x) (E:=λ_=>some ((),(false,()))) s.2.1 0 () (λj x v k hx=>by rw[Wmh (h.each x hx) hN];rfl),Wa4];cases s.2.1.all WnC<;>rfl
 rw[h5,Wi7 (by omega) (by omega) hN];simp only[ret,Xd];rw[show(4:Int)=((4:Nat):Int)from rfl,Wh2,WhU,show(400:Int)=((400:Nat):Int)from rfl,Wh2,WhU];cases WrU s.1<;>cases decide (s.2.1.length<=4)<;>cases decide (s.2.2.length<=400)<;>rfl
theorem Wfh(h:SB s)(hN:1048576<N):Zkk N s=ret (WlP s):=by
 have h1:=h.cells;have h2:=h.map;have h3:=h.progs;unfold Zkk WlP Zaf Zp;have h4:=Wy (l:=s.2.1) (V:=Unit) (R:=Unit×Kh) (lp:=λn j v=>Zb N s.2.1 (λaw=>(some ((),(aw,())))) (λaB aU=>(some ((),((-1:Int),())))) n j) (n:=N) (by omega)
  (body:=λj x v k=>(Zlg N x).bind λo=>bif o.2.1 then some ((),(j,()))else k v) (K:=λ_ v=>some ((),((-1:Int),())))
  (λn i v hi=>by simp only[Zb,WF hi,Wu hi,Ww hi,Wm (show i<4611686018427387904 by omega),Wa])
  (λn v=>by simp[Zb,WO,Xl,Wc]) ()
 have h5:((Zb N s.2.1 (λaw=>(some ((),(aw,())))) (λaB aU=>(some ((),((-1:Int),())))) N 0).bind λo2=>some ((),(decide (o2.2.1>=(0:Int)),())))=ret (!s.2.1.all WnC):=by
  have h6:=h4;rw[h6,Wdq (p:=λx=>!WnC x) (E:=λj _=>some ((),(j,()))) s.2.1 0 () (λj x v k hx=>by unfold Zlg;rw[WmI (h.each x hx) hN];rfl)];have h7:=Wkd (p:=λx=>!WnC x) s.2.1 0;rw[Wa4]at h7;rw[←h7];cases hf:fnd (λx=>!WnC x) s.2.1 0 with
  |some r=>simp_all
  |none=>rfl
 rw[WiX (by omega) (by omega) hN];simp only[ret,Xd];rw[h5,show(4:Int)=((4:Nat):Int)from rfl,Wnr,show(400:Int)=((400:Nat):Int)from rfl,Wnr];cases WrU s.1<;>cases decide (s.2.1.length<=4)<;>cases decide (s.2.2.length<=400)<;>cases s.2.1.all WnC<;>rfl
end
end Go.Sx
