/- Plain laws of the Lean functions. -/
import Derived.Test.YtceijnpnofmkkaaGreatMW1
open List renaming mem_cons_self→Xh,mem_cons_of_mem→Xe,length_append→Xz,append_assoc→Xbr,singleton_append→Xeo,length_cons→Xs,map_cons→Xak,append→Xf,set→Xl,getD→Xc,mem_map→Xw,length_set→Xab,set_set→Xdi,length_nil→Xcn,nil_append→Xby,length_map→Xae,replicate→Xt,getElem?_eq_getElem→Xq,getElem_mem→Xp,getElem_set→Xao,length→Xa,all_eq_true→Xac,getElem_replicate→Xbe,drop_length→Xdh,drop_eq_getElem_cons→Xck,pairwise_iff_getElem→Xar,filter_cons→Xbh,append_eq→Xal,mem_append→Xm,mem_singleton→Xaf,eq_nil_of_length_eq_zero→Xaa,mem_filter→Xau,getElem_of_mem→Xam,take→Xat,filter_eq_self→Xgh,set_getElem_self→Xaz,dropLast_eq_take→Xeq,length_take→Xba,pairwise_append→Xah,map_append→Xu,mem_of_mem_take→Xbj
open Option renaming bind_some→Xd,getD_some→Xel,isSome_some→Xgp
open Nat renaming le_refl→Xn,zero_add→Xbb,sub_zero→Xdj,lt_trichotomy→Xcz
open Bool renaming not_true→Xx,and_self→Xbn,and_eq_true→Xi,and_eq_false_iff→Xdn,not_false→Xdg,false_eq_true→Xbg,true_and→Xbu
open Int renaming toNat→Xb,toNat_natCast→Xj,tdiv_eq_ediv_of_nonneg→Xdy
namespace Go.Sx
set_option linter.unusedVariables false
set_option linter.unusedSimpArgs false
section
theorem Wj0{α β R:Type}{body:Int->α->List β->(List β->Option R)->Option R}{K:Int->List β->Option R}{f:α->β}:∀(l:List α) (d r:List β),l.length<=r.length->
  (∀(j:Nat) x (v:List β) k,x∈l->j<v.length->body j x v k=k (v.set j (f x)))->Wb9 body K l d.length (d++r)=K ((d.length+l.length:Nat):Int) (d++(l.map f++r.drop l.length))
 | [],d,r,_,_=>by simp[Wb9]
 |x::l,d,[],h,_=>by simp at h
 |x::l,d,y::r,h,hb=>by
  rw[Wb9,hb d.length x _ _ (Xh ..) (by simp),Wjk];have:=Wj0 (body:=body) (K:=K) (f:=f) l (d++ [f x]) r (by grind) λj z v k hz=>hb j z v k (Xe _ hz);simp only[Xz,List.length_singleton,Xbr,Xeo]at this;rw[this];simp only[Xs,Xak,List.drop_succ_cons,List.cons_append];rw[show d.length+1+l.length=d.length+(l.length+1) by omega]
theorem WlF{α:Type}{R:Type}{l:List α}{p:α->Bool}{lp:Nat->Int->Option R}{N:Nat}{K0:Int->Option R}{K1:Option R}(hl:l.length<N)(gw:l.length<=1048576)(hs:∀n (j:Nat) (h:j<l.length),lp (n+1) (j:Int)=bif p l[j]then K0 j else lp n ((j+1:Nat):Int))(he:∀n,lp (n+1) (l.length:Int)=K1):lp N 0=match fnd p l 0 with|some r=>K0 r.1|none=>K1:=by
 have h1:=WV (l:=l) (V:=Unit) (lp:=λn j _=>lp n j) hl (body:=λj x v k=>bif p x then K0 j else k v) (K:=λ_ _=>K1) (λn j v h=>hs n j h) (λn v=>he n) ();refine(h1.trans (Wge (p:=p) (E:=λj _=>K0 j) l 0 () λj x v k _=>rfl)).trans ?_;cases fnd p l 0<;>rfl
theorem WkQ{α:Type}{p:α->Bool}:∀(l:List α) (j:Nat),(fnd p l j).isSome=l.any p
 | [],_=>rfl
 |x::l,j=>by
  unfold fnd;rw[List.any_cons];cases p x
  .simp[WkQ l]
  .rfl
variable{N:Nat}
theorem Wnd{f:Fm}(h3:f.kids.length<=3)(hN:1048576<N):Zld N f.e=ret (Wa2 f):=by
 unfold Zld Zaf Zr;have e:f.e.2.2.2.2.2.2.2.2.2=f.kids.map Kd.e:=rfl;rw[e];have hl:(f.kids.map Kd.e).length<=3:=by simpa using h3
 have h1:=WlF (l:=f.kids.map Kd.e) (p:=λx=>x.1 !=3) (N:=N) (lp:=λn j=>Zg N (f.kids.map Kd.e) (λaI=>(some ((),(aI,())))) (λaK bd=>(some ((),((-1:Int),())))) n j) (K0:=λj=>some ((),(j,()))) (K1:=some ((),((-1:Int),()))) (by omega) (by omega)
  (λn j hj=>by
   simp only[Zg,Wat hj,WC hj,WJ hj,Wt (show j<4611686018427387904 by omega),Wc,Zmc,Xd])
  (λn=>by simp only[Zg,WaO (Xn _),We])
 rw[h1];have h2:=WkQ (p:=λx:Y_KidRun=>x.1 !=3) (f.kids.map Kd.e) 0;have h3:(f.kids.map Kd.e).any (λx=>x.1 !=3)= !Wa2 f:=by
  unfold Wa2;rw[List.any_map,←WcF];have:((λx:Y_KidRun=>x.1 !=3)∘Kd.e)= λx:Kd=>!decide (x.phase=3):=by
   funext x;show(x.phase !=3)= !decide (x.phase=3);by_cases h:x.phase=3<;>simp[h]
  rw[this]
 rw[h3]at h2;cases hf:fnd (λx:Y_KidRun=>x.1 !=3) (f.kids.map Kd.e) 0 with
 |some r=>
  rw[hf]at h2;simp only[Xd,Wf (show((r.1:Int)>=0) by omega),Xx,ret];rw[show Wa2 f=false by simpa using h2.symm]
 |none=>
  rw[hf]at h2;rw[show Wa2 f=true by simpa using h2.symm];rfl
theorem WmN{f:Fm}(h:f.buf.length<=1000)(hN:1048576<N):Zgy N f.e=ret (WfS f):=by
 unfold Zgy;have e:f.e.2.2.2.2.2.2.1=f.buf:=rfl;rw[e];have h1:=WV (l:=f.buf) (V:=List Rw) (R:=Unit×(List Rw×Unit)) (lp:=λn j v=>Zcl N f.buf (Wj f.buf) (λt9 aB ao=>(some ((),(ao,())))) n j v) (n:=N) (by omega)
  (body:=λj x v k=>bif WN (v.length+ [(x.1,x.2.1)].length)then k (Xf v [(x.1,x.2.1)])else none) (K:=λ_ v=>ret v)
  (λn i v hi=>by simp only[Zcl,Wat hi,WC hi,WJ hi,Wt (show i<4611686018427387904 by omega),Wc])
  (λn v=>by simp only[Zcl,WaO (Xn f.buf.length),We]) []
 refine h1.trans ?_;rw[WdE (f:=λx:En=>(x.1,x.2.1)) f.buf 0 [] (by simp;omega) (λj x v k _=>rfl)];rfl
theorem Wle{f:Fm}(hr:Vals 4 f.regs)(h3:f.kids.length<=3)(hx:∀x∈f.kids,x.regs.length<=1000)(hN:1048576<N):Zgx N f.e=ret (Wed f):=by
 unfold Zgx Wed;have e:f.e.2.2.2.2.1=f.regs:=rfl;have e2:f.e.2.2.2.2.2.2.2.2.2=f.kids.map Kd.e:=rfl;have lR:WdD f.regs=true:=Wfl.2 hr;have hl:=hr.len;have hm:(f.kids.map Kd.e).length=f.kids.length:=by simp
 rw[e,e2,Wdj (by omega) hN,Wb ⟨lR,h3⟩];simp only[ret,Xd,lR,Xx,We];rw[Wx (by unfold Wj;omega),WbD (by omega)];simp only[ret,Xd,We];have h1:=WV (l:=f.kids.map Kd.e) (V:=List Int) (R:=Unit×(List Int×Unit)) (lp:=λn j v=>Zbh N (f.kids.map Kd.e) (Wj (f.kids.map Kd.e)) (λbM iu dc=>(some ((),(dc,())))) n j v) (n:=N) (by omega)
  (body:=λj x v k=>bif inb j v.length then(bif x.2.2.2.2.2.1==(1:Int)then((Zae N (P6 x) (4:Int)).bind λcF=>(bif cF.2.1 then(bif inb 0 (P6 x).length then(bif inb j (Xl v j.toNat 0).length then k (Xl (Xl v j.toNat 0) j.toNat (Xc (P6 x) (Xb (0:Int)) 0))else none)else none)else k (Xl v j.toNat 0)))else k (Xl v j.toNat 0))else none) (K:=λ_ v=>ret v)
  (λn i v hi=>by simp only[Zbh,WD,Wat hi,WC hi,WJ hi,Wt (show i<4611686018427387904 by omega),Wc];rfl)
  (λn v=>by simp only[Zbh,WaO (Xn _),We]) f.regs
 refine h1.trans ?_;have h2:=Wj0 (β:=Int) (K:=λ_ v=>ret v) (f:=λx:Y_KidRun=>if P5 x=1/\WdD (P6 x)=true then Wbu (P6 x) 0 0 else 0) (f.kids.map Kd.e) [] f.regs (by omega) (body:=λj x v k=>bif inb j v.length then(bif x.2.2.2.2.2.1==(1:Int)then((Zae N (P6 x) (4:Int)).bind λcF=>(bif cF.2.1 then(bif inb 0 (P6 x).length then(bif inb j (Xl v j.toNat 0).length then k (Xl (Xl v j.toNat 0) j.toNat (Xc (P6 x) (Xb (0:Int)) 0))else none)else none)else k (Xl v j.toNat 0)))else k (Xl v j.toNat 0))else none)
  (λj x v k wR hj=>by
   obtain⟨y,hy,rfl⟩:=Xw.1 wR;have hyl:=hx y hy;have p5:(Kd.e y).2.2.2.2.2.1=y.out:=rfl;have Ax:P5 (Kd.e y)=y.out:=rfl;have p6:P6 (Kd.e y)=y.regs:=rfl;simp only[p5,Ax,p6,Wad,Wf hj,Wc,Wdj (show y.regs.length<=1048576 by omega) hN,ret,Xd,WG,Xj,Xab];by_cases h1:y.out=1
   .rw[Wb h1];cases lR:WdD y.regs
    .rw[Wa (by simp)];rfl
    .have:y.regs.length=4:=(Wfl.1 lR).len;rw[Wb ⟨h1,rfl⟩,show inb (0:Int) y.regs.length=true by rw[this];rfl];simp only[Wc,Xdi];rfl
   .rw[Wa h1,Wa (λh=>h1 h.1)])
 simp only[Xcn,Xby,Xae,List.map_map]at h2;exact h2
theorem Wjp{rv:Int}{regs:List Int}{writes:List Rw}{kids:Nat}(hr:regs.length<=1000)(hw:writes.length<=1000)(hk:kids<=3)(hN:1048576<N):
  Zf8 N rv regs writes (kids:Int)=ret (War rv regs writes kids).e:=by
 unfold Zf8;rw[WbD (by omega),WdR (by omega) hN];have hn:=Wfo writes;simp only[ret,Xd];have h1:=WV (l:=Wco writes) (V:=List En) (R:=Unit×(Y_Family×Unit)) (lp:=λn j v=>Zb9 N regs kids (Wj (Wco writes)) rv (Wco writes) regs (λt25 sM dx=>
  (Za9 N regs kids rv regs (Wco writes) dx
 (λvZ t50 oF=>
  (some ((),((rv,((0:Int),((0:Int),(false,(regs,(Wco writes,(dx,(([]:List Int),(([]:List Kc),oF))))))))),()))))
 N (0:Int) ([]:List Y_KidRun))) n j v) (n:=N) (by omega)
  (body:=λj x v k=>bif WN (v.length+ [(x.1,(x.2,(0:Int)))].length)then k (Xf v [(x.1,(x.2,(0:Int)))])else none) (K:=λ_ dx=>(Za9 N regs kids rv regs (Wco writes) dx
 (λvZ t50 oF=>
  (some ((),((rv,((0:Int),((0:Int),(false,(regs,(Wco writes,(dx,(([]:List Int),(([]:List Kc),oF))))))))),()))))
 N (0:Int) ([]:List Y_KidRun)))
  (λn i v hi=>by simp only[Zb9,Wat hi,WC hi,WJ hi,Wt (show i<4611686018427387904 by omega),Wc])
  (λn v=>by simp only[Zb9,WaO (Xn _),We]) []
 refine h1.trans ?_;rw[WdE (f:=λx:Rw=>(x.1,(x.2,(0:Int)))) (Wco writes) 0 [] (by simp;omega) (λj x v k _=>rfl)];simp only[Xby];obtain⟨b,hb⟩:∃b,(Wco writes).map (λx:Rw=>(x.1,(x.2,(0:Int))))=b:=⟨_,rfl⟩;rw[hb];have lp:∀(d j n:Nat) (v:List Y_KidRun),j+d=kids->d<n->v=Xt j (Kd.e {regs:=regs})->Za9 N regs kids rv regs (Wco writes) b (λvZ t50 oF=>(some ((),((rv,((0:Int),((0:Int),(false,(regs,(Wco writes,(b,(([]:List Int),(([]:List Kc),oF))))))))),())))) n (j:Int) v=some ((),((rv,((0:Int),((0:Int),(false,(regs,(Wco writes,(b,(([]:List Int),(([]:List Kc),Xt kids (Kd.e {regs:=regs})))))))))),())):=by
  intro d
  induction d with
  |zero=>
   intro j n v hj hn hv;obtain⟨n,rfl⟩:∃n',n=n'+1:=⟨n-1,by omega⟩;have:j=kids:=by omega
   subst this;simp only[Za9,Int.lt_irrefl,decide_false,We,hv]
  |succ d ih=>
   intro j n v hj hn hv;obtain⟨n,rfl⟩:∃n',n=n'+1:=⟨n-1,by omega⟩;have hlt:(j:Int)<(kids:Int):=by omega
   have uf:v.length=j:=by rw[hv];simp
   simp only[Za9,Wf hlt,Wc,WbD (show regs.length<=1048576 by omega),ret,Xd];rw[WE (by simp;omega)];simp only[Wc];rw[Wt (by omega)];refine ih (j+1) n _ (by omega) (by omega) ?_;rw[hv,List.replicate_succ'];rfl
 have:=lp kids 0 N [] (by omega) (by omega) rfl;refine this.trans ?_;unfold War Fm.e;simp only[List.map_replicate,hb]
end
section
def Wc3(s:Int):Int:=(s-1)/65536
def WbV(k:Int):Int:=(7*k+3)%4
structure SlOk(l:List Int):Prop where
 len:l.length=16
 each:∀i (h:i<l.length),l[i]=0\/((1<=l[i]/\l[i]<=524288)/\WbV (Wc3 l[i])=((i/4:Nat):Int))
 one:∀i j (hi:i<l.length) (hj:j<l.length),i<j->l[i]≠0->l[j]≠0->Wc3 l[i]≠Wc3 l[j]
def Wp3(k s:Int):Bool:=decide (s>0)&&decide (Wc3 s=k)
def Wpc(l:List Int)(k:Int):Option (Nat×Int):=fnd (Wp3 k) l 0
def Wgh(l:List Int)(k:Int):Nat:=if Wbu l (4*WbV k) 0=0 then(4*WbV k).toNat else(4*WbV k).toNat+1
def Woz(l:List Int)(k v:Int):List Int:=match Wpc l k with
 |some r=>l.set r.1 (1+65536*k+v)
 |none=>l.set (Wgh l k) (1+65536*k+v)
def WeZ(l:List Int)(k:Int):Int:=match Wpc l k with
 |some r=>(r.2-1)%65536+1
 |none=>0
def Wj2(l:List Int)(k:Int):List Int:=match Wpc l k with
 |some r=>l.set r.1 0
 |none=>l
variable{N:Nat}{l:List Int}{k v:Int}
theorem Wvf{n:Int}(h:I64 n):IntKind.wrap .i64 n=n:=wrap_i64 h
theorem WmD{s:Int}(h:1<=s/\s<=524288):Zg5 N s=ret (Wc3 s):=by
 unfold Zg5;rw[WaG (by unfold I64;omega)];have:Wq6 .i64 (s-1) 65536=Wc3 s:=by
  unfold Wq6 Wc3;rw[Xdy (by omega),Wvf (by unfold I64;omega)]
 rw[this];rfl
theorem Wlm{s:Int}(h:1<=s/\s<=524288):0<=Wc3 s/\Wc3 s<=7:=by unfold Wc3;omega
theorem WeK:Za6 N k=ret (decide (0<=k)&&decide (k<=7)):=by simp[Za6,W3]
theorem WjE(hk:0<=k/\k<=7)(hv:0<=v/\v<=65535):Zhs N k v=ret (1+65536*k+v):=by
 unfold Zhs;rw[WdO (by unfold I64;omega),WL (a:=1) (by unfold I64;omega),WL (by unfold I64;omega)]
theorem Wkf(hk:0<=k/\k<=7):Zh0 N k=ret (WbV k):=by
 unfold Zh0;rw[WeK,WdO (by unfold I64;omega),WL (by unfold I64;omega)];have:Whx (7*k+3) 4=WbV k:=by grind [Whx,WbV,Int.tmod_eq_emod_of_nonneg]
 simp only[ret,Xd,Wf hk.1,Wf hk.2,Xbn,Xx,We,this];rfl
theorem SlOk.val(h:SlOk l){i:Nat}(hi:i<l.length)(hn:l[i]≠0):1<=l[i]/\l[i]<=524288:=by
 rcases h.each i hi with h0|h0
 .omega
 omega
theorem WeQ(h:SlOk l)(hN:1048576<N):Zfx N l k=ret (match Wpc l k with|some r=>(r.1:Int)|none=>-1):=by
 unfold Zfx Wpc;have hl:=h.len;have h1:=WlF (l:=l) (p:=Wp3 k) (N:=N) (lp:=λn j=>Zc7 N k l (λbd=>(some ((),(bd,())))) (λgK bM=>(some ((),((-1:Int),())))) n j) (K0:=λj=>some ((),(j,()))) (K1:=some ((),((-1:Int),()))) (by omega) (by omega)
  (λn j hj=>by
   simp only[Zc7,Wat hj,WC hj,WJ hj,Wt (show j<4611686018427387904 by omega),Wc];unfold Wp3;by_cases h0:l[j]>0
   .rw[WmD (h.val hj (by omega))]
    grind
   grind)
  (λn=>by simp[Zc7,WaO,Xn,We])
 rw[h1];cases fnd (Wp3 k) l 0<;>rfl
theorem Wb3(h:SlOk l)(hN:1048576<N):Zcs N l=ret true:=by
 have hl:=h.len;have lp:∀(d j n:Nat) (s:List Bool),j+d=16->d<n->s.length=8->(∀c:Nat,s.getD c false=true->∃i,∃hi:i<l.length,i<j/\l[i]≠0/\Wc3 l[i]=c)->
   Zbz N l (some ((),(false,()))) (λtq Ae tt=>(some ((),(true,())))) n (j:Int) s=ret true:=by
  intro d
  induction d with
  |zero=>
   intro j n s hj hn _ _;obtain⟨n,rfl⟩:∃n',n=n'+1:=⟨n-1,by omega⟩;have:j=l.length:=by omega
   subst this;simp[Zbz,WaO,Xn,We]
  |succ d ih=>
   intro j n s hj hn hs hb;obtain⟨n,rfl⟩:∃n',n=n'+1:=⟨n-1,by omega⟩;have hlt:j<l.length:=by omega
   simp only[Zbz,Wat hlt,WC hlt,WJ hlt,Wt (show j<4611686018427387904 by omega),Wc,WG];by_cases h0:l[j]=0
   .rw[Wb h0];exact ih (j+1) n s (by omega) (by omega) hs λc hc=>by
     grind
   .rw[Wa h0];have hv:=h.val hlt h0;have hk:=Wlm hv;have wS:WbV (Wc3 l[j])=((j/4:Nat):Int):=by
     rcases h.each j hlt with h1|h1
     .omega
     omega
    have hq:Wq6 .i64 (j:Int) 4=((j/4:Nat):Int):=by
     unfold Wq6;rw[Xdy (by omega),Wvf (by unfold I64;omega)];omega
    have cT:s.getD (Xb (Wc3 l[j])) false=false:=by
     rw[Bool.eq_false_iff];intro hc;obtain⟨i,hi,h1,h2,h3⟩:=hb _ hc;exact h.one i j hi hlt h1 h2 h0 (by omega)
    rw[WjE (k:=7) (v:=65535) (by omega) (by omega),WmD hv];simp only[ret,Xd,W3,show(1:Int)+65536*7+65535=524288 from rfl,Wf hv.1,Wf hv.2,Xbn,Xx,We,Wkf hk,wS,hq,bne_self_eq_false];rw[show inz (4:Int)=true from rfl];simp only[Wc];rw[show inb (Wc3 l[j]) 8=true by grind [inb],hs,Wf rfl,cT];simp only[Xbn,Wc,We];refine ih (j+1) n _ (by omega) (by omega) (by simp_all) λc hc=>?_;by_cases hcj:c=(Wc3 l[j]).toNat
    .grind
    .have:s.getD c false=true:=by
      grind
     grind
 unfold Zcs;rw[show((Wj l) !=(16:Int))=false by grind [Wj]];simp only[We];refine lp 16 0 N _ (by omega) (by omega) (by simp) λc hc=>?_;rw[List.getD_eq_getElem?_getD]at hc;by_cases h8:c<8
 .grind
 simp_all
theorem Wex(h:SlOk l){r:Nat×Int}(hr:Wpc l k=some r):∃hi:r.1<l.length,l[r.1]=r.2/\1<=r.2/\r.2<=524288/\Wc3 r.2=k/\WbV k=((r.1/4:Nat):Int):=by
 obtain⟨h1,h2,h3,h4⟩:=WcW hr;rw[Xbb]at h3;rw[Xdj,Xq h3]at h4;injection h4 with h4;unfold Wp3 at h1;simp only[Xi,Wh]at h1;have h5:=h.val h3 (by omega);rcases h.each r.1 h3 with h6|h6
 .omega
 simp_all
theorem WiI(h:SlOk l)(hr:Wpc l k=none)(i:Nat)(hi:i<l.length)(hn:l[i]≠0):Wc3 l[i]≠k:=by
 have:=WhT hr l[i] (Xp hi);unfold Wp3 at this;have h1:=h.val hi hn
 grind
theorem WuC(k:Int):0<=WbV k/\WbV k<=3:=by unfold WbV;omega
theorem Wmc(h:SlOk l)(hk:0<=k/\k<=7)(hr:Wpc l k=none):∃hi:Wgh l k<l.length,l[Wgh l k]=0/\WbV k=((Wgh l k/4:Nat):Int)/\(Wgh l k=(4*WbV k).toNat\/(Wgh l k=(4*WbV k).toNat+1/\Wbu l (4*WbV k) 0≠0)):=by
 have hl:=h.len;have hb:=WuC k;unfold Wgh;have h1:(4*WbV k).toNat<l.length:=by omega
 have hg:Wbu l (4*WbV k) 0=l[(4*WbV k).toNat]:=Wn h1 _;by_cases h0:Wbu l (4*WbV k) 0=0
 .grind
 .simp only[Wa h0];have h2:(4*WbV k).toNat+1<l.length:=by omega
  refine⟨h2,?_,by omega,.inr ⟨trivial,h0⟩⟩;refine Classical.byContradiction λhn=>?_;rw[hg]at h0;have a1:=WiI h hr _ h1 h0;have a2:=WiI h hr _ h2 hn;have a3:=h.one _ _ h1 h2 (by omega) h0 hn;have b1:=Wlm (h.val h1 h0);have b2:=Wlm (h.val h2 hn);rcases h.each _ h1 with c1|c1
  .exact h0 c1
  .rcases h.each _ h2 with c2|c2
   .exact hn c2
   grind [Wc3,WbV]
theorem Wus(hk:0<=k/\k<=7)(hv:0<=v/\v<=65535):(1<=1+65536*k+v/\1+65536*k+v<=524288)/\Wc3 (1+65536*k+v)=k:=by unfold Wc3;omega
theorem Wlx(h:SlOk l){i:Nat}(hi:i<l.length){s:Int}(hs:s=0\/((1<=s/\s<=524288)/\WbV (Wc3 s)=((i/4:Nat):Int)))(ho:s≠0->∀j (hj:j<l.length),j≠i->l[j]≠0->Wc3 l[j]≠Wc3 s):SlOk (l.set i s) where
 len:=by rw[Xab];exact h.len
 each:=λj hj=>by
  rw[Xab]at hj;rw[Xao];by_cases he:i=j
  .simp_all
  .rw[Wa he];exact h.each j hj
 one:=λa b ha hb fN=>by
  rw[Xab]at ha hb;rw[Xao,Xao];by_cases h1:i=a
  .grind
  .rw[Wa h1];by_cases h2:i=b
   .grind
   .rw[Wa h2];exact h.one a b ha hb fN
theorem Wh7(h:SlOk l)(hk:0<=k/\k<=7)(hv:0<=v/\v<=65535):SlOk (Woz l k v):=by
 obtain⟨k1,k2⟩:=Wus hk hv;unfold Woz;cases hr:Wpc l k with
 |some r=>
  obtain⟨hi,h1,h2,h3,h4,h5⟩:=Wex h hr;refine Wlx h hi (.inr ⟨k1,by simp_all⟩) λ_ j hj hne hn=>?_;rw[k2,←h4,←h1];rcases Nat.lt_or_gt_of_ne hne with hlt|hlt
  .exact h.one j r.1 hj hi hlt hn (by omega)
  .exactλe=>h.one r.1 j hi hj hlt (by omega) hn e.symm
 |none=>
  grind [Wmc,Wlx,WiI]
theorem Wnt(h:SlOk l):SlOk (Wj2 l k):=by
 unfold Wj2;cases hr:Wpc l k with
 |some r=>
  obtain⟨hi,h1,_⟩:=Wex h hr;exact Wlx h hi (.inl rfl) λh=>Wg rfl h
 |none=>exact h
theorem Wgg(l:List Int)(k:Int):0<=WeZ l k/\WeZ l k<=65536:=by
 unfold WeZ;cases Wpc l k<;>simp only<;>omega
theorem Wc2(h:SlOk l)(hk:0<=k/\k<=7)(hN:1048576<N):Zgu N l k=some ((),((if WeZ l k=0 then 0 else WeZ l k-1),(decide (WeZ l k≠0),()))):=by
 unfold Zgu WeZ;rw[Wb3 h hN,WeK,WeQ h hN];simp only[ret,Xd,Xx,We,Wf hk.1,Wf hk.2,Xbn];cases hr:Wpc l k with
 |none=>rfl
 |some r=>
  obtain⟨hi,h1,h2,h3,h4,h5⟩:=Wex h hr;simp only[Wx (show¬((r.1:Int)<0) by omega),We,Wad,Wf hi,Wc,WJ hi,h1];rw[WaG (by unfold I64;omega),Wb4 (by omega),Wa (by omega),Wf (by omega)];simp only[Int.add_sub_cancel];rfl
theorem Wc4(h:SlOk l)(hk:0<=k/\k<=7)(hv:0<=v/\v<=65535)(hN:1048576<N):Zd8 N l k v=some ((),(Woz l k v,(WeZ l k,(true,())))):=by
 have hl:=h.len;unfold Zd8;rw[Wcv (by omega),Wb3 h hN,WeK,WaF,WeQ h hN,Wc2 h hk hN,WjE hk hv,Wkf hk];simp only[ret,Xd,Xx,We,Wf hk.1,Wf hk.2,Xbn,WaD.2 hv];unfold Woz WeZ;cases hr:Wpc l k with
 |some r=>
  obtain⟨hi,h1,h2,h3,h4,h5⟩:=Wex h hr;simp only[Wf (show((r.1:Int)>=0) by omega),Wc,Wad,Wf hi,Xj];rw[Wa (by omega),WL (by unfold I64;omega)];simp_all
 |none=>
  simp only[show decide ((-1:Int)>=0)=false from rfl,We];have hb:=WuC k;obtain⟨hi,h1,h2,h3⟩:=Wmc h hk hr;rw[WdO (by unfold I64;omega)];obtain⟨N',rfl⟩:∃N',N=N'+1+1:=⟨N-2,by omega⟩;have kL:4*WbV k=(((4*WbV k).toNat:Nat):Int):=by omega
  have it:∀n,Zcj (N'+1+1) k v l (λkV iE=>(bif inb kV (Xa l)then(some ((),(Xl l (Xb kV) (1+65536*k+v),(0,(true,())))))else none)) (n+1) (Wgh l k:Int)=some ((),(l.set (Wgh l k) (1+65536*k+v),((0:Int),(true,())))):=λn=>by
   simp only[Zcj,WC hi,WJ hi,h1,Wc,bne_self_eq_false,We];rw[Xj]
  rcases h3 with h3|⟨h3,h4⟩
  .grind
  .have hlt:(4*WbV k).toNat<l.length:=by omega
   have hg:Wbu l (4*WbV k) 0=l[(4*WbV k).toNat]:=Wn hlt _;rw[hg]at h4;have gH:=it N';rw[kL];rw[Zcj];simp only[WC hlt,WJ hlt,Wc];rw[show(l[(4*WbV k).toNat] !=0)=true by grind,Wt (by omega),←h3]
   grind
theorem Wei(h:SlOk l)(hk:0<=k/\k<=7)(hN:1048576<N):Zh1 N l k=some ((),(Wj2 l k,(WeZ l k,(true,())))):=by
 have hl:=h.len;unfold Zh1;rw[Wcv (by omega),Wb3 h hN,WeK,WeQ h hN,Wc2 h hk hN];simp only[ret,Xd,Xx,We,Wf hk.1,Wf hk.2,Xbn];unfold Wj2 WeZ;cases hr:Wpc l k with
 |some r=>
  obtain⟨hi,h1,h2,h3,h4,h5⟩:=Wex h hr;simp only[Wx (show¬((r.1:Int)<0) by omega),Wc,We,Wad,Wf hi,Xj];rw[Wa (by omega),WL (by unfold I64;omega)];simp_all
 |none=>rfl
end
section
abbrev Shf:=List Int×Int
abbrev Un:=Int×Int×Int
structure ShOk(s:Shf):Prop where
 slots:SlOk s.1
 cnt:0<=s.2/\s.2<=65535
def UnV(u:Un):Prop:=(u.1=1/\(0<=u.2.1/\u.2.1<=7)/\0<=u.2.2/\u.2.2<=65535)\/(u.1=2/\(0<=u.2.1/\u.2.1<=7)/\u.2.2=0)\/(u.1=3/\u.2.1=0/\0<=u.2.2/\u.2.2<=65535)
def Wil(s:Shf)(u:Un):Shf:=
 if u.1=1 then(Woz s.1 u.2.1 u.2.2,s.2)else if u.1=2 then(Wj2 s.1 u.2.1,s.2)else if u.1=3 then(s.1,(s.2-u.2.2+65536)%65536)else s
def Whp(k e:Int):Un:=if e=0 then(2,k,0)else(1,k,e-1)
def Wbv(s:Shf)(o:Opn)(r:List Int):Shf×List Int×Un:=
 if o.1=12 then((Woz s.1 o.2.1 (Wbu r o.2.2.1 0),s.2),WjU r o.2.2.2 (WeZ s.1 o.2.1%65536),Whp o.2.1 (WeZ s.1 o.2.1))else
 if o.1=13 then(s,WjU r o.2.1 (WeZ s.1 o.2.2.1%65536),(0,0,0))else
 if o.1=14 then((Wj2 s.1 o.2.1,s.2),WjU r o.2.2.1 (WeZ s.1 o.2.1%65536),Whp o.2.1 (WeZ s.1 o.2.1))else
 if o.1=15 then((s.1,(s.2+Wbu r o.2.1 0)%65536),r,(3,0,Wbu r o.2.1 0))else
 (s,WjU r o.2.1 s.2,(0,0,0))
def WaK(o:Opn):Int×Int:=
 if o.1=12\/o.1=14 then(o.2.1,2)else if o.1=13 then(o.2.2.1,1)else if o.1=15 then(8,1)else(8,2)
section
variable{o:Opn}
theorem Wtx(h:Wd1 o=true)(h5:o.1=12):Wfp o.2.1=true/\Waa o.2.2.1=true/\Waa o.2.2.2=true:=by
 obtain⟨k,a,b,c⟩:=o;simp only at h5;subst h5;have:(Wfp a&&Waa b&&Waa c)=true:=h;simp_all
theorem Wvo(h:Wd1 o=true)(h5:o.1=13):Waa o.2.1=true/\Wfp o.2.2.1=true:=by
 obtain⟨k,a,b,c⟩:=o;simp only at h5;subst h5;have:(Waa a&&Wfp b&&(c==(0:Int)))=true:=h;simp_all
theorem Wuo(h:Wd1 o=true)(h5:o.1=14):Wfp o.2.1=true/\Waa o.2.2.1=true:=by
 obtain⟨k,a,b,c⟩:=o;simp only at h5;subst h5;have:(Wfp a&&Waa b&&(c==(0:Int)))=true:=h;simp_all
theorem Wxd(h:Wd1 o=true)(h5:o.1=15):Waa o.2.1=true:=by
 obtain⟨k,a,b,c⟩:=o;simp only at h5;subst h5;have:(Waa a&&(b==(0:Int))&&(c==(0:Int)))=true:=h;simp_all
theorem WwR(h:Wd1 o=true)(h5:o.1=16):Waa o.2.1=true:=by
 obtain⟨k,a,b,c⟩:=o;simp only at h5;subst h5;have:(Waa a&&(b==(0:Int))&&(c==(0:Int)))=true:=h;simp_all
end
theorem Wc7{x:Int}:Wfp x=true↔0<=x/\x<=7:=by unfold Wfp;simp
variable{N:Nat}{s:Shf}{u:Un}{o:Opn}{r:List Int}
theorem Wl6{k e:Int}(hk:0<=k/\k<=7)(he:0<=e/\e<=65536):UnV (Whp k e):=by
 unfold Whp UnV
 grind
theorem Wp9(h:ShOk s)(hu:UnV u):ShOk (Wil s u):=by
 unfold Wil;rcases hu with⟨h1,h2,h3⟩|⟨h1,h2,h3⟩|⟨h1,h2,h3⟩
 .rw[Wb h1];exact⟨Wh7 h.slots h2 h3,h.cnt⟩
 .rw[Wa (by omega),Wb h1];exact⟨Wnt h.slots,h.cnt⟩
 .rw[Wa (by omega),Wa (by omega),Wb h1];exact⟨h.slots,by omega⟩
theorem WpY(h:ShOk s)(hr:Vals 4 r)(ho:Wd1 o=true)(fv:12<=o.1):ShOk (Wbv s o r).1/\Vals 4 (Wbv s o r).2.1/\((Wbv s o r).2.2.1≠0->UnV (Wbv s o r).2.2)/\((Wbv s o r).2.2.1=0->(Wbv s o r).1=s):=by
 have uB:=WoJ ho;unfold Wbv;split
 .obtain⟨a,b,c⟩:=Wtx ho ‹_›;rw[Wc7]at a;have hg:=Wgg s.1 o.2.1;exact⟨⟨Wh7 h.slots a (hr.get _),h.cnt⟩,hr.set _ (by omega),λ_=>Wl6 a hg,λh=>by unfold Whp at h;split at h<;>(simp_all)⟩
 .split
  .exact⟨h,hr.set _ (by omega),λh=>Wg rfl h,λ_=>rfl⟩
  .split
   .obtain⟨a,b⟩:=Wuo ho ‹_›;rw[Wc7]at a;have hg:=Wgg s.1 o.2.1;exact⟨⟨Wnt h.slots,h.cnt⟩,hr.set _ (by omega),λ_=>Wl6 a hg,λh=>by unfold Whp at h;split at h<;>(simp_all)⟩
   .split
    .have:=hr.get o.2.1.toNat;have:=h.cnt;refine⟨⟨h.slots,by grind⟩,hr,λ_=>.inr (.inr ⟨rfl,rfl,hr.get _⟩),λh=>by simp_all⟩
    .exact⟨h,hr.set _ h.cnt,λh=>Wg rfl h,λ_=>rfl⟩
theorem WeO(h:ShOk s)(hN:1048576<N):Ziv N s=ret true:=by
 unfold Ziv;rw[Wb3 h.slots hN,WaF,WaD.2 h.cnt];rfl
theorem WgD(h:ShOk s):Zg7 N s=ret s:=by
 unfold Zg7;rw[Wcv (by have:=h.slots.len;omega)];rfl
theorem Wjo(hu:UnV u):Zl3 N u=ret true:=by
 unfold Zl3;simp only[WG,WeK,WaF,ret,Xd];rcases hu with⟨h1,h2,h3⟩|⟨h1,h2,h3⟩|⟨h1,h2,h3⟩
 .simp_all [Wa,Wb,WaD]
 .simp_all
 simp_all [Wa,Wb,WaD]
theorem Wi9(h:ShOk s)(hu:UnV u)(hN:1048576<N):Zlb N s u=some ((),(Wil s u,(true,()))):=by
 unfold Zlb Wil;rw[WgD h,Wjo hu];simp only[ret,Xd];rw[WeO h hN];simp only[ret,Xd,Xx,We,WG];have hc:=h.cnt;rcases hu with⟨h1,h2,h3⟩|⟨h1,h2,h3⟩|⟨h1,h2,h3⟩
 .rw[Wb h1,Wb h1,Wc4 h.slots h2 h3 hN];rfl
 .rw[Wa (by omega),Wb h1,Wa (by omega),Wb h1,Wei h.slots h2 hN];rfl
 .rw[Wa (by omega),Wa (by omega),Wb h1,Wa (by omega),Wa (by omega),Wb h1];rw[WaG (by unfold I64;omega),WL (by unfold I64;omega),Wb4 (by omega)];rfl
theorem Wfv{k e:Int}(he:0<=e/\e<=65536):Zjv N k e=ret (Whp k e):=by
 unfold Zjv Whp;rw[WG,WaG (by unfold I64;omega)];split<;>rfl
theorem WkK(ho:Wd1 o=true)(fv:12<=o.1):Zi6 N o=some ((),((WaK o).1,((WaK o).2,()))):=by
 have uB:=WoJ ho;unfold Zi6 WaK;rw[Wfb,ho];simp only[ret,Xd,Xx,We,WG];have:o.1=12\/o.1=13\/o.1=14\/o.1=15\/o.1=16:=by omega
 rcases this with h|h|h|h|h<;>simp[h]
theorem Wic(h:ShOk s)(hr:Vals 4 r)(ho:Wd1 o=true)(fv:12<=o.1)(hN:1048576<N):
  Zlc N s o r=some ((),((Wbv s o r).1,((Wbv s o r).2.1,((Wbv s o r).2.2,(true,()))))):=by
 have uB:=WoJ ho;have df:=hr.len;have hc:=h.cnt;unfold Zlc Wbv;rw[WgD h,Wcv (by omega)];simp only[ret,Xd];rw[WeO h hN,Wdj (by omega) hN,Wfl.2 hr,Wgk,Wrw ho fv];simp only[ret,Xd,Xx,We,bne_self_eq_false,WG,show inz (65536:Int)=true from rfl,Wc,WD,Xab];by_cases e1:o.1=12
 .obtain⟨a,b,c⟩:=Wtx ho e1;rw[Wc7]at a;rw[Wb e1,Wb e1,Wbl b df,Wbl c df];have hg:=Wgg s.1 o.2.1;rw[Wc4 h.slots a (hr.get _) hN];simp only[Wc,Xd,Wfv hg,ret];rw[Wb4 (by omega)];rfl
 .rw[Wa e1,Wa e1];by_cases e2:o.1=13
  .obtain⟨a,b⟩:=Wvo ho e2;rw[Wc7]at b;have hg:=Wgg s.1 o.2.2.1;rw[Wb e2,Wb e2,Wbl a df,Wc2 h.slots b hN];simp only[Wc,Xd];by_cases hz:WeZ s.1 o.2.2.1=0
   .rw[hz];rfl
   .rw[Wa hz,Wf hz,WL (by unfold I64;omega),Wb4 (by omega),Int.sub_add_cancel];simp only[Wc,Xdi];rfl
  .rw[Wa e2,Wa e2];by_cases e3:o.1=14
   .obtain⟨a,b⟩:=Wuo ho e3;rw[Wc7]at a;have hg:=Wgg s.1 o.2.1;rw[Wb e3,Wb e3,Wbl b df,Wei h.slots a hN];simp only[Wc,Xd,Wfv hg,ret];rw[Wb4 (by omega)];rfl
   .rw[Wa e3,Wa e3];by_cases e4:o.1=15
    .have a:=Wxd ho e4;have hv:=hr.get o.2.1.toNat;rw[Wb e4,Wb e4,Wbl a df];simp only[Wc];rw[WL (by unfold I64;omega),Wb4 (by omega)];rfl
    .have a:=WwR ho (by omega);rw[Wa e4,Wa e4,Wbl a df];rfl
def WmQ(l:List Int):Bool:=decide (l.length=8)&&l.all λx=>decide (0<=x)&&decide (x<=65536)
structure ThOk(t:List Int×List Int×Int):Prop where
 cells:Vals 8 t.1
 map:t.2.1.length=8/\∀x∈t.2.1,0<=x/\x<=65536
 cnt:0<=t.2.2/\t.2.2<=65535
def Wto(t:List Int×List Int×Int):Bool:=WeB t.1&&(WmQ t.2.1&&Wbj t.2.2)
theorem WpA{t:List Int×List Int×Int}:Wto t=true↔ThOk t:=by
 unfold Wto WmQ;simp only[Xi,Wpm,WaD,Wh,Xac];exact⟨λh=>⟨h.1,h.2.1,h.2.2⟩,λh=>⟨h.cells,h.map,h.cnt⟩⟩
theorem WiK{l:List Int}(hl:l.length<=1048576)(hN:1048576<N):Zg4 N l=ret (WmQ l):=by
 unfold Zg4 WmQ;have h1:=WV (l:=l) (V:=Unit) (R:=Unit×Ko) (lp:=λn j v=>Zdy N l (some ((),(false,()))) (λaI aK=>(some ((),((Wj l)==(8:Int),())))) n j) (n:=N) (by omega)
  (body:=λj x v k=>bif !(decide (0<=x)&&decide (x<=65536))then some ((),(false,()))else k v) (K:=λ_ v=>some ((),((Wj l)==(8:Int),())))
  (λn i v hi=>by simp only[Zdy,Wat hi,WC hi,WJ hi,Wt (show i<4611686018427387904 by omega),Wc,W3,ret,Xd])
  (λn v=>by simp[Zdy,WaO,Xn,We]) ()
 refine h1.trans ?_;rw[WaM (p:=λx=>!(decide (0<=x)&&decide (x<=65536))) (E:=λ_=>some ((),(false,()))) l 0 () (λj x v k _=>rfl),WcF];have e:((Wj l)==(8:Int))=decide (l.length=8):=by
  grind [Wj]
 rw[e];cases l.all _<;>cases decide (l.length=8)<;>rfl
theorem Wjl{t:List Int×List Int×Int}(h1:t.1.length<=1048576)(h2:t.2.1.length<=1048576)(hN:1048576<N):Zkc N t=ret (Wto t):=by
 unfold Zkc Wto;rw[Whj h1 hN,WiK h2 hN,WaF];cases WeB t.1<;>cases WmQ t.2.1<;>rfl
def Wfn:List Int->Nat->List Int->List Int
 | [],_,l=>l
 |x::m,k,l=>Wfn m (k+1) (if x>0 then Woz l k (x-1)else l)
def Wo6(m:List Int):List Int:=Wfn m 0 (Xt 16 0)
theorem Wmf:SlOk (Xt 16 0) where
 len:=by simp
 each:=λi h=>.inl (Xbe ..)
 one:=λi j hi hj _ h=>Wg (Xbe ..) h
theorem Wis:∀(m:List Int) (k:Nat) (l:List Int),k+m.length<=8->(∀x∈m,0<=x/\x<=65536)->SlOk l->SlOk (Wfn m k l)
 | [],_,l,_,_,h=>h
 |x::m,k,l,hk,hx,h=>by
  have h0:=hx x (Xh ..);rw[Xs]at hk;refine Wis m (k+1) _ (by omega) (λy hy=>hx y (Xe _ hy)) ?_
  grind [Wh7]
theorem Wsp{m:List Int}(hl:m.length=8)(hx:∀x∈m,0<=x/\x<=65536):SlOk (Wo6 m):=Wis m 0 _ (by omega) hx Wmf
theorem Whc{m:List Int}(hl:m.length=8)(hx:∀x∈m,0<=x/\x<=65536)(hN:1048576<N):Za7 N m=ret (Wo6 m):=by
 have hm:WmQ m=true:=by simp_all [WmQ,Xi,Wh,Xac]
 unfold Za7 Wo6;rw[WiK (by omega) hN,hm];simp only[ret,Xd,Xx,We];rw[show Znk N=ret (Xt 16 0)from rfl];simp only[ret,Xd];have lp:∀(d j n:Nat) (l:List Int),j+d=m.length->d<n->SlOk l->Zbg N m (λgK bM cM=>(some ((),(cM,())))) n (j:Int) l=ret (Wfn (m.drop j) j l):=by
  intro d
  induction d with
  |zero=>
   intro j n l hj hn hs;obtain⟨n,rfl⟩:∃n',n=n'+1:=⟨n-1,by omega⟩;have:j=m.length:=by omega
   subst this;simp[Zbg,WaO,Xn,We,Xdh,Wfn]
  |succ d ih=>
   intro j n l hj hn hs;obtain⟨n,rfl⟩:∃n',n=n'+1:=⟨n-1,by omega⟩;have hlt:j<m.length:=by omega
   have hb:=hx m[j] (Xp hlt);simp only[Zbg,Wat hlt,WC hlt,WJ hlt,Wt (show j<4611686018427387904 by omega),Wc,WaP];rw[Xck hlt,Wfn];by_cases h0:m[j]>0
   .rw[Wb h0,Wb h0,WaG (by unfold I64;omega),Wc4 hs (by omega) (by omega) hN]
    grind [Wh7]
   grind
 have:=lp m.length 0 N (Xt 16 0) (by omega) (by omega) Wmf;simp_all
end
section
abbrev Hd:=Int×Int×Int
def HdV(h:Hd):Prop:=(1<=h.1/\h.1<=9)/\(0<=h.2.1/\h.2.1<=8)/\1<=h.2.2/\h.2.2<=2
def HdB(a b:Hd):Prop:=cfH a b<0/\(a.2.1=b.2.1->a.2.2≠2/\b.2.2≠2)
structure HOk(l:List Hd):Prop where
 val:∀h∈l,HdV h
 up:l.Pairwise HdB
theorem HOk.ris{l:List Hd}(h:HOk l):Ris cfH l:=h.up.imp λh=>h.1
def Wf9(l:List Hd)(who:Int):List Int:=(l.filter λh=>decide (h.1=who)).map (·.2.1)
def blk(who what mode:Int)(h:Hd):Bool:=decide (h.2.1=what)&&(decide (h.1≠who)&&(decide (mode=2)||decide (h.2.2=2)))
def WgE(l:List Hd)(who what mode:Int):List Int:=(l.filter (blk who what mode)).map (·.1)
def Wug(who what:Int)(h:Hd):Bool:=decide (h.1=who)&&decide (h.2.1=what)
def Wq7(l:List Hd)(who what:Int):Int:=match fnd (Wug who what) l 0 with
 |some r=>r.2.2.2
 |none=>0
def Wq1(a b:Int):Int:=if a<=b then b else a
def WgW(l:List Hd)(who what mode:Int):List Hd:=Wfr cfH l (who,what,Wq1 (Wq7 l who what) mode)
def Wa4(l:List Hd)(who what mode:Int):Option (List Hd):=if WgE l who what mode= []then some (WgW l who what mode)else none
def W7(l:List Hd)(who:Int):List Hd:=l.filter λh=>!(h.1==who)
theorem Wdp{α:Type}{a b:Int}{x y:α}:(bif a !=b then x else y)=if a=b then y else x:=by
 simp_all
theorem Wvn{α:Type}{cf:α->α->Int}(hc:Lin cf){L M:List α}(hL:Ris cf L)(hM:Ris cf M)(hm:∀x,x∈L↔x∈M):L=M:=by
 rw[←Woe hc hM (hL.imp λh=>.inl h) hm,Woe hc hL (hL.imp λh=>.inl h) λx=>Iff.rfl]
theorem apH{a b:Hd}:Ap cfH a b↔¬(a.1=b.1/\a.2.1=b.2.1):=by grind [Ap,Wcd]
theorem Wnw{a b c d:Hd}(h1:a.1=c.1)(h2:a.2.1=c.2.1)(h3:b.1=d.1)(h4:b.2.1=d.2.1):cfH a b<0↔cfH c d<0:=by simp_all [Wcd]
variable{N:Nat}{l:List Hd}{who what mode:Int}
theorem WtL(h:Ris cfH l){i:Nat}(hi:i<l.length){e:Hd}(h1:e.1=l[i].1)(h2:e.2.1=l[i].2.1):Ris cfH (l.set i e):=by
 unfold Ris at*;rw[Xar]at*;intro a b ha hb fN;rw[Xab]at ha hb;rw[Xao,Xao];have:=h a b ha hb fN;by_cases c1:i=a
 .subst c1;rw[Wb rfl,Wa (by omega)];exact(Wnw h1 h2 rfl rfl).2 this
 .rw[Wa c1];by_cases c2:i=b
  .subst c2;rw[Wb rfl];exact(Wnw rfl rfl h1 h2).2 this
  simp_all
theorem WvG(h:Ris cfH l){i:Nat}(hi:i<l.length){e:Hd}(h1:e.1=l[i].1)(h2:e.2.1=l[i].2.1):l.set i e=Wfr cfH l e:=by
 refine Wvn Wor (WtL h hi h1 h2) (Wct Wor h) λx=>?_;rw[(WmJ Wor (h.imp λh=>.inl h) hi (by grind [apH])).2 x,WbC Wor h]
theorem WvV{h:Hd}:(decide (1<=h.1)&&decide (h.1<=9))=true/\(decide (0<=h.2.1)&&decide (h.2.1<=8))=true/\(decide (1<=h.2.2)&&decide (h.2.2<=2))=true↔HdV h:=by
 simp[HdV,Xi,Wh]
theorem Wfz{h:Hd}(hv:HdV h):Zht N h.1 h.2.1 h.2.2=ret true:=by
 obtain⟨a,b,c⟩:=WvV.2 hv;simp_all [Zht,W3,ret,Xd,Wc]
theorem WmZ{a b:Hd}(ha:HdV a)(hb:HdV b):Zhf N a b=ret (cfH a b):=by
 obtain⟨a1,a2,a3⟩:=ha;obtain⟨b1,b2,b3⟩:=hb
 grind [Zhf,cfH,WaG,I64]
theorem Wb1(h:HOk l)(hl:l.length<=1048576)(hN:1048576<N):Zd9 N l=ret true:=by
 have lp:∀(d j n:Nat),j+d=l.length->d<n->Zao N l (some ((),(false,()))) (λgK bM=>(some ((),(true,())))) n (j:Int)=ret true:=by
  intro d
  induction d with
  |zero=>
   intro j n hj hn;obtain⟨n,rfl⟩:∃n',n=n'+1:=⟨n-1,by omega⟩;simp_all [Zao,WaO,Xn,We]
  |succ d ih=>
   intro j n hj hn;obtain⟨n,rfl⟩:∃n',n=n'+1:=⟨n-1,by omega⟩;have hlt:j<l.length:=by omega
   have hv:=h.val l[j] (Xp hlt);have bi:=ih (j+1) n (by omega) (by omega);simp only[Zao,Wat hlt,WC hlt,WJ hlt,Wt (show j<4611686018427387904 by omega),Wc,Wfz hv,ret,Xd,Xx,We,bi];by_cases h0:j=0
   .grind
   .have e1:decide ((j:Int)>0)=true:=by simp;omega
    have e2:W6 .i64 (j:Int) 1=((j-1:Nat):Int):=by grind [WaG,I64]
    have bc:j-1<l.length:=by omega
    have hw:=h.val l[j-1] (Xp bc);have hb:=Xar.1 h.up (j-1) j bc hlt (by omega);simp only[e1,e2,Wc,WC bc,WJ bc,WmZ hw hv,ret,Xd];rw[Wx (show¬(cfH l[j-1] l[j]>=0) by have:=hb.1;omega)];simp only[We,WG];by_cases hs:l[j-1].2.1=l[j].2.1
    .rw[Wb hs,Wa (hb.2 hs).2,Wa (hb.2 hs).1]
    simp_all
 exact lp l.length 0 N (by omega) (by omega)
theorem WiT{α β R:Type}{body:Int->α->List β->(List β->Option R)->Option R}{K:Int->List β->Option R}{p:α->Bool}{f:α->β}:∀(l:List α) (j:Nat) (o:List β),o.length+l.length<=2000000->
  (∀(j:Nat) x (v:List β) k,x∈l->v.length<=2000000->body j x v k=bif p x then k (v++ [f x])else k v)->Wb9 body K l j o=K ((j+l.length:Nat):Int) (o++(l.filter p).map f)
 | [],j,o,_,_=>by simp[Wb9]
 |x::l,j,o,h,hb=>by
  rw[Xs]at h;rw[Wb9,hb j x o _ (Xh ..) (by omega),Xbh];have ih:=λo' jo=>WiT (body:=body) (K:=K) (p:=p) (f:=f) l (j+1) o' jo λj y v k hy=>hb j y v k (Xe _ hy)
  grind
theorem WiZ(h:HOk l)(hl:l.length<=1048576)(hN:1048576<N):Zfo N l who=ret (Wf9 l who):=by
 unfold Zfo Wf9;rw[Wb1 h hl hN];simp only[ret,Xd,Xx,We];have h1:=WV (l:=l) (V:=List Int) (R:=Unit×(List Int×Unit)) (lp:=λn j v=>Zb0 N who l (λaK bd aU=>(some ((),(aU,())))) n j v) (n:=N) (by omega)
  (body:=λj x v k=>bif x.1==who then(bif WN (v.length+ [x.2.1].length)then k (Xf v [x.2.1])else none)else k v) (K:=λ_ v=>ret v)
  (λn i v hi=>by simp only[Zb0,Wat hi,WC hi,WJ hi,Wt (show i<4611686018427387904 by omega),Wc])
  (λn v=>by simp[Zb0,WaO,Xn,We]) []
 refine h1.trans ?_;rw[WiT (p:=λh=>decide (h.1=who)) (f:=(·.2.1)) l 0 [] (by simp;omega) (λj x v k _ hv=>by rw[WE (by simp;omega)];simp only[WG,WaP,Wc,Xal])];rfl
theorem Wjg(h:HOk l)(hm:1<=mode/\mode<=2)(hl:l.length<=1048576)(hN:1048576<N):Zhu N l who what mode=ret (WgE l who what mode):=by
 unfold Zhu WgE;rw[Wb1 h hl hN];simp only[ret,Xd,Xx,We,W3,Wf hm.1,Wf hm.2,Xbn];have h1:=WV (l:=l) (V:=List Int) (R:=Unit×(List Int×Unit)) (lp:=λn j v=>Za3 N who what mode l (λeE iv c9=>(some ((),(c9,())))) n j v) (n:=N) (by omega)
  (body:=λj x v k=>bif x.2.1==what then(bif x.1 !=who then(bif mode==2 then(bif WN (v.length+ [x.1].length)then k (Xf v [x.1])else none)else(bif x.2.2==2 then(bif WN (v.length+ [x.1].length)then k (Xf v [x.1])else none)else k v))else k v)else k v) (K:=λ_ v=>ret v)
  (λn i v hi=>by simp only[Za3,Wat hi,WC hi,WJ hi,Wt (show i<4611686018427387904 by omega),Wc])
  (λn v=>by simp[Za3,WaO,Xn,We]) []
 refine h1.trans ?_;rw[WiT (p:=blk who what mode) (f:=(·.1)) l 0 [] (by simp;omega) (λj x v k _ hv=>by
  rw[WE (by simp;omega)];unfold blk;simp only[WG,Wdp,Wc,Xal];by_cases c1:x.2.1=what<;>by_cases c2:x.1=who<;>by_cases c3:mode=2<;>by_cases c4:x.2.2=2<;>simp[c1,c2,c3,c4])]
 rfl
theorem Wva(h:HOk l):0<=Wq7 l who what/\Wq7 l who what<=2:=by
 unfold Wq7;cases hf:fnd (Wug who what) l 0 with
 |none=>simp
 |some r=>
  have:=WcW hf;have:=h.val r.2 (List.mem_of_getElem? this.2.2.2)
  grind [HdV]
theorem WiV(h:HOk l)(hw:1<=who/\who<=9)(ht:0<=what/\what<=8)(hm:1<=mode/\mode<=2)(hl:l.length<=1048000)(hN:1048576<N):
  Zgw N l who what mode=some ((),((Wa4 l who what mode).getD l,((Wa4 l who what mode).isSome,()))):=by
 unfold Zgw Wa4;have jD:Zd0 N l=ret l:=by grind [Zd0,WE]
 have Ay:Zht N who what mode=ret true:=Wfz (h:=(who,what,mode)) ⟨hw,ht,hm⟩;rw[jD,Wb1 h (by omega) hN,Ay,Wjg h hm (by omega) hN];simp only[ret,Xd,Xx,We,WaP];by_cases hb:WgE l who what mode= []
 .rw[Wa (by rw[hb];simp[Wj]),Wb hb];have h1:=WlF (l:=l) (p:=Wug who what) (N:=N) (lp:=λn j=>Zb1 N who what mode (Wj l) l (λck=>(some ((),(ck,(true,()))))) (λiE ri=>
  (bif WN ((Xa l)+(Xa ([(who,(what,mode))])))then
 ((Zs N (Xf l ([(who,(what,mode))]))).bind λgi=>
 (some ((),(gi.1.1,(true,())))))else none)) n j)
   (K0:=λj=>some ((),(l.set j.toNat ((l.getD j.toNat (0,0,0)).1,(l.getD j.toNat (0,0,0)).2.1,Wv9 (l.getD j.toNat (0,0,0)).2.2 mode),(true,())))) (K1:=(bif WN ((Xa l)+(Xa ([(who,(what,mode))])))then
 ((Zs N (Xf l ([(who,(what,mode))]))).bind λgi=>
 (some ((),(gi.1.1,(true,())))))else none)) (by omega) (by omega)
   (λn j hj=>by
    simp only[Zb1,Wat hj,WC hj,WJ hj,Wt (show j<4611686018427387904 by omega),Wc];simp[Wug,WG,Wtp,WaP])
   (λn=>by simp[Zb1,WaO,Xn,We])
  rw[h1];unfold WgW Wq7;cases hf:fnd (Wug who what) l 0 with
  |some r=>
   obtain⟨g1,g2,g3,g4⟩:=WcW hf;rw[Xbb]at g3;rw[Xdj,Xq g3]at g4;injection g4 with g4;unfold Wug at g1;simp only[Xi,Wh]at g1;simp only[WJ g3,g4,Xel,Xgp];rw[Xj];have:Wv9 r.2.2.2 mode=Wq1 r.2.2.2 mode:=by grind [Wv9,Wq1]
   rw[this,g1.1,g1.2,WvG h.ris g3 (e:=(who,what,Wq1 r.2.2.2 mode)) (by simp_all) (by simp_all)]
  |none=>
   have hn:=WhT hf;simp only;rw[WE (by simp;omega)];have hmx:Wq1 0 mode=mode:=by unfold Wq1;rw[Wb (by omega)]
   have wO:=WjX (cf:=cfH) (L:=l) (e:=(who,what,mode)) (h.ris.imp λh=>.inl h) (λx hx=>by
    grind [apH,Wug,Xdn,decide_eq_false_iff_not])
   unfold Zs;simp only[Wc,Xal];rw[WpD (rng:=Wvk) (N:=N) Wor (M:=Wfr cfH l (who,what,mode)) (Wct Wor h.ris) wO.1 (λx=>by rw[wO.2 x,WbC Wor h.ris]) (λx hx=>by
    rcases Xm.1 hx with hx|hx
    .have:=h.val x hx
     grind [HdV,Wvk,WuA]
    grind [Xaf,Wvk,WuA]) (by simp;omega)]
   simp_all
 .rw[Wb (by
   simp_all [WgE,Xaa,Wj]),Wa hb]
  rfl
theorem Wqh(h:HOk l)(hw:1<=who/\who<=9)(ht:0<=what/\what<=8)(hm:1<=mode/\mode<=2)(hb:WgE l who what mode= []):HOk (WgW l who what mode):=by
 have mg:=Wva (who:=who) (what:=what) h;have hbl:∀x∈l,x.2.1=what->x.1≠who->mode≠2/\x.2.2≠2:=λx hx h1 h2=>by
  refine Classical.byContradiction λhc=>?_;have:x.1∈WgE l who what mode:=Xw.2 ⟨x,Xau.2 ⟨hx,by grind [blk]⟩,rfl⟩;simp_all
 have oi:∀x∈l,x.2.1=what->x.1≠who->Wq7 l who what≠2:=λx hx h1 h2=>by
  unfold Wq7;cases hf:fnd (Wug who what) l 0 with
  |none=>simp
  |some r=>
   obtain⟨g1,g2,g3,g4⟩:=WcW hf;rw[Xbb]at g3;rw[Xdj,Xq g3]at g4;injection g4 with g4;unfold Wug at g1;simp only[Xi,Wh]at g1;obtain⟨j,hj,rfl⟩:=Xam hx;have hp:=Xar.1 h.up;simp only;rw[←g4]at g1⊢;rcases Xcz r.1 j with hlt|heq|hlt
   .exact((hp r.1 j g3 hj hlt).2 (by rw[h1,g1.2])).1
   .simp_all
   .exact((hp j r.1 hj g3 hlt).2 (by rw[h1,g1.2])).2
 unfold WgW;refine⟨λx hx=>?_,?_⟩
 .rcases(WbC Wor h.ris).1 hx with rfl|hx
  .refine⟨hw,ht,?_⟩;simp only;unfold Wq1;split<;>omega
  .exact h.val x hx.1
 .have hr:=Wct (e:=(who,what,Wq1 (Wq7 l who what) mode)) Wor h.ris;have hmem:=λx=>WbC (e:=(who,what,Wq1 (Wq7 l who what) mode)) (x:=x) Wor h.ris;have hmj:∀x∈l,x.2.1=what->x.1≠who->Wq1 (Wq7 l who what) mode≠2:=λx hx h1 h2=>by
   have:=oi x hx h1 h2;have:=(hbl x hx h1 h2).1;unfold Wq1;split<;>omega
  unfold Ris at hr;rw[Xar]at hr⊢;intro i j hi hj hij;refine⟨hr i j hi hj hij,λhs=>?_⟩;have hlt:=hr i j hi hj hij;have m1:=(hmem _).1 (Xp hi);have m2:=(hmem _).1 (Xp hj);generalize (Wfr cfH l (who,what,Wq1 (Wq7 l who what) mode))[i]=x at*;generalize (Wfr cfH l (who,what,Wq1 (Wq7 l who what) mode))[j]=y at*;rcases m1 with rfl|m1<;>rcases m2 with rfl|m2
  .exact Wg hlt (Wor.irr _)
  .grind [apH]
  .grind [apH]
  .obtain⟨a,ha,rfl⟩:=Xam m1.1;obtain⟨b,hb',rfl⟩:=Xam m2.1;have hp:=Xar.1 h.up;rcases Xcz a b with fN|fN|fN
   .exact(hp a b ha hb' fN).2 hs
   .subst fN;exact Wg hlt (Wor.irr _)
   .exact Wg (Wor.tr _ _ _ hlt (hp b a hb' ha fN).1) (Wor.irr _)
theorem WiJ(h:HOk l):HOk (W7 l who):=⟨λx hx=>h.val x (Xau.1 hx).1,h.up.filter _⟩
theorem Wld(h:HOk l):l.length<=81:=by
 have key:∀(l:List Hd) (c:Int),Ris cfH l->(∀e∈l,HdV e/\c<=9*e.2.1+e.1)->1<=c->(l.length:Int)<=82-c\/l= []:=by
  intro l
  induction l with
  |nil=>simp_all
  |cons a l ih=>
   intro c hr hb hc;left;have h1:=List.pairwise_cons.1 hr;have ha:=hb a (Xh ..);unfold HdV at ha;rcases ih (9*a.2.1+a.1+1) h1.2 (λe he=>⟨(hb e (Xe _ he)).1,by
    grind [Wcd,Xe,HdV]⟩) (by omega)with h|h
   .grind
   grind
 rcases key l 1 h.ris (λe he=>⟨h.val e he,by have:=h.val e he;grind [HdV]⟩) (by omega)with h|h
 .omega
 simp_all
theorem Wjc{α V R:Type}{body:Int->α->V->(V->Option R)->Option R}{K:Int->V->Option R}{p:α->Bool}{E:Int->V->Option R}:∀(l:List α) (j:Nat) (v:V),(∀(j:Nat) x v k,x∈l->body j x v k=bif p x then E j v else k v)->
  (∃a x r,l=a++x::r/\(∀y∈a,p y=false)/\p x=true/\Wb9 body K l j v=E ((j+a.length:Nat):Int) v)\/((∀y∈l,p y=false)/\Wb9 body K l j v=K ((j+l.length:Nat):Int) v)
 | [],j,v,_=>.inr ⟨by simp,rfl⟩
 |x::l,j,v,h=>by
  rw[Wb9,h j x v _ (Xh ..)];cases hp:p x
  .simp only[We];rcases Wjc (E:=E) l (j+1) v λj y v k hy=>h j y v k (Xe _ hy)with⟨a,y,r,h1,h2,h3,h4⟩|⟨h1,h2⟩
   .refine .inl ⟨x::a,y,r,by rw[h1];rfl,λz hz=>?_,h3,?_⟩
    .rcases List.mem_cons.1 hz with rfl|hz
     .exact hp
     .exact h2 z hz
    .rw[h4,Xs,show j+1+a.length=j+(a.length+1) by omega]
   grind
  .exact .inl ⟨[],x,l,rfl,by simp,hp,rfl⟩
theorem Wre{N:Nat}(a0:Int){R:Type}(K:Int->Int->Bool->List Hd->Int->Option R):
  ∀(r a m:List Hd) (n:Nat),r.length<n->a.length+m.length+r.length<=1048576->∃m',
   Zd N K n (a.length:Int) ((a.length+m.length:Nat):Int) (a++m++r) a0=
    K ((a++r.filter λx=>!(x.1==a0)).length:Int) ((a.length+m.length+r.length:Nat):Int) false ((a++r.filter λx=>!(x.1==a0))++m') a0
 | [],a,m,0,h,_=>by simp at h
 | [],a,m,n+1,h,_=>by
  refine⟨m,?_⟩;have e1:decide (((a.length+m.length:Nat):Int)<Wj (a++m++ []))=false:=by simp[Wj]
  simp only[Zd,e1,We];simp
 |x::r,a,m,0,h,_=>by simp at h
 |x::r,a,m,n+1,h,hb=>by
  simp only[Xs]at h hb;have hj:a.length+m.length<(a++m++x::r).length:=by simp
  have hi:a.length<(a++m++x::r).length:=by simp;omega
  have hx:Xc (a++m++x::r) (a.length+m.length) ((0:Int),((0:Int),(0:Int)))=x:=by
   simp_all
  cases hp:x.1==a0
  .obtain⟨m2,uk,xu⟩:∃m2:List Hd,m2.length=m.length/\(a++m++x::r).set a.length x=(a++ [x])++m2++r:=by
    cases m with
    |nil=>simp_all
    |cons y m=>grind
   obtain⟨m',ih⟩:=Wre (N:=N) a0 K r (a++ [x]) m2 n (by omega) (by simp;omega);refine⟨m',?_⟩;simp only[Zd,Ze6,Wat hj,WC hj,WC hi,Xj,hx,hp,Xd,Wc,Xdg,Xj,xu,
    Wt (show a.length<4611686018427387904 by omega),Wt (show a.length+m.length<4611686018427387904 by omega)]
   have l1:(a++ [x]).length=a.length+1:=by simp
   rw[l1,uk,show a.length+1+m.length=a.length+m.length+1 by omega]at ih;rw[ih];simp only[Xbh,hp,Xdg,Wav,Xbr,Xeo,Xs];rw[show a.length+m.length+1+r.length=a.length+m.length+(r.length+1) by omega]
  .obtain⟨m',ih⟩:=Wre (N:=N) a0 K r a (m++ [x]) n (by omega) (by simp;omega);refine⟨m',?_⟩;simp only[Zd,Ze6,Wat hj,WC hj,WC hi,Xj,hx,hp,Xd,Wc,We,Xx,
    Wt (show a.length+m.length<4611686018427387904 by omega)]
   simp only[Xz,Xs,Xcn,Xbb]at ih;rw[show a.length+(m.length+1)=a.length+m.length+1 by omega,show a++(m++ [x])++r=a++m++x::r by simp]at ih;rw[ih];simp only[Xbh,hp,Xx,Waw,Xbg,Xs];simp only[Xz];rw[show a.length+m.length+1+r.length=a.length+m.length+(r.length+1) by omega]
theorem Wq2{N:Nat}{s:List Hd}{a0:Int}(hN:1048576<N)(hs:s.length<=100000):
  Zo N s a0=some ((a0,()),(s.filter λx=>!(x.1==a0),())):=by
 unfold Zo;have h1:=WV (l:=s) (V:={v:Int//v=a0}) (R:=Kh×Kh) (lp:=λn j v=>Zj N s (λbM aY=>some ((aY,()),(bM,()))) (λeE iv dD=>some ((dD,()),((-1:Int),()))) n j v.1) (n:=N) (by omega)
  (body:=λj x v k=>bif x.1==a0 then some ((v.1,()),(j,()))else k v) (K:=λ_ v=>some ((v.1,()),((-1:Int),())))
  (λn i v hi=>by
   obtain⟨v,rfl⟩:=v;simp only[Zj,Wat hi,WC hi,WJ hi,Wt (show i<4611686018427387904 by omega),Wc,Ze6,Xd])
  (λn v=>by simp[Zj,WaO,Xn,We]) ⟨a0,rfl⟩
 simp only[]at h1;unfold Zu;rw[h1];rcases Wjc (body:=λj x (v:{v:Int//v=a0}) k=>bif x.1==a0 then some ((v.1,()),(j,()))else k v) (K:=λ_ v=>(some ((v.1,()),((-1:Int),())):Option (Kh×Kh))) (p:=λx=>x.1==a0)
  (E:=λj v=>some ((v.1,()),(j,()))) s 0 ⟨a0,rfl⟩ (λj x v k _=>rfl)with⟨a,x,r,ct,ha,hx,hr⟩|⟨ha,hr⟩
 .rw[hr];simp only[Xd,Xbb];have e0:((a.length:Int)== -1)=false:=by simp
  rw[e0,Wt (show a.length<4611686018427387904 by grind)];simp only[We];obtain⟨m',hd⟩:=Wre (N:=N) a0 (λfW Ah eE ck dD=>
     (bif (decide ((0:Int)<=fW))&&(decide (fW<=((Xa ck):Int)))then
      (bif (decide ((0:Int)<=fW))&&(decide (fW<=((Xa ((Xat (Xb fW) ck)++Xt ((Xa ck) -(Xb fW)) ((0:Int),((0:Int),(0:Int)))++(List.drop (Xa ck) ck))):Int)))then
       (some ((dD,()),(Xat (Xb fW) ((Xat (Xb fW) ck)++Xt ((Xa ck) -(Xb fW)) ((0:Int),((0:Int),(0:Int)))++(List.drop (Xa ck) ck)),())))else none)else none)) r a [x] N (by grind) (by grind)
  rw[show a++ [x]++r=s by simp_all]at hd;simp only[Xs,Xcn,Xbb]at hd;rw[hd];have hf:(s.filter λx=>!(x.1==a0))=a++r.filter λx=>!(x.1==a0):=by
   rw[ct,List.filter_append,Xbh];have:(a.filter λx=>!(x.1==a0))=a:=Xgh.2 λy hy=>by grind
   grind
  grind
 grind [Xgh]
theorem WhR(h:HOk l)(hl:l.length<=100000)(hN:1048576<N):Zkd N l who=ret (W7 l who):=by
 have jD:Zd0 N l=ret l:=by grind [Zd0,WE]
 unfold Zkd;rw[jD,Wb1 h (by omega) hN];simp only[ret,Xd,Xx,We];rw[Wq2 hN hl];rfl
end
section
def zWd:Wd:=(0,0,0)
def Ws(m:Mm)(i:Int):Wd:=Wbu m.2 i zWd
def WnD(m:Mm)(i:Int)(w:Wd):Mm:=(m.1,WjU m.2 i w)
variable{m:Mm}
theorem Woy(hm:W0 m=true){i:Int}{w:Wd}(hw:Wqt m.1 w=true):W0 (WnD m i w)=true:=by
 obtain⟨h8,h0,h1,iL⟩:=Wz hm;unfold W0 WnD WjU
 grind
theorem Wd2(hm:W0 m=true){i:Int}(hi:0<=i/\i<=7):Wqt m.1 (Ws m i)=true:=WsU hm hi
theorem Wky(hm:W0 m=true):W0 (tick m).1=true/\0<=(tick m).2/\(tick m).2<=1000000/\((tick m).2≠0->(tick m).2=m.1+1/\(tick m).1=(m.1+1,m.2))/\((tick m).2=0->(tick m).1=m):=by
 obtain⟨h8,h0,h1,iL⟩:=Wz hm;unfold tick;split
 .refine⟨?_,by omega,by omega,λ_=>⟨rfl,rfl⟩,λh=>by omega⟩;unfold W0;simp only[Xi,Wh,Xac]
  grind [WeD]
 simp_all
end
section
structure Cm where
 who:Int:=0
 rv:Int:=0
 phase:Int:=0
 pos:Int:=0
 wv:Int:=0
 puts:List Rw:=[]
 reads:List Int:=[]
def Cm.e(c:Cm):Int×Int×Int×Int×Int×List Kc×List Int:=(c.who,c.rv,c.phase,c.pos,c.wv,c.puts,c.reads)
def Cm.steps(c:Cm):Int:=
 if c.phase=1\/c.phase=4\/c.phase=5\/c.phase=7 then c.puts.length else if c.phase=3 then c.reads.length else 1
def W1(c:Cm)(n:Int):Cm:=if n=0 then{c with phase:=8,pos:=0}else{c with phase:=7,pos:=n-1}
def Waz(c:Cm)(ph:Int):Int:=
 if(ph=3/\c.reads.length=0\/ph=4)/\c.puts.length=0 then 6 else if ph=3/\c.reads.length=0 then 4 else ph
def Wcx(c:Cm)(ph:Int):Cm:={c with phase:=Waz c ph,pos:=0}
def Wp(c:Cm)(ph:Int):Cm:=if c.pos+1=c.steps then Wcx c ph else{c with pos:=c.pos+1}
def Wiu(m:Mm)(i who:Int):Mm:=WnD m i ((Ws m i).1,(Ws m i).2.1,who)
def Wb7(m:Mm)(i who v:Int):Mm:=if(Ws m i).2.2=who then WnD m i (v,(Ws m i).2)else m
def WaE(m:Mm)(i who ver:Int):Mm:=if(Ws m i).2.2=who/\(Ws m i).2.1<=ver/\ver<=m.1 then WnD m i ((Ws m i).1,ver,0)else m
def Wq(m:Mm)(c:Cm):Mm×Cm:=
 let p:=Wbu c.puts c.pos (0,0)
 if c.phase=1 then(if(Ws m p.1).2.2=0 then(Wiu m p.1 c.who,Wp c 2)else(m,W1 c c.pos))else
 if c.phase=2 then(if(tick m).2=0 then((tick m).1,W1 c c.puts.length)else((tick m).1,Wcx {c with wv:=(tick m).2} 3))else
 if c.phase=3 then
  let w:=Ws m (Wbu c.reads c.pos 0)
  if(w.2.2≠0/\w.2.2≠c.who)\/w.2.1>c.rv then(m,W1 c c.puts.length)else(m,Wp c 4)
 else
 if c.phase=4 then(Wb7 m p.1 c.who p.2,Wp c 5)else
 if c.phase=5 then(WaE m p.1 c.who c.wv,Wp c 6)else
 if c.phase=7 then(WaE m p.1 c.who (Ws m p.1).2.1,W1 c c.pos)else
 (m,c)
def WA(c:Cm):Cm:=
 if c.phase=1 then W1 c c.pos else if c.phase=2\/c.phase=3 then W1 c c.puts.length else c
def Wan(who rv:Int)(puts reads:List Rw):Cm:=
 {who:=who,rv:=rv,phase:=if(Wco puts).length=0 then 2 else 1,puts:=Wco puts,reads:=(Wco reads).map (·.1)}
structure CmOk(c:Cm):Prop where
 who:1<=c.who/\c.who<=99
 rv:0<=c.rv/\c.rv<=1000000
 wv:0<=c.wv/\c.wv<=1000000
 phase:1<=c.phase/\c.phase<=8
 rows:WfW c.puts
 pup:c.puts.Pairwise λa b=>a.1<b.1
 plen:c.puts.length<=8
 rd:∀x∈c.reads,0<=x/\x<=7
 rup:c.reads.Pairwise (· < ·)
 rlen:c.reads.length<=8
 pos:0<=c.pos/\c.pos<c.steps
section
variable{N:Nat}{c:Cm}{m:Mm}
theorem CmOk.back(h:CmOk c){n:Int}(hn:0<=n/\n<=c.puts.length):CmOk (W1 c n):=by
 unfold W1;split
 .exact{h with phase:=by simp_all,pos:=by simp[Cm.steps]}
 .exact{h with phase:=by simp_all,pos:=by grind [Cm.steps]}
theorem Wtq(c:Cm){ph:Int}(h:2<=ph/\ph<=6):2<=Waz c ph/\Waz c ph<=6:=by unfold Waz;split<;>(try split)<;>omega
theorem CmOk.adv(h:CmOk c){ph:Int}(hp:2<=ph/\ph<=6)(h5:ph=5->c.puts.length≠0):CmOk (Wcx c ph):=by
 unfold Wcx;have:=Wtq c hp;refine{h with phase:=by grind,pos:=⟨Int.le_refl _,?_⟩}
 grind [Cm.steps,Waz]
theorem CmOk.next(h:CmOk c){ph:Int}(hp:2<=ph/\ph<=6)(h5:ph=5->c.puts.length≠0):CmOk (Wp c ph):=by
 unfold Wp;split
 .exact h.adv hp h5
 .have:=h.pos;exact{h with pos:=⟨by grind,by show c.pos+1<c.steps;omega⟩}
theorem Wuq(hm:W0 m=true){i who:Int}(hi:0<=i/\i<=7)(hw:0<=who/\who<=99):W0 (Wiu m i who)=true:=by
 have:=WeD.1 (Wd2 hm hi);exact Woy hm (by grind [WeD])
theorem WrK(hm:W0 m=true){i who v:Int}(hi:0<=i/\i<=7)(hv:0<=v/\v<=65535):W0 (Wb7 m i who v)=true:=by
 grind [WeD,Wd2,Wb7,Woy]
theorem Wkp(hm:W0 m=true){i who ver:Int}(hi:0<=i/\i<=7):W0 (WaE m i who ver)=true:=by
 grind [WeD,Wd2,WaE,Woy]
theorem CmOk.put(h:CmOk c)(hp:c.phase=1\/c.phase=4\/c.phase=5\/c.phase=7):∃(j:Nat) (hj:j<c.puts.length),c.pos=j/\Wbu c.puts c.pos (0,0)=c.puts[j]/\(0<=c.puts[j].1/\c.puts[j].1<=7)/\0<=c.puts[j].2/\c.puts[j].2<=65535:=by
 have:=h.pos;unfold Cm.steps at this;rw[Wb hp]at this;have hj:c.pos.toNat<c.puts.length:=by omega
 have hr:=h.rows _ (Xp hj);exact⟨c.pos.toNat,hj,by omega,Wn hj _,hr.1,hr.2⟩
theorem CmOk.read(h:CmOk c)(hp:c.phase=3):∃(j:Nat) (hj:j<c.reads.length),c.pos=j/\Wbu c.reads c.pos 0=c.reads[j]/\0<=c.reads[j]/\c.reads[j]<=7:=by
 have:=h.pos;unfold Cm.steps at this;rw[Wa (by omega),Wb hp]at this;have hj:c.pos.toNat<c.reads.length:=by omega
 have hr:=h.rd _ (Xp hj);exact⟨c.pos.toNat,hj,by omega,Wn hj _,hr⟩
theorem Wmm(h:CmOk c)(hm:W0 m=true):CmOk (Wq m c).2/\W0 (Wq m c).1=true:=by
 have ca:=h.pos;have hl:c.phase=1\/c.phase=4\/c.phase=5\/c.phase=7->c.puts.length≠0:=λhp=>by obtain⟨j,hj,_⟩:=h.put hp;omega
 have aH:c.phase=1\/c.phase=4\/c.phase=5\/c.phase=7->c.pos<c.puts.length:=λhp=>by simp_all [Cm.steps,Wb]
 have hw:=h.who;unfold Wq;simp only;split
 .obtain⟨j,hj,e1,e2,e3,e4⟩:=h.put (by omega);rw[e2];split
  .exact⟨h.next (by omega) (by omega),Wuq hm e3 (by omega)⟩
  .exact⟨h.back (by omega),hm⟩
 .split
  .have ht:=Wky hm;split
   .exact⟨h.back (by omega),ht.1⟩
   .refine⟨?_,ht.1⟩;have h':CmOk {c with wv:=(tick m).2}:={h with wv:=⟨ht.2.1,ht.2.2.1⟩};exact h'.adv (by omega) (by omega)
  .split
   .split
    .exact⟨h.back (by omega),hm⟩
    .exact⟨h.next (by omega) (by omega),hm⟩
   .split
    .obtain⟨j,hj,e1,e2,e3,e4⟩:=h.put (by omega);rw[e2];exact⟨h.next (by omega) (λ_=>hl (by omega)),WrK hm e3 e4⟩
    .split
     .obtain⟨j,hj,e1,e2,e3,e4⟩:=h.put (by omega);rw[e2];exact⟨h.next (by omega) (by omega),Wkp hm e3⟩
     .split
      .obtain⟨j,hj,e1,e2,e3,e4⟩:=h.put (by omega);have:=aH (by omega);rw[e2];exact⟨h.back (by omega),Wkp hm e3⟩
      simp_all
theorem Wqn(h:CmOk c):CmOk (WA c):=by
 have ca:=h.pos;unfold WA;split
 .have:c.pos<c.puts.length:=by simp_all [Cm.steps,Wb]
  exact h.back (by omega)
 .split
  .exact h.back (by omega)
  .exact h
theorem WkX{who rv:Int}{puts reads:List Rw}(hw:1<=who/\who<=99)(hr:0<=rv/\rv<=1000000):CmOk (Wan who rv puts reads) where
 who:=hw
 rv:=hr
 wv:=by simp[Wan]
 phase:=by unfold Wan;simp only;split<;>omega
 rows:=WeP
 pup:=WoE puts
 plen:=Wfo puts
 rd:=λx hx=>by
  obtain⟨r,hr,rfl⟩:=Xw.1 hx;exact(WeP r hr).1
 rup:=by
  simp[Wan,List.pairwise_map,WoE]
 rlen:=by simp[Wan,Xae,Wfo]
 pos:=by
  unfold Wan Cm.steps
  grind
theorem cmP(c:Cm):c.e.1=c.who/\c.e.2.1=c.rv/\c.e.2.2.1=c.phase/\c.e.2.2.2.1=c.pos/\c.e.2.2.2.2.1=c.wv/\c.e.2.2.2.2.2.1=c.puts/\c.e.2.2.2.2.2.2=c.reads:=⟨rfl,rfl,rfl,rfl,rfl,rfl,rfl⟩
theorem Wb0{who:Int}:Zea N who=ret (decide (1<=who)&&decide (who<=99)):=by simp[Zea,W3]
theorem WdW(hm:W0 m=true):Zb5 N m=ret m:=by
 grind [Wz,Zb5,WE]
theorem Wke(h:CmOk c):Zgl N c.e=ret c.e:=by
 unfold Zgl;have:=h.plen;have:=h.rlen;rw[show Zbe N c.e.2.2.2.2.2.1=ret c.puts from WdG (show c.puts.length<=1048576 by omega),show Zq N c.e.2.2.2.2.2.2=ret c.reads from Wcv (show c.reads.length<=1048576 by omega)];rfl
theorem WmR:Zcu N c.e=ret c.steps:=by
 unfold Zcu Cm.steps;obtain⟨c0,c1,c2,c3,c4,c5,c6⟩:=cmP c;simp only[WG,c2,c5,c6,Wj]
 grind
theorem Whh(h:CmOk c)(hN:1048576<N):Zeq N c.e=ret true:=by
 obtain⟨c0,c1,c2,c3,c4,c5,c6⟩:=cmP c;have eB:=h.plen;have df:=h.rlen;have hw:=h.who;have di:=h.rv;have dB:=h.wv;have aX:=h.phase;have ca:=h.pos;have lC:Wa9 c.puts=true:=by unfold Wa9;rw[Wk1.2 h.rows,Wf (by omega)];rfl
 unfold Zeq;simp only[c0,c1,c2,c3,c4,c5,c6,Wb0,W3,WcA (show c.puts.length<=1048576 by omega) hN,WmR,ret,Xd,Wf hw.1,Wf hw.2,Wf di.1,Wf di.2,Wf dB.1,Wf dB.2,Wf aX.1,Wf aX.2,lC,Xbn,Xx,We];have wT:c.steps<=8:=by unfold Cm.steps;split<;>(try split)<;>omega
 have uC:W6 .i64 c.steps 1=c.steps-1:=WaG (by unfold I64;omega);rw[uC,Wf ca.1,Wf (show c.pos<=c.steps-1 by omega)];have yL:∀(d j n:Nat),j+d=c.reads.length->d<n->Zba N c.reads c.e (some ((),(false,()))) (λt22 eZ=>(some ((),(true&&true,())))) n (j:Int)=ret true:=by
  intro d
  induction d with
  |zero=>
   intro j n hj hn;obtain⟨n,rfl⟩:∃n',n=n'+1:=⟨n-1,by omega⟩;simp_all [Zba,WaO,Xn,We]
  |succ d ih=>
   intro j n hj hn;obtain⟨n,rfl⟩:∃n',n=n'+1:=⟨n-1,by omega⟩;have hlt:j<c.reads.length:=by omega
   have bi:=ih (j+1) n (by omega) (by omega);have hv:=h.rd _ (Xp hlt);have an:Waf c.reads[j]=true:=by grind [Waf]
   simp only[Zba,c6,Wat hlt,WC hlt,WJ hlt,Wt (show j<4611686018427387904 by omega),Wc,WaN,ret,Xd,an,Xx,We,bi];by_cases h0:j=0
   .grind
   .have e1:decide ((j:Int)>0)=true:=by simp;omega
    have e2:W6 .i64 (j:Int) 1=((j-1:Nat):Int):=by grind [WaG,I64]
    have bc:j-1<c.reads.length:=by omega
    have hb:=Xar.1 h.rup (j-1) j bc hlt (by omega);simp_all [Wc,WC,WJ,Wx]
 have Az:∀(d j n:Nat),j+d=c.puts.length->d<n->1<=j->Zbn N c.e (some ((),(false,()))) (λsL aK=>(Zba N c.reads c.e (some ((),(false,()))) (λt22 eZ=>(some ((),(true&&true,())))) N (0:Int))) n (j:Int)=ret true:=by
  intro d
  induction d with
  |zero=>
   intro j n hj hn _;obtain⟨n,rfl⟩:∃n',n=n'+1:=⟨n-1,by omega⟩;have:j=c.puts.length:=by omega
   subst this;simp only[Zbn,c5,WaO (Xn _),We];exact yL c.reads.length 0 N (by omega) (by omega)
  |succ d ih=>
   intro j n hj hn h1j;obtain⟨n,rfl⟩:∃n',n=n'+1:=⟨n-1,by omega⟩;have hlt:j<c.puts.length:=by omega
   have bi:=ih (j+1) n (by omega) (by omega) (by omega);have e2:W6 .i64 (j:Int) 1=((j-1:Nat):Int):=by grind [WaG,I64]
   have bc:j-1<c.puts.length:=by omega
   have hb:=Xar.1 h.pup (j-1) j bc hlt (by omega);simp only[Zbn,c5,Wat hlt,WC hlt,WJ hlt,Wt (show j<4611686018427387904 by omega),Wc,e2,WC bc,WJ bc]
   grind
 by_cases hz:c.puts.length=0
 .obtain⟨N',rfl⟩:∃N',N=N'+1:=⟨N-1,by omega⟩;rw[Zbn,c5,Wx (by unfold Wj;omega)];exact yL c.reads.length 0 _ (by omega) (by omega)
 .exact Az (c.puts.length-1) 1 N (by omega) (by omega) (by omega)
theorem Wh8(h:CmOk c){n:Int}(hn:0<=n/\n<=8):Z1 N c.e n=some (((W1 c n).e,()),()):=by
 unfold Z1 W1;rw[WG,WaG (by unfold I64;omega)];split<;>rfl
theorem WsW{ph:Int}:Zeb N c.e ph=some (((Wcx c ph).e,()),()):=by
 obtain⟨c0,c1,c2,c3,c4,c5,c6⟩:=cmP c;unfold Zeb Wcx Waz;simp only[WG,c5,c6,Wj];by_cases h3:ph=3
 .subst h3;by_cases hr:c.reads.length=0<;>by_cases hp:c.puts.length=0<;>simp[hr,hp]<;>rfl
 .by_cases h4:ph=4
  .subst h4;by_cases hp:c.puts.length=0<;>simp[hp]<;>rfl
  .simp[h3,h4];rfl
theorem WtV(h:CmOk c){ph:Int}:Zbi N c.e ph=some (((Wp c ph).e,()),()):=by
 obtain⟨c0,c1,c2,c3,c4,c5,c6⟩:=cmP c;have ca:=h.pos;have wT:c.steps<=8:=by have:=h.plen;have:=h.rlen;unfold Cm.steps;split<;>(try split)<;>omega
 have aH:Zcu N (Cm.e {c with pos:=c.pos+1})=ret c.steps:=WmR;unfold Zbi Wp;rw[c3,WL (by unfold I64;omega)];rw[show(c.e.1,(c.e.2.1,(c.e.2.2.1,(c.pos+1,c.e.2.2.2.2))))=Cm.e {c with pos:=c.pos+1}from rfl,aH];simp only[ret,Xd,WG,WsW];split<;>rfl
theorem Wrr(h:CmOk c)(hN:1048576<N):∃b,Zh3 N c.e=some ((),((WA c).e,(b,()))):=by
 obtain⟨c0,c1,c2,c3,c4,c5,c6⟩:=cmP c;have ca:=h.pos;have eB:=h.plen;have wT:c.steps<=8:=by have:=h.plen;have:=h.rlen;unfold Cm.steps;split<;>(try split)<;>omega
 unfold Zh3 WA;rw[Wke h];simp only[ret,Xd];rw[Whh h hN];simp only[ret,Xd,Xx,We,WG,c2,c3,c5,Wh8 h (show 0<=c.pos/\c.pos<=8 by omega),Wh8 h (show 0<=Wj c.puts/\Wj c.puts<=8 by unfold Wj;omega)];by_cases h1:c.phase=1
 .simp_all
 .rw[Wa h1,Wa h1];by_cases h2:c.phase=2
  .rw[Wb h2,Wb h2,Wb (.inl h2)];exact⟨_,rfl⟩
  .rw[Wa h2];by_cases h3:c.phase=3
   .rw[Wb h3,Wb (.inr h3)];exact⟨_,rfl⟩
   simp_all
theorem WnH{l:List Rw}(hl:l.length<=1048576)(hN:1048576<N):Zgv N l=ret ((Wco l).map (·.1)):=by
 unfold Zgv;rw[WdR hl hN];have hn:=Wfo l;simp only[ret,Xd];have h1:=WV (l:=Wco l) (V:=List Int) (R:=Unit×(List Int×Unit)) (lp:=λn j v=>Zck N (Wj (Wco l)) (Wco l) (λaB aI bn=>(some ((),(bn,())))) n j v) (n:=N) (by omega)
  (body:=λj x v k=>bif WN (v.length+ [x.1].length)then k (Xf v [x.1])else none) (K:=λ_ v=>ret v)
  (λn i v hi=>by simp only[Zck,Wat hi,WC hi,WJ hi,Wt (show i<4611686018427387904 by omega),Wc])
  (λn v=>by simp[Zck,WaO,Xn,We]) []
 refine h1.trans ?_;rw[WdE (f:=λx:Rw=>x.1) (Wco l) 0 [] (by simp;omega) (λj x v k _=>rfl)];rfl
theorem WvF{who rv:Int}{puts reads:List Rw}(hw:1<=who/\who<=99)(hr:0<=rv/\rv<=1000000)(hp:Wa9 puts=true)(hd:Wa9 reads=true)(hN:1048576<N):
  Zdz N who rv puts reads=some ((),((Wan who rv puts reads).e,(true,()))):=by
 have l1:puts.length<=300:=by grind [Wa9]
 have l2:reads.length<=300:=by grind [Wa9]
 unfold Zdz;simp only[Wb0,W3,WcA (show puts.length<=1048576 by omega) hN,WcA (show reads.length<=1048576 by omega) hN,WdR (show puts.length<=1048576 by omega) hN,WnH (show reads.length<=1048576 by omega) hN,ret,Xd,Wf hw.1,Wf hw.2,Wf hr.1,Wf hr.2,hp,hd,Xbn,Xx,We,WG];unfold Wan Cm.e;by_cases hz:(Wco puts).length=0
 .simp_all [Wb,Wj]
 simp_all [Wa,Wj]
theorem Wh5{m:Mm}{i:Int}:Xc m.2 (Xb i) ((0:Int),((0:Int),(0:Int)))=Ws m i:=rfl
theorem Wg4(hm:W0 m=true){i:Int}(hi:0<=i/\i<=7):inb i m.2.length=true:=by
 grind [Wz,inb]
theorem WiC{i:Int}(hi:0<=i/\i<=7):Waf i=true:=by grind [Waf]
theorem Wma(hm:W0 m=true){i who:Int}(hi:0<=i/\i<=7)(hw:1<=who/\who<=99)(hN:1048576<N):
  Zlz N m i who=some ((),((if(Ws m i).2.2=0 then Wiu m i who else m),(decide ((Ws m i).2.2=0),()))):=by
 unfold Zlz;rw[WdW hm,Wbd (by grind [Wz]) hN,hm];simp only[ret,Xd,Xx,We,WaN,WiC hi,Wb0,Wf hw.1,Wf hw.2,Xbn,Wg4 hm hi,Wc,Wh5,Wdp];by_cases h:(Ws m i).2.2=0
 .rw[Wb h,Wb h,Wf h];rfl
 simp_all
theorem WlB(hm:W0 m=true){i who v:Int}(hi:0<=i/\i<=7)(hw:1<=who/\who<=99)(hv:0<=v/\v<=65535)(hN:1048576<N):
  ∃b,Zmw N m i who v=some ((),(Wb7 m i who v,(b,()))):=by
 unfold Zmw Wb7;rw[WdW hm,Wbd (by grind [Wz]) hN,hm];simp only[ret,Xd,Xx,We,WaN,WiC hi,Wb0,WaF,WaD.2 hv,Wf hw.1,Wf hw.2,Xbn,Wg4 hm hi,Wc,Wh5,Wdp];by_cases h:(Ws m i).2.2=who
 .rw[Wb h,Wb h];exact⟨_,rfl⟩
 simp_all
theorem WfH(hm:W0 m=true){i who ver:Int}(hi:0<=i/\i<=7)(hw:1<=who/\who<=99)(hN:1048576<N):
  ∃b,Zjw N m i who ver=some ((),(WaE m i who ver,(b,()))):=by
 have h8:=(Wz hm).1;unfold Zjw WaE;rw[WdW hm,Wbd (by omega) hN,hm];simp only[ret,Xd,Xx,We,WaN,WiC hi,Wb0,W3,Wf hw.1,Wf hw.2,Xbn,Wg4 hm hi,Wc,Wh5,Wdp,Xab,WD];by_cases h:(Ws m i).2.2=who
 .rw[Wb h];by_cases h2:(Ws m i).2.1<=ver/\ver<=m.1
  .rw[Wb ⟨h,h2.1,h2.2⟩,Wf h2.1,Wf h2.2];refine⟨true,?_⟩;have:i.toNat<m.2.length:=by omega
   simp only[Xbn,Xx,We,Wlf this,Xdi];rfl
  .rw[Wa (by omega)];refine⟨false,?_⟩
   grind
 simp_all
theorem Wnx(h:CmOk c)(hm:W0 m=true)(hN:1048576<N):Zih N m c.e=some ((),((Wq m c).1,((Wq m c).2.e,()))):=by
 obtain⟨c0,c1,c2,c3,c4,c5,c6⟩:=cmP c;have ca:=h.pos;have eB:=h.plen;have hw:=h.who;have wT:c.steps<=8:=by have:=h.plen;have:=h.rlen;unfold Cm.steps;split<;>(try split)<;>omega
 have b1:=Wh8 (N:=N) h (show 0<=c.pos/\c.pos<=8 by omega);have b2:=Wh8 (N:=N) h (show 0<=Wj c.puts/\Wj c.puts<=8 by unfold Wj;omega);unfold Zih Wq;rw[WdW hm,Wke h];simp only[ret,Xd];rw[Wbd (by grind [Wz]) hN,Whh h hN,hm];simp only[ret,Xd,Xx,We,WG,c0,c1,c2,c3,c4,c5,c6,WgF,b1,b2,WtV h];by_cases h1:c.phase=1
 .rw[Wb h1,Wb h1];obtain⟨j,hj,e1,e2,e3,e4⟩:=h.put (by omega);rw[show Xc c.puts (Xb c.pos) ((0:Int),(0:Int))=c.puts[j]from e2,e2,e1,Wad,Wf hj,Wma hm e3 hw hN,←e1]
  grind
 .rw[Wa h1,Wa h1];by_cases h2:c.phase=2
  .rw[Wb h2,Wb h2,Wne hm hN];simp only[Xd];by_cases ht:(tick m).2=0
   .rw[Wb ht,Wb ht];rfl
   .rw[Wa ht,Wa ht];rw[show(c.who,(c.rv,(c.phase,(c.pos,((tick m).2,c.e.2.2.2.2.2)))))=Cm.e {c with wv:=(tick m).2}from rfl,WsW];rfl
  .rw[Wa h2,Wa h2];by_cases h3:c.phase=3
   .rw[Wb h3,Wb h3];obtain⟨j,hj,e1,e2,e3,e4⟩:=h.read h3;rw[show Xc c.reads (Xb c.pos) (0:Int)=c.reads[j]from e2,e2,e1,Wad,Wf hj,Wg4 hm ⟨e3,e4⟩];simp only[Wc,Wdp,WaP];rw[show Xc m.2 (Xb c.reads[j]) ((0:Int),((0:Int),(0:Int)))=Ws m c.reads[j]from rfl];by_cases a:(Ws m c.reads[j]).2.2=0
    .rw[Wb a];by_cases b:(Ws m c.reads[j]).2.1>c.rv
     .rw[Wb b,Wb (.inr b)];rfl
     grind
    .rw[Wa a];by_cases a':(Ws m c.reads[j]).2.2=c.who
     .rw[Wb a'];by_cases b:(Ws m c.reads[j]).2.1>c.rv
      .rw[Wb b,Wb (.inr b)];rfl
      grind
     .rw[Wa a',Wb (.inl ⟨a,a'⟩)];rfl
   .rw[Wa h3,Wa h3];by_cases h4:c.phase=4
    .rw[Wb h4,Wb h4];obtain⟨j,hj,e1,e2,e3,e4⟩:=h.put (by omega)
     grind [WlB,Xc,Xb,Wad,decide_eq_true]
    .rw[Wa h4,Wa h4];by_cases h5:c.phase=5
     .rw[Wb h5,Wb h5];obtain⟨j,hj,e1,e2,e3,e4⟩:=h.put (by omega);obtain⟨b,hb⟩:=WfH (ver:=c.wv) hm e3 hw hN
      grind [Xc,Xb,Wad,decide_eq_true]
     .rw[Wa h5,Wa h5];by_cases h7:c.phase=7
      .rw[Wb h7,Wb h7];obtain⟨j,hj,e1,e2,e3,e4⟩:=h.put (by omega);obtain⟨b,hb⟩:=WfH (ver:=(Ws m c.puts[j].1).2.1) hm e3 hw hN;rw[show Xc c.puts (Xb c.pos) ((0:Int),(0:Int))=c.puts[j]from e2,e2,e1,Wad,Wf hj,Wg4 hm e3];simp only[Wc,Wh5,hb,←e1];rfl
      simp_all
end
end
section
abbrev RM:=Int×Int×Int×Int×List Int
abbrev Wr:=Int×Int×List Rw
abbrev Pg:=List Opn×List (List Opn)
abbrev Ac:=Int×Int×Int
abbrev Sc:=Kg×List Pg×List Ac
structure Rt where
 phase:Int:=0
 tries:Int:=0
 spare:Int:=0
 pc:Int:=0
 rv:Int:=0
 newRv:Int:=0
 pos:Int:=0
 fate:Int:=0
 stamp:Int:=0
 began:Int:=0
 ended:Int:=0
 doomed:Bool:=false
 regs:List Int:=[]
 reads:List Rw:=[]
 writes:List Rw:=[]
 marks:List RM:=[]
 undos:List Un:=[]
 order:List Int:=[]
 busy:Bool:=false
 pb:Pb:=(0,0,0,0)
 cm:Cm:={}
 fam:Fm:={}
def Rt.e(r:Rt):Y_Root:=(r.phase,r.tries,r.spare,r.pc,r.rv,r.newRv,r.pos,r.fate,r.stamp,r.began,r.ended,r.doomed,r.regs,r.reads,r.writes,r.marks,r.undos,r.order,r.busy,r.pb,r.cm.e,r.fam.e)
structure Wo where
 now:Int:=0
 token:Int:=0
 mem:Mm:=(0,[])
 shelf:Shf:=([],0)
 holds:List Hd:=[]
 roots:List Rt:=[]
 hist:List Wr:=[]
def Wo.e(w:Wo):Y_World:=(w.now,w.token,w.mem,w.shelf,w.holds,w.roots.map Rt.e,w.hist)
def zRM:RM:=(0,0,0,0,[])
def Rt.last(x:Rt):RM:=WhO x.marks zRM
def WcP(x:Rt):Rt:={phase:=6,tries:=x.tries,undos:=x.undos}
def WO(x:Rt):Rt:=
 if x.marks.length=0\/x.spare=2 then WcP x else{x with spare:=x.spare+1,busy:=false,pb:=(0,0,0,0),phase:=3}
def Wd6(w:Wo)(x:Rt):Wo×Rt:=({w with shelf:=Wil w.shelf (WhO x.undos (0,0,0))},{x with undos:=x.undos.dropLast})
def Wj9(w:Wo)(x:Rt)(k:Nat):Wo×Rt:=
 ({w with token:=if w.token=(k:Int)+1 then 0 else w.token},{x with phase:=8,ended:=w.now,undos:=[],doomed:=false})
def Waq(w:Wo)(x:Rt)(k:Nat)(out:Int):Wo×Rt:=
 let rows:=if out=2 then []else x.writes
 if rows.length=0/\(Wf9 w.holds ((k:Int)+1)).length=0 then Wj9 w {x with fate:=out,stamp:=x.rv} k
 else(w,{x with fate:=out,cm:=Wan ((k:Int)+1) x.rv rows x.reads,phase:=5})
def WcM(w:Wo)(x:Rt)(o:Opn):Rt:=
 match Wbg x.writes o.2.2.1 with
 |some v=>{x with regs:=WjU x.regs o.2.1 v,pc:=x.pc+1}
 |none=>
  let p:=WW w.mem x.rv (if x.busy then x.pb else(o.2.2.1,0,0,0))
  if p.2.1=4 then WO {x with busy:=true,pb:=p}
  else if p.2.1=3 then{x with regs:=WjU x.regs o.2.1 p.2.2.2,reads:=x.reads++ [(o.2.2.1,p.2.2.2)],busy:=false,pb:=(0,0,0,0),pc:=x.pc+1}
  else{x with busy:=true,pb:=p}
def WbT(w:Wo)(x:Rt)(k:Nat)(code:List Opn):Wo×Rt:=
 if x.marks.length=0 then Waq w x k 2 else
 if(x.undos.length:Int)>x.last.2.2.2.1 then Wd6 w x else
 (w,{x with marks:=x.marks.dropLast,regs:=WjU x.last.2.2.2.2 (opN code x.last.1).2.1 0,writes:=x.writes.take x.last.2.2.1.toNat,pc:=Wiw code x.last.1.toNat+1})
def WbR(w:Wo)(x:Rt)(k:Nat)(o:Opn):Wo×Rt:=
 match Wa4 w.holds ((k:Int)+1) (WaK o).1 (WaK o).2 with
 |none=>(w,WO x)
 |some hs=>
  let b:=Wbv w.shelf o x.regs
  ({w with holds:=hs,shelf:=b.1},{x with regs:=b.2.1,undos:=if b.2.2.1=0 then x.undos else x.undos++ [b.2.2],pc:=x.pc+1})
def Wdy(w:Wo)(x:Rt)(k:Nat)(p:Pg):Wo×Rt:=
 if x.pc>=p.1.length then Waq w x k 1 else
 let o:=opN p.1 x.pc
 if o.1=5 then(w,WcM w x o)else
 if o.1=10 then WbT w x k p.1 else
 if o.1=11 then(w,{x with phase:=2,fam:=War x.rv x.regs x.writes p.2.length})else
 if o.1>=12 then WbR w x k o else
 if o.1=6 then(w,{x with writes:=x.writes++ [(o.2.1,Wbu x.regs o.2.2.1 0)],pc:=x.pc+1})else
 if o.1=7 then(w,{x with pc:=(if Wbu x.regs o.2.1 0=0 then x.pc+o.2.2.1 else x.pc)+1})else
 if o.1=8 then(w,{x with marks:=x.marks++ [(x.pc,(x.reads.length:Int),(x.writes.length:Int),(x.undos.length:Int),x.regs)],pc:=x.pc+1})else
 if o.1=9 then(w,{x with marks:=x.marks.dropLast,regs:=WjU x.regs (opN p.1 x.last.1).2.1 1,pc:=x.pc+1})else
 (w,{x with regs:=Wnf o x.regs,pc:=x.pc+1})
def Wac(k:Nat):List Rt->Nat->Bool
 | [],_=>true
 |x::l,i=>(decide (i=k)||(decide (x.phase=0)||decide (x.phase=8)))&&Wac k l (i+1)
def Wdf(w:Wo)(x:Rt)(k:Nat):Wo×Rt:=
 if w.token≠0/\w.token≠(k:Int)+1 then(w,x)else
 if x.tries>=3/\w.token=0 then({w with token:=(k:Int)+1},x)else
 if w.token=(k:Int)+1/\Wac k w.roots 0=false then(w,x)else
 (w,{phase:=1,tries:=x.tries,rv:=w.mem.1,began:=w.now,regs:=[0,0,0,0]})
def WbG(x:Rt):Rt:=
 if x.fam.lost then WcP x else
 if Wa2 x.fam then{x with regs:=Wed x.fam,writes:=WfS x.fam,reads:=x.reads++x.fam.reads,order:=x.fam.order,fam:={},phase:=1,pc:=x.pc+1}
 else x
def Wa3(w:Wo)(x:Rt):Wo×Rt:=
 if(x.undos.length:Int)>x.last.2.2.2.1 then Wd6 w x else(w,{x with newRv:=w.mem.1,pos:=0,phase:=4})
def WaH(w:Wo)(x:Rt):Rt:=
 if x.pos<x.last.2.1 then
  let c:=Ws w.mem (Wbu x.reads x.pos (0,0)).1
  if c.2.2≠0\/c.2.1>x.rv then WcP x else{x with pos:=x.pos+1}
 else{x with rv:=x.newRv,newRv:=0,pos:=0,reads:=x.reads.take x.last.2.1.toNat,writes:=x.writes.take x.last.2.2.1.toNat,regs:=x.last.2.2.2.2,pc:=x.last.1+1,phase:=1}
def Wae(x:Rt):Rt:=
 if x.cm.phase=8 then WcP x else
 if x.cm.phase=6 then{x with stamp:=x.cm.wv,cm:={},phase:=if x.fate=2 then 6 else 7}else x
def W8(w:Wo)(x:Rt)(k:Nat):Wo×Rt:=
 if x.doomed then(w,if(WA x.cm).phase=8 then WcP x else{x with cm:=WA x.cm,doomed:=false})else
 let q:=Wq w.mem x.cm
 ({w with mem:=q.1,hist:=if x.cm.phase<=3/\q.2.phase=4 then w.hist++ [(q.2.wv,(k:Int)+1,q.2.puts)]else w.hist},Wae {x with cm:=q.2})
def WB(w:Wo)(x:Rt)(k:Nat)(p:Pg):Wo×Rt:=
 if x.doomed=true/\1<=x.phase/\x.phase<=4 then(w,WcP x)else
 if x.phase=0 then Wdf w x k else
 if x.phase=1 then Wdy w x k p else
 if x.phase=2 then(w,WbG x)else
 if x.phase=3 then Wa3 w x else
 if x.phase=4 then(w,WaH w x)else
 if x.phase=5 then W8 w x k else
 if x.phase=6 then(if x.undos.length>0 then Wd6 w x else(w,{x with phase:=7}))else
 if x.phase=7 then
  (if x.fate=0 then({w with holds:=W7 w.holds ((k:Int)+1)},{tries:=x.tries+1})
   else Wj9 {w with holds:=W7 w.holds ((k:Int)+1)} x k)
 else(w,x)
def Wo.put(q:Wo×Rt)(k:Nat):Wo:={q.1 with roots:=q.1.roots.set k q.2}
def rt0:Rt:={}
def pg0:Pg:=([],[])
def Wid(w:Wo)(k:Nat)(p:Pg):Wo:=Wo.put (WB w (w.roots.getD k rt0) k p) k
def Wxs(w:Wo)(x:Rt)(k j:Nat)(p:Pg):Wo:=Wo.put (w,{x with fam:=Wbx w.mem x.fam j (p.2.getD j [])}) k
def Wde(s:Sc)(w0:Wo)(a:Ac):Wo:=
 let w:={w0 with now:=w0.now+1}
 if 0<=a.2.1/\a.2.1<w.roots.length then
  let k:=a.2.1.toNat
  let x:=w.roots.getD k rt0
  let p:=s.2.1.getD k pg0
  if a.1=1 then Wid w k p else
  if a.1=2 then(if x.phase=2/\0<=a.2.2/\a.2.2<p.2.length then Wxs w x k a.2.2.toNat p else w)else
  if a.1=3 then(if(1<=x.phase/\x.phase<=4)\/(x.phase=5/\x.cm.phase<=3)then Wo.put (w,{x with doomed:=true}) k else w)else w
 else w
def Wer(s:Sc):Wo:={mem:=Wkk s.1.1,shelf:=(Wo6 s.1.2.1,s.1.2.2),roots:=Xt s.2.1.length {}}
def Weq(s:Sc):Wo:=s.2.2.foldl (Wde s) (Wer s)
structure RMk(code:List Opn)(pc:Nat)(marks:List RM)(rl wl ul:Nat):Prop where
 pcs:marks.map (·.1)=(stk code pc).map λm:Nat=>(m:Int)
 each:∀q∈marks,Vals 4 q.2.2.2.2/\(0<=q.2.1/\q.2.1<=q.1+72*frk code q.1.toNat/\q.2.1<=rl)/\(0<=q.2.2.1/\q.2.2.1<=q.1+8/\q.2.2.1<=wl)/\0<=q.2.2.2.1/\q.2.2.2.1<=q.1/\q.2.2.2.1<=ul
 up:marks.Pairwise λa b=>a.2.1<=b.2.1/\a.2.2.1<=b.2.2.1/\a.2.2.2.1<=b.2.2.2.1
structure RLive(p:Pg)(n:Int)(x:Rt):Prop where
 pc:0<=x.pc/\x.pc<=p.1.length
 spare:0<=x.spare/\x.spare<=2
 rv:0<=x.rv/\x.rv<=1000000
 regs:Vals 4 x.regs
 reads:WfW x.reads
 rl:(x.reads.length:Int)<=x.pc+72*frk p.1 x.pc.toNat
 writes:WfW x.writes
 wl:(x.writes.length:Int)<=x.pc+8
 ul:(x.undos.length:Int)<=x.pc
 marks:RMk p.1 x.pc.toNat x.marks x.reads.length x.writes.length x.undos.length
 pb:x.busy=true->WkG x.pb=true
 fork:x.phase=2->x.pc<p.1.length/\(opN p.1 x.pc).1=11/\FOk p.2 n x.fam
 back:x.phase=3\/x.phase=4->x.marks.length≠0
 newRv:0<=x.newRv/\x.newRv<=1000000
 pos:x.phase=4->0<=x.pos/\x.pos<=x.last.2.1
 unw:x.phase=4->(x.undos.length:Int)<=x.last.2.2.2.1
structure ROk(p:Pg)(n:Int)(x:Rt):Prop where
 phase:0<=x.phase/\x.phase<=8
 tries:0<=x.tries/\x.tries<=n
 live:1<=x.phase/\x.phase<=4->RLive p n x
 comm:x.phase=5->CmOk x.cm
 undos:∀u∈x.undos,UnV u
 ul:x.undos.length<=24
 rg:x.regs.length<=4
 ord:x.order.length<=3
structure POk(p:Pg):Prop where
 code:CC p.1
 kids:∀c∈p.2,KC c
 k3:p.2.length<=3
def HE(h:Wr):Prop:=h.2.2.length<=8/\WfW h.2.2/\1<=h.2.1/\h.2.1<=9
structure WOk(ps:List Pg)(n:Int)(w:Wo):Prop where
 len:w.roots.length=ps.length
 l4:ps.length<=4
 progs:∀p∈ps,POk p
 now:w.now=n
 n0:0<=n
 mem:W0 w.mem=true
 shelf:ShOk w.shelf
 holds:HOk w.holds
 hist:(w.hist.length:Int)<=n
 histE:∀h∈w.hist,HE h
 root:∀(k:Nat) (h:k<w.roots.length),ROk (ps.getD k pg0) n w.roots[k]
end
section
theorem rtP(x:Rt):x.e.1=x.phase/\x.e.2.1=x.tries/\x.e.2.2.1=x.spare/\x.e.2.2.2.1=x.pc/\P4 x.e=x.rv/\P5 x.e=x.newRv/\P6 x.e=x.pos/\P7 x.e=x.fate/\P8 x.e=x.stamp/\P11 x.e=x.doomed/\P12 x.e=x.regs/\P13 x.e=x.reads/\P14 x.e=x.writes/\P15 x.e=x.marks/\P16 x.e=x.undos/\P18 x.e=x.busy/\P19 x.e=x.pb/\P20 x.e=x.cm.e/\Q21 x.e=x.fam.e/\P24 x.e=x.fam.lost/\P28 x.e=x.fam.order/\P29 x.e=x.fam.reads:=
 ⟨rfl,rfl,rfl,rfl,rfl,rfl,rfl,rfl,rfl,rfl,rfl,rfl,rfl,rfl,rfl,rfl,rfl,rfl,rfl,rfl,rfl,rfl⟩
theorem S5e(w:Wo)(k:Nat)(x:Rt):S5 (Xl (w.roots.map Rt.e) k x.e) w.e=Wo.e {w with roots:=w.roots.set k x}:=by
 unfold S5 Wo.e;rw[List.map_set]
theorem Wdg{w w':Wo}{k:Nat}{x':Rt}{y:Y_Root}{g:Y_World}(hy:y=x'.e)(hg:g=w'.e)(hr:w'.roots=w.roots):
  some ((S5 (Xl (w.roots.map Rt.e) k y) g,()),())=some (((Wo.put (w',x') k).e,()),()):=by
 subst hy hg;rw[←hr,S5e];rfl
variable{N:Nat}{w:Wo}{k:Nat}{x:Rt}{o:Opn}{p:Pg}{n:Int}{code:List Opn}
theorem woG(hk:k<w.roots.length)(aQ:w.roots[k]=x):Xc (w.roots.map Rt.e) k d_Root=x.e/\Xc (w.roots.map Rt.e) (Xb (k:Int)) d_Root=x.e/\S5 (Xl (w.roots.map Rt.e) (Xb (k:Int)) x.e) w.e=w.e/\inb (k:Int) (w.roots.map Rt.e).length=true/\S5 (Xl (w.roots.map Rt.e) k x.e) w.e=w.e:=by
 have h1:Xc (w.roots.map Rt.e) k d_Root=x.e:=by
  have:=WsN Rt.e w.roots k {};rw[Wn hk,aQ]at this;exact this
 have h2:S5 (Xl (w.roots.map Rt.e) k x.e) w.e=w.e:=by rw[S5e,←aQ,Xaz]
 rw[Xj];refine⟨h1,h1,h2,?_,h2⟩;rw[Wad,Xae];exact Wf hk
theorem Wpo(hk:k<w.roots.length)(aQ:w.roots[k]=x):Wo.put (w,x) k=w:=by
 unfold Wo.put;simp only;rw[←aQ,Xaz]
theorem Wfg:Za8 N x.e=some (((WcP x).e,()),()):=rfl
theorem Wev(hs:0<=x.spare/\x.spare<=2):Zct N x.e=some (((WO x).e,()),()):=by
 obtain⟨r0,r1,r2,r3,r4,r5,r6,r7,r8,kp,jE,iM,iN,jg,jh,la,lb,kq,kr,ld,lh,li⟩:=rtP x;unfold Zct WO;simp only[WG,jg,r2,Wj,Wfg,Xd];by_cases h1:x.marks.length=0
 .rw[Wb (by omega),Wb (.inl h1)]
 .rw[Wa (by omega)];by_cases h2:x.spare=2
  .rw[Wb h2,Wb (.inr h2)]
  .rw[Wa h2,Wa (by omega),WL (by unfold I64;omega)];rfl
theorem Wey{α:Type}{l:List α}(h:l.length≠0)(hl:l.length<=1000)(d:α):inb (W6 .i64 (Wj l) 1) l.length=true/\Xc l (Xb (W6 .i64 (Wj l) 1)) d=WhO l d/\Xat (Xb (W6 .i64 (Wj l) 1)) l=l.dropLast/\(decide ((0:Int)<=W6 .i64 (Wj l) 1)&&decide (W6 .i64 (Wj l) 1<=(l.length:Int)))=true:=by
 have e:W6 .i64 (Wj l) 1=((l.length-1:Nat):Int):=by rw[WpH (by omega)];omega
 rw[e];refine⟨by rw[Wad];exact Wf (by omega),by rw[Xj];rfl,by rw[Xj,Xeq],by simp⟩
theorem Wpg(h:x.marks.length≠0)(hl:x.marks.length<=1000):Zg6 N x.e=some ((x.e,()),(x.last,())):=by
 obtain⟨a,b,c,d⟩:=Wey h hl zRM;unfold Zg6;rw[show x.e.2.2.2.2.2.2.2.2.2.2.2.2.2.2.2.1=x.marks from rfl,a];simp only[Wc];rw[show((0:Int),((0:Int),((0:Int),((0:Int),([]:List Int)))))=zRM from rfl,b];rfl
theorem Wmq(h:x.marks.length≠0)(hl:x.marks.length<=1000):Zdd N x.e=some ((),((x.last.1,(x.last.2.1,(x.last.2.2.1,x.last.2.2.2.1))),())):=by
 obtain⟨a,b,c,d⟩:=Wey h hl zRM;unfold Zdd;simp only[WD];rw[show P15 x.e=x.marks from rfl,a];simp only[Wc];rw[show((0:Int),((0:Int),((0:Int),((0:Int),([]:List Int)))))=zRM from rfl,b];rfl
theorem Wk7(hk:k<w.roots.length)(aQ:w.roots[k]=x)(hz:x.undos.length≠0)(hl:x.undos.length<=1000)(hu:∀u∈x.undos,UnV u)(hs:ShOk w.shelf)(hN:1048576<N):
  Zb7 N w.e k=some (((Wo.put (Wd6 w x) k).e,()),()):=by
 obtain⟨g1,g2,g3,g4,g5⟩:=woG hk aQ;obtain⟨a,b,c,d⟩:=Wey hz hl ((0,0,0):Un);have hmem:WhO x.undos ((0,0,0):Un)∈x.undos:=by
  unfold WhO;rw[Wn (show x.undos.length-1<x.undos.length by omega)];exact Xp _
 unfold Zb7 Wd6;simp only[WD];rw[show P5 w.e=w.roots.map Rt.e from rfl,g1];rw[show x.e.2.2.2.2.2.2.2.2.2.2.2.2.2.2.2.2.1=x.undos from rfl,a,b,show w.e.2.2.2.1=w.shelf from rfl,Wi9 hs (hu _ hmem) hN,c];simp only[Wc,Xd,d];exact Wdg rfl rfl rfl
theorem Wrc(hk:k<w.roots.length)(aQ:w.roots[k]=x)(mU:k<=1000):Zfp N w.e (k:Int)=some (((Wo.put (Wj9 w x k) k).e,()),()):=by
 obtain⟨g1,g2,g3,g4,g5⟩:=woG hk aQ;unfold Zfp Wj9;simp only[WD];rw[show P5 w.e=w.roots.map Rt.e from rfl,g4,g2,WcN (by omega),Xj];simp only[Wc,WG];rw[show w.e.2.1=w.token from rfl];by_cases h:w.token=(k:Int)+1
 .rw[Wb h];simp only[Wb h];exact Wdg rfl rfl rfl
 .rw[Wa h];simp only[Wa h];exact Wdg rfl rfl rfl
theorem WlY(hk:k<w.roots.length)(aQ:w.roots[k]=x)(mU:k<=8)(hh:HOk w.holds)(di:0<=x.rv/\x.rv<=1000000)(hr:Wa9 x.reads=true)(hw:Wa9 x.writes=true){out:Int}(hN:1048576<N):
  Zf2 N w.e (k:Int) out=some (((Wo.put (Waq w x k out) k).e,()),()):=by
 obtain⟨g1,g2,g3,g4,g5⟩:=woG hk aQ;obtain⟨r0,r1,r2,r3,r4,r5,r6,r7,r8,kp,jE,iM,iN,jg,jh,la,lb,kq,kr,ld,lh,li⟩:=rtP x;have u6:=Wld hh;have uY:∀y:Rt,Zfp N (S5 (Xl (w.roots.map Rt.e) (Xb (k:Int)) y.e) w.e) (k:Int)=some (((Wo.put (Wj9 w y k) k).e,()),()):=λy=>by
  rw[Xj,S5e];have h1:k<({w with roots:=w.roots.set k y}:Wo).roots.length:=by simpa using hk
  rw[Wrc (x:=y) h1 (by simp) (by omega)];unfold Wj9 Wo.put;simp only[Xdi]
 unfold Zf2 Waq;simp only[WD];rw[show P5 w.e=w.roots.map Rt.e from rfl,g4,g2,WcN (by omega),show P4 w.e=w.holds from rfl];have qw:∀{α:Type} (a b:α),(bif ((0:Int)==(0:Int))then a else b)=a:=λ_ _=>rfl;have wU:∀{α:Type} (a b:α),(bif ((0:Nat)==(0:Nat))then a else b)=a:=λ_ _=>rfl;simp only[qw,wU];simp only[Wc,WG,r4,iM,iN,WiZ (who:=(k:Int)+1) hh (by omega) hN,ret,Xd,Wj];have rr:∀rows,Wa9 rows=true->Zdz N ((k:Int)+1) x.rv rows x.reads=some ((),((Wan ((k:Int)+1) x.rv rows x.reads).e,(true,()))):=λrows lC=>WvF (by omega) di lC hr hN;have bH:Zdz N ((k:Int)+1) x.rv ([]:List Kc) x.reads=some ((),((Wan ((k:Int)+1) x.rv [] x.reads).e,(true,()))):=rr [] rfl;have aH:(S8 x.rv (S7 out x.e))=Rt.e {x with fate:=out,stamp:=x.rv}:=rfl;rw[bH,rr _ hw,aH,uY];simp only[Xd];by_cases ho:out=2
 .rw[Wb ho,Wb ho];by_cases hz:(Wf9 w.holds ((k:Int)+1)).length=0
  .rw[Wb (by omega),Wb ⟨rfl,hz⟩]
  .rw[Wa (by omega),Wa (λh=>hz h.2),Xj];exact Wdg rfl rfl rfl
 .rw[Wa ho,Wa ho];by_cases hy:x.writes.length=0
  .rw[Wb (by omega)];by_cases hz:(Wf9 w.holds ((k:Int)+1)).length=0
   .rw[Wb (by omega),Wb ⟨hy,hz⟩]
   .rw[Wa (by omega),Wa (λh=>hz h.2),Xj];exact Wdg rfl rfl rfl
  .rw[Wa (by omega),Wa (λh=>hy h.1),Xj];exact Wdg rfl rfl rfl
theorem WmB{l:List Rw}(h:WfW l)(hl:l.length<=300):Wa9 l=true:=by
 unfold Wa9;rw[Wk1.2 h,Wf hl];rfl
theorem Wf3(hc:CC code):∀j,j<=code.length->frk code j<=1
 |0,_=>by simp[frk]
 |j+1,h=>by
  have hj:j<code.length:=by omega
  by_cases fI:code[j].1=11
  .exact(hc.fk j hj fI).2
  .rw[Web hj,show(code[j].1==11)=false by simpa using fI];have:=Wf3 hc j (by omega);simpa using this
theorem RLive.sz(hc:CC p.1)(h:RLive p n x):x.reads.length<=96/\x.writes.length<=32/\x.undos.length<=24/\x.marks.length<=24/\Wa9 x.reads=true/\Wa9 x.writes=true:=by
 have h1:=h.pc;have h2:=hc.len;have h3:=Wf3 hc x.pc.toNat (by omega);have h4:=h.rl;have h5:=h.wl;have h6:=h.ul;have h7:=Wl Xa h.marks.pcs;simp only[Xae]at h7;have h8:=WbJ hc.up x.pc.toNat (by omega);have h9:=(WdB p.1 x.pc.toNat).2;exact⟨by omega,by omega,by omega,by omega,WmB h.reads (by omega),WmB h.writes (by omega)⟩
theorem Wrp(hb:x.busy=true->WkG x.pb=true){c:Int}(hc:0<=c/\c<=7):WkG (if x.busy then x.pb else(c,0,0,0))=true:=by
 split
 .exact hb ‹_›
 .rw[We8];simp only;omega
theorem WtZ(hk:k<w.roots.length)(aQ:w.roots[k]=x)(hc:CC p.1)(hx:RLive p n x)(hm:W0 w.mem=true)(h5:o.1=5)(ho:Wd1 o=true)(hN:1048576<N):
  Zig N w.e k o=some (((Wo.put (w,WcM w x o) k).e,()),()):=by
 obtain⟨g1,g2,g3,g4,g5⟩:=woG hk aQ;obtain⟨r0,r1,r2,r3,r4,r5,r6,r7,r8,kp,jE,iM,iN,jg,jh,la,lb,kq,kr,ld,lh,li⟩:=rtP x;obtain⟨z1,z2,z3,z4,z5,z6⟩:=hx.sz hc;obtain⟨hA,hB⟩:=WvW ho h5;have hB':0<=o.2.2.1/\o.2.2.1<=7:=by unfold Waf at hB;simpa using hB
 have df:=hx.regs.len;have aL:=hx.pc;have hcl:=hc.len;have jL:=hx.spare;unfold Zig WcM;simp only[WD];rw[show P5 w.e=w.roots.map Rt.e from rfl,g1,show w.e.2.2.1=w.mem from rfl];simp only[r3,r4,jE,iM,iN,la,lb];rw[Wez (by omega) hN,Wbl hA df,WcN (by omega)];cases hl:Wbg x.writes o.2.2.1 with
 |some v=>
  simp only[opI,Xd,Wc];exact Wdg rfl rfl rfl
 |none=>
  have ar:WN (x.reads.length+ [(o.2.2.1,(0:Int))].length)=true:=WE (by simp;omega);have lX:Zeo N o.2.2.1=some ((),((o.2.2.1,0,0,0),(true,()))):=by
   unfold Zeo;rw[WaN,hB];rfl
  have gX:=Wrp hx.pb hB';have tD:S18 true x.e=Rt.e {x with busy:=true}:=rfl;simp only[opI,Xd,We,WG,lX,tD];have dR:∀q:Pb,S19 q (Rt.e {x with busy:=true})=Rt.e {x with busy:=true,pb:=q}:=λq=>rfl;simp only[dR,Wev (x:={x with busy:=true,pb:=_}) jL];cases hb:x.busy with
  |false=>
   rw[hb]at gX;simp only[Xbg,Waw]at gX;rw[Wfh hm gX hN];simp only[Xdg,Wc,ret,Xd,Xbg,Waw];generalize WW w.mem x.rv (o.2.2.1,0,0,0)=q;by_cases h4:q.2.1=4
   .rw[Wb h4,Wb h4];exact Wdg rfl rfl rfl
   .rw[Wa h4,Wa h4];by_cases h3:q.2.1=3
    .rw[Wb h3,Wb h3,WE (by simp;omega)];exact Wdg rfl rfl rfl
    .rw[Wa h3,Wa h3];exact Wdg rfl rfl rfl
  |true=>
   have bj:∀q:Pb,S19 q x.e=Rt.e {x with busy:=true,pb:=q}:=λq=>by
    have:S19 q x.e=Rt.e {x with pb:=q}:=rfl;rw[this]
    conv=>lhs;rw[show({x with pb:=q}:Rt)={x with busy:=x.busy,pb:=q}from rfl,hb]
   rw[hb]at gX;simp only[Wav]at gX;rw[Wfh hm gX hN];simp only[Xx,We,ret,Xd,Wav,bj,Wev (x:={x with busy:=true,pb:=_}) jL];generalize WW w.mem x.rv x.pb=q;by_cases h4:q.2.1=4
   .rw[Wb h4,Wb h4];exact Wdg rfl rfl rfl
   .rw[Wa h4,Wa h4];by_cases h3:q.2.1=3
    .rw[Wb h3,Wb h3,WE (by simp;omega)];exact Wdg rfl rfl rfl
    .rw[Wa h3,Wa h3];exact Wdg rfl rfl rfl
end
section
variable{N:Nat}{w:Wo}{k:Nat}{x:Rt}{o:Opn}{p:Pg}{n:Int}{code:List Opn}
theorem RLive.mk24(hc:CC p.1)(h:RLive p n x)(hz:x.marks.length≠0):∃(m:Nat) (q:List RM),x.marks=q++ [x.last]/\x.last.1=(m:Int)/\(∃hm:m<p.1.length,p.1[m].1=8)/\(m:Int)<x.pc/\Mate p.1 m (Wiw p.1 m)/\x.pc<=Wiw p.1 m/\stk p.1 m=(stk p.1 x.pc.toNat).dropLast/\x.marks.dropLast=q/\
  Vals 4 x.last.2.2.2.2/\(0<=x.last.2.1/\x.last.2.1<=x.last.1+72*frk p.1 x.last.1.toNat/\x.last.2.1<=x.reads.length)/\(0<=x.last.2.2.1/\x.last.2.2.1<=x.last.1+8/\x.last.2.2.1<=x.writes.length)/\0<=x.last.2.2.2.1/\x.last.2.2.2.1<=x.last.1/\x.last.2.2.2.1<=x.undos.length:=by
 have hp:=h.pc;obtain⟨m,q,y,e1,e2,e3,e4,e5,e6,e7,e8,e9⟩:=WhF (d:=zRM) hc (show x.pc.toNat<=p.1.length by omega) h.marks.pcs hz;have hl:x.last=y:=e2;have hy:=h.marks.each y (by grind)
 grind
theorem Wrl(hk:k<w.roots.length)(aQ:w.roots[k]=x)(mU:k<=8)(hc:CC p.1)(hx:RLive p n x)(hu:∀u∈x.undos,UnV u)(hs:ShOk w.shelf)(hh:HOk w.holds)(hN:1048576<N):
  Zh2 N w.e (k:Int) p.1=some (((Wo.put (WbT w x k p.1) k).e,()),()):=by
 obtain⟨g1,g2,g3,g4,g5⟩:=woG hk aQ;obtain⟨r0,r1,r2,r3,r4,r5,r6,r7,r8,kp,jE,iM,iN,jg,jh,la,lb,kq,kr,ld,lh,li⟩:=rtP x;obtain⟨z1,z2,z3,z4,z5,z6⟩:=hx.sz hc;have hcl:=hc.len;unfold Zh2 WbT;simp only[WD];rw[show P5 w.e=w.roots.map Rt.e from rfl,g4,g2];simp only[Wc,WG,jg,Wj];by_cases hz:x.marks.length=0
 .rw[Wb (by omega),Wb hz,g3,WlY hk aQ mU hh hx.rv z5 z6 hN];rfl
 .rw[Wa (by omega),Wa hz,Wpg hz (by omega)];simp only[Xd,jh,WaP];obtain⟨m,q,e1,e2,⟨hm,lj⟩,e4,e5,e6,e7,e8,e9,lS,nM,qx,qy,mV⟩:=hx.mk24 hc hz;by_cases hgt:(x.undos.length:Int)>x.last.2.2.2.1
  .rw[Wb hgt,Wb hgt,g3,Xj,Wk7 hk aQ (by omega) (by omega) hu hs hN];rfl
  .rw[Wa hgt,Wa hgt];simp only[iN,jg];obtain⟨a,b,c,d⟩:=Wey hz (by omega) zRM;have d':(decide ((0:Int)<=W6 .i64 (x.marks.length:Int) 1)&&decide (W6 .i64 (x.marks.length:Int) 1<=(x.marks.length:Int)))=true:=d;have c':Xat (Xb (W6 .i64 (x.marks.length:Int) 1)) x.marks=x.marks.dropLast:=c;rw[d',c',WbD (by rw[e9.len];omega),e2,Wad,Wf hm];have o1:Xc p.1 (Xb ((m:Nat):Int)) ((0,0,0,0):Opn)=opN p.1 (m:Int):=rfl;have hr:=Ww8 (hc.ok m hm).1 lj;rw[←WkP hm]at hr;simp only[Wc,ret,Xd,o1];rw[Wbl hr e9.len];have b2:(decide ((0:Int)<=x.last.2.2.1)&&decide (x.last.2.2.1<=(x.writes.length:Int)))=true:=by simp;omega
   rw[b2];simp only[Wc];rw[WdG (by grind),Wij (by omega) hN ⟨hm,lj⟩ e5];simp only[ret,Xd];rw[WcN (by have:=e5.len;omega),Xj];exact Wdg rfl rfl rfl
theorem Ws0(hk:k<w.roots.length)(aQ:w.roots[k]=x)(mU:k<=8)(hc:CC p.1)(hx:RLive p n x)(ho:Wd1 o=true)(fv:12<=o.1)(hs:ShOk w.shelf)(hh:HOk w.holds)(hN:1048576<N):
  Zf3 N w.e (k:Int) o=some (((Wo.put (WbR w x k o) k).e,()),()):=by
 obtain⟨g1,g2,g3,g4,g5⟩:=woG hk aQ;obtain⟨r0,r1,r2,r3,r4,r5,r6,r7,r8,kp,jE,iM,iN,jg,jh,la,lb,kq,kr,ld,lh,li⟩:=rtP x;obtain⟨z1,z2,z3,z4,z5,z6⟩:=hx.sz hc;have u6:=Wld hh;have aL:=hx.pc;have hcl:=hc.len;have tE:(0<=(WaK o).1/\(WaK o).1<=8)/\1<=(WaK o).2/\(WaK o).2<=2:=by
  grind [WaK,WoJ,Wfp,Wtx,Wuo,Wc7,Wvo]
 unfold Zf3 WbR;simp only[WD,WgF];rw[show P5 w.e=w.roots.map Rt.e from rfl,g4,g2,WcN (by omega),WkK ho fv,show P4 w.e=w.holds from rfl,show w.e.2.2.2.1=w.shelf from rfl];simp only[Wc,Xd,WiV hh (show 1<=(k:Int)+1/\(k:Int)+1<=9 by omega) tE.1 tE.2 (by omega) hN,r3,jE,jh,Wev hx.spare];cases ha:Wa4 w.holds ((k:Int)+1) (WaK o).1 (WaK o).2 with
 |none=>
  simp only[Option.isSome_none,Xdg,Wc,Xj];exact Wdg rfl rfl rfl
 |some ct=>
  simp only[Xgp,Xx,We,Xel,Xj,Wic hs hx.regs ho fv hN,Xd,Wdp];rw[WcN (by omega),WE (by simp;omega)];by_cases hz:(Wbv w.shelf o x.regs).2.2.1=0
  .rw[Wb hz,Wb hz];exact Wdg rfl rfl rfl
  .rw[Wa hz,Wa hz];exact Wdg rfl rfl rfl
theorem Wv6(hk:k<w.roots.length)(aQ:w.roots[k]=x)(mU:k<=8)(hp:POk p)(hx:RLive p n x)(hu:∀u∈x.undos,UnV u)(hm:W0 w.mem=true)(hs:ShOk w.shelf)(hh:HOk w.holds)(hN:1048576<N):
  Zg8 N w.e (k:Int) p=some (((Wo.put (Wdy w x k p) k).e,()),()):=by
 obtain⟨g1,g2,g3,g4,g5⟩:=woG hk aQ;obtain⟨r0,r1,r2,r3,r4,r5,r6,r7,r8,kp,jE,iM,iN,jg,jh,la,lb,kq,kr,ld,lh,li⟩:=rtP x;have hc:=hp.code;obtain⟨z1,z2,z3,z4,z5,z6⟩:=hx.sz hc;have aL:=hx.pc;have hcl:=hc.len;have df:=hx.regs.len;unfold Zg8 Wdy;simp only[WD];rw[show P5 w.e=w.roots.map Rt.e from rfl,g4,g2,g3];simp only[Wc,r3,r4,jE,iM,iN,jg,jh,WaP,WG,show Wj p.1=(p.1.length:Int)from rfl];by_cases fy:x.pc>=p.1.length
 .rw[Wb fy,Wb fy,WlY hk aQ mU hh hx.rv z5 z6 hN];rfl
 .rw[Wa fy,Wa fy];obtain⟨j,hj,ej,eo⟩:=WfF (l:=p.1) aL.1 (by omega);have wP:Xc p.1 (Xb x.pc) ((0,0,0,0):Opn)=opN p.1 x.pc:=rfl;have im:inb x.pc p.1.length=true:=by grind [Wad,decide_eq_true]
  rw[im];obtain⟨ok,o1,je⟩:=hc.ok j hj;simp only[Wc,wP];rw[←eo]at ok o1 je;rw[WcN (show 0<=x.pc/\x.pc<=1000000 by omega)];have tF:(opN p.1 x.pc).1=9->x.marks.length≠0:=λh9 hz=>by
   have h1:=Wl Xa hx.marks.pcs;simp only[Xae,hz]at h1;have h2:=WbJ hc.up j (by omega);have h3:=hc.up j hj
   grind [WaQ,Wqi,Xj]
  generalize opN p.1 x.pc=o at*;have wL:o.1>=12->Zf3 N w.e (k:Int) o=some (((Wo.put (WbR w x k o) k).e,()),()):=λfv=>Ws0 hk aQ mU hc hx ok fv hs hh hN;by_cases h5:o.1=5
  .rw[Wb h5,Wb h5,Xj,WtZ hk aQ hc hx hm h5 ok hN];rfl
  .rw[Wa h5,Wa h5];by_cases cP:o.1=10
   .rw[Wb cP,Wb cP,Wrl hk aQ mU hc hx hu hs hh hN];rfl
   .rw[Wa cP,Wa cP];by_cases fI:o.1=11
    .rw[Wb fI,Wb fI,show Wj p.2=((p.2.length:Nat):Int)from rfl,Wjp (by omega) (by omega) hp.k3 hN,Xj];exact Wdg rfl rfl rfl
    .rw[Wa fI,Wa fI];by_cases fv:o.1>=12
     .rw[Wb fv];have hb:=wL fv;have:o.1=12\/o.1=13\/o.1=14\/o.1=15\/o.1=16:=by omega
      rcases this with h|h|h|h|h
      .rw[Wb h,Wb h,hb];rfl
      .rw[Wa (by omega),Wb h,Wb h,hb];rfl
      .rw[Wa (by omega),Wa (by omega),Wb h,Wb h,hb];rfl
      .rw[Wa (by omega),Wa (by omega),Wa (by omega),Wb h,Wb h,hb];rfl
      .rw[Wa (by omega),Wa (by omega),Wa (by omega),Wa (by omega),Wb h,hb];rfl
     .rw[Wa fv,Wa (show¬o.1=12 by omega),Wa (show¬o.1=13 by omega),Wa (show¬o.1=14 by omega),Wa (show¬o.1=15 by omega),Wa (show¬o.1=16 by omega)];by_cases h6:o.1=6
      .rw[Wb h6,Wb h6,Wbl (Wwe ok h6).2 df,WE (by simp;omega),Xj];exact Wdg rfl rfl rfl
      .rw[Wa h6,Wa h6];by_cases h7:o.1=7
       .rw[Wb h7,Wb h7];have h:=Wvm ok h7;rw[Wbl h.1 df,WL (a:=x.pc) (b:=o.2.2.1) (by unfold I64;omega),WcN (a:=x.pc+o.2.2.1) (by omega),Xj];by_cases hg:Xc x.regs (Xb o.2.1) 0=0
        .rw[Wb hg,Wb (show Wbu x.regs o.2.1 0=0 from hg)];exact Wdg rfl rfl rfl
        .rw[Wa hg,Wa (show¬Wbu x.regs o.2.1 0=0 from hg)];exact Wdg rfl rfl rfl
       .rw[Wa h7,Wa h7];by_cases h8:o.1=8
        .rw[Wb h8,Wb h8,WbD (by omega)];simp only[ret,Xd];rw[WE (by simp;omega),Xj];exact Wdg rfl rfl rfl
        .rw[Wa h8,Wa h8];by_cases h9:o.1=9
         .rw[Wb h9,Wb h9];have hz:=tF h9;obtain⟨a,b,c,d⟩:=Wey hz (by omega) zRM;obtain⟨m,q,e1,e2,⟨ij,lj⟩,e4,e5,e6,e7,e8,e9,lS,nM,qx,qy,mV⟩:=hx.mk24 hc hz;rw[Wmq hz (by omega)];simp only[Xd];rw[d,c,e2,Wad,Wf ij];have o1:Xc p.1 (Xb ((m:Nat):Int)) ((0,0,0,0):Opn)=opN p.1 (m:Int):=rfl;have hr:=Ww8 (hc.ok m ij).1 lj;rw[←WkP ij]at hr;simp only[Wc,o1];rw[Wbl hr df,Xj];exact Wdg rfl rfl rfl
         .rw[Wa h9,Wa h9,WhI hN ok (by omega) (by omega) hx.regs,Xj];exact Wdg rfl rfl rfl
theorem Wuk(hk:k<w.roots.length)(aQ:w.roots[k]=x)(ku:w.roots.length<=8)(hN:1048576<N):
  Ze5 N w.e (k:Int)=some (((Wo.put (Wdf w x k) k).e,()),()):=by
 obtain⟨g1,g2,g3,g4,g5⟩:=woG hk aQ;have gP:=Wpo hk aQ;have df:(w.roots.map Rt.e).length=w.roots.length:=by simp
 unfold Ze5;rw[show P5 w.e=w.roots.map Rt.e from rfl,g4,g2,WcN (by omega),Xj];simp only[Wc,Wdp,WG,WaP,show w.e.2.1=w.token from rfl,show x.e.2.1=x.tries from rfl,show w.e.1=w.now from rfl,show w.e.2.2.1.1=w.mem.1 from rfl];have oo:∀(K0:Bool->Int->Bool->Option ((Y_World×Unit)×Unit)) (d j n:Nat) (al:Bool),j+d=w.roots.length->d<n->
   Zaq N (k:Int) k (Wj (w.roots.map Rt.e)) w.now w.token w.mem.1 w.e.2.2.2.1.2 (w.roots.map Rt.e) w.e.2.2.1.2 w.e.2.2.2.1.1 (P4 w.e) (Q6 w.e) K0 n al (j:Int)=K0 (al&&Wac k (w.roots.drop j) j) (w.roots.length:Int) false:=by
  intro K0 d
  induction d with
  |zero=>
   intro j n al hj hn;obtain⟨n,rfl⟩:∃n',n=n'+1:=⟨n-1,by omega⟩;have:j=(w.roots.map Rt.e).length:=by omega
   rw[Zaq,this,WaO (Xn _),df,Xdh];simp[Wac]
  |succ d ih=>
   intro j n al hj hn;obtain⟨n,rfl⟩:∃n',n=n'+1:=⟨n-1,by omega⟩;have hlt:j<(w.roots.map Rt.e).length:=by omega
   have wV:j<w.roots.length:=by omega
   rw[Zaq];simp only[Wat hlt,WC hlt,WJ hlt,Wt (show j<4611686018427387904 by omega),Wc,ih (j+1) n _ (by omega) (by omega),List.getElem_map];rw[Xck wV,Wac];generalize Wac k (w.roots.drop (j+1)) (j+1)=b;have hp:(Rt.e w.roots[j]).1=w.roots[j].phase:=rfl;rw[hp];simp only[WG];cases al with
   |false=>simp
   |true=>
    simp only[Wc,Xbu];by_cases h1:j=k
    .rw[Wb (by omega),Wf h1];simp
    .rw[Wa (by omega),Wx h1];by_cases h2:w.roots[j].phase=0
     .rw[Wb h2,Wf h2];simp
     .rw[Wa h2,Wx h2];have:(w.roots[j].phase==8)=decide (w.roots[j].phase=8):=by
       by_cases h3:w.roots[j].phase=8<;>simp[h3]
      rw[this];simp
 have:=oo;refine(oo _ w.roots.length 0 N true (by omega) (by omega)).trans ?_;rw[List.drop_zero,Xbu];unfold Wdf;have cT:some ((S5 (Xl (w.roots.map Rt.e) k ((1:Int),(x.tries,((0:Int),((0:Int),(w.mem.1,((0:Int),((0:Int),((0:Int),((0:Int),(w.now,((0:Int),(false,(Xt (Xb (4:Int)) (0:Int),(([]:List Kc),(([]:List Kc),(([]:List Ki),(([]:List Kb),(([]:List Int),(false,(((0:Int),((0:Int),((0:Int),(0:Int)))),(((0:Int),((0:Int),((0:Int),((0:Int),((0:Int),(([]:List Kc),([]:List Int))))))),d_Family)))))))))))))))))))))) w.e,()),())=some (((Wo.put (w,{phase:=1,tries:=x.tries,rv:=w.mem.1,began:=w.now,regs:=[0,0,0,0]}) k).e,()),()):=Wdg (x':={phase:=1,tries:=x.tries,rv:=w.mem.1,began:=w.now,regs:=[0,0,0,0]}) (w':=w) rfl rfl rfl;have wW:some (((w.now,((k:Int)+1,w.e.2.2)),()),())=some (((Wo.put ({w with token:=(k:Int)+1},x) k).e,()),()):=by
  have:Wo.put ({w with token:=(k:Int)+1},x) k={w with token:=(k:Int)+1}:=by unfold Wo.put;simp only;rw[←aQ,Xaz]
  rw[this];rfl
 have ar:(((decide ((0:Int)<=(4:Int)))&&(decide ((4:Int)<=(4:Int))))&&(WN (Xb (4:Int))))=true:=rfl;have bj:some ((w.e,()),())=some (((Wo.put (w,x) k).e,()),()):=by rw[gP]
 rw[ar];simp only[Wc,cT];by_cases t0:w.token=0
 .rw[Wb t0];rw[Wa (show¬(w.token≠0/\w.token≠(k:Int)+1) by omega)];by_cases ht:x.tries>=3
  .rw[Wb ht,Wb t0,Wb ⟨ht,t0⟩];exact wW
  .rw[Wa ht,Wa (show¬w.token=(k:Int)+1 by omega),Wa (λh=>ht h.1),Wa (by omega)]
 .rw[Wa t0];by_cases t1:w.token=(k:Int)+1
  .rw[Wb t1,Wa (show¬(w.token≠0/\w.token≠(k:Int)+1) by omega),Wa (show¬(x.tries>=3/\w.token=0) by omega)];have it:∀b:Bool,(bif !b then some ((w.e,()),())else some (((Wo.put (w,{phase:=1,tries:=x.tries,rv:=w.mem.1,began:=w.now,regs:=[0,0,0,0]}) k).e,()),()))=some (((Wo.put (if w.token=(k:Int)+1/\b=false then(w,x)else(w,{phase:=1,tries:=x.tries,rv:=w.mem.1,began:=w.now,regs:=[0,0,0,0]})) k).e,()),()):=λb=>by
    cases b with
    |false=>rw[Wb ⟨t1,rfl⟩];exact bj
    |true=>rw[Wa (by simp)];rfl
   by_cases ht:x.tries>=3
   .rw[Wb ht,Wa t0,Wb t1];exact it _
   .rw[Wa ht,Wb t1];exact it _
  .rw[Wa t1,Wb ⟨t0,t1⟩];exact bj
theorem WtI(hp:POk p)(hx:RLive p n x)(h2:x.phase=2)(hN:1048576<N):Zg9 N x.e=some (((WbG x).e,()),()):=by
 obtain⟨r0,r1,r2,r3,r4,r5,r6,r7,r8,kp,jE,iM,iN,jg,jh,la,lb,kq,kr,ld,lh,li⟩:=rtP x;have hc:=hp.code;obtain⟨z1,z2,z3,z4,z5,z6⟩:=hx.sz hc;obtain⟨f1,f2,f3⟩:=hx.fork h2;have aL:=hx.pc;have hcl:=hc.len;have qz:x.fam.kids.length<=3:=by have:=f3.len;have:=hp.k3;omega
 have qv:=f3.len3 hp.k3;have jC:=f3.readsL;unfold Zg9 WbG;simp only[r3,iM,kr,ld,lh,li,Wfg,Xd];rw[Wnd qz hN,Wle f3.regs qz (λy hy=>by
  obtain⟨i,hi,rfl⟩:=Xam hy;rw[(f3.kid i hi).regs.len];omega) hN,WmN (by have:=f3.buf8;omega) hN,WE (by omega),WbD (by omega),WcN (by omega),Wh2]
 by_cases hl:x.fam.lost=true
 .rw[Wb hl,Wb hl]
 .rw[Wa hl,Wa hl];simp only[ret,Xd,Wc];cases ho:Wa2 x.fam
  .rw[Wa (by simp)];rfl
  .rw[Wb rfl];rfl
theorem WqB(hk:k<w.roots.length)(aQ:w.roots[k]=x)(hp:POk p)(hx:RLive p n x)(h4:x.phase=4)(hm:W0 w.mem=true):
  Zfi N w.e k=some (((Wo.put (w,WaH w x) k).e,()),()):=by
 obtain⟨g1,g2,g3,g4,g5⟩:=woG hk aQ;obtain⟨r0,r1,r2,r3,r4,r5,r6,r7,r8,kp,jE,iM,iN,jg,jh,la,lb,kq,kr,ld,lh,li⟩:=rtP x;have hc:=hp.code;obtain⟨z1,z2,z3,z4,z5,z6⟩:=hx.sz hc;have hz:=hx.back (.inr h4);obtain⟨m,q,e1,e2,⟨ij,lj⟩,e4,e5,e6,e7,e8,e9,lS,nM,qx,qy,mV⟩:=hx.mk24 hc hz;have ca:=hx.pos h4;have aL:=hx.pc;have hcl:=hc.len;unfold Zfi WaH;simp only[WD];rw[show P5 w.e=w.roots.map Rt.e from rfl,g1,Wpg hz (by omega)];simp only[Xd,r4,r5,r6,iM,iN,WaP,Wfg,show w.e.2.2.1.2=w.mem.2 from rfl];by_cases hlt:x.pos<x.last.2.1
 .rw[Wb hlt,Wb hlt];have hj:x.pos.toNat<x.reads.length:=by omega
  have im:inb x.pos x.reads.length=true:=by unfold inb;simp;omega
  have hg:Xc x.reads (Xb x.pos) ((0:Int),(0:Int))=Wbu x.reads x.pos (0,0):=rfl;have hv:0<=(Wbu x.reads x.pos (0,0)).1/\(Wbu x.reads x.pos (0,0)).1<=7:=by
   unfold Wbu;rw[Wn hj];exact(hx.reads _ (Xp hj)).1
  rw[im,hg,Wg4 hm hv,show Xc w.mem.2 (Xb (Wbu x.reads x.pos (0,0)).1) ((0:Int),((0:Int),(0:Int)))=Ws w.mem (Wbu x.reads x.pos (0,0)).1 from rfl,WcN (by omega)];simp only[Wc,Wdp];by_cases a:(Ws w.mem (Wbu x.reads x.pos (0,0)).1).2.2=0
  .rw[Wb a];by_cases b:(Ws w.mem (Wbu x.reads x.pos (0,0)).1).2.1>x.rv
   .rw[Wb b,Wb (.inr b)];exact Wdg rfl rfl rfl
   .rw[Wa b,Wa (by omega)];exact Wdg rfl rfl rfl
  .rw[Wa a,Wb (.inl a)];exact Wdg rfl rfl rfl
 .rw[Wa hlt,Wa hlt];have b1:(decide ((0:Int)<=x.last.2.1)&&decide (x.last.2.1<=(x.reads.length:Int)))=true:=by simp;omega
  have b2:(decide ((0:Int)<=x.last.2.2.1)&&decide (x.last.2.2.1<=(x.writes.length:Int)))=true:=by simp;omega
  rw[b1,b2,WdG (by rw[Xba];omega),WdG (by rw[Xba];omega),WbD (by rw[e9.len];omega),WcN (by omega)];simp only[Wc,ret,Xd];exact Wdg rfl rfl rfl
theorem Wqd(hk:k<w.roots.length)(aQ:w.roots[k]=x)(mU:k<=8)(ie:CmOk x.cm)(hm:W0 w.mem=true)(hh:w.hist.length<=500000)(hN:1048576<N):
  Zfj N w.e (k:Int)=some (((Wo.put (W8 w x k) k).e,()),()):=by
 obtain⟨g1,g2,g3,g4,g5⟩:=woG hk aQ;obtain⟨r0,r1,r2,r3,r4,r5,r6,r7,r8,kp,jE,iM,iN,jg,jh,la,lb,kq,kr,ld,lh,li⟩:=rtP x;have aH:=Wmm ie hm;unfold Zfj W8;simp only[WD,WgF];rw[show P5 w.e=w.roots.map Rt.e from rfl,g4,g2,WcN (by omega),Xj];simp only[Wc,r7,kp,kq,show w.e.2.2.1=w.mem from rfl,show Q6 w.e=w.hist from rfl];rw[Wh2];by_cases hd:x.doomed=true
 .rw[Wb hd,Wb hd];obtain⟨b,hb⟩:=Wrr (N:=N) ie hN;rw[hb];simp only[Xd,WG,show(WA x.cm).e.2.2.1=(WA x.cm).phase from rfl];by_cases h8:(WA x.cm).phase=8
  .rw[Wb h8,Wb h8];have:S20 (WA x.cm).e (S11 false x.e)=Rt.e {x with cm:=WA x.cm,doomed:=false}:=rfl;rw[this,Wfg];exact Wdg rfl rfl rfl
  .rw[Wa h8,Wa h8];exact Wdg rfl rfl rfl
 .rw[Wa hd,Wa hd,Wnx ie hm hN];simp only[Xd];obtain⟨m',c',hq⟩:∃m' c',Wq w.mem x.cm=(m',c'):=⟨_,_,rfl⟩;rw[hq]at aH⊢;simp only at aH⊢;have jD:Zbe N (P5 c'.e)=ret c'.puts:=WdG (by have:=aH.1.plen;show c'.puts.length<=1048576;omega);have hS:S20 c'.e x.e=Rt.e {x with cm:=c'}:=rfl;rw[jD,hS,Wfg];simp only[ret,Xd];rw[WE (by simp;omega)];simp only[Wc,WG,WaP,show c'.e.2.2.1=c'.phase from rfl,show(Cm.e x.cm).2.2.1=x.cm.phase from rfl,show P4 c'.e=c'.wv from rfl];unfold Wae;simp only;by_cases h3:x.cm.phase<=3
  .rw[Wb h3];by_cases h4:c'.phase=4
   .rw[Wb h4,Wa (by omega),Wa (by omega),Wb (show x.cm.phase<=3/\c'.phase=4 from⟨h3,h4⟩),Wa (by omega),Wa (by omega)];exact Wdg (w':={w with mem:=m',hist:=w.hist++ [(c'.wv,(k:Int)+1,c'.puts)]}) rfl rfl rfl
   .rw[Wa h4,Wa (show¬(x.cm.phase<=3/\c'.phase=4)fromλh=>h4 h.2)];by_cases h8:c'.phase=8
    .rw[Wb h8,Wb h8];exact Wdg (w':={w with mem:=m'}) rfl rfl rfl
    .rw[Wa h8,Wa h8];by_cases h6:c'.phase=6
     .rw[Wb h6,Wb h6];by_cases h2:x.fate=2
      .rw[Wb h2,Wb h2];exact Wdg (w':={w with mem:=m'}) rfl rfl rfl
      .rw[Wa h2,Wa h2];exact Wdg (w':={w with mem:=m'}) rfl rfl rfl
     .rw[Wa h6,Wa h6];exact Wdg (w':={w with mem:=m'}) rfl rfl rfl
  .rw[Wa h3,Wa (show¬(x.cm.phase<=3/\c'.phase=4)fromλh=>h3 h.1)];by_cases h8:c'.phase=8
   .rw[Wb h8,Wb h8];exact Wdg (w':={w with mem:=m'}) rfl rfl rfl
   .rw[Wa h8,Wa h8];by_cases h6:c'.phase=6
    .rw[Wb h6,Wb h6];by_cases h2:x.fate=2
     .rw[Wb h2,Wb h2];exact Wdg (w':={w with mem:=m'}) rfl rfl rfl
     .rw[Wa h2,Wa h2];exact Wdg (w':={w with mem:=m'}) rfl rfl rfl
    .rw[Wa h6,Wa h6];exact Wdg (w':={w with mem:=m'}) rfl rfl rfl
end
section
section
variable{code:List Opn}{pc cE rl wl ul rt kZ ru:Nat}{ms q:List RM}{y:RM}{n n':Int}{x:Rt}{w:Wo}{p:Pg}{k:Nat}{o:Opn}
theorem Wh3(code:List Opn){a b:Nat}(h:a<=b):frk code a<=frk code b:=by
 simp_all [frk,List.Sublist.countP_le,List.take_sublist_take_left]
theorem RMk.mono(h:RMk code pc ms rl wl ul)(hs:stk code cE=stk code pc)(h1:rl<=rt)(h2:wl<=kZ)(h3:ul<=ru):RMk code cE ms rt kZ ru:=
 ⟨by rw[hs];exact h.pcs,λq hq=>by obtain⟨a,b,c,d⟩:=h.each q hq;grind,h.up⟩
theorem RMk.cut(h:RMk code pc ms rl wl ul)(rq:ms=q++ [y])(h1:y.2.1<=rt)(h2:y.2.2.1<=kZ)(h3:y.2.2.2.1<=ru):RMk code pc ms rt kZ ru:=by
 refine⟨h.pcs,λa ha=>?_,h.up⟩;obtain⟨c1,c2,c3,c4⟩:=h.each a ha;have hle:a.2.1<=y.2.1/\a.2.2.1<=y.2.2.1/\a.2.2.2.1<=y.2.2.2.1:=by
  have hu:=h.up;rw[rq]at ha hu;rcases Xm.1 ha with ha|ha
  .exact(Xah.1 hu).2.2 a ha y (by simp)
  simp_all
 grind
theorem RMk.begin(h:RMk code pc ms rl wl ul)(hp:pc<code.length)(h8:code[pc].1=8){regs:List Int}(hr:Vals 4 regs)(h1:rl<=pc+72*frk code pc)(h2:wl<=pc+8)(h3:ul<=pc):
  RMk code (pc+1) (ms++ [((pc:Int),(rl:Int),(wl:Int),(ul:Int),regs)]) rl wl ul:=by
 refine⟨?_,?_,?_⟩
 .rw[Wjv hp h8,Xu,Xu,h.pcs];rfl
 .intro q hq;rcases Xm.1 hq with hq|hq
  .exact h.each q hq
  grind
 .refine Xah.2 ⟨h.up,List.pairwise_singleton _ _,λa ha b hb=>?_⟩;rw[Xaf]at hb;subst hb;obtain⟨c1,c2,c3,c4⟩:=h.each a ha;simp_all
theorem RMk.drop(h:RMk code pc ms rl wl ul)(rq:ms=q++ [y])(hs:stk code cE=(stk code pc).dropLast)(h1:y.2.1<=rt)(h2:y.2.2.1<=kZ)(h3:y.2.2.2.1<=ru):RMk code cE q rt kZ ru:=by
 have h':=h.cut rq h1 h2 h3;subst rq;have e:=h.pcs;refine⟨?_,λa ha=>h'.each a (List.mem_append_left _ ha),(Xah.1 h.up).1⟩
 grind
theorem RLive.wk(h:RLive p n x)(hn:n<=n'):RLive p n' x:={h with fork:=λh2=>by obtain⟨a,b,c⟩:=h.fork h2;exact⟨a,b,c.wk hn⟩}
theorem ROk.wk(h:ROk p n x)(hn:n<=n'):ROk p n' x:={h with tries:=by have:=h.tries;omega,live:=λhl=>(h.live hl).wk hn}
theorem RLive.on(aG:CC p.1)(h:RLive p n x)(h1:x.phase=1){i:Nat}(hi:i<p.1.length)(aL:x.pc=i){regs:List Int}{reads writes:List Rw}{marks:List RM}{undos:List Un}{busy:Bool}{pb:Pb}{cE:Nat}
  (hp:cE<=p.1.length) (hlt:i<cE) (hr:Vals 4 regs) (jC:WfW reads) (df:reads.length<=x.reads.length+1) (uD:WfW writes) (qr:writes.length<=x.writes.length+1) (cI:undos.length<=x.undos.length+1) (hm:RMk p.1 cE marks reads.length writes.length undos.length) (hb:busy=true->WkG pb=true):
  RLive p n {x with regs:=regs,reads:=reads,writes:=writes,marks:=marks,undos:=undos,busy:=busy,pb:=pb,pc:=(cE:Int)} where
 pc:=by simp_all
 spare:=h.spare
 rv:=h.rv
 regs:=hr
 reads:=jC
 rl:=by
  have h2:=h.rl;have h3:=Wh3 p.1 (show i<=cE by omega)
  grind
 writes:=uD
 wl:=by have:=h.wl;grind
 ul:=by have:=h.ul;grind
 marks:=by simp_all
 pb:=hb
 fork:=λh2=>by simp_all
 back:=λh2=>by simp_all
 newRv:=h.newRv
 pos:=λh2=>by simp_all
 unw:=λh2=>by simp_all
theorem Vals.le4{r:List Int}(h:Vals 4 r):r.length<=4:=Nat.le_of_eq h.len
theorem We7(h:ROk p n x):ROk p n (WcP x) where
 phase:=by show(0:Int)<=6/\(6:Int)<=8;omega
 tries:=h.tries
 live:=λh=>by(change (1:Int)<=6/\(6:Int)<=4 at h;omega)
 comm:=λh=>by(change (6:Int)=5 at h;omega)
 undos:=h.undos
 ul:=h.ul
 rg:=by show([]:List Int).length<=4;simp
 ord:=by show([]:List Int).length<=3;simp
theorem WhB(h:ROk p n x)(hl:RLive p n x):ROk p n (WO x):=by
 unfold WO;split
 .exact We7 h
 .rename_i hc;exact{h with
   phase:=by simp_all
   live:=λ_=>{hl with
    spare:=by have:=hl.spare;grind
    pb:=λh=>by cases h
    fork:=λh=>by simp_all
    back:=λ_=>by simp_all
    pos:=λh=>by simp_all
    unw:=λh=>by simp_all}
   comm:=λh=>by simp_all}
structure QOk(p:Pg)(n:Int)(w:Wo)(q:Wo×Rt):Prop where
 root:ROk p n q.2
 mem:W0 q.1.mem=true
 shelf:ShOk q.1.shelf
 holds:HOk q.1.holds
 hist:q.1.hist.length<=w.hist.length+1
 histE:∀h∈q.1.hist,h∈w.hist\/HE h
 roots:q.1.roots=w.roots
 now:q.1.now=w.now
structure GOk(w:Wo):Prop where
 mem:W0 w.mem=true
 shelf:ShOk w.shelf
 holds:HOk w.holds
theorem GOk.st(h:GOk w){y:Rt}(hy:ROk p n y):QOk p n w (w,y):=⟨hy,h.mem,h.shelf,h.holds,by simp,λ_ hh=>.inl hh,rfl,rfl⟩
theorem GOk.qt(h:GOk w){y:Rt}(hy:ROk p n y)(t:Int):QOk p n w ({w with token:=t},y):=⟨hy,h.mem,h.shelf,h.holds,by simp,λ_ hh=>.inl hh,rfl,rfl⟩
theorem WrO(h:GOk w)(hx:ROk p n x):QOk p n w (Wj9 w x k):=by
 unfold Wj9;refine h.qt ?_ _;exact{hx with
  phase:=by simp_all
  live:=λh=>by simp_all
  comm:=λh=>by simp_all
  undos:=λu hu=>by cases hu
  ul:=by simp}
theorem Wm2(h:GOk w)(hx:ROk p n x)(di:0<=x.rv/\x.rv<=1000000)(hk:k<=8){out:Int}:QOk p n w (Waq w x k out):=by
 unfold Waq;simp only;generalize (if out=2 then []else x.writes)=rows;split
 .exact WrO (x:={x with fate:=out,stamp:=x.rv}) h
   {phase:=hx.phase,tries:=hx.tries,live:=λhh=>{hx.live hh with},comm:=hx.comm,undos:=hx.undos,ul:=hx.ul,rg:=hx.rg,ord:=hx.ord}
 .refine h.st ?_;exact{hx with
   phase:=by simp_all
   live:=λh=>by simp_all
   comm:=λ_=>WkX (by omega) di}
theorem Wgx{α:Type}{l:List α}(h:l.length≠0)(d:α):WhO l d∈l:=by
 grind [WhO,Wn,Xp]
theorem WkN(h:GOk w)(hx:ROk p n x)(hz:x.undos.length≠0)(aG:1<=x.phase/\x.phase<=4->CC p.1/\(x.marks.length≠0->x.last.2.2.2.1<x.undos.length)):QOk p n w (Wd6 w x):=by
 unfold Wd6;refine⟨?_,h.mem,Wp9 h.shelf (hx.undos _ (Wgx hz _)),h.holds,by simp,λ_ hh=>.inl hh,rfl,rfl⟩;have hdl:x.undos.dropLast.length=x.undos.length-1:=List.length_dropLast;exact{hx with
  live:=λhh=>by
   have hl:=hx.live hh;obtain⟨c1,c2⟩:=aG hh;exact{hl with
    ul:=by have:=hl.ul;grind
    unw:=λh4=>by have:=hl.unw h4;show(x.undos.dropLast.length:Int)<=x.last.2.2.2.1;omega
    marks:=by
     show RMk p.1 x.pc.toNat x.marks x.reads.length x.writes.length x.undos.dropLast.length;by_cases hm:x.marks.length=0
     .have:x.marks= []:=Xaa hm;have hM:=hl.marks;rw[this]at hM⊢;exact⟨hM.pcs,(λq hq=>by cases hq),hM.up⟩
     .obtain⟨m,q,e1,e2,⟨ij,lj⟩,e4,e5,e6,e7,e8,e9,lS,nM,qx,qy,mV⟩:=hl.mk24 c1 hm;have:=c2 hm;exact hl.marks.cut e1 lS.2.2 nM.2.2 (by omega)}
  undos:=λu hu=>hx.undos u (by grind [Xeq,Xbj])
  ul:=by have:=hx.ul;grind}
theorem Wux(aG:CC p.1)(h:GOk w)(hx:ROk p n x)(hl:RLive p n x)(h1:x.phase=1){i:Nat}(hi:i<p.1.length)(aL:x.pc=i)(h5:p.1[i].1=5):ROk p n (WcM w x p.1[i]):=by
 have aJ:=WvW (aG.ok i hi).1 h5;have hB:0<=p.1[i].2.2.1/\p.1[i].2.2.1<=7:=by grind [Waf]
 have hM:=hl.marks;rw[aL,Xj]at hM;have aH:stk p.1 (i+1)=stk p.1 i:=Weo hi (by omega) (by omega);have bZ:x.pc+1=((i+1:Nat):Int):=by omega
 unfold WcM;cases hlr:Wbg x.writes p.1[i].2.2.1 with
 |some v=>
  have hv:=hl.writes _ (WiA hlr).2;simp only[bZ];exact{hx with rg:=Vals.le4 (hl.regs.set _ hv.2),live:=λ_=>RLive.on aG hl h1 hi aL (by omega) (by omega) (hl.regs.set _ hv.2) hl.reads (by omega) hl.writes (by omega) (by omega) (hM.mono aH (by omega) (by omega) (by omega)) hl.pb}
 |none=>
  simp only;have ca:=WlW (rv:=x.rv) h.mem (Wrp hl.pb hB);generalize WW w.mem x.rv (if x.busy=true then x.pb else(p.1[i].2.2.1,0,0,0))=b at*;have hp:=We8.1 ca.1;have wX:RLive p n {x with busy:=true,pb:=b}:={hl with pb:=λ_=>ca.1};have hbo:ROk p n {x with busy:=true,pb:=b}:={hx with live:=λ_=>wX};split
  .grind [WhB]
  .split
   .simp only[bZ];refine{hx with rg:=Vals.le4 (hl.regs.set _ hp.2.2.2),live:=λ_=>RLive.on aG hl h1 hi aL (by omega) (by omega) (hl.regs.set _ hp.2.2.2) (λr hr=>?_) (by simp) hl.writes (by omega) (by omega) (hM.mono aH (by simp) (by omega) (by omega)) (λh=>by cases h)};rcases Xm.1 hr with hr|hr
    .exact hl.reads r hr
    simp_all
   omega
theorem WsZ(aG:CC p.1)(h:GOk w)(hx:ROk p n x)(hl:RLive p n x)(h1:x.phase=1)(hk:k<=8){i:Nat}(hi:i<p.1.length)(aL:x.pc=i):QOk p n w (WbT w x k p.1):=by
 have hM:=hl.marks;rw[aL,Xj]at hM;unfold WbT;split
 .exact Wm2 h hx hl.rv hk
 .rename_i hz;obtain⟨m,q,e1,e2,⟨ij,lj⟩,e4,e5,e6,e7,e8,e9,lS,nM,qx,qy,mV⟩:=hl.mk24 aG hz;split
  .grind [WkN]
  .refine h.st ?_;rw[e8];simp only[e2,Xj,←Int.natCast_succ];have hlen:=e5.len;have ht:(Xat x.last.2.2.1.toNat x.writes).length=x.last.2.2.1.toNat:=by simp_all
   refine{hx with rg:=Vals.le4 (e9.set _ (by omega)),live:=λ_=>RLive.on aG hl h1 hi aL (cE:=Wiw p.1 m+1) (by omega) (by omega) (e9.set _ (by omega)) hl.reads (by omega) (λr hr=>hl.writes r (Xbj hr)) (by omega) (by omega) ?_ hl.pb};exact hM.drop e1 (by rw[e5.st,e7,aL];rfl) (by omega) (by omega) (by omega)
theorem Wsv(aG:CC p.1)(h:GOk w)(hx:ROk p n x)(hl:RLive p n x)(h1:x.phase=1)(hk:k<=8){i:Nat}(hi:i<p.1.length)(aL:x.pc=i)(fv:12<=p.1[i].1):QOk p n w (WbR w x k p.1[i]):=by
 have ho:=(aG.ok i hi).1;have hM:=hl.marks;rw[aL,Xj]at hM;have aH:stk p.1 (i+1)=stk p.1 i:=Weo hi (by omega) (by omega);have bZ:x.pc+1=((i+1:Nat):Int):=by omega
 have cI:=hl.ul;have hcl:=aG.len;have tE:(0<=(WaK p.1[i]).1/\(WaK p.1[i]).1<=8)/\1<=(WaK p.1[i]).2/\(WaK p.1[i]).2<=2:=by
  grind [WaK,WoJ,Wfp,Wtx,Wuo,Wc7,Wvo]
 unfold WbR;cases ha:Wa4 w.holds ((k:Int)+1) (WaK p.1[i]).1 (WaK p.1[i]).2 with
 |none=>exact h.st (WhB hx hl)
 |some hs=>
  have AA:HOk hs:=by
   unfold Wa4 at ha;split at ha
   .injection ha with ha;subst ha;exact Wqh h.holds (by omega) tE.1 tE.2 ‹_›
   .cases ha
  obtain⟨b1,b2,b3,b4⟩:=WpY h.shelf hl.regs ho fv;simp only[bZ];refine⟨?_,h.mem,b1,AA,by simp,λ_ hh=>.inl hh,rfl,rfl⟩;by_cases hz:(Wbv w.shelf p.1[i] x.regs).2.2.1=0
  .simp only[Wb hz];exact{hx with rg:=Vals.le4 b2,live:=λ_=>RLive.on aG hl h1 hi aL (by omega) (by omega) b2 hl.reads (by omega) hl.writes (by omega) (by omega) (hM.mono aH (by omega) (by omega) (by omega)) hl.pb}
  .simp only[Wa hz];refine{hx with rg:=Vals.le4 b2,live:=λ_=>RLive.on aG hl h1 hi aL (by omega) (by omega) b2 hl.reads (by omega) hl.writes (by omega) (by simp) (hM.mono aH (by omega) (by omega) (by simp)) hl.pb,undos:=λu hu=>?_,ul:=by simp;omega};rcases Xm.1 hu with hu|hu
   .exact hx.undos u hu
   simp_all
theorem Wvx(hp:POk p)(h:GOk w)(hx:ROk p n x)(h1:x.phase=1)(hk:k<=8)(hn:0<=n):QOk p n w (Wdy w x k p):=by
 have hl:=hx.live (by omega);have aG:=hp.code;unfold Wdy;split
 .exact Wm2 h hx hl.rv hk
 .obtain⟨i,hi,aL,ho⟩:=WfF (l:=p.1) hl.pc.1 (by omega);simp only[ho];obtain⟨ok,o1,je⟩:=aG.ok i hi;have hM:=hl.marks;rw[aL,Xj]at hM;have bZ:x.pc+1=((i+1:Nat):Int):=by omega
  have df:=hl.rl;have qr:=hl.wl;have cI:=hl.ul;rw[aL,Xj]at df;split
  .exact h.st (Wux aG h hx hl h1 hi aL ‹_›)
  .split
   .grind [WsZ]
   .split
    .rename_i fI;refine h.st ?_;exact{hx with
      phase:=by simp_all
      live:=λ_=>{hl with
       fork:=λ_=>⟨by simp_all,by simp_all,Wro hl.regs hn⟩
       back:=λh=>by simp_all
       pos:=λh=>by simp_all
       unw:=λh=>by simp_all}
      comm:=λh=>by simp_all}
    .split
     .grind [Wsv]
     .split
      .refine h.st ?_;have hk:=Wwe ok ‹_›;have aH:stk p.1 (i+1)=stk p.1 i:=Weo hi (by omega) (by omega);simp only[bZ];refine{hx with live:=λ_=>RLive.on aG hl h1 hi aL (by omega) (by omega) hl.regs hl.reads (by omega) (λr hr=>?_) (by simp) (by omega) (hM.mono aH (by omega) (by simp) (by omega)) hl.pb};rcases Xm.1 hr with hr|hr
       .exact hl.writes r hr
       .rw[Xaf]at hr;subst hr;have:=hk.1;unfold Waf at this;exact⟨by simp_all,hl.regs.get _⟩
      .split
       .refine h.st ?_;obtain⟨s1,s2⟩:=aG.sk i hi ‹_›;have hk:=Wvm ok ‹_›;have aH:stk p.1 (i+1)=stk p.1 i:=Weo hi (by omega) (by omega);have qu:stk p.1 (i+1+p.1[i].2.2.1.toNat)=stk p.1 i:=by grind [WkE]
        by_cases hg:Wbu x.regs p.1[i].2.1 0=0
        .simp only[Wb hg,show x.pc+p.1[i].2.2.1+1=((i+1+p.1[i].2.2.1.toNat:Nat):Int) by omega];exact{hx with live:=λ_=>RLive.on aG hl h1 hi aL s1 (by omega) hl.regs hl.reads (by omega) hl.writes (by omega) (by omega) (hM.mono qu (by omega) (by omega) (by omega)) hl.pb}
        .simp only[Wa hg,bZ];exact{hx with live:=λ_=>RLive.on aG hl h1 hi aL (by omega) (by omega) hl.regs hl.reads (by omega) hl.writes (by omega) (by omega) (hM.mono aH (by omega) (by omega) (by omega)) hl.pb}
       .split
        .refine h.st ?_;simp only[bZ];rw[aL];exact{hx with live:=λ_=>RLive.on aG hl h1 hi aL (by omega) (by omega) hl.regs hl.reads (by omega) hl.writes (by omega) (by omega) (hM.begin hi ‹_› hl.regs (by omega) (by omega) (by omega)) hl.pb}
        .split
         .rename_i h9;refine h.st ?_;have hz:x.marks.length≠0:=λhz=>by
           have h1:=Wl Xa hM.pcs;simp only[Xae,hz]at h1;have h2:=WbJ aG.up i (by omega);have h3:=aG.up i hi
           grind [WaQ,Wqi]
          obtain⟨m,q,e1,e2,⟨ij,lj⟩,e4,e5,e6,e7,e8,e9,lS,nM,qx,qy,mV⟩:=hl.mk24 aG hz;simp only[bZ];rw[e8];exact{hx with rg:=Vals.le4 (hl.regs.set _ (by omega)),live:=λ_=>RLive.on aG hl h1 hi aL (by omega) (by omega) (hl.regs.set _ (by omega)) hl.reads (by omega) hl.writes (by omega) (by omega) (hM.drop e1 (Wlz hi h9) (by omega) (by omega) (by omega)) hl.pb}
         .refine h.st ?_;have aH:stk p.1 (i+1)=stk p.1 i:=Weo hi (by omega) (by omega);simp only[bZ];exact{hx with rg:=Vals.le4 (WhS ok (by omega) (by omega) hl.regs),live:=λ_=>RLive.on aG hl h1 hi aL (by omega) (by omega) (WhS ok (by omega) (by omega) hl.regs) hl.reads (by omega) hl.writes (by omega) (by omega) (hM.mono aH (by omega) (by omega) (by omega)) hl.pb}
theorem WtB(h:GOk w)(hx:ROk p n x)(hu:x.phase=0)(hcl:0<=(p.1.length:Int)):QOk p n w (Wdf w x k):=by
 have ma:=Wz h.mem;unfold Wdf;split
 .exact h.st hx
 .split
  .exact h.qt hx _
  .split
   .exact h.st hx
   .refine h.st ?_;exact{
     phase:=by simp_all
     tries:=hx.tries
     live:=λ_=>{
      pc:=by simp_all
      spare:=by simp_all
      rv:=⟨ma.2.1,ma.2.2.1⟩
      regs:=⟨rfl,λv hv=>by simp_all⟩
      reads:=λr hr=>by cases hr
      rl:=by simp;omega
      writes:=λr hr=>by cases hr
      wl:=by simp
      ul:=by simp
      marks:=⟨by simp[stk],(λq hq=>by cases hq),List.Pairwise.nil⟩
      pb:=λh=>by cases h
      fork:=λh=>by simp_all
      back:=λh=>by simp_all
      newRv:=by simp_all
      pos:=λh=>by simp_all
      unw:=λh=>by simp_all}
     comm:=λh=>by simp_all
     undos:=λu hu=>by cases hu
     ul:=by simp
     rg:=by simp
     ord:=by simp}
theorem Wl9{codes:List (List Opn)}{f:Fm}(h:FOk codes n f):WfW (WfS f)/\(WfS f).length<=8:=by
 refine⟨λr hr=>?_,by unfold WfS;rw[Xae];exact h.buf8⟩;obtain⟨e,he,rfl⟩:=Xw.1 hr;have:=h.bufE e he;omega
theorem WjT{codes:List (List Opn)}{f:Fm}(h:FOk codes n f)(h3:codes.length<=3):Vals 4 (Wed f):=by
 have hl:=h.len;have hr:=h.regs;unfold Wed;rw[Wb ⟨Wfl.2 hr,by omega⟩];refine⟨by simp[hr.len];omega,λv hv=>?_⟩;rcases Xm.1 hv with hv|hv
 .obtain⟨y,hy,rfl⟩:=Xw.1 hv;unfold WmE;split
  .rename_i hc;exact(Wfl.1 hc.2).get _
  .omega
 .exact hr.val v (List.mem_of_mem_drop hv)
theorem WtG(hp:POk p)(hx:ROk p n x)(h2:x.phase=2):ROk p n (WbG x):=by
 have hl:=hx.live (by omega);have aG:=hp.code;obtain⟨f1,f2,f3⟩:=hl.fork h2;obtain⟨i,hi,aL,ho⟩:=WfF (l:=p.1) hl.pc.1 f1;rw[ho]at f2;have hM:=hl.marks;have df:=hl.rl;have cI:=hl.ul;rw[aL,Xj]at hM df;unfold WbG;split
 .exact We7 hx
 .split
  .have hz:x.marks= []:=by
    have h1:=Wl Xa hM.pcs;simp only[Xae]at h1;have h3:=WbJ aG.up i (by omega);have h4:=(aG.fk i hi f2).1;simp_all
   have aH:stk p.1 (i+1)=stk p.1 i:=Weo hi (by omega) (by omega);have AB:=Wl9 f3;have qv:=f3.len3 hp.k3;have AC:=f3.readsL;have wY:frk p.1 (i+1)=frk p.1 i+1:=by grind [Web]
   exact{hx with
    phase:=by simp_all
    rg:=(WjT f3 hp.k3).le4
    ord:=qv
    live:=λ_=>{hl with
     pc:=by grind
     regs:=WjT f3 hp.k3
     reads:=λr hr=>by
      rcases Xm.1 hr with hr|hr
      .exact hl.reads r hr
      .exact f3.readsE r hr
     rl:=by
      grind
     writes:=AB.1
     wl:=by grind
     ul:=by grind
     marks:=by
      show RMk p.1 (x.pc+1).toNat x.marks _ _ _;rw[show(x.pc+1).toNat=i+1 by omega];rw[hz]at hM⊢;exact⟨by rw[aH];exact hM.pcs,(λq hq=>by cases hq),List.Pairwise.nil⟩
     fork:=λh=>by simp_all
     back:=λh=>by simp_all
     pos:=λh=>by simp_all
     unw:=λh=>by simp_all}
    comm:=λh=>by simp_all}
  .exact hx
theorem WpX(hp:POk p)(h:GOk w)(hx:ROk p n x)(h3:x.phase=3):QOk p n w (Wa3 w x):=by
 have hl:=hx.live (by omega);have hz:=hl.back (.inl h3);obtain⟨m,q,e1,e2,⟨ij,lj⟩,e4,e5,e6,e7,e8,e9,lS,nM,qx,qy,mV⟩:=hl.mk24 hp.code hz;have ma:=Wz h.mem;unfold Wa3;split
 .exact WkN h hx (by omega) λ_=>⟨hp.code,λ_=>by omega⟩
 .refine h.st ?_;exact{hx with
   phase:=by simp_all
   live:=λ_=>{hl with
    fork:=λh=>by simp_all
    back:=λ_=>hz
    newRv:=⟨ma.2.1,ma.2.2.1⟩
    pos:=λ_=>by(show(0:Int)<=0/\(0:Int)<=x.last.2.1;omega)
    unw:=λ_=>by(show(x.undos.length:Int)<=x.last.2.2.2.1;omega)}
   comm:=λh=>by simp_all}
theorem WqZ(hp:POk p)(h:GOk w)(hx:ROk p n x)(h4:x.phase=4):ROk p n (WaH w x):=by
 have hl:=hx.live (by omega);have hz:=hl.back (.inr h4);have ca:=hl.pos h4;obtain⟨m,q,e1,e2,⟨ij,lj⟩,e4,e5,e6,e7,e8,e9,lS,nM,qx,qy,mV⟩:=hl.mk24 hp.code hz;unfold WaH;split
 .simp only;split
  .exact We7 hx
  .exact{hx with live:=λ_=>{hl with pos:=λ_=>by(show 0<=x.pos+1/\x.pos+1<=x.last.2.1;omega)}}
 .rename_i fy;have aH:stk p.1 (m+1)=stk p.1 x.pc.toNat:=by
   have AD:=hl.pc;rw[Wjv ij lj,e7];rcases Wbn (stk p.1 x.pc.toNat)with h0|⟨t,j,ht⟩
   .have h1:=Wl Xa hl.marks.pcs;simp_all
   .have h1:=hl.marks.pcs;rw[e1,ht]at h1;simp only[Xu,Xak,List.map_nil]at h1;have h2:=(List.append_inj' h1 rfl).2;injection h2 with h2;rw[e2]at h2;rw[ht,List.dropLast_concat,show m=j by omega]
  have vE:=Wh3 p.1 (show m<=m+1 by omega);rw[e2,Xj]at lS;have bZ:x.last.1+1=((m+1:Nat):Int):=by omega
  have t1:(Xat x.last.2.1.toNat x.reads).length=x.last.2.1.toNat:=by simp_all
  have t2:(Xat x.last.2.2.1.toNat x.writes).length=x.last.2.2.1.toNat:=by simp_all
  exact{hx with
   phase:=by simp_all
   rg:=e9.le4
   live:=λ_=>{hl with
    pc:=by grind
    rv:=hl.newRv
    regs:=e9
    reads:=λr hr=>hl.reads r (Xbj hr)
    rl:=by
     grind
    writes:=λr hr=>hl.writes r (Xbj hr)
    wl:=by grind
    ul:=by
     show(x.undos.length:Int)<=x.last.1+1;have:=hl.unw h4;omega
    marks:=by
     show RMk p.1 (x.last.1+1).toNat x.marks (Xat x.last.2.1.toNat x.reads).length (Xat x.last.2.2.1.toNat x.writes).length x.undos.length;rw[bZ,Xj,t1,t2];exact(hl.marks.cut e1 (by omega) (by omega) mV).mono aH (Xn _) (Xn _) (Xn _)
    fork:=λh=>by simp_all
    back:=λh=>by omega
    newRv:=by simp_all
    pos:=λh=>by simp_all
    unw:=λh=>by simp_all}
   comm:=λh=>by simp_all}
end
end
section
section
variable{N:Nat}{w:Wo}{k:Nat}{x:Rt}{p:Pg}{n:Int}{ps:List Pg}
theorem WqY(h:GOk w)(hx:ROk p n x)(h5:x.phase=5)(hk:k<=8):QOk p n w (W8 w x k):=by
 have hc:=hx.comm h5;unfold W8;split
 .split
  .exact h.st (We7 hx)
  .refine h.st ?_;exact{hx with live:=λhh=>by simp_all,comm:=λ_=>Wqn hc}
 .have aH:=Wmm hc h.mem;obtain⟨m',c',hq⟩:∃m' c',Wq w.mem x.cm=(m',c'):=⟨_,_,rfl⟩;simp only[hq]at aH⊢;refine⟨?_,aH.2,h.shelf,h.holds,?_,?_,rfl,rfl⟩
  .have hy:ROk p n {x with cm:=c'}:={hx with live:=λhh=>by simp_all,comm:=λ_=>aH.1};unfold Wae;simp only;split
   .exact We7 hy
   .split
    .have aX:(if x.fate=2 then(6:Int)else 7)=6\/(if x.fate=2 then(6:Int)else 7)=7:=by split<;>simp
     generalize (if x.fate=2 then(6:Int)else 7)=ph at*;exact{hx with
      phase:=by grind
      live:=λhh=>by grind
      comm:=λhh=>by simp_all}
    .exact hy
  .simp only;split<;>simp
  .simp only;intro h hh;split at hh
   .rcases Xm.1 hh with hh|hh
    .grind
    .rw[Xaf]at hh;subst hh;exact .inr ⟨aH.1.plen,aH.1.rows,by grind,by grind⟩
   simp_all
theorem WhY(hp:POk p)(h:GOk w)(hx:ROk p n x)(hk:k<=8)(hn:0<=n):QOk p (n+1) w (WB w x k p):=by
 have lz:=hx.wk (show n<=n+1 by omega);unfold WB;by_cases hd:x.doomed=true/\1<=x.phase/\x.phase<=4
 .rw[Wb hd];exact h.st (We7 lz)
 rw[Wa hd];by_cases h0:x.phase=0
 .simp_all [Wb,WtB]
 rw[Wa h0];by_cases h1:x.phase=1
 .rw[Wb h1];grind [Wvx]
 rw[Wa h1];by_cases h2:x.phase=2
 .rw[Wb h2];exact h.st (WtG hp lz h2)
 rw[Wa h2];by_cases h3:x.phase=3
 .simp_all [Wb,WpX]
 rw[Wa h3];by_cases h4:x.phase=4
 .rw[Wb h4];exact h.st (WqZ hp h lz h4)
 rw[Wa h4];by_cases h5:x.phase=5
 .simp_all [Wb,WqY]
 rw[Wa h5];by_cases h6:x.phase=6
 .rw[Wb h6];by_cases hz:x.undos.length>0
  .rw[Wb hz];grind [WkN]
  .rw[Wa hz];refine h.st ?_;exact{lz with
    phase:=by simp_all
    live:=λhh=>by simp_all
    comm:=λhh=>by simp_all}
 rw[Wa h6];by_cases h7:x.phase=7
 .rw[Wb h7];have hg:GOk {w with holds:=W7 w.holds ((k:Int)+1)}:=⟨h.mem,h.shelf,WiJ h.holds⟩;by_cases hf:x.fate=0
  .rw[Wb hf];refine⟨?_,h.mem,h.shelf,WiJ h.holds,by simp,λ_ hh=>.inl hh,rfl,rfl⟩;exact{
    phase:=by simp_all
    tries:=by have:=hx.tries;grind
    live:=λhh=>by simp_all
    comm:=λhh=>by simp_all
    undos:=λu hu=>by cases hu
    ul:=by simp
    rg:=by simp
    ord:=by simp}
  .rw[Wa hf];have:=WrO (k:=k) hg lz;exact⟨this.root,this.mem,this.shelf,this.holds,this.hist,this.histE,this.roots,this.now⟩
 .rw[Wa h7];exact h.st lz
theorem WtR(hk:k<w.roots.length)(aQ:w.roots[k]=x)(ku:w.roots.length<=8)(hp:POk p)(h:GOk w)(hx:ROk p n x)(hn:n<=200000)(hh:w.hist.length<=500000)(hN:1048576<N):
  Zgm N w.e (k:Int) p=some (((Wo.put (WB w x k p) k).e,()),()):=by
 obtain⟨g1,g2,g3,g4,g5⟩:=woG hk aQ;obtain⟨r0,r1,r2,r3,r4,r5,r6,r7,r8,kp,jE,iM,iN,jg,jh,la,lb,kq,kr,ld,lh,li⟩:=rtP x;have ry:k<=8:=by omega
 have gP:=Wpo hk aQ;have lT:=hx.tries;have AE:=hx.ul;have u6:=Wld h.holds;unfold Zgm WB;simp only[WD];rw[show P5 w.e=w.roots.map Rt.e from rfl,g4,g2,WcN (by omega),WcN (show 0<=x.e.2.1/\x.e.2.1<=1000000 by omega)];simp(maxSteps:=4000000) only[g3,r0,r7,kp,jh,Wc,W3,ret,Xd,Wfg,WG,WaP,show w.e.2.2.1.1=w.mem.1 from rfl,Wj,show P4 w.e=w.holds from rfl];rw[WhR h.holds (by omega) hN];simp only[ret,Xd];have hS4:S4 (W7 w.holds ((k:Int)+1)) w.e=Wo.e {w with holds:=W7 w.holds ((k:Int)+1)}:=rfl;have AF:S5 (Xl (w.roots.map Rt.e) (Xb (k:Int)) x.e) (S4 (W7 w.holds ((k:Int)+1)) w.e)=Wo.e {w with holds:=W7 w.holds ((k:Int)+1)}:=(woG (w:={w with holds:=W7 w.holds ((k:Int)+1)}) hk aQ).2.2.1;rw[AF,Wrc (w:={w with holds:=W7 w.holds ((k:Int)+1)}) hk aQ (by omega),Wuk hk aQ ku hN];have gG:∀(A:Option ((Y_World×Unit)×Unit)),A=some (((Wo.put (
   if x.phase=0 then Wdf w x k else
   if x.phase=1 then Wdy w x k p else
   if x.phase=2 then(w,WbG x)else
   if x.phase=3 then Wa3 w x else
   if x.phase=4 then(w,WaH w x)else
   if x.phase=5 then W8 w x k else
   if x.phase=6 then(if x.undos.length>0 then Wd6 w x else(w,{x with phase:=7}))else
   if x.phase=7 then
    (if x.fate=0 then({w with holds:=W7 w.holds ((k:Int)+1)},{tries:=x.tries+1})
     else Wj9 {w with holds:=W7 w.holds ((k:Int)+1)} x k)
   else(w,x)) k).e,()),())->¬(x.doomed=true/\1<=x.phase/\x.phase<=4)->A=some (((Wo.put (
   if x.doomed=true/\1<=x.phase/\x.phase<=4 then(w,WcP x)else
   if x.phase=0 then Wdf w x k else
   if x.phase=1 then Wdy w x k p else
   if x.phase=2 then(w,WbG x)else
   if x.phase=3 then Wa3 w x else
   if x.phase=4 then(w,WaH w x)else
   if x.phase=5 then W8 w x k else
   if x.phase=6 then(if x.undos.length>0 then Wd6 w x else(w,{x with phase:=7}))else
   if x.phase=7 then
    (if x.fate=0 then({w with holds:=W7 w.holds ((k:Int)+1)},{tries:=x.tries+1})
     else Wj9 {w with holds:=W7 w.holds ((k:Int)+1)} x k)
   else(w,x)) k).e,()),()):=λA hA hn=>by grind
 have tG:(if x.phase=0 then(some (((Wo.put (Wdf w x k) k).e,()),()):Option ((Y_World×Unit)×Unit)).bind (λo6=>some ((o6.1.1,()),()))
   else if x.phase=1 then(Zg8 N w.e (k:Int) p).bind (λo7=>some ((o7.1.1,()),()))
   else if x.phase=2 then(Zg9 N x.e).bind (λo8=>some ((S5 (Xl (w.roots.map Rt.e) (Xb (k:Int)) o8.1.1) w.e,()),()))
   else if x.phase=3 then(Zdd N x.e).bind (λo9=>if(x.undos.length:Int)>o9.2.1.2.2.2 then(Zb7 N w.e (Xb (k:Int))).bind (λcr=>some ((cr.1.1,()),()))else some ((S5 (Xl (w.roots.map Rt.e) (Xb (k:Int)) (S6 0 (S5 w.mem.1 (S0 4 x.e)))) w.e,()),()))
   else if x.phase=4 then(Zfi N w.e (Xb (k:Int))).bind (λjd=>some ((jd.1.1,()),()))
   else if x.phase=5 then(Zfj N w.e (k:Int)).bind (λd6=>some ((d6.1.1,()),()))
   else if x.phase=6 then(if(x.undos.length:Int)>0 then(Zb7 N w.e (Xb (k:Int))).bind (λcF=>some ((cF.1.1,()),()))else some ((S5 (Xl (w.roots.map Rt.e) (Xb (k:Int)) (7,x.e.2)) w.e,()),()))
   else if x.phase=7 then(if x.fate=0 then some ((S5 (Xl (w.roots.map Rt.e) (Xb (k:Int)) ((0:Int),(x.e.2.1+1,((0:Int),((0:Int),((0:Int),((0:Int),((0:Int),((0:Int),((0:Int),((0:Int),((0:Int),(false,(([]:List Int),(([]:List Kc),(([]:List Kc),(([]:List Ki),(([]:List Kb),(([]:List Int),(false,(((0:Int),((0:Int),((0:Int),(0:Int)))),(((0:Int),((0:Int),((0:Int),((0:Int),((0:Int),(([]:List Kc),([]:List Int))))))),d_Family)))))))))))))))))))))) (S4 (W7 w.holds ((k:Int)+1)) w.e),()),())else(some (((Wo.put (Wj9 {w with holds:=W7 w.holds ((k:Int)+1)} x k) k).e,()),()):Option ((Y_World×Unit)×Unit)).bind (λny=>some ((ny.1.1,()),())))
   else some ((w.e,()),()))=some (((Wo.put (
   if x.phase=0 then Wdf w x k else
   if x.phase=1 then Wdy w x k p else
   if x.phase=2 then(w,WbG x)else
   if x.phase=3 then Wa3 w x else
   if x.phase=4 then(w,WaH w x)else
   if x.phase=5 then W8 w x k else
   if x.phase=6 then(if x.undos.length>0 then Wd6 w x else(w,{x with phase:=7}))else
   if x.phase=7 then
    (if x.fate=0 then({w with holds:=W7 w.holds ((k:Int)+1)},{tries:=x.tries+1})
     else Wj9 {w with holds:=W7 w.holds ((k:Int)+1)} x k)
   else(w,x)) k).e,()),()):=by
  rw[Xj];by_cases h0:x.phase=0
  .simp_all
  .rw[Wa h0,Wa h0];by_cases h1:x.phase=1
   .rw[Wb h1,Wb h1,Wv6 hk aQ ry hp (hx.live (by omega)) hx.undos h.mem h.shelf h.holds hN];rfl
   .rw[Wa h1,Wa h1];by_cases h2:x.phase=2
    .rw[Wb h2,Wb h2,WtI hp (hx.live (by omega)) h2 hN];exact Wdg rfl rfl rfl
    .rw[Wa h2,Wa h2];by_cases h3:x.phase=3
     .have hl:=hx.live (by omega);obtain⟨z1,z2,z3,z4,z5,z6⟩:=hl.sz hp.code;rw[Wb h3,Wb h3,Wmq (hl.back (.inl h3)) (by omega)];simp only[Xd];have ch:=(hl.mk24 hp.code (hl.back (.inl h3)));obtain⟨m,q,e1,e2,_,_,_,_,_,_,_,_,_,mV⟩:=ch;unfold Wa3;by_cases hgt:(x.undos.length:Int)>x.last.2.2.2.1
      .rw[Wb hgt,Wb hgt,Wk7 hk aQ (by omega) (by omega) hx.undos h.shelf hN];rfl
      .rw[Wa hgt,Wa hgt];exact Wdg rfl rfl rfl
     .rw[Wa h3,Wa h3];by_cases h4:x.phase=4
      .rw[Wb h4,Wb h4,WqB hk aQ hp (hx.live (by omega)) h4 h.mem];rfl
      .rw[Wa h4,Wa h4];by_cases h5:x.phase=5
       .rw[Wb h5,Wb h5,Wqd hk aQ ry (hx.comm h5) h.mem hh hN];rfl
       .rw[Wa h5,Wa h5];by_cases h6:x.phase=6
        .rw[Wb h6,Wb h6];by_cases hz:x.undos.length>0
         .rw[Wb (by omega),Wb hz,Wk7 hk aQ (by omega) (by omega) hx.undos h.shelf hN];rfl
         .rw[Wa (by omega),Wa hz];exact Wdg rfl rfl rfl
        .rw[Wa h6,Wa h6];by_cases h7:x.phase=7
         .rw[Wb h7,Wb h7];by_cases hf:x.fate=0
          .rw[Wb hf,Wb hf,hS4];exact Wdg (w:=w) (w':={w with holds:=W7 w.holds ((k:Int)+1)}) (x':={tries:=x.tries+1}) rfl rfl rfl
          .rw[Wa hf,Wa hf];rfl
         simp_all
 rw[Wh2];by_cases hd:x.doomed=true
 .rw[Wb hd];by_cases aX:1<=x.phase/\x.phase<=4
  .rw[Wf aX.1,Wf aX.2,Wb (show x.doomed=true/\1<=x.phase/\x.phase<=4 from⟨hd,aX⟩),Xj];exact Wdg rfl rfl rfl
  .have hb:(decide (1<=x.phase)&&decide (x.phase<=4))=false:=by
    rw[Xdn,Ww,Ww];omega
   rw[hb];exact gG _ tG (λhc=>aX hc.2)
 grind
end
end
end Go.Sx
