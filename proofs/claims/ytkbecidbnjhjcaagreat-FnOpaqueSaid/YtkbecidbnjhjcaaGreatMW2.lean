/- Plain laws of the Lean functions. -/
import Derived.Test.YtkbecidbnjhjcaaGreatMW1
open List renaming mem_cons_self→Xh,mem_cons_of_mem→Xe,length_append→Xac,append_assoc→Xbj,singleton_append→Xel,length_cons→Xx,map_cons→Xam,append→Xf,set→Xk,getD→Xb,mem_map→Xt,length_set→Xaf,set_set→Xdy,length_nil→Xdw,nil_append→Xbs,length_map→Xu,replicate→Xw,getElem?_eq_getElem→Xp,getElem_mem→Xo,getElem_set→Xaq,length→Xc,all_eq_true→Xai,getElem_replicate→Xbc,drop_length→Xdg,drop_eq_getElem_cons→Xch,pairwise_iff_getElem→Xal,filter_cons→Xbg,append_eq→Xak,mem_append→Xm,mem_singleton→Xaa,eq_nil_of_length_eq_zero→Xab,mem_filter→Xas,getElem_of_mem→Xbn,take→Xau,filter_eq_self→Xga,set_getElem_self→Xbi,dropLast_eq_take→Xfv,length_take→Xaw,pairwise_append→Xaj,map_append→Xz,mem_of_mem_take→Xbq
open Option renaming bind_some→Xd,getD_some→Xei,isSome_some→Xgh
open Nat renaming le_refl→Xn,zero_add→Xba,sub_zero→Xde,lt_trichotomy→Xdl
open Bool renaming not_true→Xr,and_self→Xbo,and_eq_true→Xi,and_eq_false_iff→Xdo,not_false→Xdm,false_eq_true→Xbl,true_and→Xcd
open Int renaming toNat→Xa,toNat_natCast→Xj,tdiv_eq_ediv_of_nonneg→Xdt
namespace Go.Sx
set_option linter.unusedVariables false
set_option linter.unusedSimpArgs false
section
theorem Wjv{α β R:Type}{body:Int->α->List β->(List β->Option R)->Option R}{K:Int->List β->Option R}{f:α->β}:∀(l:List α) (d r:List β),l.length<=r.length->
  (∀(j:Nat) x (v:List β) k,x∈l->j<v.length->body j x v k=k (v.set j (f x)))->Wb2 body K l d.length (d++r)=K ((d.length+l.length:Nat):Int) (d++(l.map f++r.drop l.length))
 | [],d,r,_,_=>by simp[Wb2]
 |x::l,d,[],h,_=>by simp at h
 |x::l,d,y::r,h,hb=>by
  rw[Wb2,hb d.length x _ _ (Xh ..) (by simp),WiU];have:=Wjv (body:=body) (K:=K) (f:=f) l (d++ [f x]) r (by grind) λj z v k hz=>hb j z v k (Xe _ hz);simp only[Xac,List.length_singleton,Xbj,Xel]at this;rw[this];simp only[Xx,Xam,List.drop_succ_cons,List.cons_append];rw[show d.length+1+l.length=d.length+(l.length+1) by omega]
theorem WkO{α:Type}{R:Type}{l:List α}{p:α->Bool}{lp:Nat->Int->Option R}{N:Nat}{K0:Int->Option R}{K1:Option R}(hl:l.length<N)(fL:l.length<=1048576)(hs:∀n (j:Nat) (h:j<l.length),lp (n+1) (j:Int)=bif p l[j]then K0 j else lp n ((j+1:Nat):Int))(he:∀n,lp (n+1) (l.length:Int)=K1):lp N 0=match fnd p l 0 with|some r=>K0 r.1|none=>K1:=by
 have h1:=Wy (l:=l) (V:=Unit) (lp:=λn j _=>lp n j) hl (body:=λj x v k=>bif p x then K0 j else k v) (K:=λ_ _=>K1) (λn j v h=>hs n j h) (λn v=>he n) ();refine h1.trans ?_;rw[WfT (p:=p) (E:=λj _=>K0 j) l 0 () (λj x v k _=>rfl)];cases fnd p l 0<;>rfl
theorem Wj2{α:Type}{p:α->Bool}:∀(l:List α) (j:Nat),(fnd p l j).isSome=l.any p
 | [],_=>rfl
 |x::l,j=>by
  unfold fnd;rw[List.any_cons];cases p x
  .simp[Wj2 l]
  .rfl
variable{N:Nat}
theorem Wmx{f:Fm}(h3:f.kids.length<=3)(hN:1048576<N):Zm0 N f.e=ret (Wfx f):=by
 unfold Zm0 Zag Zr;have e:f.e.2.2.2.2.2.2.2.2.2=f.kids.map Kd.e:=rfl;rw[e];have hl:(f.kids.map Kd.e).length<=3:=by simpa using h3
 have h1:=WkO (l:=f.kids.map Kd.e) (p:=λx=>x.1 !=3) (N:=N) (lp:=λn j=>Zg N (f.kids.map Kd.e) (λay=>(some ((),(ay,())))) (λai aF=>(some ((),((-1:Int),())))) n j) (K0:=λj=>some ((),(j,()))) (K1:=some ((),((-1:Int),()))) (by omega) (by omega)
  (λn j hj=>by
   simp only[Zg,WU hj,Wp hj,Wv hj,Wn (show j<4611686018427387904 by omega),We,Znz,Xd])
  (λn=>by simp only[Zg,WZ (Xn _),Wc])
 rw[h1];have h2:=Wj2 (p:=λx:Y_KidRun=>x.1 !=3) (f.kids.map Kd.e) 0;have h3:(f.kids.map Kd.e).any (λx=>x.1 !=3)= !Wfx f:=by
  unfold Wfx;rw[List.any_map,←Wb6];have:((λx:Y_KidRun=>x.1 !=3)∘Kd.e)= λx:Kd=>!decide (x.phase=3):=by
   funext x;show(x.phase !=3)= !decide (x.phase=3);by_cases h:x.phase=3<;>simp[h]
  rw[this]
 rw[h3]at h2;cases hf:fnd (λx:Y_KidRun=>x.1 !=3) (f.kids.map Kd.e) 0 with
 |some r=>
  rw[hf]at h2;simp only[Xd,Wf (show((r.1:Int)>=0) by omega),Xr,ret];rw[show Wfx f=false by simpa using h2.symm]
 |none=>
  rw[hf]at h2;rw[show Wfx f=true by simpa using h2.symm];rfl
theorem WmE{f:Fm}(h:f.buf.length<=1000)(hN:1048576<N):Zh4 N f.e=ret (Wh5 f):=by
 unfold Zh4;have e:f.e.2.2.2.2.2.2.1=f.buf:=rfl;rw[e];have h1:=Wy (l:=f.buf) (V:=List Rw) (R:=Unit×(List Rw×Unit)) (lp:=λn j v=>Zcv N f.buf (Wi f.buf) (λt9 aw aq=>(some ((),(aq,())))) n j v) (n:=N) (by omega)
  (body:=λj x v k=>bif WH (v.length+ [(x.1,x.2.1)].length)then k (Xf v [(x.1,x.2.1)])else none) (K:=λ_ v=>ret v)
  (λn i v hi=>by simp only[Zcv,WU hi,Wp hi,Wv hi,Wn (show i<4611686018427387904 by omega),We])
  (λn v=>by simp only[Zcv,WZ (Xn f.buf.length),Wc]) []
 refine h1.trans ?_;rw[WcE (f:=λx:En=>(x.1,x.2.1)) f.buf 0 [] (by simp;omega) (λj x v k _=>rfl)];rfl
theorem Wj1{f:Fm}(hr:Vals 4 f.regs)(h3:f.kids.length<=3)(hx:∀x∈f.kids,x.regs.length<=1000)(hN:1048576<N):Zh3 N f.e=ret (Wit f):=by
 unfold Zh3 Wit;have e:f.e.2.2.2.2.1=f.regs:=rfl;have e2:f.e.2.2.2.2.2.2.2.2.2=f.kids.map Kd.e:=rfl;have rO:We6 f.regs=true:=WeI.2 hr;have hl:=hr.len;have hm:(f.kids.map Kd.e).length=f.kids.length:=by simp
 rw[e,e2,Wc9 (by omega) hN,Wb ⟨rO,h3⟩];simp only[ret,Xd,rO,Xr,Wc];rw[Wq (by unfold Wi;omega),Wa2 (by omega)];simp only[ret,Xd,Wc];have h1:=Wy (l:=f.kids.map Kd.e) (V:=List Int) (R:=Unit×(List Int×Unit)) (lp:=λn j v=>Zbk N (f.kids.map Kd.e) (Wi (f.kids.map Kd.e)) (λaX cJ cI=>(some ((),(cI,())))) n j v) (n:=N) (by omega)
  (body:=λj x v k=>bif inb j v.length then(bif x.2.2.2.2.2.1==(1:Int)then((Z7 N (P6 x) (4:Int)).bind λcH=>(bif cH.2.1 then(bif inb 0 (P6 x).length then(bif inb j (Xk v j.toNat 0).length then k (Xk (Xk v j.toNat 0) j.toNat (Xb (P6 x) (Xa (0:Int)) 0))else none)else none)else k (Xk v j.toNat 0)))else k (Xk v j.toNat 0))else none) (K:=λ_ v=>ret v)
  (λn i v hi=>by simp only[Zbk,Wu,WU hi,Wp hi,Wv hi,Wn (show i<4611686018427387904 by omega),We];rfl)
  (λn v=>by simp only[Zbk,WZ (Xn _),Wc]) f.regs
 refine h1.trans ?_;have h2:=Wjv (β:=Int) (K:=λ_ v=>ret v) (f:=λx:Y_KidRun=>if P5 x=1/\We6 (P6 x)=true then Wcp (P6 x) 0 0 else 0) (f.kids.map Kd.e) [] f.regs (by omega) (body:=λj x v k=>bif inb j v.length then(bif x.2.2.2.2.2.1==(1:Int)then((Z7 N (P6 x) (4:Int)).bind λcH=>(bif cH.2.1 then(bif inb 0 (P6 x).length then(bif inb j (Xk v j.toNat 0).length then k (Xk (Xk v j.toNat 0) j.toNat (Xb (P6 x) (Xa (0:Int)) 0))else none)else none)else k (Xk v j.toNat 0)))else k (Xk v j.toNat 0))else none)
  (λj x v k xU hj=>by
   obtain⟨y,hy,rfl⟩:=Xt.1 xU;have hyl:=hx y hy;have p5:(Kd.e y).2.2.2.2.2.1=y.out:=rfl;have xV:P5 (Kd.e y)=y.out:=rfl;have p6:P6 (Kd.e y)=y.regs:=rfl;simp only[p5,xV,p6,W8,Wf hj,We,Wc9 (show y.regs.length<=1048576 by omega) hN,ret,Xd,WE,Xj,Xaf];by_cases h1:y.out=1
   .rw[Wb h1];cases rO:We6 y.regs
    .rw[Wa (by simp)];rfl
    .have:y.regs.length=4:=(WeI.1 rO).len;rw[Wb ⟨h1,rfl⟩,show inb (0:Int) y.regs.length=true by rw[this];rfl];simp only[We,Xdy];rfl
   .rw[Wa h1,Wa (λh=>h1 h.1)])
 simp only[Xdw,Xbs,Xu,List.map_map]at h2;exact h2
theorem WiD{rv:Int}{regs:List Int}{writes:List Rw}{kids:Nat}(hr:regs.length<=1000)(hw:writes.length<=1000)(hk:kids<=3)(hN:1048576<N):
  Zhc N rv regs writes (kids:Int)=ret (Wa7 rv regs writes kids).e:=by
 unfold Zhc;rw[Wa2 (by omega),WdL (by omega) hN];have hn:=WeF writes;simp only[ret,Xd];have h1:=Wy (l:=WbU writes) (V:=List En) (R:=Unit×(Y_Family×Unit)) (lp:=λn j v=>Zch N regs kids (Wi (WbU writes)) rv (WbU writes) regs (λt25 iZ cY=>
  (Zbd N regs kids rv regs (WbU writes) cY
 (λtu t50 mV=>
  (some ((),((rv,((0:Int),((0:Int),(false,(regs,(WbU writes,(cY,(([]:List Int),(([]:List Kc),mV))))))))),()))))
 N (0:Int) ([]:List Y_KidRun))) n j v) (n:=N) (by omega)
  (body:=λj x v k=>bif WH (v.length+ [(x.1,(x.2,(0:Int)))].length)then k (Xf v [(x.1,(x.2,(0:Int)))])else none) (K:=λ_ cY=>(Zbd N regs kids rv regs (WbU writes) cY
 (λtu t50 mV=>
  (some ((),((rv,((0:Int),((0:Int),(false,(regs,(WbU writes,(cY,(([]:List Int),(([]:List Kc),mV))))))))),()))))
 N (0:Int) ([]:List Y_KidRun)))
  (λn i v hi=>by simp only[Zch,WU hi,Wp hi,Wv hi,Wn (show i<4611686018427387904 by omega),We])
  (λn v=>by simp only[Zch,WZ (Xn _),Wc]) []
 refine h1.trans ?_;rw[WcE (f:=λx:Rw=>(x.1,(x.2,(0:Int)))) (WbU writes) 0 [] (by simp;omega) (λj x v k _=>rfl)];simp only[Xbs];obtain⟨b,hb⟩:∃b,(WbU writes).map (λx:Rw=>(x.1,(x.2,(0:Int))))=b:=⟨_,rfl⟩;rw[hb];have lp:∀(d j n:Nat) (v:List Y_KidRun),j+d=kids->d<n->v=Xw j (Kd.e {regs:=regs})->Zbd N regs kids rv regs (WbU writes) b (λtu t50 mV=>(some ((),((rv,((0:Int),((0:Int),(false,(regs,(WbU writes,(b,(([]:List Int),(([]:List Kc),mV))))))))),())))) n (j:Int) v=some ((),((rv,((0:Int),((0:Int),(false,(regs,(WbU writes,(b,(([]:List Int),(([]:List Kc),Xw kids (Kd.e {regs:=regs})))))))))),())):=by
  intro d
  induction d with
  |zero=>
   intro j n v hj hn hv;obtain⟨n,rfl⟩:∃n',n=n'+1:=⟨n-1,by omega⟩;have:j=kids:=by omega
   subst this;simp only[Zbd,Int.lt_irrefl,decide_false,Wc,hv]
  |succ d ih=>
   intro j n v hj hn hv;obtain⟨n,rfl⟩:∃n',n=n'+1:=⟨n-1,by omega⟩;have hlt:(j:Int)<(kids:Int):=by omega
   have rh:v.length=j:=by rw[hv];simp
   simp only[Zbd,Wf hlt,We,Wa2 (show regs.length<=1048576 by omega),ret,Xd];rw[WC (by simp;omega)];simp only[We];rw[Wn (by omega)];refine ih (j+1) n _ (by omega) (by omega) ?_;rw[hv,List.replicate_succ'];rfl
 have:=lp kids 0 N [] (by omega) (by omega) rfl;refine this.trans ?_;unfold Wa7 Fm.e;simp only[List.map_replicate,hb]
end
section
def WcJ(s:Int):Int:=(s-1)/65536
def WbT(k:Int):Int:=(7*k+3)%4
structure SlOk(l:List Int):Prop where
 len:l.length=16
 each:∀i (h:i<l.length),l[i]=0\/((1<=l[i]/\l[i]<=524288)/\WbT (WcJ l[i])=((i/4:Nat):Int))
 one:∀i j (hi:i<l.length) (hj:j<l.length),i<j->l[i]≠0->l[j]≠0->WcJ l[i]≠WcJ l[j]
def Wpt(k s:Int):Bool:=decide (s>0)&&decide (WcJ s=k)
def Wom(l:List Int)(k:Int):Option (Nat×Int):=fnd (Wpt k) l 0
def WfV(l:List Int)(k:Int):Nat:=if Wcp l (4*WbT k) 0=0 then(4*WbT k).toNat else(4*WbT k).toNat+1
def WnT(l:List Int)(k v:Int):List Int:=match Wom l k with
 |some r=>l.set r.1 (1+65536*k+v)
 |none=>l.set (WfV l k) (1+65536*k+v)
def Wex(l:List Int)(k:Int):Int:=match Wom l k with
 |some r=>(r.2-1)%65536+1
 |none=>0
def Wjk(l:List Int)(k:Int):List Int:=match Wom l k with
 |some r=>l.set r.1 0
 |none=>l
variable{N:Nat}{l:List Int}{k v:Int}
theorem Wug{n:Int}(h:I64 n):IntKind.wrap .i64 n=n:=wrap_i64 h
theorem Wmv{s:Int}(h:1<=s/\s<=524288):Zif N s=ret (WcJ s):=by
 unfold Zif;rw[Wak (by unfold I64;omega)];have:WpZ .i64 (s-1) 65536=WcJ s:=by
  unfold WpZ WcJ;rw[Xdt (by omega),Wug (by unfold I64;omega)]
 rw[this];rfl
theorem WkH{s:Int}(h:1<=s/\s<=524288):0<=WcJ s/\WcJ s<=7:=by unfold WcJ;omega
theorem Wd7:Zba N k=ret (decide (0<=k)&&decide (k<=7)):=by simp[Zba,WS]
theorem Wi9(hk:0<=k/\k<=7)(hv:0<=v/\v<=65535):Ziz N k v=ret (1+65536*k+v):=by
 unfold Ziz;rw[Wgr (by unfold I64;omega),WJ (a:=1) (by unfold I64;omega),WJ (by unfold I64;omega)]
theorem Wjr(hk:0<=k/\k<=7):Zi9 N k=ret (WbT k):=by
 unfold Zi9;rw[Wd7,Wgr (by unfold I64;omega),WJ (by unfold I64;omega)];have:WiM (7*k+3) 4=WbT k:=by grind [WiM,WbT,Int.tmod_eq_emod_of_nonneg]
 simp only[ret,Xd,Wf hk.1,Wf hk.2,Xbo,Xr,Wc,this];rfl
theorem SlOk.val(h:SlOk l){i:Nat}(hi:i<l.length)(hn:l[i]≠0):1<=l[i]/\l[i]<=524288:=by
 rcases h.each i hi with h0|h0
 .omega
 omega
theorem Weq(h:SlOk l)(hN:1048576<N):Zg0 N l k=ret (match Wom l k with|some r=>(r.1:Int)|none=>-1):=by
 unfold Zg0 Wom;have hl:=h.len;have h1:=WkO (l:=l) (p:=Wpt k) (N:=N) (lp:=λn j=>Zdy N k l (λaF=>(some ((),(aF,())))) (λau aX=>(some ((),((-1:Int),())))) n j) (K0:=λj=>some ((),(j,()))) (K1:=some ((),((-1:Int),()))) (by omega) (by omega)
  (λn j hj=>by
   simp only[Zdy,WU hj,Wp hj,Wv hj,Wn (show j<4611686018427387904 by omega),We];unfold Wpt;by_cases h0:l[j]>0
   .rw[Wmv (h.val hj (by omega))]
    grind
   grind)
  (λn=>by simp[Zdy,WZ,Xn,Wc])
 rw[h1];cases fnd (Wpt k) l 0<;>rfl
theorem WbP(h:SlOk l)(hN:1048576<N):Zda N l=ret true:=by
 have hl:=h.len;have lp:∀(d j n:Nat) (s:List Bool),j+d=16->d<n->s.length=8->(∀c:Nat,s.getD c false=true->∃i,∃hi:i<l.length,i<j/\l[i]≠0/\WcJ l[i]=c)->
   Zb5 N l (some ((),(false,()))) (λkC xA qr=>(some ((),(true,())))) n (j:Int) s=ret true:=by
  intro d
  induction d with
  |zero=>
   intro j n s hj hn _ _;obtain⟨n,rfl⟩:∃n',n=n'+1:=⟨n-1,by omega⟩;have:j=l.length:=by omega
   subst this;simp[Zb5,WZ,Xn,Wc]
  |succ d ih=>
   intro j n s hj hn hs hb;obtain⟨n,rfl⟩:∃n',n=n'+1:=⟨n-1,by omega⟩;have hlt:j<l.length:=by omega
   simp only[Zb5,WU hlt,Wp hlt,Wv hlt,Wn (show j<4611686018427387904 by omega),We,WE];by_cases h0:l[j]=0
   .rw[Wb h0];exact ih (j+1) n s (by omega) (by omega) hs λc hc=>by
     grind
   .rw[Wa h0];have hv:=h.val hlt h0;have hk:=WkH hv;have xW:WbT (WcJ l[j])=((j/4:Nat):Int):=by
     rcases h.each j hlt with h1|h1
     .omega
     omega
    have hq:WpZ .i64 (j:Int) 4=((j/4:Nat):Int):=by
     unfold WpZ;rw[Xdt (by omega),Wug (by unfold I64;omega)];omega
    have cT:s.getD (Xa (WcJ l[j])) false=false:=by
     rw[Bool.eq_false_iff];intro hc;obtain⟨i,hi,h1,h2,h3⟩:=hb _ hc;exact h.one i j hi hlt h1 h2 h0 (by omega)
    rw[Wi9 (k:=7) (v:=65535) (by omega) (by omega),Wmv hv];simp only[ret,Xd,WS,show(1:Int)+65536*7+65535=524288 from rfl,Wf hv.1,Wf hv.2,Xbo,Xr,Wc,Wjr hk,xW,hq,bne_self_eq_false];rw[show inz (4:Int)=true from rfl];simp only[We];rw[show inb (WcJ l[j]) 8=true by grind [inb],hs,Wf rfl,cT];simp only[Xbo,We,Wc];refine ih (j+1) n _ (by omega) (by omega) (by simp_all) λc hc=>?_;by_cases hcj:c=(WcJ l[j]).toNat
    .grind
    .have:s.getD c false=true:=by
      grind
     grind
 unfold Zda;rw[show((Wi l) !=(16:Int))=false by grind [Wi]];simp only[Wc];refine lp 16 0 N _ (by omega) (by omega) (by simp) λc hc=>?_;rw[List.getD_eq_getElem?_getD]at hc;by_cases h8:c<8
 .grind
 simp_all
theorem Wev(h:SlOk l){r:Nat×Int}(hr:Wom l k=some r):∃hi:r.1<l.length,l[r.1]=r.2/\1<=r.2/\r.2<=524288/\WcJ r.2=k/\WbT k=((r.1/4:Nat):Int):=by
 obtain⟨h1,h2,h3,h4⟩:=Wcr hr;rw[Xba]at h3;rw[Xde,Xp h3]at h4;injection h4 with h4;unfold Wpt at h1;simp only[Xi,Wh]at h1;have h5:=h.val h3 (by omega);rcases h.each r.1 h3 with h6|h6
 .omega
 simp_all
theorem WiB(h:SlOk l)(hr:Wom l k=none)(i:Nat)(hi:i<l.length)(hn:l[i]≠0):WcJ l[i]≠k:=by
 have:=WfZ hr l[i] (Xo hi);unfold Wpt at this;have h1:=h.val hi hn
 grind
theorem Wtu(k:Int):0<=WbT k/\WbT k<=3:=by unfold WbT;omega
theorem Wmy(h:SlOk l)(hk:0<=k/\k<=7)(hr:Wom l k=none):∃hi:WfV l k<l.length,l[WfV l k]=0/\WbT k=((WfV l k/4:Nat):Int)/\(WfV l k=(4*WbT k).toNat\/(WfV l k=(4*WbT k).toNat+1/\Wcp l (4*WbT k) 0≠0)):=by
 have hl:=h.len;have hb:=Wtu k;unfold WfV;have h1:(4*WbT k).toNat<l.length:=by omega
 have hg:Wcp l (4*WbT k) 0=l[(4*WbT k).toNat]:=Wt h1 _;by_cases h0:Wcp l (4*WbT k) 0=0
 .grind
 .simp only[Wa h0];have h2:(4*WbT k).toNat+1<l.length:=by omega
  refine⟨h2,?_,by omega,.inr ⟨trivial,h0⟩⟩;refine Classical.byContradiction λhn=>?_;rw[hg]at h0;have a1:=WiB h hr _ h1 h0;have a2:=WiB h hr _ h2 hn;have a3:=h.one _ _ h1 h2 (by omega) h0 hn;have b1:=WkH (h.val h1 h0);have b2:=WkH (h.val h2 hn);rcases h.each _ h1 with c1|c1
  .exact h0 c1
  .rcases h.each _ h2 with c2|c2
   .exact hn c2
   grind [WcJ,WbT]
theorem Wsi(hk:0<=k/\k<=7)(hv:0<=v/\v<=65535):(1<=1+65536*k+v/\1+65536*k+v<=524288)/\WcJ (1+65536*k+v)=k:=by unfold WcJ;omega
theorem WkE(h:SlOk l){i:Nat}(hi:i<l.length){s:Int}(hs:s=0\/((1<=s/\s<=524288)/\WbT (WcJ s)=((i/4:Nat):Int)))(ho:s≠0->∀j (hj:j<l.length),j≠i->l[j]≠0->WcJ l[j]≠WcJ s):SlOk (l.set i s) where
 len:=by rw[Xaf];exact h.len
 each:=λj hj=>by
  rw[Xaf]at hj;rw[Xaq];by_cases he:i=j
  .simp_all
  .rw[Wa he];exact h.each j hj
 one:=λa b ha hb fg=>by
  rw[Xaf]at ha hb;rw[Xaq,Xaq];by_cases h1:i=a
  .grind
  .rw[Wa h1];by_cases h2:i=b
   .grind
   .rw[Wa h2];exact h.one a b ha hb fg
theorem Whs(h:SlOk l)(hk:0<=k/\k<=7)(hv:0<=v/\v<=65535):SlOk (WnT l k v):=by
 obtain⟨k1,k2⟩:=Wsi hk hv;unfold WnT;cases hr:Wom l k with
 |some r=>
  obtain⟨hi,h1,h2,h3,h4,h5⟩:=Wev h hr;refine WkE h hi (.inr ⟨k1,by simp_all⟩) λ_ j hj hne hn=>?_;rw[k2,←h4,←h1];rcases Nat.lt_or_gt_of_ne hne with hlt|hlt
  .exact h.one j r.1 hj hi hlt hn (by omega)
  .exactλe=>h.one r.1 j hi hj hlt (by omega) hn e.symm
 |none=>
  grind [Wmy,WkE,WiB]
theorem WmI(h:SlOk l):SlOk (Wjk l k):=by
 unfold Wjk;cases hr:Wom l k with
 |some r=>
  obtain⟨hi,h1,_⟩:=Wev h hr;exact WkE h hi (.inl rfl) λh=>Wl rfl h
 |none=>exact h
theorem Wge(l:List Int)(k:Int):0<=Wex l k/\Wex l k<=65536:=by
 unfold Wex;cases Wom l k<;>simp only<;>omega
theorem WcM(h:SlOk l)(hk:0<=k/\k<=7)(hN:1048576<N):Zh0 N l k=some ((),((if Wex l k=0 then 0 else Wex l k-1),(decide (Wex l k≠0),()))):=by
 unfold Zh0 Wex;rw[WbP h hN,Wd7,Weq h hN];simp only[ret,Xd,Xr,Wc,Wf hk.1,Wf hk.2,Xbo];cases hr:Wom l k with
 |none=>rfl
 |some r=>
  obtain⟨hi,h1,h2,h3,h4,h5⟩:=Wev h hr;simp only[Wq (show¬((r.1:Int)<0) by omega),Wc,W8,Wf hi,We,Wv hi,h1];rw[Wak (by unfold I64;omega),Wco (by omega),Wa (by omega),Wf (by omega)];simp only[Int.add_sub_cancel];rfl
theorem WcI(h:SlOk l)(hk:0<=k/\k<=7)(hv:0<=v/\v<=65535)(hN:1048576<N):Ze1 N l k v=some ((),(WnT l k v,(Wex l k,(true,())))):=by
 have hl:=h.len;unfold Ze1;rw[Wck (by omega),WbP h hN,Wd7,Wat,Weq h hN,WcM h hk hN,Wi9 hk hv,Wjr hk];simp only[ret,Xd,Xr,Wc,Wf hk.1,Wf hk.2,Xbo,Wbc.2 hv];unfold WnT Wex;cases hr:Wom l k with
 |some r=>
  obtain⟨hi,h1,h2,h3,h4,h5⟩:=Wev h hr;simp only[Wf (show((r.1:Int)>=0) by omega),We,W8,Wf hi,Xj];rw[Wa (by omega),WJ (by unfold I64;omega)];simp_all
 |none=>
  simp only[show decide ((-1:Int)>=0)=false from rfl,Wc];have hb:=Wtu k;obtain⟨hi,h1,h2,h3⟩:=Wmy h hk hr;rw[Wgr (by unfold I64;omega)];obtain⟨N',rfl⟩:∃N',N=N'+1+1:=⟨N-2,by omega⟩;have jS:4*WbT k=(((4*WbT k).toNat:Nat):Int):=by omega
  have gM:∀n,Zct (N'+1+1) k v l (λj8 ew=>(bif inb j8 (Xc l)then(some ((),(Xk l (Xa j8) (1+65536*k+v),(0,(true,())))))else none)) (n+1) (WfV l k:Int)=some ((),(l.set (WfV l k) (1+65536*k+v),((0:Int),(true,())))):=λn=>by
   simp only[Zct,Wp hi,Wv hi,h1,We,bne_self_eq_false,Wc];rw[Xj]
  rcases h3 with h3|⟨h3,h4⟩
  .grind
  .have hlt:(4*WbT k).toNat<l.length:=by omega
   have hg:Wcp l (4*WbT k) 0=l[(4*WbT k).toNat]:=Wt hlt _;rw[hg]at h4;have jO:=gM N';rw[jS];rw[Zct];simp only[Wp hlt,Wv hlt,We];rw[show(l[(4*WbT k).toNat] !=0)=true by grind,Wn (by omega),←h3]
   grind
theorem WdV(h:SlOk l)(hk:0<=k/\k<=7)(hN:1048576<N):Zja N l k=some ((),(Wjk l k,(Wex l k,(true,())))):=by
 have hl:=h.len;unfold Zja;rw[Wck (by omega),WbP h hN,Wd7,Weq h hN,WcM h hk hN];simp only[ret,Xd,Xr,Wc,Wf hk.1,Wf hk.2,Xbo];unfold Wjk Wex;cases hr:Wom l k with
 |some r=>
  obtain⟨hi,h1,h2,h3,h4,h5⟩:=Wev h hr;simp only[Wq (show¬((r.1:Int)<0) by omega),We,Wc,W8,Wf hi,Xj];rw[Wa (by omega),WJ (by unfold I64;omega)];simp_all
 |none=>rfl
end
section
abbrev Shf:=List Int×Int
abbrev Un:=Int×Int×Int
structure ShOk(s:Shf):Prop where
 slots:SlOk s.1
 cnt:0<=s.2/\s.2<=65535
def UnV(u:Un):Prop:=(u.1=1/\(0<=u.2.1/\u.2.1<=7)/\0<=u.2.2/\u.2.2<=65535)\/(u.1=2/\(0<=u.2.1/\u.2.1<=7)/\u.2.2=0)\/(u.1=3/\u.2.1=0/\0<=u.2.2/\u.2.2<=65535)
def Wh8(s:Shf)(u:Un):Shf:=
 if u.1=1 then(WnT s.1 u.2.1 u.2.2,s.2)else if u.1=2 then(Wjk s.1 u.2.1,s.2)else if u.1=3 then(s.1,(s.2-u.2.2+65536)%65536)else s
def Wg1(k e:Int):Un:=if e=0 then(2,k,0)else(1,k,e-1)
def WbI(s:Shf)(o:Opn)(r:List Int):Shf×List Int×Un:=
 if o.1=12 then((WnT s.1 o.2.1 (Wcp r o.2.2.1 0),s.2),WmT r o.2.2.2 (Wex s.1 o.2.1%65536),Wg1 o.2.1 (Wex s.1 o.2.1))else
 if o.1=13 then(s,WmT r o.2.1 (Wex s.1 o.2.2.1%65536),(0,0,0))else
 if o.1=14 then((Wjk s.1 o.2.1,s.2),WmT r o.2.2.1 (Wex s.1 o.2.1%65536),Wg1 o.2.1 (Wex s.1 o.2.1))else
 if o.1=15 then((s.1,(s.2+Wcp r o.2.1 0)%65536),r,(3,0,Wcp r o.2.1 0))else
 (s,WmT r o.2.1 s.2,(0,0,0))
def WbS(o:Opn):Int×Int:=
 if o.1=12\/o.1=14 then(o.2.1,2)else if o.1=13 then(o.2.2.1,1)else if o.1=15 then(8,1)else(8,2)
section
variable{o:Opn}
theorem Wti(h:Wel o=true)(h5:o.1=12):WeY o.2.1=true/\W6 o.2.2.1=true/\W6 o.2.2.2=true:=by
 obtain⟨k,a,b,c⟩:=o;simp only at h5;subst h5;have:(WeY a&&W6 b&&W6 c)=true:=h;simp_all
theorem Wt6(h:Wel o=true)(h5:o.1=13):W6 o.2.1=true/\WeY o.2.2.1=true:=by
 obtain⟨k,a,b,c⟩:=o;simp only at h5;subst h5;have:(W6 a&&WeY b&&(c==(0:Int)))=true:=h;simp_all
theorem Wsz(h:Wel o=true)(h5:o.1=14):WeY o.2.1=true/\W6 o.2.2.1=true:=by
 obtain⟨k,a,b,c⟩:=o;simp only at h5;subst h5;have:(WeY a&&W6 b&&(c==(0:Int)))=true:=h;simp_all
theorem WvV(h:Wel o=true)(h5:o.1=15):W6 o.2.1=true:=by
 obtain⟨k,a,b,c⟩:=o;simp only at h5;subst h5;have:(W6 a&&(b==(0:Int))&&(c==(0:Int)))=true:=h;simp_all
theorem WvB(h:Wel o=true)(h5:o.1=16):W6 o.2.1=true:=by
 obtain⟨k,a,b,c⟩:=o;simp only at h5;subst h5;have:(W6 a&&(b==(0:Int))&&(c==(0:Int)))=true:=h;simp_all
end
theorem WcR{x:Int}:WeY x=true↔0<=x/\x<=7:=by unfold WeY;simp
variable{N:Nat}{s:Shf}{u:Un}{o:Opn}{r:List Int}
theorem Wlx{k e:Int}(hk:0<=k/\k<=7)(he:0<=e/\e<=65536):UnV (Wg1 k e):=by
 unfold Wg1 UnV
 grind
theorem Wpa(h:ShOk s)(hu:UnV u):ShOk (Wh8 s u):=by
 unfold Wh8;rcases hu with⟨h1,h2,h3⟩|⟨h1,h2,h3⟩|⟨h1,h2,h3⟩
 .rw[Wb h1];exact⟨Whs h.slots h2 h3,h.cnt⟩
 .rw[Wa (by omega),Wb h1];exact⟨WmI h.slots,h.cnt⟩
 .rw[Wa (by omega),Wa (by omega),Wb h1];exact⟨h.slots,by omega⟩
theorem Wph(h:ShOk s)(hr:Vals 4 r)(ho:Wel o=true)(eF:12<=o.1):ShOk (WbI s o r).1/\Vals 4 (WbI s o r).2.1/\((WbI s o r).2.2.1≠0->UnV (WbI s o r).2.2)/\((WbI s o r).2.2.1=0->(WbI s o r).1=s):=by
 have rM:=Wm3 ho;unfold WbI;split
 .obtain⟨a,b,c⟩:=Wti ho ‹_›;rw[WcR]at a;have hg:=Wge s.1 o.2.1;exact⟨⟨Whs h.slots a (hr.get _),h.cnt⟩,hr.set _ (by omega),λ_=>Wlx a hg,λh=>by unfold Wg1 at h;split at h<;>(simp_all)⟩
 .split
  .exact⟨h,hr.set _ (by omega),λh=>Wl rfl h,λ_=>rfl⟩
  .split
   .obtain⟨a,b⟩:=Wsz ho ‹_›;rw[WcR]at a;have hg:=Wge s.1 o.2.1;exact⟨⟨WmI h.slots,h.cnt⟩,hr.set _ (by omega),λ_=>Wlx a hg,λh=>by unfold Wg1 at h;split at h<;>(simp_all)⟩
   .split
    .have:=hr.get o.2.1.toNat;have:=h.cnt;refine⟨⟨h.slots,by grind⟩,hr,λ_=>.inr (.inr ⟨rfl,rfl,hr.get _⟩),λh=>by simp_all⟩
    .exact⟨h,hr.set _ h.cnt,λh=>Wl rfl h,λ_=>rfl⟩
theorem Wd1(h:ShOk s)(hN:1048576<N):Zj9 N s=ret true:=by
 unfold Zj9;rw[WbP h.slots hN,Wat,Wbc.2 h.cnt];rfl
theorem Wgd(h:ShOk s):Zih N s=ret s:=by
 unfold Zih;rw[Wck (by have:=h.slots.len;omega)];rfl
theorem WiO(hu:UnV u):Zns N u=ret true:=by
 unfold Zns;simp only[WE,Wd7,Wat,ret,Xd];rcases hu with⟨h1,h2,h3⟩|⟨h1,h2,h3⟩|⟨h1,h2,h3⟩
 .simp_all [Wa,Wb,Wbc]
 .simp_all
 simp_all [Wa,Wb,Wbc]
theorem Wh7(h:ShOk s)(hu:UnV u)(hN:1048576<N):Zmy N s u=some ((),(Wh8 s u,(true,()))):=by
 unfold Zmy Wh8;rw[Wgd h,WiO hu];simp only[ret,Xd];rw[Wd1 h hN];simp only[ret,Xd,Xr,Wc,WE];have hc:=h.cnt;rcases hu with⟨h1,h2,h3⟩|⟨h1,h2,h3⟩|⟨h1,h2,h3⟩
 .rw[Wb h1,Wb h1,WcI h.slots h2 h3 hN];rfl
 .rw[Wa (by omega),Wb h1,Wa (by omega),Wb h1,WdV h.slots h2 hN];rfl
 .rw[Wa (by omega),Wa (by omega),Wb h1,Wa (by omega),Wa (by omega),Wb h1];rw[Wak (by unfold I64;omega),WJ (by unfold I64;omega),Wco (by omega)];rfl
theorem Wfe{k e:Int}(he:0<=e/\e<=65536):Zlh N k e=ret (Wg1 k e):=by
 unfold Zlh Wg1;rw[WE,Wak (by unfold I64;omega)];split<;>rfl
theorem WjX(ho:Wel o=true)(eF:12<=o.1):Zkk N o=some ((),((WbS o).1,((WbS o).2,()))):=by
 have rM:=Wm3 ho;unfold Zkk WbS;rw[WeL,ho];simp only[ret,Xd,Xr,Wc,WE];have:o.1=12\/o.1=13\/o.1=14\/o.1=15\/o.1=16:=by omega
 rcases this with h|h|h|h|h<;>simp[h]
theorem Wh6(h:ShOk s)(hr:Vals 4 r)(ho:Wel o=true)(eF:12<=o.1)(hN:1048576<N):
  Zmz N s o r=some ((),((WbI s o r).1,((WbI s o r).2.1,((WbI s o r).2.2,(true,()))))):=by
 have rM:=Wm3 ho;have dn:=hr.len;have hc:=h.cnt;unfold Zmz WbI;rw[Wgd h,Wck (by omega)];simp only[ret,Xd];rw[Wd1 h hN,Wc9 (by omega) hN,WeI.2 hr,Wgb,Wrs ho eF];simp only[ret,Xd,Xr,Wc,bne_self_eq_false,WE,show inz (65536:Int)=true from rfl,We,Wu,Xaf];by_cases e1:o.1=12
 .obtain⟨a,b,c⟩:=Wti ho e1;rw[WcR]at a;rw[Wb e1,Wb e1,Wa5 b dn,Wa5 c dn];have hg:=Wge s.1 o.2.1;rw[WcI h.slots a (hr.get _) hN];simp only[We,Xd,Wfe hg,ret];rw[Wco (by omega)];rfl
 .rw[Wa e1,Wa e1];by_cases e2:o.1=13
  .obtain⟨a,b⟩:=Wt6 ho e2;rw[WcR]at b;have hg:=Wge s.1 o.2.2.1;rw[Wb e2,Wb e2,Wa5 a dn,WcM h.slots b hN];simp only[We,Xd];by_cases hz:Wex s.1 o.2.2.1=0
   .rw[hz];rfl
   .rw[Wa hz,Wf hz,WJ (by unfold I64;omega),Wco (by omega),Int.sub_add_cancel];simp only[We,Xdy];rfl
  .rw[Wa e2,Wa e2];by_cases e3:o.1=14
   .obtain⟨a,b⟩:=Wsz ho e3;rw[WcR]at a;have hg:=Wge s.1 o.2.1;rw[Wb e3,Wb e3,Wa5 b dn,WdV h.slots a hN];simp only[We,Xd,Wfe hg,ret];rw[Wco (by omega)];rfl
   .rw[Wa e3,Wa e3];by_cases e4:o.1=15
    .have a:=WvV ho e4;have hv:=hr.get o.2.1.toNat;rw[Wb e4,Wb e4,Wa5 a dn];simp only[We];rw[WJ (by unfold I64;omega),Wco (by omega)];rfl
    .have a:=WvB ho (by omega);rw[Wa e4,Wa e4,Wa5 a dn];rfl
def Wmr(l:List Int):Bool:=decide (l.length=8)&&l.all λx=>decide (0<=x)&&decide (x<=65536)
structure ThOk(t:List Int×List Int×Int):Prop where
 cells:Vals 8 t.1
 map:t.2.1.length=8/\∀x∈t.2.1,0<=x/\x<=65536
 cnt:0<=t.2.2/\t.2.2<=65535
def Wsv(t:List Int×List Int×Int):Bool:=Wec t.1&&(Wmr t.2.1&&WbH t.2.2)
theorem WkD{t:List Int×List Int×Int}:Wsv t=true↔ThOk t:=by
 unfold Wsv Wmr;simp only[Xi,Wcy,Wbc,Wh,Xai];exact⟨λh=>⟨h.1,h.2.1,h.2.2⟩,λh=>⟨h.cells,h.map,h.cnt⟩⟩
theorem WhP{l:List Int}(hl:l.length<=1048576)(hN:1048576<N):Zie N l=ret (Wmr l):=by
 unfold Zie Wmr;have h1:=Wy (l:=l) (V:=Unit) (R:=Unit×Ko) (lp:=λn j v=>Zeq N l (some ((),(false,()))) (λay ai=>(some ((),((Wi l)==(8:Int),())))) n j) (n:=N) (by omega)
  (body:=λj x v k=>bif !(decide (0<=x)&&decide (x<=65536))then some ((),(false,()))else k v) (K:=λ_ v=>some ((),((Wi l)==(8:Int),())))
  (λn i v hi=>by simp only[Zeq,WU hi,Wp hi,Wv hi,Wn (show i<4611686018427387904 by omega),We,WS,ret,Xd])
  (λn v=>by simp[Zeq,WZ,Xn,Wc]) ()
 refine h1.trans ?_;rw[Wau (p:=λx=>!(decide (0<=x)&&decide (x<=65536))) (E:=λ_=>some ((),(false,()))) l 0 () (λj x v k _=>rfl),Wb6];have e:((Wi l)==(8:Int))=decide (l.length=8):=by
  grind [Wi]
 rw[e];cases l.all _<;>cases decide (l.length=8)<;>rfl
theorem We1{t:List Int×List Int×Int}(h1:t.1.length<=1048576)(h2:t.2.1.length<=1048576)(hN:1048576<N):Zi8 N t=ret (Wsv t):=by
 unfold Zi8 Wsv;rw[Wch h1 hN,WhP h2 hN,Wat];cases Wec t.1<;>cases Wmr t.2.1<;>rfl
def WeM:List Int->Nat->List Int->List Int
 | [],_,l=>l
 |x::m,k,l=>WeM m (k+1) (if x>0 then WnT l k (x-1)else l)
def Wow(m:List Int):List Int:=WeM m 0 (Xw 16 0)
theorem Wl8:SlOk (Xw 16 0) where
 len:=by simp
 each:=λi h=>.inl (Xbc ..)
 one:=λi j hi hj _ h=>Wl (Xbc ..) h
theorem WhH:∀(m:List Int) (k:Nat) (l:List Int),k+m.length<=8->(∀x∈m,0<=x/\x<=65536)->SlOk l->SlOk (WeM m k l)
 | [],_,l,_,_,h=>h
 |x::m,k,l,hk,hx,h=>by
  have h0:=hx x (Xh ..);rw[Xx]at hk;refine WhH m (k+1) _ (by omega) (λy hy=>hx y (Xe _ hy)) ?_
  grind [Whs]
theorem Wqk{m:List Int}(hl:m.length=8)(hx:∀x∈m,0<=x/\x<=65536):SlOk (Wow m):=WhH m 0 _ (by omega) hx Wl8
theorem Wgx{m:List Int}(hl:m.length=8)(hx:∀x∈m,0<=x/\x<=65536)(hN:1048576<N):Zbb N m=ret (Wow m):=by
 have hm:Wmr m=true:=by simp_all [Wmr,Xi,Wh,Xai]
 unfold Zbb Wow;rw[WhP (by omega) hN,hm];simp only[ret,Xd,Xr,Wc];rw[show Zpc N=ret (Xw 16 0)from rfl];simp only[ret,Xd];have lp:∀(d j n:Nat) (l:List Int),j+d=m.length->d<n->SlOk l->Zbj N m (λau aX dg=>(some ((),(dg,())))) n (j:Int) l=ret (WeM (m.drop j) j l):=by
  intro d
  induction d with
  |zero=>
   intro j n l hj hn hs;obtain⟨n,rfl⟩:∃n',n=n'+1:=⟨n-1,by omega⟩;have:j=m.length:=by omega
   subst this;simp[Zbj,WZ,Xn,Wc,Xdg,WeM]
  |succ d ih=>
   intro j n l hj hn hs;obtain⟨n,rfl⟩:∃n',n=n'+1:=⟨n-1,by omega⟩;have hlt:j<m.length:=by omega
   have hb:=hx m[j] (Xo hlt);simp only[Zbj,WU hlt,Wp hlt,Wv hlt,Wn (show j<4611686018427387904 by omega),We,Wal];rw[Xch hlt,WeM];by_cases h0:m[j]>0
   .rw[Wb h0,Wb h0,Wak (by unfold I64;omega),WcI hs (by omega) (by omega) hN]
    grind [Whs]
   grind
 have:=lp m.length 0 N (Xw 16 0) (by omega) (by omega) Wl8;simp_all
end
section
abbrev Hd:=Int×Int×Int
def HdV(h:Hd):Prop:=(1<=h.1/\h.1<=9)/\(0<=h.2.1/\h.2.1<=8)/\1<=h.2.2/\h.2.2<=2
def HdB(a b:Hd):Prop:=cfH a b<0/\(a.2.1=b.2.1->a.2.2≠2/\b.2.2≠2)
structure HOk(l:List Hd):Prop where
 val:∀h∈l,HdV h
 up:l.Pairwise HdB
theorem HOk.ris{l:List Hd}(h:HOk l):Ris cfH l:=h.up.imp λh=>h.1
def Wfv(l:List Hd)(who:Int):List Int:=(l.filter λh=>decide (h.1=who)).map (·.2.1)
def blk(who what mode:Int)(h:Hd):Bool:=decide (h.2.1=what)&&(decide (h.1≠who)&&(decide (mode=2)||decide (h.2.2=2)))
def Wia(l:List Hd)(who what mode:Int):List Int:=(l.filter (blk who what mode)).map (·.1)
def WsA(who what:Int)(h:Hd):Bool:=decide (h.1=who)&&decide (h.2.1=what)
def WpX(l:List Hd)(who what:Int):Int:=match fnd (WsA who what) l 0 with
 |some r=>r.2.2.2
 |none=>0
def Wpz(a b:Int):Int:=if a<=b then b else a
def Wil(l:List Hd)(who what mode:Int):List Hd:=Wdb cfH l (who,what,Wpz (WpX l who what) mode)
def Wb7(l:List Hd)(who what mode:Int):Option (List Hd):=if Wia l who what mode= []then some (Wil l who what mode)else none
def W3(l:List Hd)(who:Int):List Hd:=l.filter λh=>!(h.1==who)
theorem Wc2{α:Type}{a b:Int}{x y:α}:(bif a !=b then x else y)=if a=b then y else x:=by
 simp_all
theorem Wuv{α:Type}{cf:α->α->Int}(hc:Lin cf){L M:List α}(hL:Ris cf L)(hM:Ris cf M)(hm:∀x,x∈L↔x∈M):L=M:=by
 rw[←WkZ hc hM (hL.imp λh=>.inl h) hm,WkZ hc hL (hL.imp λh=>.inl h) λx=>Iff.rfl]
theorem apH{a b:Hd}:Ap cfH a b↔¬(a.1=b.1/\a.2.1=b.2.1):=by grind [Ap,Wb9]
theorem WmO{a b c d:Hd}(h1:a.1=c.1)(h2:a.2.1=c.2.1)(h3:b.1=d.1)(h4:b.2.1=d.2.1):cfH a b<0↔cfH c d<0:=by simp_all [Wb9]
variable{N:Nat}{l:List Hd}{who what mode:Int}
theorem Wtm(h:Ris cfH l){i:Nat}(hi:i<l.length){e:Hd}(h1:e.1=l[i].1)(h2:e.2.1=l[i].2.1):Ris cfH (l.set i e):=by
 unfold Ris at*;rw[Xal]at*;intro a b ha hb fg;rw[Xaf]at ha hb;rw[Xaq,Xaq];have:=h a b ha hb fg;by_cases c1:i=a
 .subst c1;rw[Wb rfl,Wa (by omega)];exact(WmO h1 h2 rfl rfl).2 this
 .rw[Wa c1];by_cases c2:i=b
  .subst c2;rw[Wb rfl];exact(WmO rfl rfl h1 h2).2 this
  simp_all
theorem Wue(h:Ris cfH l){i:Nat}(hi:i<l.length){e:Hd}(h1:e.1=l[i].1)(h2:e.2.1=l[i].2.1):l.set i e=Wdb cfH l e:=by
 refine Wuv WnW (Wtm h hi h1 h2) (WbJ WnW h) λx=>?_;rw[(WlO WnW (h.imp λh=>.inl h) hi (by grind [apH])).2 x,Wa9 WnW h]
theorem WuH{h:Hd}:(decide (1<=h.1)&&decide (h.1<=9))=true/\(decide (0<=h.2.1)&&decide (h.2.1<=8))=true/\(decide (1<=h.2.2)&&decide (h.2.2<=2))=true↔HdV h:=by
 simp[HdV,Xi,Wh]
theorem We5{h:Hd}(hv:HdV h):Zi0 N h.1 h.2.1 h.2.2=ret true:=by
 obtain⟨a,b,c⟩:=WuH.2 hv;simp_all [Zi0,WS,ret,Xd,We]
theorem WlQ{a b:Hd}(ha:HdV a)(hb:HdV b):Zio N a b=ret (cfH a b):=by
 obtain⟨a1,a2,a3⟩:=ha;obtain⟨b1,b2,b3⟩:=hb
 grind [Zio,cfH,Wak,I64]
theorem WbR(h:HOk l)(hl:l.length<=1048576)(hN:1048576<N):Ze2 N l=ret true:=by
 have lp:∀(d j n:Nat),j+d=l.length->d<n->Zaq N l (some ((),(false,()))) (λau aX=>(some ((),(true,())))) n (j:Int)=ret true:=by
  intro d
  induction d with
  |zero=>
   intro j n hj hn;obtain⟨n,rfl⟩:∃n',n=n'+1:=⟨n-1,by omega⟩;simp_all [Zaq,WZ,Xn,Wc]
  |succ d ih=>
   intro j n hj hn;obtain⟨n,rfl⟩:∃n',n=n'+1:=⟨n-1,by omega⟩;have hlt:j<l.length:=by omega
   have hv:=h.val l[j] (Xo hlt);have bo:=ih (j+1) n (by omega) (by omega);simp only[Zaq,WU hlt,Wp hlt,Wv hlt,Wn (show j<4611686018427387904 by omega),We,We5 hv,ret,Xd,Xr,Wc,bo];by_cases h0:j=0
   .grind
   .have e1:decide ((j:Int)>0)=true:=by simp;omega
    have e2:W1 .i64 (j:Int) 1=((j-1:Nat):Int):=by grind [Wak,I64]
    have bq:j-1<l.length:=by omega
    have hw:=h.val l[j-1] (Xo bq);have hb:=Xal.1 h.up (j-1) j bq hlt (by omega);simp only[e1,e2,We,Wp bq,Wv bq,WlQ hw hv,ret,Xd];rw[Wq (show¬(cfH l[j-1] l[j]>=0) by have:=hb.1;omega)];simp only[Wc,WE];by_cases hs:l[j-1].2.1=l[j].2.1
    .rw[Wb hs,Wa (hb.2 hs).2,Wa (hb.2 hs).1]
    simp_all
 exact lp l.length 0 N (by omega) (by omega)
theorem Wij{α β R:Type}{body:Int->α->List β->(List β->Option R)->Option R}{K:Int->List β->Option R}{p:α->Bool}{f:α->β}:∀(l:List α) (j:Nat) (o:List β),o.length+l.length<=2000000->
  (∀(j:Nat) x (v:List β) k,x∈l->v.length<=2000000->body j x v k=bif p x then k (v++ [f x])else k v)->Wb2 body K l j o=K ((j+l.length:Nat):Int) (o++(l.filter p).map f)
 | [],j,o,_,_=>by simp[Wb2]
 |x::l,j,o,h,hb=>by
  rw[Xx]at h;rw[Wb2,hb j x o _ (Xh ..) (by omega),Xbg];have ih:=λo' iB=>Wij (body:=body) (K:=K) (p:=p) (f:=f) l (j+1) o' iB λj y v k hy=>hb j y v k (Xe _ hy)
  grind
theorem Wic(h:HOk l)(hl:l.length<=1048576)(hN:1048576<N):Zgq N l who=ret (Wfv l who):=by
 unfold Zgq Wfv;rw[WbR h hl hN];simp only[ret,Xd,Xr,Wc];have h1:=Wy (l:=l) (V:=List Int) (R:=Unit×(List Int×Unit)) (lp:=λn j v=>Zb6 N who l (λai aF bj=>(some ((),(bj,())))) n j v) (n:=N) (by omega)
  (body:=λj x v k=>bif x.1==who then(bif WH (v.length+ [x.2.1].length)then k (Xf v [x.2.1])else none)else k v) (K:=λ_ v=>ret v)
  (λn i v hi=>by simp only[Zb6,WU hi,Wp hi,Wv hi,Wn (show i<4611686018427387904 by omega),We])
  (λn v=>by simp[Zb6,WZ,Xn,Wc]) []
 refine h1.trans ?_;rw[Wij (p:=λh=>decide (h.1=who)) (f:=(·.2.1)) l 0 [] (by simp;omega) (λj x v k _ hv=>by rw[WC (by simp;omega)];simp only[WE,Wal,We,Xak])];rfl
theorem WiH(h:HOk l)(hm:1<=mode/\mode<=2)(hl:l.length<=1048576)(hN:1048576<N):Zi1 N l who what mode=ret (Wia l who what mode):=by
 unfold Zi1 Wia;rw[WbR h hl hN];simp only[ret,Xd,Xr,Wc,WS,Wf hm.1,Wf hm.2,Xbo];have h1:=Wy (l:=l) (V:=List Int) (R:=Unit×(List Int×Unit)) (lp:=λn j v=>Za7 N who what mode l (λbV eI cM=>(some ((),(cM,())))) n j v) (n:=N) (by omega)
  (body:=λj x v k=>bif x.2.1==what then(bif x.1 !=who then(bif mode==2 then(bif WH (v.length+ [x.1].length)then k (Xf v [x.1])else none)else(bif x.2.2==2 then(bif WH (v.length+ [x.1].length)then k (Xf v [x.1])else none)else k v))else k v)else k v) (K:=λ_ v=>ret v)
  (λn i v hi=>by simp only[Za7,WU hi,Wp hi,Wv hi,Wn (show i<4611686018427387904 by omega),We])
  (λn v=>by simp[Za7,WZ,Xn,Wc]) []
 refine h1.trans ?_;rw[Wij (p:=blk who what mode) (f:=(·.1)) l 0 [] (by simp;omega) (λj x v k _ hv=>by
  rw[WC (by simp;omega)];unfold blk;simp only[WE,Wc2,We,Xak];by_cases c1:x.2.1=what<;>by_cases c2:x.1=who<;>by_cases c3:mode=2<;>by_cases c4:x.2.2=2<;>simp[c1,c2,c3,c4])]
 rfl
theorem Wuh(h:HOk l):0<=WpX l who what/\WpX l who what<=2:=by
 unfold WpX;cases hf:fnd (WsA who what) l 0 with
 |none=>simp
 |some r=>
  have:=Wcr hf;have:=h.val r.2 (List.mem_of_getElem? this.2.2.2)
  grind [HdV]
theorem WhQ(h:HOk l)(hw:1<=who/\who<=9)(ht:0<=what/\what<=8)(hm:1<=mode/\mode<=2)(hl:l.length<=1048000)(hN:1048576<N):
  Zh2 N l who what mode=some ((),((Wb7 l who what mode).getD l,((Wb7 l who what mode).isSome,()))):=by
 unfold Zh2 Wb7;have nL:Zes N l=ret l:=by grind [Zes,WC]
 have xX:Zi0 N who what mode=ret true:=We5 (h:=(who,what,mode)) ⟨hw,ht,hm⟩;rw[nL,WbR h (by omega) hN,xX,WiH h hm (by omega) hN];simp only[ret,Xd,Xr,Wc,Wal];by_cases hb:Wia l who what mode= []
 .rw[Wa (by rw[hb];simp[Wi]),Wb hb];have h1:=WkO (l:=l) (p:=WsA who what) (N:=N) (lp:=λn j=>Zb7 N who what mode (Wi l) l (λbW=>(some ((),(bW,(true,()))))) (λew fJ=>
  (bif WH ((Xc l)+(Xc ([(who,(what,mode))])))then
 ((Zs N (Xf l ([(who,(what,mode))]))).bind λfH=>
 (some ((),(fH.1.1,(true,())))))else none)) n j)
   (K0:=λj=>some ((),(l.set j.toNat ((l.getD j.toNat (0,0,0)).1,(l.getD j.toNat (0,0,0)).2.1,WuW (l.getD j.toNat (0,0,0)).2.2 mode),(true,())))) (K1:=(bif WH ((Xc l)+(Xc ([(who,(what,mode))])))then
 ((Zs N (Xf l ([(who,(what,mode))]))).bind λfH=>
 (some ((),(fH.1.1,(true,())))))else none)) (by omega) (by omega)
   (λn j hj=>by
    simp only[Zb7,WU hj,Wp hj,Wv hj,Wn (show j<4611686018427387904 by omega),We];simp[WsA,WE,WsM,Wal])
   (λn=>by simp[Zb7,WZ,Xn,Wc])
  rw[h1];unfold Wil WpX;cases hf:fnd (WsA who what) l 0 with
  |some r=>
   obtain⟨g1,g2,g3,g4⟩:=Wcr hf;rw[Xba]at g3;rw[Xde,Xp g3]at g4;injection g4 with g4;unfold WsA at g1;simp only[Xi,Wh]at g1;simp only[Wv g3,g4,Xei,Xgh];rw[Xj];have:WuW r.2.2.2 mode=Wpz r.2.2.2 mode:=by grind [WuW,Wpz]
   rw[this,g1.1,g1.2,Wue h.ris g3 (e:=(who,what,Wpz r.2.2.2 mode)) (by simp_all) (by simp_all)]
  |none=>
   have hn:=WfZ hf;simp only;rw[WC (by simp;omega)];have hmx:Wpz 0 mode=mode:=by unfold Wpz;rw[Wb (by omega)]
   have tY:=Wi5 (cf:=cfH) (L:=l) (e:=(who,what,mode)) (h.ris.imp λh=>.inl h) (λx hx=>by
    grind [apH,WsA,Xdo,decide_eq_false_iff_not])
   unfold Zs;simp only[We,Xak];rw[Wk6 (rng:=WuQ) (N:=N) WnW (M:=Wdb cfH l (who,what,mode)) (WbJ WnW h.ris) tY.1 (λx=>by rw[tY.2 x,Wa9 WnW h.ris]) (λx hx=>by
    rcases Xm.1 hx with hx|hx
    .have:=h.val x hx
     grind [HdV,WuQ,Wsb]
    grind [Xaa,WuQ,Wsb]) (by simp;omega)]
   simp_all
 .rw[Wb (by
   simp_all [Wia,Xab,Wi]),Wa hb]
  rfl
theorem Wpg(h:HOk l)(hw:1<=who/\who<=9)(ht:0<=what/\what<=8)(hm:1<=mode/\mode<=2)(hb:Wia l who what mode= []):HOk (Wil l who what mode):=by
 have kT:=Wuh (who:=who) (what:=what) h;have hbl:∀x∈l,x.2.1=what->x.1≠who->mode≠2/\x.2.2≠2:=λx hx h1 h2=>by
  refine Classical.byContradiction λhc=>?_;have:x.1∈Wia l who what mode:=Xt.2 ⟨x,Xas.2 ⟨hx,by grind [blk]⟩,rfl⟩;simp_all
 have mH:∀x∈l,x.2.1=what->x.1≠who->WpX l who what≠2:=λx hx h1 h2=>by
  unfold WpX;cases hf:fnd (WsA who what) l 0 with
  |none=>simp
  |some r=>
   obtain⟨g1,g2,g3,g4⟩:=Wcr hf;rw[Xba]at g3;rw[Xde,Xp g3]at g4;injection g4 with g4;unfold WsA at g1;simp only[Xi,Wh]at g1;obtain⟨j,hj,rfl⟩:=Xbn hx;have hp:=Xal.1 h.up;simp only;rw[←g4]at g1⊢;rcases Xdl r.1 j with hlt|heq|hlt
   .exact((hp r.1 j g3 hj hlt).2 (by rw[h1,g1.2])).1
   .simp_all
   .exact((hp j r.1 hj g3 hlt).2 (by rw[h1,g1.2])).2
 unfold Wil;refine⟨λx hx=>?_,?_⟩
 .rcases(Wa9 WnW h.ris).1 hx with rfl|hx
  .refine⟨hw,ht,?_⟩;simp only;unfold Wpz;split<;>omega
  .exact h.val x hx.1
 .have hr:=WbJ (e:=(who,what,Wpz (WpX l who what) mode)) WnW h.ris;have hmem:=λx=>Wa9 (e:=(who,what,Wpz (WpX l who what) mode)) (x:=x) WnW h.ris;have hmj:∀x∈l,x.2.1=what->x.1≠who->Wpz (WpX l who what) mode≠2:=λx hx h1 h2=>by
   have:=mH x hx h1 h2;have:=(hbl x hx h1 h2).1;unfold Wpz;split<;>omega
  unfold Ris at hr;rw[Xal]at hr⊢;intro i j hi hj hij;refine⟨hr i j hi hj hij,λhs=>?_⟩;have hlt:=hr i j hi hj hij;have m1:=(hmem _).1 (Xo hi);have m2:=(hmem _).1 (Xo hj);generalize (Wdb cfH l (who,what,Wpz (WpX l who what) mode))[i]=x at*;generalize (Wdb cfH l (who,what,Wpz (WpX l who what) mode))[j]=y at*;rcases m1 with rfl|m1<;>rcases m2 with rfl|m2
  .exact Wl hlt (WnW.irr _)
  .grind [apH]
  .grind [apH]
  .obtain⟨a,ha,rfl⟩:=Xbn m1.1;obtain⟨b,hb',rfl⟩:=Xbn m2.1;have hp:=Xal.1 h.up;rcases Xdl a b with fg|fg|fg
   .exact(hp a b ha hb' fg).2 hs
   .subst fg;exact Wl hlt (WnW.irr _)
   .exact Wl (WnW.tr _ _ _ hlt (hp b a hb' ha fg).1) (WnW.irr _)
theorem WhU(h:HOk l):HOk (W3 l who):=⟨λx hx=>h.val x (Xas.1 hx).1,h.up.filter _⟩
theorem Wk0(h:HOk l):l.length<=81:=by
 have key:∀(l:List Hd) (c:Int),Ris cfH l->(∀e∈l,HdV e/\c<=9*e.2.1+e.1)->1<=c->(l.length:Int)<=82-c\/l= []:=by
  intro l
  induction l with
  |nil=>simp_all
  |cons a l ih=>
   intro c hr hb hc;left;have h1:=List.pairwise_cons.1 hr;have ha:=hb a (Xh ..);unfold HdV at ha;rcases ih (9*a.2.1+a.1+1) h1.2 (λe he=>⟨(hb e (Xe _ he)).1,by
    grind [Wb9,Xe,HdV]⟩) (by omega)with h|h
   .grind
   grind
 rcases key l 1 h.ris (λe he=>⟨h.val e he,by have:=h.val e he;grind [HdV]⟩) (by omega)with h|h
 .omega
 simp_all
theorem Wiu{α V R:Type}{body:Int->α->V->(V->Option R)->Option R}{K:Int->V->Option R}{p:α->Bool}{E:Int->V->Option R}:∀(l:List α) (j:Nat) (v:V),(∀(j:Nat) x v k,x∈l->body j x v k=bif p x then E j v else k v)->
  (∃a x r,l=a++x::r/\(∀y∈a,p y=false)/\p x=true/\Wb2 body K l j v=E ((j+a.length:Nat):Int) v)\/((∀y∈l,p y=false)/\Wb2 body K l j v=K ((j+l.length:Nat):Int) v)
 | [],j,v,_=>.inr ⟨by simp,rfl⟩
 |x::l,j,v,h=>by
  rw[Wb2,h j x v _ (Xh ..)];cases hp:p x
  .simp only[Wc];rcases Wiu (E:=E) l (j+1) v λj y v k hy=>h j y v k (Xe _ hy)with⟨a,y,r,h1,h2,h3,h4⟩|⟨h1,h2⟩
   .refine .inl ⟨x::a,y,r,by rw[h1];rfl,λz hz=>?_,h3,?_⟩
    .rcases List.mem_cons.1 hz with rfl|hz
     .exact hp
     .exact h2 z hz
    .rw[h4,Xx,show j+1+a.length=j+(a.length+1) by omega]
   grind
  .exact .inl ⟨[],x,l,rfl,by simp,hp,rfl⟩
theorem Wqo{N:Nat}(a0:Int){R:Type}(K:Int->Int->Bool->List Hd->Int->Option R):
  ∀(r a m:List Hd) (n:Nat),r.length<n->a.length+m.length+r.length<=1048576->∃m',
   Zd N K n (a.length:Int) ((a.length+m.length:Nat):Int) (a++m++r) a0=
    K ((a++r.filter λx=>!(x.1==a0)).length:Int) ((a.length+m.length+r.length:Nat):Int) false ((a++r.filter λx=>!(x.1==a0))++m') a0
 | [],a,m,0,h,_=>by simp at h
 | [],a,m,n+1,h,_=>by
  refine⟨m,?_⟩;have e1:decide (((a.length+m.length:Nat):Int)<Wi (a++m++ []))=false:=by simp[Wi]
  simp only[Zd,e1,Wc];simp
 |x::r,a,m,0,h,_=>by simp at h
 |x::r,a,m,n+1,h,hb=>by
  simp only[Xx]at h hb;have hj:a.length+m.length<(a++m++x::r).length:=by simp
  have hi:a.length<(a++m++x::r).length:=by simp;omega
  have hx:Xb (a++m++x::r) (a.length+m.length) ((0:Int),((0:Int),(0:Int)))=x:=by
   simp_all
  cases hp:x.1==a0
  .obtain⟨m2,rq,uG⟩:∃m2:List Hd,m2.length=m.length/\(a++m++x::r).set a.length x=(a++ [x])++m2++r:=by
    cases m with
    |nil=>simp_all
    |cons y m=>grind
   obtain⟨m',ih⟩:=Wqo (N:=N) a0 K r (a++ [x]) m2 n (by omega) (by simp;omega);refine⟨m',?_⟩;simp only[Zd,Zf4,WU hj,Wp hj,Wp hi,Xj,hx,hp,Xd,We,Xdm,Xj,uG,
    Wn (show a.length<4611686018427387904 by omega),Wn (show a.length+m.length<4611686018427387904 by omega)]
   have l1:(a++ [x]).length=a.length+1:=by simp
   rw[l1,rq,show a.length+1+m.length=a.length+m.length+1 by omega]at ih;rw[ih];simp only[Xbg,hp,Xdm,Waw,Xbj,Xel,Xx];rw[show a.length+m.length+1+r.length=a.length+m.length+(r.length+1) by omega]
  .obtain⟨m',ih⟩:=Wqo (N:=N) a0 K r a (m++ [x]) n (by omega) (by simp;omega);refine⟨m',?_⟩;simp only[Zd,Zf4,WU hj,Wp hj,Wp hi,Xj,hx,hp,Xd,We,Wc,Xr,
    Wn (show a.length+m.length<4611686018427387904 by omega)]
   simp only[Xac,Xx,Xdw,Xba]at ih;rw[show a.length+(m.length+1)=a.length+m.length+1 by omega,show a++(m++ [x])++r=a++m++x::r by simp]at ih;rw[ih];simp only[Xbg,hp,Xr,WaE,Xbl,Xx];simp only[Xac];rw[show a.length+m.length+1+r.length=a.length+m.length+(r.length+1) by omega]
theorem WpK{N:Nat}{s:List Hd}{a0:Int}(hN:1048576<N)(hs:s.length<=100000):
  Zo N s a0=some ((a0,()),(s.filter λx=>!(x.1==a0),())):=by
 unfold Zo;have h1:=Wy (l:=s) (V:={v:Int//v=a0}) (R:=Ki×Ki) (lp:=λn j v=>Zj N s (λaX aZ=>some ((aZ,()),(aX,()))) (λbV eI bu=>some ((bu,()),((-1:Int),()))) n j v.1) (n:=N) (by omega)
  (body:=λj x v k=>bif x.1==a0 then some ((v.1,()),(j,()))else k v) (K:=λ_ v=>some ((v.1,()),((-1:Int),())))
  (λn i v hi=>by
   obtain⟨v,rfl⟩:=v;simp only[Zj,WU hi,Wp hi,Wv hi,Wn (show i<4611686018427387904 by omega),We,Zf4,Xd])
  (λn v=>by simp[Zj,WZ,Xn,Wc]) ⟨a0,rfl⟩
 simp only[]at h1;unfold Zu;rw[h1];rcases Wiu (body:=λj x (v:{v:Int//v=a0}) k=>bif x.1==a0 then some ((v.1,()),(j,()))else k v) (K:=λ_ v=>(some ((v.1,()),((-1:Int),())):Option (Ki×Ki))) (p:=λx=>x.1==a0)
  (E:=λj v=>some ((v.1,()),(j,()))) s 0 ⟨a0,rfl⟩ (λj x v k _=>rfl)with⟨a,x,r,cS,ha,hx,hr⟩|⟨ha,hr⟩
 .rw[hr];simp only[Xd,Xba];have e0:((a.length:Int)== -1)=false:=by simp
  rw[e0,Wn (show a.length<4611686018427387904 by grind)];simp only[Wc];obtain⟨m',hd⟩:=Wqo (N:=N) a0 (λfq xD bV bW bu=>
     (bif (decide ((0:Int)<=fq))&&(decide (fq<=((Xc bW):Int)))then
      (bif (decide ((0:Int)<=fq))&&(decide (fq<=((Xc ((Xau (Xa fq) bW)++Xw ((Xc bW) -(Xa fq)) ((0:Int),((0:Int),(0:Int)))++(List.drop (Xc bW) bW))):Int)))then
       (some ((bu,()),(Xau (Xa fq) ((Xau (Xa fq) bW)++Xw ((Xc bW) -(Xa fq)) ((0:Int),((0:Int),(0:Int)))++(List.drop (Xc bW) bW)),())))else none)else none)) r a [x] N (by grind) (by grind)
  rw[show a++ [x]++r=s by simp_all]at hd;simp only[Xx,Xdw,Xba]at hd;rw[hd];have hf:(s.filter λx=>!(x.1==a0))=a++r.filter λx=>!(x.1==a0):=by
   rw[cS,List.filter_append,Xbg];have:(a.filter λx=>!(x.1==a0))=a:=Xga.2 λy hy=>by grind
   grind
  grind
 grind [Xga]
theorem Whg(h:HOk l)(hl:l.length<=100000)(hN:1048576<N):Zlx N l who=ret (W3 l who):=by
 have nL:Zes N l=ret l:=by grind [Zes,WC]
 unfold Zlx;rw[nL,WbR h (by omega) hN];simp only[ret,Xd,Xr,Wc];rw[WpK hN hl];rfl
end
section
structure Cm where
 who:Int:=0
 rv:Int:=0
 phase:Int:=0
 pos:Int:=0
 wv:Int:=0
 puts:List Rw:=[]
 reads:List Int:=[]
def Cm.e(c:Cm):Int×Int×Int×Int×Int×List Kc×List Int:=(c.who,c.rv,c.phase,c.pos,c.wv,c.puts,c.reads)
def Cm.steps(c:Cm):Int:=
 if c.phase=1\/c.phase=4\/c.phase=5\/c.phase=7 then c.puts.length else if c.phase=3 then c.reads.length else 1
def Wao(c:Cm)(n:Int):Cm:=if n=0 then{c with phase:=8,pos:=0}else{c with phase:=7,pos:=n-1}
def Wbk(c:Cm)(ph:Int):Int:=
 if(ph=3/\c.reads.length=0\/ph=4)/\c.puts.length=0 then 6 else if ph=3/\c.reads.length=0 then 4 else ph
def Wdi(c:Cm)(ph:Int):Cm:={c with phase:=Wbk c ph,pos:=0}
def WB(c:Cm)(ph:Int):Cm:=if c.pos+1=c.steps then Wdi c ph else{c with pos:=c.pos+1}
def WkB(m:Mm)(i who:Int):Mm:=WmU m i ((Ww m i).1,(Ww m i).2.1,who)
def WbW(m:Mm)(i who v:Int):Mm:=if(Ww m i).2.2=who then WmU m i (v,(Ww m i).2)else m
def Wav(m:Mm)(i who ver:Int):Mm:=if(Ww m i).2.2=who/\(Ww m i).2.1<=ver/\ver<=m.1 then WmU m i ((Ww m i).1,ver,0)else m
def Wz(m:Mm)(c:Cm):Mm×Cm:=
 let p:=Wcp c.puts c.pos (0,0)
 if c.phase=1 then(if(Ww m p.1).2.2=0 then(WkB m p.1 c.who,WB c 2)else(m,Wao c c.pos))else
 if c.phase=2 then(if(tick m).2=0 then((tick m).1,Wao c c.puts.length)else((tick m).1,Wdi {c with wv:=(tick m).2} 3))else
 if c.phase=3 then
  let w:=Ww m (Wcp c.reads c.pos 0)
  if(w.2.2≠0/\w.2.2≠c.who)\/w.2.1>c.rv then(m,Wao c c.puts.length)else(m,WB c 4)
 else
 if c.phase=4 then(WbW m p.1 c.who p.2,WB c 5)else
 if c.phase=5 then(Wav m p.1 c.who c.wv,WB c 6)else
 if c.phase=7 then(Wav m p.1 c.who (Ww m p.1).2.1,Wao c c.pos)else
 (m,c)
def W7(c:Cm):Cm:=
 if c.phase=1 then Wao c c.pos else if c.phase=2\/c.phase=3 then Wao c c.puts.length else c
def Wcx(who rv:Int)(puts reads:List Rw):Cm:=
 {who:=who,rv:=rv,phase:=if(WbU puts).length=0 then 2 else 1,puts:=WbU puts,reads:=(WbU reads).map (·.1)}
structure CmOk(c:Cm):Prop where
 who:1<=c.who/\c.who<=99
 rv:0<=c.rv/\c.rv<=1000000
 wv:0<=c.wv/\c.wv<=1000000
 phase:1<=c.phase/\c.phase<=8
 rows:WcU c.puts
 pup:c.puts.Pairwise λa b=>a.1<b.1
 plen:c.puts.length<=8
 rd:∀x∈c.reads,0<=x/\x<=7
 rup:c.reads.Pairwise (· < ·)
 rlen:c.reads.length<=8
 pos:0<=c.pos/\c.pos<c.steps
section
variable{N:Nat}{c:Cm}{m:Mm}
theorem CmOk.back(h:CmOk c){n:Int}(hn:0<=n/\n<=c.puts.length):CmOk (Wao c n):=by
 unfold Wao;split
 .exact{h with phase:=by simp_all,pos:=by simp[Cm.steps]}
 .exact{h with phase:=by simp_all,pos:=by grind [Cm.steps]}
theorem Wtb(c:Cm){ph:Int}(h:2<=ph/\ph<=6):2<=Wbk c ph/\Wbk c ph<=6:=by unfold Wbk;split<;>(try split)<;>omega
theorem CmOk.adv(h:CmOk c){ph:Int}(hp:2<=ph/\ph<=6)(h5:ph=5->c.puts.length≠0):CmOk (Wdi c ph):=by
 unfold Wdi;have:=Wtb c hp;refine{h with phase:=by grind,pos:=⟨Int.le_refl _,?_⟩}
 grind [Cm.steps,Wbk]
theorem CmOk.next(h:CmOk c){ph:Int}(hp:2<=ph/\ph<=6)(h5:ph=5->c.puts.length≠0):CmOk (WB c ph):=by
 unfold WB;split
 .exact h.adv hp h5
 .have:=h.pos;exact{h with pos:=⟨by grind,by show c.pos+1<c.steps;omega⟩}
theorem Wsp(hm:W2 m=true){i who:Int}(hi:0<=i/\i<=7)(hw:0<=who/\who<=99):W2 (WkB m i who)=true:=by
 have:=WeB.1 (WeP hm hi);exact Wm6 hm (by grind [WeB])
theorem WqN(hm:W2 m=true){i who v:Int}(hi:0<=i/\i<=7)(hv:0<=v/\v<=65535):W2 (WbW m i who v)=true:=by
 grind [WeB,WeP,WbW,Wm6]
theorem WjF(hm:W2 m=true){i who ver:Int}(hi:0<=i/\i<=7):W2 (Wav m i who ver)=true:=by
 grind [WeB,WeP,Wav,Wm6]
theorem CmOk.put(h:CmOk c)(hp:c.phase=1\/c.phase=4\/c.phase=5\/c.phase=7):∃(j:Nat) (hj:j<c.puts.length),c.pos=j/\Wcp c.puts c.pos (0,0)=c.puts[j]/\(0<=c.puts[j].1/\c.puts[j].1<=7)/\0<=c.puts[j].2/\c.puts[j].2<=65535:=by
 have:=h.pos;unfold Cm.steps at this;rw[Wb hp]at this;have hj:c.pos.toNat<c.puts.length:=by omega
 have hr:=h.rows _ (Xo hj);exact⟨c.pos.toNat,hj,by omega,Wt hj _,hr.1,hr.2⟩
theorem CmOk.read(h:CmOk c)(hp:c.phase=3):∃(j:Nat) (hj:j<c.reads.length),c.pos=j/\Wcp c.reads c.pos 0=c.reads[j]/\0<=c.reads[j]/\c.reads[j]<=7:=by
 have:=h.pos;unfold Cm.steps at this;rw[Wa (by omega),Wb hp]at this;have hj:c.pos.toNat<c.reads.length:=by omega
 have hr:=h.rd _ (Xo hj);exact⟨c.pos.toNat,hj,by omega,Wt hj _,hr⟩
theorem WlD(h:CmOk c)(hm:W2 m=true):CmOk (Wz m c).2/\W2 (Wz m c).1=true:=by
 have ct:=h.pos;have hl:c.phase=1\/c.phase=4\/c.phase=5\/c.phase=7->c.puts.length≠0:=λhp=>by obtain⟨j,hj,_⟩:=h.put hp;omega
 have aS:c.phase=1\/c.phase=4\/c.phase=5\/c.phase=7->c.pos<c.puts.length:=λhp=>by simp_all [Cm.steps,Wb]
 have hw:=h.who;unfold Wz;simp only;split
 .obtain⟨j,hj,e1,e2,e3,e4⟩:=h.put (by omega);rw[e2];split
  .exact⟨h.next (by omega) (by omega),Wsp hm e3 (by omega)⟩
  .exact⟨h.back (by omega),hm⟩
 .split
  .have ht:=WjR hm;split
   .exact⟨h.back (by omega),ht.1⟩
   .refine⟨?_,ht.1⟩;have h':CmOk {c with wv:=(tick m).2}:={h with wv:=⟨ht.2.1,ht.2.2.1⟩};exact h'.adv (by omega) (by omega)
  .split
   .split
    .exact⟨h.back (by omega),hm⟩
    .exact⟨h.next (by omega) (by omega),hm⟩
   .split
    .obtain⟨j,hj,e1,e2,e3,e4⟩:=h.put (by omega);rw[e2];exact⟨h.next (by omega) (λ_=>hl (by omega)),WqN hm e3 e4⟩
    .split
     .obtain⟨j,hj,e1,e2,e3,e4⟩:=h.put (by omega);rw[e2];exact⟨h.next (by omega) (by omega),WjF hm e3⟩
     .split
      .obtain⟨j,hj,e1,e2,e3,e4⟩:=h.put (by omega);have:=aS (by omega);rw[e2];exact⟨h.back (by omega),WjF hm e3⟩
      simp_all
theorem Wo3(h:CmOk c):CmOk (W7 c):=by
 have ct:=h.pos;unfold W7;split
 .have:c.pos<c.puts.length:=by simp_all [Cm.steps,Wb]
  exact h.back (by omega)
 .split
  .exact h.back (by omega)
  .exact h
theorem Wth{who rv:Int}{puts reads:List Rw}(hw:1<=who/\who<=99)(hr:0<=rv/\rv<=1000000):CmOk (Wcx who rv puts reads) where
 who:=hw
 rv:=hr
 wv:=by simp[Wcx]
 phase:=by unfold Wcx;simp only;split<;>omega
 rows:=Web
 pup:=WgA puts
 plen:=WeF puts
 rd:=λx hx=>by
  obtain⟨r,hr,rfl⟩:=Xt.1 hx;exact(Web r hr).1
 rup:=by
  simp[Wcx,List.pairwise_map,WgA]
 rlen:=by simp[Wcx,Xu,WeF]
 pos:=by
  unfold Wcx Cm.steps
  grind
theorem cmP(c:Cm):c.e.1=c.who/\c.e.2.1=c.rv/\c.e.2.2.1=c.phase/\c.e.2.2.2.1=c.pos/\c.e.2.2.2.2.1=c.wv/\c.e.2.2.2.2.2.1=c.puts/\c.e.2.2.2.2.2.2=c.reads:=⟨rfl,rfl,rfl,rfl,rfl,rfl,rfl⟩
theorem Wbh{who:Int}:Zdb N who=ret (decide (1<=who)&&decide (who<=99)):=by simp[Zdb,WS]
theorem Wdy(hm:W2 m=true):Zcd N m=ret m:=by
 grind [WP,Zcd,WC]
theorem Wi3(h:CmOk c):Zhs N c.e=ret c.e:=by
 unfold Zhs;have:=h.plen;have:=h.rlen;rw[show Za1 N c.e.2.2.2.2.2.1=ret c.puts from WcG (show c.puts.length<=1048576 by omega),show Zp N c.e.2.2.2.2.2.2=ret c.reads from Wck (show c.reads.length<=1048576 by omega)];rfl
theorem Wln:Zdd N c.e=ret c.steps:=by
 unfold Zdd Cm.steps;obtain⟨c0,c1,c2,c3,c4,c5,c6⟩:=cmP c;simp only[WE,c2,c5,c6,Wi]
 grind
theorem WgS(h:CmOk c)(hN:1048576<N):Zfl N c.e=ret true:=by
 obtain⟨c0,c1,c2,c3,c4,c5,c6⟩:=cmP c;have eB:=h.plen;have dn:=h.rlen;have hw:=h.who;have ik:=h.rv;have we:=h.wv;have cd:=h.phase;have ct:=h.pos;have di:WaT c.puts=true:=by unfold WaT;rw[Whr.2 h.rows,Wf (by omega)];rfl
 unfold Zfl;simp only[c0,c1,c2,c3,c4,c5,c6,Wbh,WS,Wap (show c.puts.length<=1048576 by omega) hN,Wln,ret,Xd,Wf hw.1,Wf hw.2,Wf ik.1,Wf ik.2,Wf we.1,Wf we.2,Wf cd.1,Wf cd.2,di,Xbo,Xr,Wc];have ub:c.steps<=8:=by unfold Cm.steps;split<;>(try split)<;>omega
 have wg:W1 .i64 c.steps 1=c.steps-1:=Wak (by unfold I64;omega);rw[wg,Wf ct.1,Wf (show c.pos<=c.steps-1 by omega)];have wh:∀(d j n:Nat),j+d=c.reads.length->d<n->Zbe N c.reads c.e (some ((),(false,()))) (λt22 gr=>(some ((),(true&&true,())))) n (j:Int)=ret true:=by
  intro d
  induction d with
  |zero=>
   intro j n hj hn;obtain⟨n,rfl⟩:∃n',n=n'+1:=⟨n-1,by omega⟩;simp_all [Zbe,WZ,Xn,Wc]
  |succ d ih=>
   intro j n hj hn;obtain⟨n,rfl⟩:∃n',n=n'+1:=⟨n-1,by omega⟩;have hlt:j<c.reads.length:=by omega
   have bo:=ih (j+1) n (by omega) (by omega);have hv:=h.rd _ (Xo hlt);have ar:Wai c.reads[j]=true:=by grind [Wai]
   simp only[Zbe,c6,WU hlt,Wp hlt,Wv hlt,Wn (show j<4611686018427387904 by omega),We,WaD,ret,Xd,ar,Xr,Wc,bo];by_cases h0:j=0
   .grind
   .have e1:decide ((j:Int)>0)=true:=by simp;omega
    have e2:W1 .i64 (j:Int) 1=((j-1:Nat):Int):=by grind [Wak,I64]
    have bq:j-1<c.reads.length:=by omega
    have hb:=Xal.1 h.rup (j-1) j bq hlt (by omega);simp_all [We,Wp,Wv,Wq]
 have xY:∀(d j n:Nat),j+d=c.puts.length->d<n->1<=j->Zbw N c.e (some ((),(false,()))) (λol ai=>(Zbe N c.reads c.e (some ((),(false,()))) (λt22 gr=>(some ((),(true&&true,())))) N (0:Int))) n (j:Int)=ret true:=by
  intro d
  induction d with
  |zero=>
   intro j n hj hn _;obtain⟨n,rfl⟩:∃n',n=n'+1:=⟨n-1,by omega⟩;have:j=c.puts.length:=by omega
   subst this;simp only[Zbw,c5,WZ (Xn _),Wc];exact wh c.reads.length 0 N (by omega) (by omega)
  |succ d ih=>
   intro j n hj hn h1j;obtain⟨n,rfl⟩:∃n',n=n'+1:=⟨n-1,by omega⟩;have hlt:j<c.puts.length:=by omega
   have bo:=ih (j+1) n (by omega) (by omega) (by omega);have e2:W1 .i64 (j:Int) 1=((j-1:Nat):Int):=by grind [Wak,I64]
   have bq:j-1<c.puts.length:=by omega
   have hb:=Xal.1 h.pup (j-1) j bq hlt (by omega);simp only[Zbw,c5,WU hlt,Wp hlt,Wv hlt,Wn (show j<4611686018427387904 by omega),We,e2,Wp bq,Wv bq]
   grind
 by_cases hz:c.puts.length=0
 .obtain⟨N',rfl⟩:∃N',N=N'+1:=⟨N-1,by omega⟩;rw[Zbw,c5,Wq (by unfold Wi;omega)];exact wh c.reads.length 0 _ (by omega) (by omega)
 .exact xY (c.puts.length-1) 1 N (by omega) (by omega) (by omega)
theorem Why(h:CmOk c){n:Int}(hn:0<=n/\n<=8):Z3 N c.e n=some (((Wao c n).e,()),()):=by
 unfold Z3 Wao;rw[WE,Wak (by unfold I64;omega)];split<;>rfl
theorem Wqn{ph:Int}:Ze3 N c.e ph=some (((Wdi c ph).e,()),()):=by
 obtain⟨c0,c1,c2,c3,c4,c5,c6⟩:=cmP c;unfold Ze3 Wdi Wbk;simp only[WE,c5,c6,Wi];by_cases h3:ph=3
 .subst h3;by_cases hr:c.reads.length=0<;>by_cases hp:c.puts.length=0<;>simp[hr,hp]<;>rfl
 .by_cases h4:ph=4
  .subst h4;by_cases hp:c.puts.length=0<;>simp[hp]<;>rfl
  .simp[h3,h4];rfl
theorem Wsm(h:CmOk c){ph:Int}:Zbl N c.e ph=some (((WB c ph).e,()),()):=by
 obtain⟨c0,c1,c2,c3,c4,c5,c6⟩:=cmP c;have ct:=h.pos;have ub:c.steps<=8:=by have:=h.plen;have:=h.rlen;unfold Cm.steps;split<;>(try split)<;>omega
 have aS:Zdd N (Cm.e {c with pos:=c.pos+1})=ret c.steps:=Wln;unfold Zbl WB;rw[c3,WJ (by unfold I64;omega)];rw[show(c.e.1,(c.e.2.1,(c.e.2.2.1,(c.pos+1,c.e.2.2.2.2))))=Cm.e {c with pos:=c.pos+1}from rfl,aS];simp only[ret,Xd,WE,Wqn];split<;>rfl
theorem WrM(h:CmOk c)(hN:1048576<N):∃b,Zjc N c.e=some ((),((W7 c).e,(b,()))):=by
 obtain⟨c0,c1,c2,c3,c4,c5,c6⟩:=cmP c;have ct:=h.pos;have eB:=h.plen;have ub:c.steps<=8:=by have:=h.plen;have:=h.rlen;unfold Cm.steps;split<;>(try split)<;>omega
 unfold Zjc W7;rw[Wi3 h];simp only[ret,Xd];rw[WgS h hN];simp only[ret,Xd,Xr,Wc,WE,c2,c3,c5,Why h (show 0<=c.pos/\c.pos<=8 by omega),Why h (show 0<=Wi c.puts/\Wi c.puts<=8 by unfold Wi;omega)];by_cases h1:c.phase=1
 .simp_all
 .rw[Wa h1,Wa h1];by_cases h2:c.phase=2
  .rw[Wb h2,Wb h2,Wb (.inl h2)];exact⟨_,rfl⟩
  .rw[Wa h2];by_cases h3:c.phase=3
   .rw[Wb h3,Wb (.inr h3)];exact⟨_,rfl⟩
   simp_all
theorem Wnk{l:List Rw}(hl:l.length<=1048576)(hN:1048576<N):Zh1 N l=ret ((WbU l).map (·.1)):=by
 unfold Zh1;rw[WdL hl hN];have hn:=WeF l;simp only[ret,Xd];have h1:=Wy (l:=WbU l) (V:=List Int) (R:=Unit×(List Int×Unit)) (lp:=λn j v=>Zcu N (Wi (WbU l)) (WbU l) (λaw ay aK=>(some ((),(aK,())))) n j v) (n:=N) (by omega)
  (body:=λj x v k=>bif WH (v.length+ [x.1].length)then k (Xf v [x.1])else none) (K:=λ_ v=>ret v)
  (λn i v hi=>by simp only[Zcu,WU hi,Wp hi,Wv hi,Wn (show i<4611686018427387904 by omega),We])
  (λn v=>by simp[Zcu,WZ,Xn,Wc]) []
 refine h1.trans ?_;rw[WcE (f:=λx:Rw=>x.1) (WbU l) 0 [] (by simp;omega) (λj x v k _=>rfl)];rfl
theorem WuF{who rv:Int}{puts reads:List Rw}(hw:1<=who/\who<=99)(hr:0<=rv/\rv<=1000000)(hp:WaT puts=true)(hd:WaT reads=true)(hN:1048576<N):
  Zer N who rv puts reads=some ((),((Wcx who rv puts reads).e,(true,()))):=by
 have l1:puts.length<=300:=by grind [WaT]
 have l2:reads.length<=300:=by grind [WaT]
 unfold Zer;simp only[Wbh,WS,Wap (show puts.length<=1048576 by omega) hN,Wap (show reads.length<=1048576 by omega) hN,WdL (show puts.length<=1048576 by omega) hN,Wnk (show reads.length<=1048576 by omega) hN,ret,Xd,Wf hw.1,Wf hw.2,Wf hr.1,Wf hr.2,hp,hd,Xbo,Xr,Wc,WE];unfold Wcx Cm.e;by_cases hz:(WbU puts).length=0
 .simp_all [Wb,Wi]
 simp_all [Wa,Wi]
theorem Whv{m:Mm}{i:Int}:Xb m.2 (Xa i) ((0:Int),((0:Int),(0:Int)))=Ww m i:=rfl
theorem WgM(hm:W2 m=true){i:Int}(hi:0<=i/\i<=7):inb i m.2.length=true:=by
 grind [WP,inb]
theorem Wio{i:Int}(hi:0<=i/\i<=7):Wai i=true:=by grind [Wai]
theorem Wmh(hm:W2 m=true){i who:Int}(hi:0<=i/\i<=7)(hw:1<=who/\who<=99)(hN:1048576<N):
  Zno N m i who=some ((),((if(Ww m i).2.2=0 then WkB m i who else m),(decide ((Ww m i).2.2=0),()))):=by
 unfold Zno;rw[Wdy hm,Wbg (by grind [WP]) hN,hm];simp only[ret,Xd,Xr,Wc,WaD,Wio hi,Wbh,Wf hw.1,Wf hw.2,Xbo,WgM hm hi,We,Whv,Wc2];by_cases h:(Ww m i).2.2=0
 .rw[Wb h,Wb h,Wf h];rfl
 simp_all
theorem Wks(hm:W2 m=true){i who v:Int}(hi:0<=i/\i<=7)(hw:1<=who/\who<=99)(hv:0<=v/\v<=65535)(hN:1048576<N):
  ∃b,Zom N m i who v=some ((),(WbW m i who v,(b,()))):=by
 unfold Zom WbW;rw[Wdy hm,Wbg (by grind [WP]) hN,hm];simp only[ret,Xd,Xr,Wc,WaD,Wio hi,Wbh,Wat,Wbc.2 hv,Wf hw.1,Wf hw.2,Xbo,WgM hm hi,We,Whv,Wc2];by_cases h:(Ww m i).2.2=who
 .rw[Wb h,Wb h];exact⟨_,rfl⟩
 simp_all
theorem We4(hm:W2 m=true){i who ver:Int}(hi:0<=i/\i<=7)(hw:1<=who/\who<=99)(hN:1048576<N):
  ∃b,Zli N m i who ver=some ((),(Wav m i who ver,(b,()))):=by
 have h8:=(WP hm).1;unfold Zli Wav;rw[Wdy hm,Wbg (by omega) hN,hm];simp only[ret,Xd,Xr,Wc,WaD,Wio hi,Wbh,WS,Wf hw.1,Wf hw.2,Xbo,WgM hm hi,We,Whv,Wc2,Xaf,Wu];by_cases h:(Ww m i).2.2=who
 .rw[Wb h];by_cases h2:(Ww m i).2.1<=ver/\ver<=m.1
  .rw[Wb ⟨h,h2.1,h2.2⟩,Wf h2.1,Wf h2.2];refine⟨true,?_⟩;have:i.toNat<m.2.length:=by omega
   simp only[Xbo,Xr,Wc,WjQ this,Xdy];rfl
  .rw[Wa (by omega)];refine⟨false,?_⟩
   grind
 simp_all
theorem Wlj(h:CmOk c)(hm:W2 m=true)(hN:1048576<N):Zjt N m c.e=some ((),((Wz m c).1,((Wz m c).2.e,()))):=by
 obtain⟨c0,c1,c2,c3,c4,c5,c6⟩:=cmP c;have ct:=h.pos;have eB:=h.plen;have hw:=h.who;have ub:c.steps<=8:=by have:=h.plen;have:=h.rlen;unfold Cm.steps;split<;>(try split)<;>omega
 have b1:=Why (N:=N) h (show 0<=c.pos/\c.pos<=8 by omega);have b2:=Why (N:=N) h (show 0<=Wi c.puts/\Wi c.puts<=8 by unfold Wi;omega);unfold Zjt Wz;rw[Wdy hm,Wi3 h];simp only[ret,Xd];rw[Wbg (by grind [WP]) hN,WgS h hN,hm];simp only[ret,Xd,Xr,Wc,WE,c0,c1,c2,c3,c4,c5,c6,WfJ,b1,b2,Wsm h];by_cases h1:c.phase=1
 .rw[Wb h1,Wb h1];obtain⟨j,hj,e1,e2,e3,e4⟩:=h.put (by omega);rw[show Xb c.puts (Xa c.pos) ((0:Int),(0:Int))=c.puts[j]from e2,e2,e1,W8,Wf hj,Wmh hm e3 hw hN,←e1]
  grind
 .rw[Wa h1,Wa h1];by_cases h2:c.phase=2
  .rw[Wb h2,Wb h2,WlC hm hN];simp only[Xd];by_cases ht:(tick m).2=0
   .rw[Wb ht,Wb ht];rfl
   .rw[Wa ht,Wa ht];rw[show(c.who,(c.rv,(c.phase,(c.pos,((tick m).2,c.e.2.2.2.2.2)))))=Cm.e {c with wv:=(tick m).2}from rfl,Wqn];rfl
  .rw[Wa h2,Wa h2];by_cases h3:c.phase=3
   .rw[Wb h3,Wb h3];obtain⟨j,hj,e1,e2,e3,e4⟩:=h.read h3;rw[show Xb c.reads (Xa c.pos) (0:Int)=c.reads[j]from e2,e2,e1,W8,Wf hj,WgM hm ⟨e3,e4⟩];simp only[We,Wc2,Wal];rw[show Xb m.2 (Xa c.reads[j]) ((0:Int),((0:Int),(0:Int)))=Ww m c.reads[j]from rfl];by_cases a:(Ww m c.reads[j]).2.2=0
    .rw[Wb a];by_cases b:(Ww m c.reads[j]).2.1>c.rv
     .rw[Wb b,Wb (.inr b)];rfl
     grind
    .rw[Wa a];by_cases a':(Ww m c.reads[j]).2.2=c.who
     .rw[Wb a'];by_cases b:(Ww m c.reads[j]).2.1>c.rv
      .rw[Wb b,Wb (.inr b)];rfl
      grind
     .rw[Wa a',Wb (.inl ⟨a,a'⟩)];rfl
   .rw[Wa h3,Wa h3];by_cases h4:c.phase=4
    .rw[Wb h4,Wb h4];obtain⟨j,hj,e1,e2,e3,e4⟩:=h.put (by omega)
     grind [Wks,Xb,Xa,W8,decide_eq_true]
    .rw[Wa h4,Wa h4];by_cases h5:c.phase=5
     .rw[Wb h5,Wb h5];obtain⟨j,hj,e1,e2,e3,e4⟩:=h.put (by omega);obtain⟨b,hb⟩:=We4 (ver:=c.wv) hm e3 hw hN
      grind [Xb,Xa,W8,decide_eq_true]
     .rw[Wa h5,Wa h5];by_cases h7:c.phase=7
      .rw[Wb h7,Wb h7];obtain⟨j,hj,e1,e2,e3,e4⟩:=h.put (by omega);obtain⟨b,hb⟩:=We4 (ver:=(Ww m c.puts[j].1).2.1) hm e3 hw hN;rw[show Xb c.puts (Xa c.pos) ((0:Int),(0:Int))=c.puts[j]from e2,e2,e1,W8,Wf hj,WgM hm e3];simp only[We,Whv,hb,←e1];rfl
      simp_all
end
end
section
abbrev RM:=Int×Int×Int×Int×List Int
abbrev Wr:=Int×Int×List Rw
abbrev Pg:=List Opn×List (List Opn)
abbrev Ac:=Int×Int×Int
abbrev Sc:=Kf×List Pg×List Ac
structure Rt where
 phase:Int:=0
 tries:Int:=0
 spare:Int:=0
 pc:Int:=0
 rv:Int:=0
 newRv:Int:=0
 pos:Int:=0
 fate:Int:=0
 stamp:Int:=0
 began:Int:=0
 ended:Int:=0
 doomed:Bool:=false
 regs:List Int:=[]
 reads:List Rw:=[]
 writes:List Rw:=[]
 marks:List RM:=[]
 undos:List Un:=[]
 order:List Int:=[]
 busy:Bool:=false
 pb:Pb:=(0,0,0,0)
 cm:Cm:={}
 fam:Fm:={}
def Rt.e(r:Rt):Y_Root:=(r.phase,r.tries,r.spare,r.pc,r.rv,r.newRv,r.pos,r.fate,r.stamp,r.began,r.ended,r.doomed,r.regs,r.reads,r.writes,r.marks,r.undos,r.order,r.busy,r.pb,r.cm.e,r.fam.e)
structure Wo where
 now:Int:=0
 token:Int:=0
 mem:Mm:=(0,[])
 shelf:Shf:=([],0)
 holds:List Hd:=[]
 roots:List Rt:=[]
 hist:List Wr:=[]
def Wo.e(w:Wo):Y_World:=(w.now,w.token,w.mem,w.shelf,w.holds,w.roots.map Rt.e,w.hist)
def zRM:RM:=(0,0,0,0,[])
def Rt.last(x:Rt):RM:=WgI x.marks zRM
def Wdc(x:Rt):Rt:={phase:=6,tries:=x.tries,undos:=x.undos}
def W4(x:Rt):Rt:=
 if x.marks.length=0\/x.spare=2 then Wdc x else{x with spare:=x.spare+1,busy:=false,pb:=(0,0,0,0),phase:=3}
def Weg(w:Wo)(x:Rt):Wo×Rt:=({w with shelf:=Wh8 w.shelf (WgI x.undos (0,0,0))},{x with undos:=x.undos.dropLast})
def Wlb(w:Wo)(x:Rt)(k:Nat):Wo×Rt:=
 ({w with token:=if w.token=(k:Int)+1 then 0 else w.token},{x with phase:=8,ended:=w.now,undos:=[],doomed:=false})
def WbV(w:Wo)(x:Rt)(k:Nat)(out:Int):Wo×Rt:=
 let rows:=if out=2 then []else x.writes
 if rows.length=0/\(Wfv w.holds ((k:Int)+1)).length=0 then Wlb w {x with fate:=out,stamp:=x.rv} k
 else(w,{x with fate:=out,cm:=Wcx ((k:Int)+1) x.rv rows x.reads,phase:=5})
def Wd9(w:Wo)(x:Rt)(o:Opn):Rt:=
 match Wa1 x.writes o.2.2.1 with
 |some v=>{x with regs:=WmT x.regs o.2.1 v,pc:=x.pc+1}
 |none=>
  let p:=WV w.mem x.rv (if x.busy then x.pb else(o.2.2.1,0,0,0))
  if p.2.1=4 then W4 {x with busy:=true,pb:=p}
  else if p.2.1=3 then{x with regs:=WmT x.regs o.2.1 p.2.2.2,reads:=x.reads++ [(o.2.2.1,p.2.2.2)],busy:=false,pb:=(0,0,0,0),pc:=x.pc+1}
  else{x with busy:=true,pb:=p}
def Wdr(w:Wo)(x:Rt)(k:Nat)(code:List Opn):Wo×Rt:=
 if x.marks.length=0 then WbV w x k 2 else
 if(x.undos.length:Int)>x.last.2.2.2.1 then Weg w x else
 (w,{x with marks:=x.marks.dropLast,regs:=WmT x.last.2.2.2.2 (opN code x.last.1).2.1 0,writes:=x.writes.take x.last.2.2.1.toNat,pc:=WiW code x.last.1.toNat+1})
def Wc5(w:Wo)(x:Rt)(k:Nat)(o:Opn):Wo×Rt:=
 match Wb7 w.holds ((k:Int)+1) (WbS o).1 (WbS o).2 with
 |none=>(w,W4 x)
 |some hs=>
  let b:=WbI w.shelf o x.regs
  ({w with holds:=hs,shelf:=b.1},{x with regs:=b.2.1,undos:=if b.2.2.1=0 then x.undos else x.undos++ [b.2.2],pc:=x.pc+1})
def Wla(w:Wo)(x:Rt)(k:Nat)(p:Pg):Wo×Rt:=
 if x.pc>=p.1.length then WbV w x k 1 else
 let o:=opN p.1 x.pc
 if o.1=5 then(w,Wd9 w x o)else
 if o.1=10 then Wdr w x k p.1 else
 if o.1=11 then(w,{x with phase:=2,fam:=Wa7 x.rv x.regs x.writes p.2.length})else
 if o.1>=12 then Wc5 w x k o else
 if o.1=6 then(w,{x with writes:=x.writes++ [(o.2.1,Wcp x.regs o.2.2.1 0)],pc:=x.pc+1})else
 if o.1=7 then(w,{x with pc:=(if Wcp x.regs o.2.1 0=0 then x.pc+o.2.2.1 else x.pc)+1})else
 if o.1=8 then(w,{x with marks:=x.marks++ [(x.pc,(x.reads.length:Int),(x.writes.length:Int),(x.undos.length:Int),x.regs)],pc:=x.pc+1})else
 if o.1=9 then(w,{x with marks:=x.marks.dropLast,regs:=WmT x.regs (opN p.1 x.last.1).2.1 1,pc:=x.pc+1})else
 (w,{x with regs:=Wnt o x.regs,pc:=x.pc+1})
def Wdk(k:Nat):List Rt->Nat->Bool
 | [],_=>true
 |x::l,i=>(decide (i=k)||(decide (x.phase=0)||decide (x.phase=8)))&&Wdk k l (i+1)
def Wen(w:Wo)(x:Rt)(k:Nat):Wo×Rt:=
 if w.token≠0/\w.token≠(k:Int)+1 then(w,x)else
 if x.tries>=3/\w.token=0 then({w with token:=(k:Int)+1},x)else
 if w.token=(k:Int)+1/\Wdk k w.roots 0=false then(w,x)else
 (w,{phase:=1,tries:=x.tries,rv:=w.mem.1,began:=w.now,regs:=[0,0,0,0]})
def Wek(x:Rt):Rt:=
 if x.fam.lost then Wdc x else
 if Wfx x.fam then{x with regs:=Wit x.fam,writes:=Wh5 x.fam,reads:=x.reads++x.fam.reads,order:=x.fam.order,fam:={},phase:=1,pc:=x.pc+1}
 else x
def WbL(w:Wo)(x:Rt):Wo×Rt:=
 if(x.undos.length:Int)>x.last.2.2.2.1 then Weg w x else(w,{x with newRv:=w.mem.1,pos:=0,phase:=4})
def Wba(w:Wo)(x:Rt):Rt:=
 if x.pos<x.last.2.1 then
  let c:=Ww w.mem (Wcp x.reads x.pos (0,0)).1
  if c.2.2≠0\/c.2.1>x.rv then Wdc x else{x with pos:=x.pos+1}
 else{x with rv:=x.newRv,newRv:=0,pos:=0,reads:=x.reads.take x.last.2.1.toNat,writes:=x.writes.take x.last.2.2.1.toNat,regs:=x.last.2.2.2.2,pc:=x.last.1+1,phase:=1}
def Wbq(x:Rt):Rt:=
 if x.cm.phase=8 then Wdc x else
 if x.cm.phase=6 then{x with stamp:=x.cm.wv,cm:={},phase:=if x.fate=2 then 6 else 7}else x
def WaG(w:Wo)(x:Rt)(k:Nat):Wo×Rt:=
 if x.doomed then(w,if(W7 x.cm).phase=8 then Wdc x else{x with cm:=W7 x.cm,doomed:=false})else
 let q:=Wz w.mem x.cm
 ({w with mem:=q.1,hist:=if x.cm.phase<=3/\q.2.phase=4 then w.hist++ [(q.2.wv,(k:Int)+1,q.2.puts)]else w.hist},Wbq {x with cm:=q.2})
def Wam(w:Wo)(x:Rt)(k:Nat)(p:Pg):Wo×Rt:=
 if x.doomed=true/\1<=x.phase/\x.phase<=4 then(w,Wdc x)else
 if x.phase=0 then Wen w x k else
 if x.phase=1 then Wla w x k p else
 if x.phase=2 then(w,Wek x)else
 if x.phase=3 then WbL w x else
 if x.phase=4 then(w,Wba w x)else
 if x.phase=5 then WaG w x k else
 if x.phase=6 then(if x.undos.length>0 then Weg w x else(w,{x with phase:=7}))else
 if x.phase=7 then
  (if x.fate=0 then({w with holds:=W3 w.holds ((k:Int)+1)},{tries:=x.tries+1})
   else Wlb {w with holds:=W3 w.holds ((k:Int)+1)} x k)
 else(w,x)
def Wo.put(q:Wo×Rt)(k:Nat):Wo:={q.1 with roots:=q.1.roots.set k q.2}
def rt0:Rt:={}
def pg0:Pg:=([],[])
def Wka(w:Wo)(k:Nat)(p:Pg):Wo:=Wo.put (Wam w (w.roots.getD k rt0) k p) k
def WvZ(w:Wo)(x:Rt)(k j:Nat)(p:Pg):Wo:=Wo.put (w,{x with fam:=WaM w.mem x.fam j (p.2.getD j [])}) k
def Wgy(s:Sc)(w0:Wo)(a:Ac):Wo:=
 let w:={w0 with now:=w0.now+1}
 if 0<=a.2.1/\a.2.1<w.roots.length then
  let k:=a.2.1.toNat
  let x:=w.roots.getD k rt0
  let p:=s.2.1.getD k pg0
  if a.1=1 then Wka w k p else
  if a.1=2 then(if x.phase=2/\0<=a.2.2/\a.2.2<p.2.length then WvZ w x k a.2.2.toNat p else w)else
  if a.1=3 then(if(1<=x.phase/\x.phase<=4)\/(x.phase=5/\x.cm.phase<=3)then Wo.put (w,{x with doomed:=true}) k else w)else w
 else w
def Wgk(s:Sc):Wo:={mem:=Wjx s.1.1,shelf:=(Wow s.1.2.1,s.1.2.2),roots:=Xw s.2.1.length {}}
def Wud(s:Sc):Wo:=s.2.2.foldl (Wgy s) (Wgk s)
structure RMk(code:List Opn)(pc:Nat)(marks:List RM)(rl wl ul:Nat):Prop where
 pcs:marks.map (·.1)=(stk code pc).map λm:Nat=>(m:Int)
 each:∀q∈marks,Vals 4 q.2.2.2.2/\(0<=q.2.1/\q.2.1<=q.1+72*frk code q.1.toNat/\q.2.1<=rl)/\(0<=q.2.2.1/\q.2.2.1<=q.1+8/\q.2.2.1<=wl)/\0<=q.2.2.2.1/\q.2.2.2.1<=q.1/\q.2.2.2.1<=ul
 up:marks.Pairwise λa b=>a.2.1<=b.2.1/\a.2.2.1<=b.2.2.1/\a.2.2.2.1<=b.2.2.2.1
structure RLive(p:Pg)(n:Int)(x:Rt):Prop where
 pc:0<=x.pc/\x.pc<=p.1.length
 spare:0<=x.spare/\x.spare<=2
 rv:0<=x.rv/\x.rv<=1000000
 regs:Vals 4 x.regs
 reads:WcU x.reads
 rl:(x.reads.length:Int)<=x.pc+72*frk p.1 x.pc.toNat
 writes:WcU x.writes
 wl:(x.writes.length:Int)<=x.pc+8
 ul:(x.undos.length:Int)<=x.pc
 marks:RMk p.1 x.pc.toNat x.marks x.reads.length x.writes.length x.undos.length
 pb:x.busy=true->Wkn x.pb=true
 fork:x.phase=2->x.pc<p.1.length/\(opN p.1 x.pc).1=11/\FOk p.2 n x.fam
 back:x.phase=3\/x.phase=4->x.marks.length≠0
 newRv:0<=x.newRv/\x.newRv<=1000000
 pos:x.phase=4->0<=x.pos/\x.pos<=x.last.2.1
 unw:x.phase=4->(x.undos.length:Int)<=x.last.2.2.2.1
structure ROk(p:Pg)(n:Int)(x:Rt):Prop where
 phase:0<=x.phase/\x.phase<=8
 tries:0<=x.tries/\x.tries<=n
 live:1<=x.phase/\x.phase<=4->RLive p n x
 comm:x.phase=5->CmOk x.cm
 undos:∀u∈x.undos,UnV u
 ul:x.undos.length<=24
 rg:x.regs.length<=4
 ord:x.order.length<=3
structure POk(p:Pg):Prop where
 code:CC p.1
 kids:∀c∈p.2,KC c
 k3:p.2.length<=3
def HE(h:Wr):Prop:=h.2.2.length<=8/\WcU h.2.2/\1<=h.2.1/\h.2.1<=9
structure WOk(ps:List Pg)(n:Int)(w:Wo):Prop where
 len:w.roots.length=ps.length
 l4:ps.length<=4
 progs:∀p∈ps,POk p
 now:w.now=n
 n0:0<=n
 mem:W2 w.mem=true
 shelf:ShOk w.shelf
 holds:HOk w.holds
 hist:(w.hist.length:Int)<=n
 histE:∀h∈w.hist,HE h
 root:∀(k:Nat) (h:k<w.roots.length),ROk (ps.getD k pg0) n w.roots[k]
end
section
theorem rtP(x:Rt):x.e.1=x.phase/\x.e.2.1=x.tries/\x.e.2.2.1=x.spare/\x.e.2.2.2.1=x.pc/\P4 x.e=x.rv/\P5 x.e=x.newRv/\P6 x.e=x.pos/\P7 x.e=x.fate/\P8 x.e=x.stamp/\P11 x.e=x.doomed/\P12 x.e=x.regs/\P13 x.e=x.reads/\P14 x.e=x.writes/\P15 x.e=x.marks/\P16 x.e=x.undos/\P18 x.e=x.busy/\P19 x.e=x.pb/\P20 x.e=x.cm.e/\Q21 x.e=x.fam.e/\P24 x.e=x.fam.lost/\P28 x.e=x.fam.order/\P29 x.e=x.fam.reads:=
 ⟨rfl,rfl,rfl,rfl,rfl,rfl,rfl,rfl,rfl,rfl,rfl,rfl,rfl,rfl,rfl,rfl,rfl,rfl,rfl,rfl,rfl,rfl⟩
theorem S5e(w:Wo)(k:Nat)(x:Rt):S5 (Xk (w.roots.map Rt.e) k x.e) w.e=Wo.e {w with roots:=w.roots.set k x}:=by
 unfold S5 Wo.e;rw[List.map_set]
theorem WcX{w w':Wo}{k:Nat}{x':Rt}{y:Y_Root}{g:Y_World}(hy:y=x'.e)(hg:g=w'.e)(hr:w'.roots=w.roots):
  some ((S5 (Xk (w.roots.map Rt.e) k y) g,()),())=some (((Wo.put (w',x') k).e,()),()):=by
 subst hy hg;rw[←hr,S5e];rfl
variable{N:Nat}{w:Wo}{k:Nat}{x:Rt}{o:Opn}{p:Pg}{n:Int}{code:List Opn}
theorem woG(hk:k<w.roots.length)(aW:w.roots[k]=x):Xb (w.roots.map Rt.e) k d_Root=x.e/\Xb (w.roots.map Rt.e) (Xa (k:Int)) d_Root=x.e/\S5 (Xk (w.roots.map Rt.e) (Xa (k:Int)) x.e) w.e=w.e/\inb (k:Int) (w.roots.map Rt.e).length=true/\S5 (Xk (w.roots.map Rt.e) k x.e) w.e=w.e:=by
 have h1:Xb (w.roots.map Rt.e) k d_Root=x.e:=by
  have:=WrN Rt.e w.roots k {};rw[Wt hk,aW]at this;exact this
 have h2:S5 (Xk (w.roots.map Rt.e) k x.e) w.e=w.e:=by rw[S5e,←aW,Xbi]
 rw[Xj];refine⟨h1,h1,h2,?_,h2⟩;rw[W8,Xu];exact Wf hk
theorem Wn8(hk:k<w.roots.length)(aW:w.roots[k]=x):Wo.put (w,x) k=w:=by
 unfold Wo.put;simp only;rw[←aW,Xbi]
theorem WeC:Zbc N x.e=some (((Wdc x).e,()),()):=rfl
theorem Wd6(hs:0<=x.spare/\x.spare<=2):Zdc N x.e=some (((W4 x).e,()),()):=by
 obtain⟨r0,r1,r2,r3,r4,r5,r6,r7,r8,jA,iN,g0,hD,ip,iq,kd,ke,jB,jC,kg,kh,ki⟩:=rtP x;unfold Zdc W4;simp only[WE,ip,r2,Wi,WeC,Xd];by_cases h1:x.marks.length=0
 .rw[Wb (by omega),Wb (.inl h1)]
 .rw[Wa (by omega)];by_cases h2:x.spare=2
  .rw[Wb h2,Wb (.inr h2)]
  .rw[Wa h2,Wa (by omega),WJ (by unfold I64;omega)];rfl
theorem Wea{α:Type}{l:List α}(h:l.length≠0)(hl:l.length<=1000)(d:α):inb (W1 .i64 (Wi l) 1) l.length=true/\Xb l (Xa (W1 .i64 (Wi l) 1)) d=WgI l d/\Xau (Xa (W1 .i64 (Wi l) 1)) l=l.dropLast/\(decide ((0:Int)<=W1 .i64 (Wi l) 1)&&decide (W1 .i64 (Wi l) 1<=(l.length:Int)))=true:=by
 have e:W1 .i64 (Wi l) 1=((l.length-1:Nat):Int):=by rw[WoR (by omega)];omega
 rw[e];refine⟨by rw[W8];exact Wf (by omega),by rw[Xj];rfl,by rw[Xj,Xfv],by simp⟩
theorem Wol(h:x.marks.length≠0)(hl:x.marks.length<=1000):Zig N x.e=some ((x.e,()),(x.last,())):=by
 obtain⟨a,b,c,d⟩:=Wea h hl zRM;unfold Zig;rw[show x.e.2.2.2.2.2.2.2.2.2.2.2.2.2.2.2.1=x.marks from rfl,a];simp only[We];rw[show((0:Int),((0:Int),((0:Int),((0:Int),([]:List Int)))))=zRM from rfl,b];rfl
theorem WmB(h:x.marks.length≠0)(hl:x.marks.length<=1000):Zd4 N x.e=some ((),((x.last.1,(x.last.2.1,(x.last.2.2.1,x.last.2.2.2.1))),())):=by
 obtain⟨a,b,c,d⟩:=Wea h hl zRM;unfold Zd4;simp only[Wu];rw[show P15 x.e=x.marks from rfl,a];simp only[We];rw[show((0:Int),((0:Int),((0:Int),((0:Int),([]:List Int)))))=zRM from rfl,b];rfl
theorem Wj5(hk:k<w.roots.length)(aW:w.roots[k]=x)(hz:x.undos.length≠0)(hl:x.undos.length<=1000)(hu:∀u∈x.undos,UnV u)(hs:ShOk w.shelf)(hN:1048576<N):
  Zcf N w.e k=some (((Wo.put (Weg w x) k).e,()),()):=by
 obtain⟨g1,g2,g3,g4,g5⟩:=woG hk aW;obtain⟨a,b,c,d⟩:=Wea hz hl ((0,0,0):Un);have hmem:WgI x.undos ((0,0,0):Un)∈x.undos:=by
  unfold WgI;rw[Wt (show x.undos.length-1<x.undos.length by omega)];exact Xo _
 unfold Zcf Weg;simp only[Wu];rw[show P5 w.e=w.roots.map Rt.e from rfl,g1];rw[show x.e.2.2.2.2.2.2.2.2.2.2.2.2.2.2.2.2.1=x.undos from rfl,a,b,show w.e.2.2.2.1=w.shelf from rfl,Wh7 hs (hu _ hmem) hN,c];simp only[We,Xd,d];exact WcX rfl rfl rfl
theorem WqU(hk:k<w.roots.length)(aW:w.roots[k]=x)(lE:k<=1000):Zgr N w.e (k:Int)=some (((Wo.put (Wlb w x k) k).e,()),()):=by
 obtain⟨g1,g2,g3,g4,g5⟩:=woG hk aW;unfold Zgr Wlb;simp only[Wu];rw[show P5 w.e=w.roots.map Rt.e from rfl,g4,g2,WcA (by omega),Xj];simp only[We,WE];rw[show w.e.2.1=w.token from rfl];by_cases h:w.token=(k:Int)+1
 .rw[Wb h];simp only[Wb h];exact WcX rfl rfl rfl
 .rw[Wa h];simp only[Wa h];exact WcX rfl rfl rfl
theorem WlM(hk:k<w.roots.length)(aW:w.roots[k]=x)(lE:k<=8)(hh:HOk w.holds)(ik:0<=x.rv/\x.rv<=1000000)(hr:WaT x.reads=true)(hw:WaT x.writes=true){out:Int}(hN:1048576<N):
  Zg6 N w.e (k:Int) out=some (((Wo.put (WbV w x k out) k).e,()),()):=by
 obtain⟨g1,g2,g3,g4,g5⟩:=woG hk aW;obtain⟨r0,r1,r2,r3,r4,r5,r6,r7,r8,jA,iN,g0,hD,ip,iq,kd,ke,jB,jC,kg,kh,ki⟩:=rtP x;have sw:=Wk0 hh;have si:∀y:Rt,Zgr N (S5 (Xk (w.roots.map Rt.e) (Xa (k:Int)) y.e) w.e) (k:Int)=some (((Wo.put (Wlb w y k) k).e,()),()):=λy=>by
  rw[Xj,S5e];have h1:k<({w with roots:=w.roots.set k y}:Wo).roots.length:=by simpa using hk
  rw[WqU (x:=y) h1 (by simp) (by omega)];unfold Wlb Wo.put;simp only[Xdy]
 unfold Zg6 WbV;simp only[Wu];rw[show P5 w.e=w.roots.map Rt.e from rfl,g4,g2,WcA (by omega),show P4 w.e=w.holds from rfl];have ud:∀{α:Type} (a b:α),(bif ((0:Int)==(0:Int))then a else b)=a:=λ_ _=>rfl;have qK:∀{α:Type} (a b:α),(bif ((0:Nat)==(0:Nat))then a else b)=a:=λ_ _=>rfl;simp only[ud,qK];simp only[We,WE,r4,g0,hD,Wic (who:=(k:Int)+1) hh (by omega) hN,ret,Xd,Wi];have oK:∀rows,WaT rows=true->Zer N ((k:Int)+1) x.rv rows x.reads=some ((),((Wcx ((k:Int)+1) x.rv rows x.reads).e,(true,()))):=λrows di=>WuF (by omega) ik di hr hN;have bI:Zer N ((k:Int)+1) x.rv ([]:List Kc) x.reads=some ((),((Wcx ((k:Int)+1) x.rv [] x.reads).e,(true,()))):=oK [] rfl;have aS:(S8 x.rv (S7 out x.e))=Rt.e {x with fate:=out,stamp:=x.rv}:=rfl;rw[bI,oK _ hw,aS,si];simp only[Xd];by_cases ho:out=2
 .rw[Wb ho,Wb ho];by_cases hz:(Wfv w.holds ((k:Int)+1)).length=0
  .rw[Wb (by omega),Wb ⟨rfl,hz⟩]
  .rw[Wa (by omega),Wa (λh=>hz h.2),Xj];exact WcX rfl rfl rfl
 .rw[Wa ho,Wa ho];by_cases hy:x.writes.length=0
  .rw[Wb (by omega)];by_cases hz:(Wfv w.holds ((k:Int)+1)).length=0
   .rw[Wb (by omega),Wb ⟨hy,hz⟩]
   .rw[Wa (by omega),Wa (λh=>hz h.2),Xj];exact WcX rfl rfl rfl
  .rw[Wa (by omega),Wa (λh=>hy h.1),Xj];exact WcX rfl rfl rfl
theorem Wlf{l:List Rw}(h:WcU l)(hl:l.length<=300):WaT l=true:=by
 unfold WaT;rw[Whr.2 h,Wf hl];rfl
theorem Wnq(hc:CC code):∀j,j<=code.length->frk code j<=1
 |0,_=>by simp[frk]
 |j+1,h=>by
  have hj:j<code.length:=by omega
  by_cases fw:code[j].1=11
  .exact(hc.fk j hj fw).2
  .rw[Whp hj,show(code[j].1==11)=false by simpa using fw];have:=Wnq hc j (by omega);simpa using this
theorem RLive.sz(hc:CC p.1)(h:RLive p n x):x.reads.length<=96/\x.writes.length<=32/\x.undos.length<=24/\x.marks.length<=24/\WaT x.reads=true/\WaT x.writes=true:=by
 have h1:=h.pc;have h2:=hc.len;have h3:=Wnq hc x.pc.toNat (by omega);have h4:=h.rl;have h5:=h.wl;have h6:=h.ul;have h7:=Wj Xc h.marks.pcs;simp only[Xu]at h7;have h8:=WbB hc.up x.pc.toNat (by omega);have h9:=(Wds p.1 x.pc.toNat).2;exact⟨by omega,by omega,by omega,by omega,Wlf h.reads (by omega),Wlf h.writes (by omega)⟩
theorem Wrx(hb:x.busy=true->Wkn x.pb=true){c:Int}(hc:0<=c/\c<=7):Wkn (if x.busy then x.pb else(c,0,0,0))=true:=by
 split
 .exact hb ‹_›
 .rw[WeT];simp only;omega
theorem WsN(hk:k<w.roots.length)(aW:w.roots[k]=x)(hc:CC p.1)(hx:RLive p n x)(hm:W2 w.mem=true)(h5:o.1=5)(ho:Wel o=true)(hN:1048576<N):
  Zjs N w.e k o=some (((Wo.put (w,Wd9 w x o) k).e,()),()):=by
 obtain⟨g1,g2,g3,g4,g5⟩:=woG hk aW;obtain⟨r0,r1,r2,r3,r4,r5,r6,r7,r8,jA,iN,g0,hD,ip,iq,kd,ke,jB,jC,kg,kh,ki⟩:=rtP x;obtain⟨z1,z2,z3,z4,z5,z6⟩:=hx.sz hc;obtain⟨hA,hB⟩:=Wto ho h5;have hB':0<=o.2.2.1/\o.2.2.1<=7:=by unfold Wai at hB;simpa using hB
 have dn:=hx.regs.len;have bf:=hx.pc;have hcl:=hc.len;have iS:=hx.spare;unfold Zjs Wd9;simp only[Wu];rw[show P5 w.e=w.roots.map Rt.e from rfl,g1,show w.e.2.2.1=w.mem from rfl];simp only[r3,r4,iN,g0,hD,kd,ke];rw[Wd8 (by omega) hN,Wa5 hA dn,WcA (by omega)];cases hl:Wa1 x.writes o.2.2.1 with
 |some v=>
  simp only[opI,Xd,We];exact WcX rfl rfl rfl
 |none=>
  have aC:WH (x.reads.length+ [(o.2.2.1,(0:Int))].length)=true:=WC (by simp;omega);have kI:Zfi N o.2.2.1=some ((),((o.2.2.1,0,0,0),(true,()))):=by
   unfold Zfi;rw[WaD,hB];rfl
  have hQ:=Wrx hx.pb hB';have qL:S18 true x.e=Rt.e {x with busy:=true}:=rfl;simp only[opI,Xd,Wc,WE,kI,qL];have dP:∀q:Pb,S19 q (Rt.e {x with busy:=true})=Rt.e {x with busy:=true,pb:=q}:=λq=>rfl;simp only[dP,Wd6 (x:={x with busy:=true,pb:=_}) iS];cases hb:x.busy with
  |false=>
   rw[hb]at hQ;simp only[Xbl,WaE]at hQ;rw[WeG hm hQ hN];simp only[Xdm,We,ret,Xd,Xbl,WaE];generalize WV w.mem x.rv (o.2.2.1,0,0,0)=q;by_cases h4:q.2.1=4
   .rw[Wb h4,Wb h4];exact WcX rfl rfl rfl
   .rw[Wa h4,Wa h4];by_cases h3:q.2.1=3
    .rw[Wb h3,Wb h3,WC (by simp;omega)];exact WcX rfl rfl rfl
    .rw[Wa h3,Wa h3];exact WcX rfl rfl rfl
  |true=>
   have bp:∀q:Pb,S19 q x.e=Rt.e {x with busy:=true,pb:=q}:=λq=>by
    have:S19 q x.e=Rt.e {x with pb:=q}:=rfl;rw[this]
    conv=>lhs;rw[show({x with pb:=q}:Rt)={x with busy:=x.busy,pb:=q}from rfl,hb]
   rw[hb]at hQ;simp only[Waw]at hQ;rw[WeG hm hQ hN];simp only[Xr,Wc,ret,Xd,Waw,bp,Wd6 (x:={x with busy:=true,pb:=_}) iS];generalize WV w.mem x.rv x.pb=q;by_cases h4:q.2.1=4
   .rw[Wb h4,Wb h4];exact WcX rfl rfl rfl
   .rw[Wa h4,Wa h4];by_cases h3:q.2.1=3
    .rw[Wb h3,Wb h3,WC (by simp;omega)];exact WcX rfl rfl rfl
    .rw[Wa h3,Wa h3];exact WcX rfl rfl rfl
end
section
variable{N:Nat}{w:Wo}{k:Nat}{x:Rt}{o:Opn}{p:Pg}{n:Int}{code:List Opn}
theorem RLive.mk24(hc:CC p.1)(h:RLive p n x)(hz:x.marks.length≠0):∃(m:Nat) (q:List RM),x.marks=q++ [x.last]/\x.last.1=(m:Int)/\(∃hm:m<p.1.length,p.1[m].1=8)/\(m:Int)<x.pc/\Mate p.1 m (WiW p.1 m)/\x.pc<=WiW p.1 m/\stk p.1 m=(stk p.1 x.pc.toNat).dropLast/\x.marks.dropLast=q/\
  Vals 4 x.last.2.2.2.2/\(0<=x.last.2.1/\x.last.2.1<=x.last.1+72*frk p.1 x.last.1.toNat/\x.last.2.1<=x.reads.length)/\(0<=x.last.2.2.1/\x.last.2.2.1<=x.last.1+8/\x.last.2.2.1<=x.writes.length)/\0<=x.last.2.2.2.1/\x.last.2.2.2.1<=x.last.1/\x.last.2.2.2.1<=x.undos.length:=by
 have hp:=h.pc;obtain⟨m,q,y,e1,e2,e3,e4,e5,e6,e7,e8,e9⟩:=Wi4 (d:=zRM) hc (show x.pc.toNat<=p.1.length by omega) h.marks.pcs hz;have hl:x.last=y:=e2;have hy:=h.marks.each y (by grind)
 grind
theorem WqB(hk:k<w.roots.length)(aW:w.roots[k]=x)(lE:k<=8)(hc:CC p.1)(hx:RLive p n x)(hu:∀u∈x.undos,UnV u)(hs:ShOk w.shelf)(hh:HOk w.holds)(hN:1048576<N):
  Zjb N w.e (k:Int) p.1=some (((Wo.put (Wdr w x k p.1) k).e,()),()):=by
 obtain⟨g1,g2,g3,g4,g5⟩:=woG hk aW;obtain⟨r0,r1,r2,r3,r4,r5,r6,r7,r8,jA,iN,g0,hD,ip,iq,kd,ke,jB,jC,kg,kh,ki⟩:=rtP x;obtain⟨z1,z2,z3,z4,z5,z6⟩:=hx.sz hc;have hcl:=hc.len;unfold Zjb Wdr;simp only[Wu];rw[show P5 w.e=w.roots.map Rt.e from rfl,g4,g2];simp only[We,WE,ip,Wi];by_cases hz:x.marks.length=0
 .rw[Wb (by omega),Wb hz,g3,WlM hk aW lE hh hx.rv z5 z6 hN];rfl
 .rw[Wa (by omega),Wa hz,Wol hz (by omega)];simp only[Xd,iq,Wal];obtain⟨m,q,e1,e2,⟨hm,kj⟩,e4,e5,e6,e7,e8,e9,lF,mj,nM,fx,lG⟩:=hx.mk24 hc hz;by_cases hgt:(x.undos.length:Int)>x.last.2.2.2.1
  .rw[Wb hgt,Wb hgt,g3,Xj,Wj5 hk aW (by omega) (by omega) hu hs hN];rfl
  .rw[Wa hgt,Wa hgt];simp only[hD,ip];obtain⟨a,b,c,d⟩:=Wea hz (by omega) zRM;have d':(decide ((0:Int)<=W1 .i64 (x.marks.length:Int) 1)&&decide (W1 .i64 (x.marks.length:Int) 1<=(x.marks.length:Int)))=true:=d;have c':Xau (Xa (W1 .i64 (x.marks.length:Int) 1)) x.marks=x.marks.dropLast:=c;rw[d',c',Wa2 (by rw[e9.len];omega),e2,W8,Wf hm];have o1:Xb p.1 (Xa ((m:Nat):Int)) ((0,0,0,0):Opn)=opN p.1 (m:Int):=rfl;have hr:=WvN (hc.ok m hm).1 kj;rw[←WkA hm]at hr;simp only[We,ret,Xd,o1];rw[Wa5 hr e9.len];have b2:(decide ((0:Int)<=x.last.2.2.1)&&decide (x.last.2.2.1<=(x.writes.length:Int)))=true:=by simp;omega
   rw[b2];simp only[We];rw[WcG (by grind),Wii (by omega) hN ⟨hm,kj⟩ e5];simp only[ret,Xd];rw[WcA (by have:=e5.len;omega),Xj];exact WcX rfl rfl rfl
theorem WrK(hk:k<w.roots.length)(aW:w.roots[k]=x)(lE:k<=8)(hc:CC p.1)(hx:RLive p n x)(ho:Wel o=true)(eF:12<=o.1)(hs:ShOk w.shelf)(hh:HOk w.holds)(hN:1048576<N):
  Zg7 N w.e (k:Int) o=some (((Wo.put (Wc5 w x k o) k).e,()),()):=by
 obtain⟨g1,g2,g3,g4,g5⟩:=woG hk aW;obtain⟨r0,r1,r2,r3,r4,r5,r6,r7,r8,jA,iN,g0,hD,ip,iq,kd,ke,jB,jC,kg,kh,ki⟩:=rtP x;obtain⟨z1,z2,z3,z4,z5,z6⟩:=hx.sz hc;have sw:=Wk0 hh;have bf:=hx.pc;have hcl:=hc.len;have qM:(0<=(WbS o).1/\(WbS o).1<=8)/\1<=(WbS o).2/\(WbS o).2<=2:=by
  grind [WbS,Wm3,WeY,Wti,Wsz,WcR,Wt6]
 unfold Zg7 Wc5;simp only[Wu,WfJ];rw[show P5 w.e=w.roots.map Rt.e from rfl,g4,g2,WcA (by omega),WjX ho eF,show P4 w.e=w.holds from rfl,show w.e.2.2.2.1=w.shelf from rfl];simp only[We,Xd,WhQ hh (show 1<=(k:Int)+1/\(k:Int)+1<=9 by omega) qM.1 qM.2 (by omega) hN,r3,iN,iq,Wd6 hx.spare];cases ha:Wb7 w.holds ((k:Int)+1) (WbS o).1 (WbS o).2 with
 |none=>
  simp only[Option.isSome_none,Xdm,We,Xj];exact WcX rfl rfl rfl
 |some cS=>
  simp only[Xgh,Xr,Wc,Xei,Xj,Wh6 hs hx.regs ho eF hN,Xd,Wc2];rw[WcA (by omega),WC (by simp;omega)];by_cases hz:(WbI w.shelf o x.regs).2.2.1=0
  .rw[Wb hz,Wb hz];exact WcX rfl rfl rfl
  .rw[Wa hz,Wa hz];exact WcX rfl rfl rfl
theorem Wuw(hk:k<w.roots.length)(aW:w.roots[k]=x)(lE:k<=8)(hp:POk p)(hx:RLive p n x)(hu:∀u∈x.undos,UnV u)(hm:W2 w.mem=true)(hs:ShOk w.shelf)(hh:HOk w.holds)(hN:1048576<N):
  Zii N w.e (k:Int) p=some (((Wo.put (Wla w x k p) k).e,()),()):=by
 obtain⟨g1,g2,g3,g4,g5⟩:=woG hk aW;obtain⟨r0,r1,r2,r3,r4,r5,r6,r7,r8,jA,iN,g0,hD,ip,iq,kd,ke,jB,jC,kg,kh,ki⟩:=rtP x;have hc:=hp.code;obtain⟨z1,z2,z3,z4,z5,z6⟩:=hx.sz hc;have bf:=hx.pc;have hcl:=hc.len;have dn:=hx.regs.len;unfold Zii Wla;simp only[Wu];rw[show P5 w.e=w.roots.map Rt.e from rfl,g4,g2,g3];simp only[We,r3,r4,iN,g0,hD,ip,iq,Wal,WE,show Wi p.1=(p.1.length:Int)from rfl];by_cases eQ:x.pc>=p.1.length
 .rw[Wb eQ,Wb eQ,WlM hk aW lE hh hx.rv z5 z6 hN];rfl
 .rw[Wa eQ,Wa eQ];obtain⟨j,hj,ej,eo⟩:=We9 (l:=p.1) bf.1 (by omega);have tZ:Xb p.1 (Xa x.pc) ((0,0,0,0):Opn)=opN p.1 x.pc:=rfl;have eG:inb x.pc p.1.length=true:=by grind [W8,decide_eq_true]
  rw[eG];obtain⟨ok,o1,fC⟩:=hc.ok j hj;simp only[We,tZ];rw[←eo]at ok o1 fC;rw[WcA (show 0<=x.pc/\x.pc<=1000000 by omega)];have qN:(opN p.1 x.pc).1=9->x.marks.length≠0:=λh9 hz=>by
   have h1:=Wj Xc hx.marks.pcs;simp only[Xu,hz]at h1;have h2:=WbB hc.up j (by omega);have h3:=hc.up j hj
   grind [WaX,WpO,Xj]
  generalize opN p.1 x.pc=o at*;have tX:o.1>=12->Zg7 N w.e (k:Int) o=some (((Wo.put (Wc5 w x k o) k).e,()),()):=λeF=>WrK hk aW lE hc hx ok eF hs hh hN;by_cases h5:o.1=5
  .rw[Wb h5,Wb h5,Xj,WsN hk aW hc hx hm h5 ok hN];rfl
  .rw[Wa h5,Wa h5];by_cases cC:o.1=10
   .rw[Wb cC,Wb cC,WqB hk aW lE hc hx hu hs hh hN];rfl
   .rw[Wa cC,Wa cC];by_cases fw:o.1=11
    .rw[Wb fw,Wb fw,show Wi p.2=((p.2.length:Nat):Int)from rfl,WiD (by omega) (by omega) hp.k3 hN,Xj];exact WcX rfl rfl rfl
    .rw[Wa fw,Wa fw];by_cases eF:o.1>=12
     .rw[Wb eF];have hb:=tX eF;have:o.1=12\/o.1=13\/o.1=14\/o.1=15\/o.1=16:=by omega
      rcases this with h|h|h|h|h
      .rw[Wb h,Wb h,hb];rfl
      .rw[Wa (by omega),Wb h,Wb h,hb];rfl
      .rw[Wa (by omega),Wa (by omega),Wb h,Wb h,hb];rfl
      .rw[Wa (by omega),Wa (by omega),Wa (by omega),Wb h,Wb h,hb];rfl
      .rw[Wa (by omega),Wa (by omega),Wa (by omega),Wa (by omega),Wb h,hb];rfl
     .rw[Wa eF,Wa (show¬o.1=12 by omega),Wa (show¬o.1=13 by omega),Wa (show¬o.1=14 by omega),Wa (show¬o.1=15 by omega),Wa (show¬o.1=16 by omega)];by_cases h6:o.1=6
      .rw[Wb h6,Wb h6,Wa5 (WvR ok h6).2 dn,WC (by simp;omega),Xj];exact WcX rfl rfl rfl
      .rw[Wa h6,Wa h6];by_cases h7:o.1=7
       .rw[Wb h7,Wb h7];have h:=Wvh ok h7;rw[Wa5 h.1 dn,WJ (a:=x.pc) (b:=o.2.2.1) (by unfold I64;omega),WcA (a:=x.pc+o.2.2.1) (by omega),Xj];by_cases hg:Xb x.regs (Xa o.2.1) 0=0
        .rw[Wb hg,Wb (show Wcp x.regs o.2.1 0=0 from hg)];exact WcX rfl rfl rfl
        .rw[Wa hg,Wa (show¬Wcp x.regs o.2.1 0=0 from hg)];exact WcX rfl rfl rfl
       .rw[Wa h7,Wa h7];by_cases h8:o.1=8
        .rw[Wb h8,Wb h8,Wa2 (by omega)];simp only[ret,Xd];rw[WC (by simp;omega),Xj];exact WcX rfl rfl rfl
        .rw[Wa h8,Wa h8];by_cases h9:o.1=9
         .rw[Wb h9,Wb h9];have hz:=qN h9;obtain⟨a,b,c,d⟩:=Wea hz (by omega) zRM;obtain⟨m,q,e1,e2,⟨gE,kj⟩,e4,e5,e6,e7,e8,e9,lF,mj,nM,fx,lG⟩:=hx.mk24 hc hz;rw[WmB hz (by omega)];simp only[Xd];rw[d,c,e2,W8,Wf gE];have o1:Xb p.1 (Xa ((m:Nat):Int)) ((0,0,0,0):Opn)=opN p.1 (m:Int):=rfl;have hr:=WvN (hc.ok m gE).1 kj;rw[←WkA gE]at hr;simp only[We,o1];rw[Wa5 hr dn,Xj];exact WcX rfl rfl rfl
         .rw[Wa h9,Wa h9,WgQ hN ok (by omega) (by omega) hx.regs,Xj];exact WcX rfl rfl rfl
theorem Wsy(hk:k<w.roots.length)(aW:w.roots[k]=x)(nN:w.roots.length<=8)(hN:1048576<N):
  Zf3 N w.e (k:Int)=some (((Wo.put (Wen w x k) k).e,()),()):=by
 obtain⟨g1,g2,g3,g4,g5⟩:=woG hk aW;have ge:=Wn8 hk aW;have dn:(w.roots.map Rt.e).length=w.roots.length:=by simp
 unfold Zf3;rw[show P5 w.e=w.roots.map Rt.e from rfl,g4,g2,WcA (by omega),Xj];simp only[We,Wc2,WE,Wal,show w.e.2.1=w.token from rfl,show x.e.2.1=x.tries from rfl,show w.e.1=w.now from rfl,show w.e.2.2.1.1=w.mem.1 from rfl];have mL:∀(K0:Bool->Int->Bool->Option ((Y_World×Unit)×Unit)) (d j n:Nat) (al:Bool),j+d=w.roots.length->d<n->
   Zat N (k:Int) k (Wi (w.roots.map Rt.e)) w.now w.token w.mem.1 w.e.2.2.2.1.2 (w.roots.map Rt.e) w.e.2.2.1.2 w.e.2.2.2.1.1 (P4 w.e) (Q6 w.e) K0 n al (j:Int)=K0 (al&&Wdk k (w.roots.drop j) j) (w.roots.length:Int) false:=by
  intro K0 d
  induction d with
  |zero=>
   intro j n al hj hn;obtain⟨n,rfl⟩:∃n',n=n'+1:=⟨n-1,by omega⟩;have:j=(w.roots.map Rt.e).length:=by omega
   rw[Zat,this,WZ (Xn _),dn,Xdg];simp[Wdk]
  |succ d ih=>
   intro j n al hj hn;obtain⟨n,rfl⟩:∃n',n=n'+1:=⟨n-1,by omega⟩;have hlt:j<(w.roots.map Rt.e).length:=by omega
   have dF:j<w.roots.length:=by omega
   rw[Zat];simp only[WU hlt,Wp hlt,Wv hlt,Wn (show j<4611686018427387904 by omega),We,ih (j+1) n _ (by omega) (by omega),List.getElem_map];rw[Xch dF,Wdk];generalize Wdk k (w.roots.drop (j+1)) (j+1)=b;have hp:(Rt.e w.roots[j]).1=w.roots[j].phase:=rfl;rw[hp];simp only[WE];cases al with
   |false=>simp
   |true=>
    simp only[We,Xcd];by_cases h1:j=k
    .rw[Wb (by omega),Wf h1];simp
    .rw[Wa (by omega),Wq h1];by_cases h2:w.roots[j].phase=0
     .rw[Wb h2,Wf h2];simp
     .rw[Wa h2,Wq h2];have:(w.roots[j].phase==8)=decide (w.roots[j].phase=8):=by
       by_cases h3:w.roots[j].phase=8<;>simp[h3]
      rw[this];simp
 have:=mL;refine(mL _ w.roots.length 0 N true (by omega) (by omega)).trans ?_;rw[List.drop_zero,Xcd];unfold Wen;have cT:some ((S5 (Xk (w.roots.map Rt.e) k ((1:Int),(x.tries,((0:Int),((0:Int),(w.mem.1,((0:Int),((0:Int),((0:Int),((0:Int),(w.now,((0:Int),(false,(Xw (Xa (4:Int)) (0:Int),(([]:List Kc),(([]:List Kc),(([]:List Kj),(([]:List Kb),(([]:List Int),(false,(((0:Int),((0:Int),((0:Int),(0:Int)))),(((0:Int),((0:Int),((0:Int),((0:Int),((0:Int),(([]:List Kc),([]:List Int))))))),d_Family)))))))))))))))))))))) w.e,()),())=some (((Wo.put (w,{phase:=1,tries:=x.tries,rv:=w.mem.1,began:=w.now,regs:=[0,0,0,0]}) k).e,()),()):=WcX (x':={phase:=1,tries:=x.tries,rv:=w.mem.1,began:=w.now,regs:=[0,0,0,0]}) (w':=w) rfl rfl rfl;have ue:some (((w.now,((k:Int)+1,w.e.2.2)),()),())=some (((Wo.put ({w with token:=(k:Int)+1},x) k).e,()),()):=by
  have:Wo.put ({w with token:=(k:Int)+1},x) k={w with token:=(k:Int)+1}:=by unfold Wo.put;simp only;rw[←aW,Xbi]
  rw[this];rfl
 have aC:(((decide ((0:Int)<=(4:Int)))&&(decide ((4:Int)<=(4:Int))))&&(WH (Xa (4:Int))))=true:=rfl;have bp:some ((w.e,()),())=some (((Wo.put (w,x) k).e,()),()):=by rw[ge]
 rw[aC];simp only[We,cT];by_cases t0:w.token=0
 .rw[Wb t0];rw[Wa (show¬(w.token≠0/\w.token≠(k:Int)+1) by omega)];by_cases ht:x.tries>=3
  .rw[Wb ht,Wb t0,Wb ⟨ht,t0⟩];exact ue
  .rw[Wa ht,Wa (show¬w.token=(k:Int)+1 by omega),Wa (λh=>ht h.1),Wa (by omega)]
 .rw[Wa t0];by_cases t1:w.token=(k:Int)+1
  .rw[Wb t1,Wa (show¬(w.token≠0/\w.token≠(k:Int)+1) by omega),Wa (show¬(x.tries>=3/\w.token=0) by omega)];have gM:∀b:Bool,(bif !b then some ((w.e,()),())else some (((Wo.put (w,{phase:=1,tries:=x.tries,rv:=w.mem.1,began:=w.now,regs:=[0,0,0,0]}) k).e,()),()))=some (((Wo.put (if w.token=(k:Int)+1/\b=false then(w,x)else(w,{phase:=1,tries:=x.tries,rv:=w.mem.1,began:=w.now,regs:=[0,0,0,0]})) k).e,()),()):=λb=>by
    cases b with
    |false=>rw[Wb ⟨t1,rfl⟩];exact bp
    |true=>rw[Wa (by simp)];rfl
   by_cases ht:x.tries>=3
   .rw[Wb ht,Wa t0,Wb t1];exact gM _
   .rw[Wa ht,Wb t1];exact gM _
  .rw[Wa t1,Wb ⟨t0,t1⟩];exact bp
theorem WsP(hp:POk p)(hx:RLive p n x)(h2:x.phase=2)(hN:1048576<N):Zij N x.e=some (((Wek x).e,()),()):=by
 obtain⟨r0,r1,r2,r3,r4,r5,r6,r7,r8,jA,iN,g0,hD,ip,iq,kd,ke,jB,jC,kg,kh,ki⟩:=rtP x;have hc:=hp.code;obtain⟨z1,z2,z3,z4,z5,z6⟩:=hx.sz hc;obtain⟨f1,f2,f3⟩:=hx.fork h2;have bf:=hx.pc;have hcl:=hc.len;have nO:x.fam.kids.length<=3:=by have:=f3.len;have:=hp.k3;omega
 have nK:=f3.len3 hp.k3;have gt:=f3.readsL;unfold Zij Wek;simp only[r3,g0,jC,kg,kh,ki,WeC,Xd];rw[Wmx nO hN,Wj1 f3.regs nO (λy hy=>by
  obtain⟨i,hi,rfl⟩:=Xbn hy;rw[(f3.kid i hi).regs.len];omega) hN,WmE (by have:=f3.buf8;omega) hN,WC (by omega),Wa2 (by omega),WcA (by omega),Whn]
 by_cases hl:x.fam.lost=true
 .rw[Wb hl,Wb hl]
 .rw[Wa hl,Wa hl];simp only[ret,Xd,We];cases ho:Wfx x.fam
  .rw[Wa (by simp)];rfl
  .rw[Wb rfl];rfl
theorem Wpu(hk:k<w.roots.length)(aW:w.roots[k]=x)(hp:POk p)(hx:RLive p n x)(h4:x.phase=4)(hm:W2 w.mem=true):
  Zgk N w.e k=some (((Wo.put (w,Wba w x) k).e,()),()):=by
 obtain⟨g1,g2,g3,g4,g5⟩:=woG hk aW;obtain⟨r0,r1,r2,r3,r4,r5,r6,r7,r8,jA,iN,g0,hD,ip,iq,kd,ke,jB,jC,kg,kh,ki⟩:=rtP x;have hc:=hp.code;obtain⟨z1,z2,z3,z4,z5,z6⟩:=hx.sz hc;have hz:=hx.back (.inr h4);obtain⟨m,q,e1,e2,⟨gE,kj⟩,e4,e5,e6,e7,e8,e9,lF,mj,nM,fx,lG⟩:=hx.mk24 hc hz;have ct:=hx.pos h4;have bf:=hx.pc;have hcl:=hc.len;unfold Zgk Wba;simp only[Wu];rw[show P5 w.e=w.roots.map Rt.e from rfl,g1,Wol hz (by omega)];simp only[Xd,r4,r5,r6,g0,hD,Wal,WeC,show w.e.2.2.1.2=w.mem.2 from rfl];by_cases hlt:x.pos<x.last.2.1
 .rw[Wb hlt,Wb hlt];have hj:x.pos.toNat<x.reads.length:=by omega
  have eG:inb x.pos x.reads.length=true:=by unfold inb;simp;omega
  have hg:Xb x.reads (Xa x.pos) ((0:Int),(0:Int))=Wcp x.reads x.pos (0,0):=rfl;have hv:0<=(Wcp x.reads x.pos (0,0)).1/\(Wcp x.reads x.pos (0,0)).1<=7:=by
   unfold Wcp;rw[Wt hj];exact(hx.reads _ (Xo hj)).1
  rw[eG,hg,WgM hm hv,show Xb w.mem.2 (Xa (Wcp x.reads x.pos (0,0)).1) ((0:Int),((0:Int),(0:Int)))=Ww w.mem (Wcp x.reads x.pos (0,0)).1 from rfl,WcA (by omega)];simp only[We,Wc2];by_cases a:(Ww w.mem (Wcp x.reads x.pos (0,0)).1).2.2=0
  .rw[Wb a];by_cases b:(Ww w.mem (Wcp x.reads x.pos (0,0)).1).2.1>x.rv
   .rw[Wb b,Wb (.inr b)];exact WcX rfl rfl rfl
   .rw[Wa b,Wa (by omega)];exact WcX rfl rfl rfl
  .rw[Wa a,Wb (.inl a)];exact WcX rfl rfl rfl
 .rw[Wa hlt,Wa hlt];have b1:(decide ((0:Int)<=x.last.2.1)&&decide (x.last.2.1<=(x.reads.length:Int)))=true:=by simp;omega
  have b2:(decide ((0:Int)<=x.last.2.2.1)&&decide (x.last.2.2.1<=(x.writes.length:Int)))=true:=by simp;omega
  rw[b1,b2,WcG (by rw[Xaw];omega),WcG (by rw[Xaw];omega),Wa2 (by rw[e9.len];omega),WcA (by omega)];simp only[We,ret,Xd];exact WcX rfl rfl rfl
theorem WpJ(hk:k<w.roots.length)(aW:w.roots[k]=x)(lE:k<=8)(kL:CmOk x.cm)(hm:W2 w.mem=true)(hh:w.hist.length<=500000)(hN:1048576<N):
  Zgl N w.e (k:Int)=some (((Wo.put (WaG w x k) k).e,()),()):=by
 obtain⟨g1,g2,g3,g4,g5⟩:=woG hk aW;obtain⟨r0,r1,r2,r3,r4,r5,r6,r7,r8,jA,iN,g0,hD,ip,iq,kd,ke,jB,jC,kg,kh,ki⟩:=rtP x;have aS:=WlD kL hm;unfold Zgl WaG;simp only[Wu,WfJ];rw[show P5 w.e=w.roots.map Rt.e from rfl,g4,g2,WcA (by omega),Xj];simp only[We,r7,jA,jB,show w.e.2.2.1=w.mem from rfl,show Q6 w.e=w.hist from rfl];rw[Whn];by_cases hd:x.doomed=true
 .rw[Wb hd,Wb hd];obtain⟨b,hb⟩:=WrM (N:=N) kL hN;rw[hb];simp only[Xd,WE,show(W7 x.cm).e.2.2.1=(W7 x.cm).phase from rfl];by_cases h8:(W7 x.cm).phase=8
  .rw[Wb h8,Wb h8];have:S20 (W7 x.cm).e (S11 false x.e)=Rt.e {x with cm:=W7 x.cm,doomed:=false}:=rfl;rw[this,WeC];exact WcX rfl rfl rfl
  .rw[Wa h8,Wa h8];exact WcX rfl rfl rfl
 .rw[Wa hd,Wa hd,Wlj kL hm hN];simp only[Xd];obtain⟨m',c',hq⟩:∃m' c',Wz w.mem x.cm=(m',c'):=⟨_,_,rfl⟩;rw[hq]at aS⊢;simp only at aS⊢;have nL:Za1 N (P5 c'.e)=ret c'.puts:=WcG (by have:=aS.1.plen;show c'.puts.length<=1048576;omega);have hS:S20 c'.e x.e=Rt.e {x with cm:=c'}:=rfl;rw[nL,hS,WeC];simp only[ret,Xd];rw[WC (by simp;omega)];simp only[We,WE,Wal,show c'.e.2.2.1=c'.phase from rfl,show(Cm.e x.cm).2.2.1=x.cm.phase from rfl,show P4 c'.e=c'.wv from rfl];unfold Wbq;simp only;by_cases h3:x.cm.phase<=3
  .rw[Wb h3];by_cases h4:c'.phase=4
   .rw[Wb h4,Wa (by omega),Wa (by omega),Wb (show x.cm.phase<=3/\c'.phase=4 from⟨h3,h4⟩),Wa (by omega),Wa (by omega)];exact WcX (w':={w with mem:=m',hist:=w.hist++ [(c'.wv,(k:Int)+1,c'.puts)]}) rfl rfl rfl
   .rw[Wa h4,Wa (show¬(x.cm.phase<=3/\c'.phase=4)fromλh=>h4 h.2)];by_cases h8:c'.phase=8
    .rw[Wb h8,Wb h8];exact WcX (w':={w with mem:=m'}) rfl rfl rfl
    .rw[Wa h8,Wa h8];by_cases h6:c'.phase=6
     .rw[Wb h6,Wb h6];by_cases h2:x.fate=2
      .rw[Wb h2,Wb h2];exact WcX (w':={w with mem:=m'}) rfl rfl rfl
      .rw[Wa h2,Wa h2];exact WcX (w':={w with mem:=m'}) rfl rfl rfl
     .rw[Wa h6,Wa h6];exact WcX (w':={w with mem:=m'}) rfl rfl rfl
  .rw[Wa h3,Wa (show¬(x.cm.phase<=3/\c'.phase=4)fromλh=>h3 h.1)];by_cases h8:c'.phase=8
   .rw[Wb h8,Wb h8];exact WcX (w':={w with mem:=m'}) rfl rfl rfl
   .rw[Wa h8,Wa h8];by_cases h6:c'.phase=6
    .rw[Wb h6,Wb h6];by_cases h2:x.fate=2
     .rw[Wb h2,Wb h2];exact WcX (w':={w with mem:=m'}) rfl rfl rfl
     .rw[Wa h2,Wa h2];exact WcX (w':={w with mem:=m'}) rfl rfl rfl
    .rw[Wa h6,Wa h6];exact WcX (w':={w with mem:=m'}) rfl rfl rfl
end
section
section
variable{code:List Opn}{pc dS rl wl ul oL kc oM:Nat}{ms q:List RM}{y:RM}{n n':Int}{x:Rt}{w:Wo}{p:Pg}{k:Nat}{o:Opn}
theorem Wob(code:List Opn){a b:Nat}(h:a<=b):frk code a<=frk code b:=by
 simp_all [frk,List.Sublist.countP_le,List.take_sublist_take_left]
theorem RMk.mono(h:RMk code pc ms rl wl ul)(hs:stk code dS=stk code pc)(h1:rl<=oL)(h2:wl<=kc)(h3:ul<=oM):RMk code dS ms oL kc oM:=
 ⟨by rw[hs];exact h.pcs,λq hq=>by obtain⟨a,b,c,d⟩:=h.each q hq;grind,h.up⟩
theorem RMk.cut(h:RMk code pc ms rl wl ul)(oJ:ms=q++ [y])(h1:y.2.1<=oL)(h2:y.2.2.1<=kc)(h3:y.2.2.2.1<=oM):RMk code pc ms oL kc oM:=by
 refine⟨h.pcs,λa ha=>?_,h.up⟩;obtain⟨c1,c2,c3,c4⟩:=h.each a ha;have hle:a.2.1<=y.2.1/\a.2.2.1<=y.2.2.1/\a.2.2.2.1<=y.2.2.2.1:=by
  have hu:=h.up;rw[oJ]at ha hu;rcases Xm.1 ha with ha|ha
  .exact(Xaj.1 hu).2.2 a ha y (by simp)
  simp_all
 grind
theorem RMk.begin(h:RMk code pc ms rl wl ul)(hp:pc<code.length)(h8:code[pc].1=8){regs:List Int}(hr:Vals 4 regs)(h1:rl<=pc+72*frk code pc)(h2:wl<=pc+8)(h3:ul<=pc):
  RMk code (pc+1) (ms++ [((pc:Int),(rl:Int),(wl:Int),(ul:Int),regs)]) rl wl ul:=by
 refine⟨?_,?_,?_⟩
 .rw[Wkj hp h8,Xz,Xz,h.pcs];rfl
 .intro q hq;rcases Xm.1 hq with hq|hq
  .exact h.each q hq
  grind
 .refine Xaj.2 ⟨h.up,List.pairwise_singleton _ _,λa ha b hb=>?_⟩;rw[Xaa]at hb;subst hb;obtain⟨c1,c2,c3,c4⟩:=h.each a ha;simp_all
theorem RMk.drop(h:RMk code pc ms rl wl ul)(oJ:ms=q++ [y])(hs:stk code dS=(stk code pc).dropLast)(h1:y.2.1<=oL)(h2:y.2.2.1<=kc)(h3:y.2.2.2.1<=oM):RMk code dS q oL kc oM:=by
 have h':=h.cut oJ h1 h2 h3;subst oJ;have e:=h.pcs;refine⟨?_,λa ha=>h'.each a (List.mem_append_left _ ha),(Xaj.1 h.up).1⟩
 grind
theorem RLive.wk(h:RLive p n x)(hn:n<=n'):RLive p n' x:={h with fork:=λh2=>by obtain⟨a,b,c⟩:=h.fork h2;exact⟨a,b,c.wk hn⟩}
theorem ROk.wk(h:ROk p n x)(hn:n<=n'):ROk p n' x:={h with tries:=by have:=h.tries;omega,live:=λhl=>(h.live hl).wk hn}
theorem RLive.on(bO:CC p.1)(h:RLive p n x)(h1:x.phase=1){i:Nat}(hi:i<p.1.length)(bf:x.pc=i){regs:List Int}{reads writes:List Rw}{marks:List RM}{undos:List Un}{busy:Bool}{pb:Pb}{dS:Nat}
  (hp:dS<=p.1.length) (hlt:i<dS) (hr:Vals 4 regs) (gt:WcU reads) (dn:reads.length<=x.reads.length+1) (xZ:WcU writes) (lC:writes.length<=x.writes.length+1) (cV:undos.length<=x.undos.length+1) (hm:RMk p.1 dS marks reads.length writes.length undos.length) (hb:busy=true->Wkn pb=true):
  RLive p n {x with regs:=regs,reads:=reads,writes:=writes,marks:=marks,undos:=undos,busy:=busy,pb:=pb,pc:=(dS:Int)} where
 pc:=by simp_all
 spare:=h.spare
 rv:=h.rv
 regs:=hr
 reads:=gt
 rl:=by
  have h2:=h.rl;have h3:=Wob p.1 (show i<=dS by omega)
  grind
 writes:=xZ
 wl:=by have:=h.wl;grind
 ul:=by have:=h.ul;grind
 marks:=by simp_all
 pb:=hb
 fork:=λh2=>by simp_all
 back:=λh2=>by simp_all
 newRv:=h.newRv
 pos:=λh2=>by simp_all
 unw:=λh2=>by simp_all
theorem Vals.le4{r:List Int}(h:Vals 4 r):r.length<=4:=Nat.le_of_eq h.len
theorem WeH(h:ROk p n x):ROk p n (Wdc x) where
 phase:=by show(0:Int)<=6/\(6:Int)<=8;omega
 tries:=h.tries
 live:=λh=>by(change (1:Int)<=6/\(6:Int)<=4 at h;omega)
 comm:=λh=>by(change (6:Int)=5 at h;omega)
 undos:=h.undos
 ul:=h.ul
 rg:=by show([]:List Int).length<=4;simp
 ord:=by show([]:List Int).length<=3;simp
theorem Wg9(h:ROk p n x)(hl:RLive p n x):ROk p n (W4 x):=by
 unfold W4;split
 .exact WeH h
 .rename_i hc;exact{h with
   phase:=by simp_all
   live:=λ_=>{hl with
    spare:=by have:=hl.spare;grind
    pb:=λh=>by cases h
    fork:=λh=>by simp_all
    back:=λ_=>by simp_all
    pos:=λh=>by simp_all
    unw:=λh=>by simp_all}
   comm:=λh=>by simp_all}
structure QOk(p:Pg)(n:Int)(w:Wo)(q:Wo×Rt):Prop where
 root:ROk p n q.2
 mem:W2 q.1.mem=true
 shelf:ShOk q.1.shelf
 holds:HOk q.1.holds
 hist:q.1.hist.length<=w.hist.length+1
 histE:∀h∈q.1.hist,h∈w.hist\/HE h
 roots:q.1.roots=w.roots
 now:q.1.now=w.now
structure GOk(w:Wo):Prop where
 mem:W2 w.mem=true
 shelf:ShOk w.shelf
 holds:HOk w.holds
theorem GOk.st(h:GOk w){y:Rt}(hy:ROk p n y):QOk p n w (w,y):=⟨hy,h.mem,h.shelf,h.holds,by simp,λ_ hh=>.inl hh,rfl,rfl⟩
theorem GOk.qt(h:GOk w){y:Rt}(hy:ROk p n y)(t:Int):QOk p n w ({w with token:=t},y):=⟨hy,h.mem,h.shelf,h.holds,by simp,λ_ hh=>.inl hh,rfl,rfl⟩
theorem WrX(h:GOk w)(hx:ROk p n x):QOk p n w (Wlb w x k):=by
 unfold Wlb;refine h.qt ?_ _;exact{hx with
  phase:=by simp_all
  live:=λh=>by simp_all
  comm:=λh=>by simp_all
  undos:=λu hu=>by cases hu
  ul:=by simp}
theorem Wmg(h:GOk w)(hx:ROk p n x)(ik:0<=x.rv/\x.rv<=1000000)(hk:k<=8){out:Int}:QOk p n w (WbV w x k out):=by
 unfold WbV;simp only;generalize (if out=2 then []else x.writes)=rows;split
 .exact WrX (x:={x with fate:=out,stamp:=x.rv}) h
   {phase:=hx.phase,tries:=hx.tries,live:=λhh=>{hx.live hh with},comm:=hx.comm,undos:=hx.undos,ul:=hx.ul,rg:=hx.rg,ord:=hx.ord}
 .refine h.st ?_;exact{hx with
   phase:=by simp_all
   live:=λh=>by simp_all
   comm:=λ_=>Wth (by omega) ik}
theorem WqX{α:Type}{l:List α}(h:l.length≠0)(d:α):WgI l d∈l:=by
 grind [WgI,Wt,Xo]
theorem Wk5(h:GOk w)(hx:ROk p n x)(hz:x.undos.length≠0)(bO:1<=x.phase/\x.phase<=4->CC p.1/\(x.marks.length≠0->x.last.2.2.2.1<x.undos.length)):QOk p n w (Weg w x):=by
 unfold Weg;refine⟨?_,h.mem,Wpa h.shelf (hx.undos _ (WqX hz _)),h.holds,by simp,λ_ hh=>.inl hh,rfl,rfl⟩;have hdl:x.undos.dropLast.length=x.undos.length-1:=List.length_dropLast;exact{hx with
  live:=λhh=>by
   have hl:=hx.live hh;obtain⟨c1,c2⟩:=bO hh;exact{hl with
    ul:=by have:=hl.ul;grind
    unw:=λh4=>by have:=hl.unw h4;show(x.undos.dropLast.length:Int)<=x.last.2.2.2.1;omega
    marks:=by
     show RMk p.1 x.pc.toNat x.marks x.reads.length x.writes.length x.undos.dropLast.length;by_cases hm:x.marks.length=0
     .have:x.marks= []:=Xab hm;have hM:=hl.marks;rw[this]at hM⊢;exact⟨hM.pcs,(λq hq=>by cases hq),hM.up⟩
     .obtain⟨m,q,e1,e2,⟨gE,kj⟩,e4,e5,e6,e7,e8,e9,lF,mj,nM,fx,lG⟩:=hl.mk24 c1 hm;have:=c2 hm;exact hl.marks.cut e1 lF.2.2 mj.2.2 (by omega)}
  undos:=λu hu=>hx.undos u (by grind [Xfv,Xbq])
  ul:=by have:=hx.ul;grind}
theorem Ws3(bO:CC p.1)(h:GOk w)(hx:ROk p n x)(hl:RLive p n x)(h1:x.phase=1){i:Nat}(hi:i<p.1.length)(bf:x.pc=i)(h5:p.1[i].1=5):ROk p n (Wd9 w x p.1[i]):=by
 have aY:=Wto (bO.ok i hi).1 h5;have hB:0<=p.1[i].2.2.1/\p.1[i].2.2.1<=7:=by grind [Wai]
 have hM:=hl.marks;rw[bf,Xj]at hM;have aS:stk p.1 (i+1)=stk p.1 i:=WfR hi (by omega) (by omega);have cb:x.pc+1=((i+1:Nat):Int):=by omega
 unfold Wd9;cases kE:Wa1 x.writes p.1[i].2.2.1 with
 |some v=>
  have hv:=hl.writes _ (Wh9 kE).2;simp only[cb];exact{hx with rg:=Vals.le4 (hl.regs.set _ hv.2),live:=λ_=>RLive.on bO hl h1 hi bf (by omega) (by omega) (hl.regs.set _ hv.2) hl.reads (by omega) hl.writes (by omega) (by omega) (hM.mono aS (by omega) (by omega) (by omega)) hl.pb}
 |none=>
  simp only;have ct:=Wl3 (rv:=x.rv) h.mem (Wrx hl.pb hB);generalize WV w.mem x.rv (if x.busy=true then x.pb else(p.1[i].2.2.1,0,0,0))=b at*;have hp:=WeT.1 ct.1;have x5:RLive p n {x with busy:=true,pb:=b}:={hl with pb:=λ_=>ct.1};have hbo:ROk p n {x with busy:=true,pb:=b}:={hx with live:=λ_=>x5};split
  .grind [Wg9]
  .split
   .simp only[cb];refine{hx with rg:=Vals.le4 (hl.regs.set _ hp.2.2.2),live:=λ_=>RLive.on bO hl h1 hi bf (by omega) (by omega) (hl.regs.set _ hp.2.2.2) (λr hr=>?_) (by simp) hl.writes (by omega) (by omega) (hM.mono aS (by simp) (by omega) (by omega)) (λh=>by cases h)};rcases Xm.1 hr with hr|hr
    .exact hl.reads r hr
    simp_all
   omega
theorem WqT(bO:CC p.1)(h:GOk w)(hx:ROk p n x)(hl:RLive p n x)(h1:x.phase=1)(hk:k<=8){i:Nat}(hi:i<p.1.length)(bf:x.pc=i):QOk p n w (Wdr w x k p.1):=by
 have hM:=hl.marks;rw[bf,Xj]at hM;unfold Wdr;split
 .exact Wmg h hx hl.rv hk
 .rename_i hz;obtain⟨m,q,e1,e2,⟨gE,kj⟩,e4,e5,e6,e7,e8,e9,lF,mj,nM,fx,lG⟩:=hl.mk24 bO hz;split
  .grind [Wk5]
  .refine h.st ?_;rw[e8];simp only[e2,Xj,←Int.natCast_succ];have hlen:=e5.len;have ht:(Xau x.last.2.2.1.toNat x.writes).length=x.last.2.2.1.toNat:=by simp_all
   refine{hx with rg:=Vals.le4 (e9.set _ (by omega)),live:=λ_=>RLive.on bO hl h1 hi bf (dS:=WiW p.1 m+1) (by omega) (by omega) (e9.set _ (by omega)) hl.reads (by omega) (λr hr=>hl.writes r (Xbq hr)) (by omega) (by omega) ?_ hl.pb};exact hM.drop e1 (by rw[e5.st,e7,bf];rfl) (by omega) (by omega) (by omega)
theorem WrT(bO:CC p.1)(h:GOk w)(hx:ROk p n x)(hl:RLive p n x)(h1:x.phase=1)(hk:k<=8){i:Nat}(hi:i<p.1.length)(bf:x.pc=i)(eF:12<=p.1[i].1):QOk p n w (Wc5 w x k p.1[i]):=by
 have ho:=(bO.ok i hi).1;have hM:=hl.marks;rw[bf,Xj]at hM;have aS:stk p.1 (i+1)=stk p.1 i:=WfR hi (by omega) (by omega);have cb:x.pc+1=((i+1:Nat):Int):=by omega
 have cV:=hl.ul;have hcl:=bO.len;have qM:(0<=(WbS p.1[i]).1/\(WbS p.1[i]).1<=8)/\1<=(WbS p.1[i]).2/\(WbS p.1[i]).2<=2:=by
  grind [WbS,Wm3,WeY,Wti,Wsz,WcR,Wt6]
 unfold Wc5;cases ha:Wb7 w.holds ((k:Int)+1) (WbS p.1[i]).1 (WbS p.1[i]).2 with
 |none=>exact h.st (Wg9 hx hl)
 |some hs=>
  have x6:HOk hs:=by
   unfold Wb7 at ha;split at ha
   .injection ha with ha;subst ha;exact Wpg h.holds (by omega) qM.1 qM.2 ‹_›
   .cases ha
  obtain⟨b1,b2,b3,b4⟩:=Wph h.shelf hl.regs ho eF;simp only[cb];refine⟨?_,h.mem,b1,x6,by simp,λ_ hh=>.inl hh,rfl,rfl⟩;by_cases hz:(WbI w.shelf p.1[i] x.regs).2.2.1=0
  .simp only[Wb hz];exact{hx with rg:=Vals.le4 b2,live:=λ_=>RLive.on bO hl h1 hi bf (by omega) (by omega) b2 hl.reads (by omega) hl.writes (by omega) (by omega) (hM.mono aS (by omega) (by omega) (by omega)) hl.pb}
  .simp only[Wa hz];refine{hx with rg:=Vals.le4 b2,live:=λ_=>RLive.on bO hl h1 hi bf (by omega) (by omega) b2 hl.reads (by omega) hl.writes (by omega) (by simp) (hM.mono aS (by omega) (by omega) (by simp)) hl.pb,undos:=λu hu=>?_,ul:=by simp;omega};rcases Xm.1 hu with hu|hu
   .exact hx.undos u hu
   simp_all
theorem WtV(hp:POk p)(h:GOk w)(hx:ROk p n x)(h1:x.phase=1)(hk:k<=8)(hn:0<=n):QOk p n w (Wla w x k p):=by
 have hl:=hx.live (by omega);have bO:=hp.code;unfold Wla;split
 .exact Wmg h hx hl.rv hk
 .obtain⟨i,hi,bf,ho⟩:=We9 (l:=p.1) hl.pc.1 (by omega);simp only[ho];obtain⟨ok,o1,fC⟩:=bO.ok i hi;have hM:=hl.marks;rw[bf,Xj]at hM;have cb:x.pc+1=((i+1:Nat):Int):=by omega
  have dn:=hl.rl;have lC:=hl.wl;have cV:=hl.ul;rw[bf,Xj]at dn;split
  .exact h.st (Ws3 bO h hx hl h1 hi bf ‹_›)
  .split
   .grind [WqT]
   .split
    .rename_i fw;refine h.st ?_;exact{hx with
      phase:=by simp_all
      live:=λ_=>{hl with
       fork:=λ_=>⟨by simp_all,by simp_all,WrC hl.regs hn⟩
       back:=λh=>by simp_all
       pos:=λh=>by simp_all
       unw:=λh=>by simp_all}
      comm:=λh=>by simp_all}
    .split
     .grind [WrT]
     .split
      .refine h.st ?_;have hk:=WvR ok ‹_›;have aS:stk p.1 (i+1)=stk p.1 i:=WfR hi (by omega) (by omega);simp only[cb];refine{hx with live:=λ_=>RLive.on bO hl h1 hi bf (by omega) (by omega) hl.regs hl.reads (by omega) (λr hr=>?_) (by simp) (by omega) (hM.mono aS (by omega) (by simp) (by omega)) hl.pb};rcases Xm.1 hr with hr|hr
       .exact hl.writes r hr
       .rw[Xaa]at hr;subst hr;have:=hk.1;unfold Wai at this;exact⟨by simp_all,hl.regs.get _⟩
      .split
       .refine h.st ?_;obtain⟨s1,s2⟩:=bO.sk i hi ‹_›;have hk:=Wvh ok ‹_›;have aS:stk p.1 (i+1)=stk p.1 i:=WfR hi (by omega) (by omega);have nJ:stk p.1 (i+1+p.1[i].2.2.1.toNat)=stk p.1 i:=by grind [Wn1]
        by_cases hg:Wcp x.regs p.1[i].2.1 0=0
        .simp only[Wb hg,show x.pc+p.1[i].2.2.1+1=((i+1+p.1[i].2.2.1.toNat:Nat):Int) by omega];exact{hx with live:=λ_=>RLive.on bO hl h1 hi bf s1 (by omega) hl.regs hl.reads (by omega) hl.writes (by omega) (by omega) (hM.mono nJ (by omega) (by omega) (by omega)) hl.pb}
        .simp only[Wa hg,cb];exact{hx with live:=λ_=>RLive.on bO hl h1 hi bf (by omega) (by omega) hl.regs hl.reads (by omega) hl.writes (by omega) (by omega) (hM.mono aS (by omega) (by omega) (by omega)) hl.pb}
       .split
        .refine h.st ?_;simp only[cb];rw[bf];exact{hx with live:=λ_=>RLive.on bO hl h1 hi bf (by omega) (by omega) hl.regs hl.reads (by omega) hl.writes (by omega) (by omega) (hM.begin hi ‹_› hl.regs (by omega) (by omega) (by omega)) hl.pb}
        .split
         .rename_i h9;refine h.st ?_;have hz:x.marks.length≠0:=λhz=>by
           have h1:=Wj Xc hM.pcs;simp only[Xu,hz]at h1;have h2:=WbB bO.up i (by omega);have h3:=bO.up i hi
           grind [WaX,WpO]
          obtain⟨m,q,e1,e2,⟨gE,kj⟩,e4,e5,e6,e7,e8,e9,lF,mj,nM,fx,lG⟩:=hl.mk24 bO hz;simp only[cb];rw[e8];exact{hx with rg:=Vals.le4 (hl.regs.set _ (by omega)),live:=λ_=>RLive.on bO hl h1 hi bf (by omega) (by omega) (hl.regs.set _ (by omega)) hl.reads (by omega) hl.writes (by omega) (by omega) (hM.drop e1 (WmQ hi h9) (by omega) (by omega) (by omega)) hl.pb}
         .refine h.st ?_;have aS:stk p.1 (i+1)=stk p.1 i:=WfR hi (by omega) (by omega);simp only[cb];exact{hx with rg:=Vals.le4 (WkC ok (by omega) (by omega) hl.regs),live:=λ_=>RLive.on bO hl h1 hi bf (by omega) (by omega) (WkC ok (by omega) (by omega) hl.regs) hl.reads (by omega) hl.writes (by omega) (by omega) (hM.mono aS (by omega) (by omega) (by omega)) hl.pb}
theorem WsL(h:GOk w)(hx:ROk p n x)(hu:x.phase=0)(hcl:0<=(p.1.length:Int)):QOk p n w (Wen w x k):=by
 have kM:=WP h.mem;unfold Wen;split
 .exact h.st hx
 .split
  .exact h.qt hx _
  .split
   .exact h.st hx
   .refine h.st ?_;exact{
     phase:=by simp_all
     tries:=hx.tries
     live:=λ_=>{
      pc:=by simp_all
      spare:=by simp_all
      rv:=⟨kM.2.1,kM.2.2.1⟩
      regs:=⟨rfl,λv hv=>by simp_all⟩
      reads:=λr hr=>by cases hr
      rl:=by simp;omega
      writes:=λr hr=>by cases hr
      wl:=by simp
      ul:=by simp
      marks:=⟨by simp[stk],(λq hq=>by cases hq),List.Pairwise.nil⟩
      pb:=λh=>by cases h
      fork:=λh=>by simp_all
      back:=λh=>by simp_all
      newRv:=by simp_all
      pos:=λh=>by simp_all
      unw:=λh=>by simp_all}
     comm:=λh=>by simp_all
     undos:=λu hu=>by cases hu
     ul:=by simp
     rg:=by simp
     ord:=by simp}
theorem Wlo{codes:List (List Opn)}{f:Fm}(h:FOk codes n f):WcU (Wh5 f)/\(Wh5 f).length<=8:=by
 refine⟨λr hr=>?_,by unfold Wh5;rw[Xu];exact h.buf8⟩;obtain⟨e,he,rfl⟩:=Xt.1 hr;have:=h.bufE e he;omega
theorem Wjb{codes:List (List Opn)}{f:Fm}(h:FOk codes n f)(h3:codes.length<=3):Vals 4 (Wit f):=by
 have hl:=h.len;have hr:=h.regs;unfold Wit;rw[Wb ⟨WeI.2 hr,by omega⟩];refine⟨by simp[hr.len];omega,λv hv=>?_⟩;rcases Xm.1 hv with hv|hv
 .obtain⟨y,hy,rfl⟩:=Xt.1 hv;unfold WtR;split
  .rename_i hc;exact(WeI.1 hc.2).get _
  .omega
 .exact hr.val v (List.mem_of_mem_drop hv)
theorem Wta(hp:POk p)(hx:ROk p n x)(h2:x.phase=2):ROk p n (Wek x):=by
 have hl:=hx.live (by omega);have bO:=hp.code;obtain⟨f1,f2,f3⟩:=hl.fork h2;obtain⟨i,hi,bf,ho⟩:=We9 (l:=p.1) hl.pc.1 f1;rw[ho]at f2;have hM:=hl.marks;have dn:=hl.rl;have cV:=hl.ul;rw[bf,Xj]at hM dn;unfold Wek;split
 .exact WeH hx
 .split
  .have hz:x.marks= []:=by
    have h1:=Wj Xc hM.pcs;simp only[Xu]at h1;have h3:=WbB bO.up i (by omega);have h4:=(bO.fk i hi f2).1;simp_all
   have aS:stk p.1 (i+1)=stk p.1 i:=WfR hi (by omega) (by omega);have x7:=Wlo f3;have nK:=f3.len3 hp.k3;have x8:=f3.readsL;have hfk:frk p.1 (i+1)=frk p.1 i+1:=by grind [Whp]
   exact{hx with
    phase:=by simp_all
    rg:=(Wjb f3 hp.k3).le4
    ord:=nK
    live:=λ_=>{hl with
     pc:=by grind
     regs:=Wjb f3 hp.k3
     reads:=λr hr=>by
      rcases Xm.1 hr with hr|hr
      .exact hl.reads r hr
      .exact f3.readsE r hr
     rl:=by
      grind
     writes:=x7.1
     wl:=by grind
     ul:=by grind
     marks:=by
      show RMk p.1 (x.pc+1).toNat x.marks _ _ _;rw[show(x.pc+1).toNat=i+1 by omega];rw[hz]at hM⊢;exact⟨by rw[aS];exact hM.pcs,(λq hq=>by cases hq),List.Pairwise.nil⟩
     fork:=λh=>by simp_all
     back:=λh=>by simp_all
     pos:=λh=>by simp_all
     unw:=λh=>by simp_all}
    comm:=λh=>by simp_all}
  .exact hx
theorem Wo8(hp:POk p)(h:GOk w)(hx:ROk p n x)(h3:x.phase=3):QOk p n w (WbL w x):=by
 have hl:=hx.live (by omega);have hz:=hl.back (.inl h3);obtain⟨m,q,e1,e2,⟨gE,kj⟩,e4,e5,e6,e7,e8,e9,lF,mj,nM,fx,lG⟩:=hl.mk24 hp.code hz;have kM:=WP h.mem;unfold WbL;split
 .exact Wk5 h hx (by omega) λ_=>⟨hp.code,λ_=>by omega⟩
 .refine h.st ?_;exact{hx with
   phase:=by simp_all
   live:=λ_=>{hl with
    fork:=λh=>by simp_all
    back:=λ_=>hz
    newRv:=⟨kM.2.1,kM.2.2.1⟩
    pos:=λ_=>by(show(0:Int)<=0/\(0:Int)<=x.last.2.1;omega)
    unw:=λ_=>by(show(x.undos.length:Int)<=x.last.2.2.2.1;omega)}
   comm:=λh=>by simp_all}
theorem Wpy(hp:POk p)(h:GOk w)(hx:ROk p n x)(h4:x.phase=4):ROk p n (Wba w x):=by
 have hl:=hx.live (by omega);have hz:=hl.back (.inr h4);have ct:=hl.pos h4;obtain⟨m,q,e1,e2,⟨gE,kj⟩,e4,e5,e6,e7,e8,e9,lF,mj,nM,fx,lG⟩:=hl.mk24 hp.code hz;unfold Wba;split
 .simp only;split
  .exact WeH hx
  .exact{hx with live:=λ_=>{hl with pos:=λ_=>by(show 0<=x.pos+1/\x.pos+1<=x.last.2.1;omega)}}
 .rename_i eQ;have aS:stk p.1 (m+1)=stk p.1 x.pc.toNat:=by
   have x9:=hl.pc;rw[Wkj gE kj,e7];rcases Wb4 (stk p.1 x.pc.toNat)with h0|⟨t,j,ht⟩
   .have h1:=Wj Xc hl.marks.pcs;simp_all
   .have h1:=hl.marks.pcs;rw[e1,ht]at h1;simp only[Xz,Xam,List.map_nil]at h1;have h2:=(List.append_inj' h1 rfl).2;injection h2 with h2;rw[e2]at h2;rw[ht,List.dropLast_concat,show m=j by omega]
  have uT:=Wob p.1 (show m<=m+1 by omega);rw[e2,Xj]at lF;have cb:x.last.1+1=((m+1:Nat):Int):=by omega
  have t1:(Xau x.last.2.1.toNat x.reads).length=x.last.2.1.toNat:=by simp_all
  have t2:(Xau x.last.2.2.1.toNat x.writes).length=x.last.2.2.1.toNat:=by simp_all
  exact{hx with
   phase:=by simp_all
   rg:=e9.le4
   live:=λ_=>{hl with
    pc:=by grind
    rv:=hl.newRv
    regs:=e9
    reads:=λr hr=>hl.reads r (Xbq hr)
    rl:=by
     grind
    writes:=λr hr=>hl.writes r (Xbq hr)
    wl:=by grind
    ul:=by
     show(x.undos.length:Int)<=x.last.1+1;have:=hl.unw h4;omega
    marks:=by
     show RMk p.1 (x.last.1+1).toNat x.marks (Xau x.last.2.1.toNat x.reads).length (Xau x.last.2.2.1.toNat x.writes).length x.undos.length;rw[cb,Xj,t1,t2];exact(hl.marks.cut e1 (by omega) (by omega) lG).mono aS (Xn _) (Xn _) (Xn _)
    fork:=λh=>by simp_all
    back:=λh=>by omega
    newRv:=by simp_all
    pos:=λh=>by simp_all
    unw:=λh=>by simp_all}
   comm:=λh=>by simp_all}
end
end
section
section
variable{N:Nat}{w:Wo}{k:Nat}{x:Rt}{p:Pg}{n:Int}{ps:List Pg}
theorem Wo4(h:GOk w)(hx:ROk p n x)(h5:x.phase=5)(hk:k<=8):QOk p n w (WaG w x k):=by
 have hc:=hx.comm h5;unfold WaG;split
 .split
  .exact h.st (WeH hx)
  .refine h.st ?_;exact{hx with live:=λhh=>by simp_all,comm:=λ_=>Wo3 hc}
 .have aS:=WlD hc h.mem;obtain⟨m',c',hq⟩:∃m' c',Wz w.mem x.cm=(m',c'):=⟨_,_,rfl⟩;simp only[hq]at aS⊢;refine⟨?_,aS.2,h.shelf,h.holds,?_,?_,rfl,rfl⟩
  .have hy:ROk p n {x with cm:=c'}:={hx with live:=λhh=>by simp_all,comm:=λ_=>aS.1};unfold Wbq;simp only;split
   .exact WeH hy
   .split
    .have cd:(if x.fate=2 then(6:Int)else 7)=6\/(if x.fate=2 then(6:Int)else 7)=7:=by split<;>simp
     generalize (if x.fate=2 then(6:Int)else 7)=ph at*;exact{hx with
      phase:=by grind
      live:=λhh=>by grind
      comm:=λhh=>by simp_all}
    .exact hy
  .simp only;split<;>simp
  .simp only;intro h hh;split at hh
   .rcases Xm.1 hh with hh|hh
    .grind
    .rw[Xaa]at hh;subst hh;exact .inr ⟨aS.1.plen,aS.1.rows,by grind,by grind⟩
   simp_all
theorem Wj0(hp:POk p)(h:GOk w)(hx:ROk p n x)(hk:k<=8)(hn:0<=n):QOk p (n+1) w (Wam w x k p):=by
 have kn:=hx.wk (show n<=n+1 by omega);unfold Wam;by_cases hd:x.doomed=true/\1<=x.phase/\x.phase<=4
 .rw[Wb hd];exact h.st (WeH kn)
 rw[Wa hd];by_cases h0:x.phase=0
 .simp_all [Wb,WsL]
 rw[Wa h0];by_cases h1:x.phase=1
 .rw[Wb h1];grind [WtV]
 rw[Wa h1];by_cases h2:x.phase=2
 .rw[Wb h2];exact h.st (Wta hp kn h2)
 rw[Wa h2];by_cases h3:x.phase=3
 .simp_all [Wb,Wo8]
 rw[Wa h3];by_cases h4:x.phase=4
 .rw[Wb h4];exact h.st (Wpy hp h kn h4)
 rw[Wa h4];by_cases h5:x.phase=5
 .simp_all [Wb,Wo4]
 rw[Wa h5];by_cases h6:x.phase=6
 .rw[Wb h6];by_cases hz:x.undos.length>0
  .rw[Wb hz];grind [Wk5]
  .rw[Wa hz];refine h.st ?_;exact{kn with
    phase:=by simp_all
    live:=λhh=>by simp_all
    comm:=λhh=>by simp_all}
 rw[Wa h6];by_cases h7:x.phase=7
 .rw[Wb h7];have hg:GOk {w with holds:=W3 w.holds ((k:Int)+1)}:=⟨h.mem,h.shelf,WhU h.holds⟩;by_cases hf:x.fate=0
  .rw[Wb hf];refine⟨?_,h.mem,h.shelf,WhU h.holds,by simp,λ_ hh=>.inl hh,rfl,rfl⟩;exact{
    phase:=by simp_all
    tries:=by have:=hx.tries;grind
    live:=λhh=>by simp_all
    comm:=λhh=>by simp_all
    undos:=λu hu=>by cases hu
    ul:=by simp
    rg:=by simp
    ord:=by simp}
  .rw[Wa hf];have:=WrX (k:=k) hg kn;exact⟨this.root,this.mem,this.shelf,this.holds,this.hist,this.histE,this.roots,this.now⟩
 .rw[Wa h7];exact h.st kn
theorem Wtc(hk:k<w.roots.length)(aW:w.roots[k]=x)(nN:w.roots.length<=8)(hp:POk p)(h:GOk w)(hx:ROk p n x)(hn:n<=200000)(hh:w.hist.length<=500000)(hN:1048576<N):
  Zht N w.e (k:Int) p=some (((Wo.put (Wam w x k p) k).e,()),()):=by
 obtain⟨g1,g2,g3,g4,g5⟩:=woG hk aW;obtain⟨r0,r1,r2,r3,r4,r5,r6,r7,r8,jA,iN,g0,hD,ip,iq,kd,ke,jB,jC,kg,kh,ki⟩:=rtP x;have wi:k<=8:=by omega
 have ge:=Wn8 hk aW;have qO:=hx.tries;have ya:=hx.ul;have sw:=Wk0 h.holds;unfold Zht Wam;simp only[Wu];rw[show P5 w.e=w.roots.map Rt.e from rfl,g4,g2,WcA (by omega),WcA (show 0<=x.e.2.1/\x.e.2.1<=1000000 by omega)];simp(maxSteps:=4000000) only[g3,r0,r7,jA,iq,We,WS,ret,Xd,WeC,WE,Wal,show w.e.2.2.1.1=w.mem.1 from rfl,Wi,show P4 w.e=w.holds from rfl];rw[Whg h.holds (by omega) hN];simp only[ret,Xd];have hS4:S4 (W3 w.holds ((k:Int)+1)) w.e=Wo.e {w with holds:=W3 w.holds ((k:Int)+1)}:=rfl;have yb:S5 (Xk (w.roots.map Rt.e) (Xa (k:Int)) x.e) (S4 (W3 w.holds ((k:Int)+1)) w.e)=Wo.e {w with holds:=W3 w.holds ((k:Int)+1)}:=(woG (w:={w with holds:=W3 w.holds ((k:Int)+1)}) hk aW).2.2.1;rw[yb,WqU (w:={w with holds:=W3 w.holds ((k:Int)+1)}) hk aW (by omega),Wsy hk aW nN hN];have fU:∀(A:Option ((Y_World×Unit)×Unit)),A=some (((Wo.put (
   if x.phase=0 then Wen w x k else
   if x.phase=1 then Wla w x k p else
   if x.phase=2 then(w,Wek x)else
   if x.phase=3 then WbL w x else
   if x.phase=4 then(w,Wba w x)else
   if x.phase=5 then WaG w x k else
   if x.phase=6 then(if x.undos.length>0 then Weg w x else(w,{x with phase:=7}))else
   if x.phase=7 then
    (if x.fate=0 then({w with holds:=W3 w.holds ((k:Int)+1)},{tries:=x.tries+1})
     else Wlb {w with holds:=W3 w.holds ((k:Int)+1)} x k)
   else(w,x)) k).e,()),())->¬(x.doomed=true/\1<=x.phase/\x.phase<=4)->A=some (((Wo.put (
   if x.doomed=true/\1<=x.phase/\x.phase<=4 then(w,Wdc x)else
   if x.phase=0 then Wen w x k else
   if x.phase=1 then Wla w x k p else
   if x.phase=2 then(w,Wek x)else
   if x.phase=3 then WbL w x else
   if x.phase=4 then(w,Wba w x)else
   if x.phase=5 then WaG w x k else
   if x.phase=6 then(if x.undos.length>0 then Weg w x else(w,{x with phase:=7}))else
   if x.phase=7 then
    (if x.fate=0 then({w with holds:=W3 w.holds ((k:Int)+1)},{tries:=x.tries+1})
     else Wlb {w with holds:=W3 w.holds ((k:Int)+1)} x k)
   else(w,x)) k).e,()),()):=λA hA hn=>by grind
 have qP:(if x.phase=0 then(some (((Wo.put (Wen w x k) k).e,()),()):Option ((Y_World×Unit)×Unit)).bind (λo6=>some ((o6.1.1,()),()))
   else if x.phase=1 then(Zii N w.e (k:Int) p).bind (λo7=>some ((o7.1.1,()),()))
   else if x.phase=2 then(Zij N x.e).bind (λo8=>some ((S5 (Xk (w.roots.map Rt.e) (Xa (k:Int)) o8.1.1) w.e,()),()))
   else if x.phase=3 then(Zd4 N x.e).bind (λo9=>if(x.undos.length:Int)>o9.2.1.2.2.2 then(Zcf N w.e (Xa (k:Int))).bind (λcy=>some ((cy.1.1,()),()))else some ((S5 (Xk (w.roots.map Rt.e) (Xa (k:Int)) (S6 0 (S5 w.mem.1 (S0 4 x.e)))) w.e,()),()))
   else if x.phase=4 then(Zgk N w.e (Xa (k:Int))).bind (λfX=>some ((fX.1.1,()),()))
   else if x.phase=5 then(Zgl N w.e (k:Int)).bind (λdV=>some ((dV.1.1,()),()))
   else if x.phase=6 then(if(x.undos.length:Int)>0 then(Zcf N w.e (Xa (k:Int))).bind (λcH=>some ((cH.1.1,()),()))else some ((S5 (Xk (w.roots.map Rt.e) (Xa (k:Int)) (7,x.e.2)) w.e,()),()))
   else if x.phase=7 then(if x.fate=0 then some ((S5 (Xk (w.roots.map Rt.e) (Xa (k:Int)) ((0:Int),(x.e.2.1+1,((0:Int),((0:Int),((0:Int),((0:Int),((0:Int),((0:Int),((0:Int),((0:Int),((0:Int),(false,(([]:List Int),(([]:List Kc),(([]:List Kc),(([]:List Kj),(([]:List Kb),(([]:List Int),(false,(((0:Int),((0:Int),((0:Int),(0:Int)))),(((0:Int),((0:Int),((0:Int),((0:Int),((0:Int),(([]:List Kc),([]:List Int))))))),d_Family)))))))))))))))))))))) (S4 (W3 w.holds ((k:Int)+1)) w.e),()),())else(some (((Wo.put (Wlb {w with holds:=W3 w.holds ((k:Int)+1)} x k) k).e,()),()):Option ((Y_World×Unit)×Unit)).bind (λma=>some ((ma.1.1,()),())))
   else some ((w.e,()),()))=some (((Wo.put (
   if x.phase=0 then Wen w x k else
   if x.phase=1 then Wla w x k p else
   if x.phase=2 then(w,Wek x)else
   if x.phase=3 then WbL w x else
   if x.phase=4 then(w,Wba w x)else
   if x.phase=5 then WaG w x k else
   if x.phase=6 then(if x.undos.length>0 then Weg w x else(w,{x with phase:=7}))else
   if x.phase=7 then
    (if x.fate=0 then({w with holds:=W3 w.holds ((k:Int)+1)},{tries:=x.tries+1})
     else Wlb {w with holds:=W3 w.holds ((k:Int)+1)} x k)
   else(w,x)) k).e,()),()):=by
  rw[Xj];by_cases h0:x.phase=0
  .simp_all
  .rw[Wa h0,Wa h0];by_cases h1:x.phase=1
   .rw[Wb h1,Wb h1,Wuw hk aW wi hp (hx.live (by omega)) hx.undos h.mem h.shelf h.holds hN];rfl
   .rw[Wa h1,Wa h1];by_cases h2:x.phase=2
    .rw[Wb h2,Wb h2,WsP hp (hx.live (by omega)) h2 hN];exact WcX rfl rfl rfl
    .rw[Wa h2,Wa h2];by_cases h3:x.phase=3
     .have hl:=hx.live (by omega);obtain⟨z1,z2,z3,z4,z5,z6⟩:=hl.sz hp.code;rw[Wb h3,Wb h3,WmB (hl.back (.inl h3)) (by omega)];simp only[Xd];have c9:=(hl.mk24 hp.code (hl.back (.inl h3)));obtain⟨m,q,e1,e2,_,_,_,_,_,_,_,_,_,lG⟩:=c9;unfold WbL;by_cases hgt:(x.undos.length:Int)>x.last.2.2.2.1
      .rw[Wb hgt,Wb hgt,Wj5 hk aW (by omega) (by omega) hx.undos h.shelf hN];rfl
      .rw[Wa hgt,Wa hgt];exact WcX rfl rfl rfl
     .rw[Wa h3,Wa h3];by_cases h4:x.phase=4
      .rw[Wb h4,Wb h4,Wpu hk aW hp (hx.live (by omega)) h4 h.mem];rfl
      .rw[Wa h4,Wa h4];by_cases h5:x.phase=5
       .rw[Wb h5,Wb h5,WpJ hk aW wi (hx.comm h5) h.mem hh hN];rfl
       .rw[Wa h5,Wa h5];by_cases h6:x.phase=6
        .rw[Wb h6,Wb h6];by_cases hz:x.undos.length>0
         .rw[Wb (by omega),Wb hz,Wj5 hk aW (by omega) (by omega) hx.undos h.shelf hN];rfl
         .rw[Wa (by omega),Wa hz];exact WcX rfl rfl rfl
        .rw[Wa h6,Wa h6];by_cases h7:x.phase=7
         .rw[Wb h7,Wb h7];by_cases hf:x.fate=0
          .rw[Wb hf,Wb hf,hS4];exact WcX (w:=w) (w':={w with holds:=W3 w.holds ((k:Int)+1)}) (x':={tries:=x.tries+1}) rfl rfl rfl
          .rw[Wa hf,Wa hf];rfl
         simp_all
 rw[Whn];by_cases hd:x.doomed=true
 .rw[Wb hd];by_cases cd:1<=x.phase/\x.phase<=4
  .rw[Wf cd.1,Wf cd.2,Wb (show x.doomed=true/\1<=x.phase/\x.phase<=4 from⟨hd,cd⟩),Xj];exact WcX rfl rfl rfl
  .have hb:(decide (1<=x.phase)&&decide (x.phase<=4))=false:=by
    rw[Xdo,Wx,Wx];omega
   rw[hb];exact fU _ qP (λhc=>cd hc.2)
 grind
end
end
end Go.Sx
