/- Plain laws of the Lean functions. -/
import Derived.Test.YtokgfiajefpfoaaGreatMW4
open List renaming getElem?_eq_getElem→Xp,getElem?_set_self→oQ,getElem?_set_ne→kD,getElem?_eq_none→ju,getElem_of_mem→eI,mem_append→Xn,mem_map→Xz,mem_filter→dA,mem_append_left→Xm,getD_eq_getElem?_getD→Xq,mem_singleton→bH,mem_append_right→Xh,getElem_mem→Xo,mem_iff_getElem→nq,mem_cons→Xs,length→Xb,length_map→Xy,eq_nil_of_length_eq_zero→Xv,map_nil→cV,dropLast_subset→Od,mem_cons_self→Xg,mem_cons_of_mem→Xf,getElem_map→eX,getElem_range→B1,length_dropLast→xT,dropLast_eq_take→uv,take_take→o5,length_append→Xx,pairwise_append→dx,length_take→di,length_set→aK,getElem_set→ex
open Int renaming le_refl→aj,toNat_natCast→Xi
open Nat renaming le_refl→Xl,zero_add→dj,sub_zero→mA,min_eq_left→fV
open Bool renaming and_eq_true→Xj
namespace Go.Sx
set_option linter.unusedVariables false
set_option linter.unusedSimpArgs false
section
variable{b:Int->Int}{s:Sc}{w v:Wo}{n:Int}{x y:Rt}{k:Nat}{p:Pg}{o:Opn}{a:Ac}
def cmX(x:Rt):Option Cm:=if x.ζ=5 then some x.cm else none
def ar(l:List Rt)(k:Nat):Option Cm:=(l[k]?).bind cmX
theorem Bu(h:k<w.η.length):ar w.η k=cmX w.η[k]:=by unfold ar;rw[Xp h];rfl
theorem GO{l:List Rt}(h:k<l.length):ar (l.set k y)=co (ar l) k (cmX y):=by
 funext j;unfold ar co;by_cases e:j=k
 .subst e;rw[Wb rfl,oQ h];rfl
 .rw[Wa e,kD (λz=>e z.symm)]
theorem Mr{c:Cm}(h:cmX x=some c):x.ζ=5/\c=x.cm:=by
 unfold cmX at h;split at h
 .cases h;exact⟨‹_›,rfl⟩
 .cases h
theorem Mf{l:List Rt}{c:Cm}(h:ar l k=some c):∃a:k<l.length,l[k].ζ=5/\c=l[k].cm:=by
 by_cases a:k<l.length
 .unfold ar at h;rw[Xp a]at h;exact⟨a,Mr h⟩
 .unfold ar at h;rw[ju (by omega)]at h;cases h
theorem Nx(h:WOk s.2.1 n w)(d:LX w):CL2 w.mem (ar w.η):=λk c f=>by
 obtain⟨b,a,e⟩:=Mf f;subst e;exact⟨((h.root k b).comm a).r,((d.root k b).cm a).1,((d.root k b).cm a).2⟩
theorem G5(a:x.ζ=5)(b:x.γ=false):(ay w x k p).1.mem=(Wv w.mem x.cm).1/\(ay w x k p).1.δ=cn k x.cm (Wv w.mem x.cm).2 w.δ/\(ay w x k p).2=dt {x with cm:=(Wv w.mem x.cm).2}:=by
 have e:ay w x k p=ei w x k:=by
  unfold ay;rw[Wa (by omega),Wa (by omega),Wa (by omega),Wa (by omega),Wa (by omega),Wa (by omega),Wb a]
 rw[e];unfold ei;rw[Wa (by rw[b];simp)];exact⟨rfl,rfl,rfl⟩
theorem UX{z:Rt}(h:z.ζ≠5):cmX z=none:=by unfold cmX;rw[Wa h]
theorem Wwt(c:Cm):cmX (dt {x with cm:=c,ζ:=5})=cmO c:=by
 by_cases a:c.ζ=8
 .have e:cmO c=none:=by unfold cmO;rw[Wb (.inr a)]
  rw[e];unfold dt;rw[Wb a];exact UX (by show(6:Int)≠5;omega)
 .by_cases h6:c.ζ=6
  .have e:cmO c=none:=by unfold cmO;rw[Wb (.inl h6)]
   rw[e];unfold dt;rw[Wa a,Wb h6];exact UX (by show(if x.CZ=2 then(6:Int)else 7)≠5;split<;>omega)
  .have e:cmO c=some c:=by unfold cmO;rw[Wa (by omega)]
   rw[e];unfold dt;rw[Wa a,Wa h6];rfl
def H5(b:Int->Int)(w v:Wo):Prop:=Keep b w.mem w.δ (ar w.η) v.mem v.δ (ar v.η)
theorem AK{l:List Rt}(h:MI b w.mem w.δ (ar w.η))(e:ar l=ar w.η):Keep b w.mem w.δ (ar w.η) w.mem w.δ (ar l):=by
 rw[e];exact⟨h,λ_ _ _ a=>a⟩
theorem Sy{q:Wo×Rt}(h:WOk s.2.1 n w)(D:LX w)(E:WX w)(v:WT w)(K:n<1000000)(r:MI b w.mem w.δ (ar w.η))(f:k<w.η.length)(t:q=ay {w with now:=w.now+1} w.η[k] k p)(hr:q.1.η=w.η):H5 b w (Wo.put q k):=by
 have m:=Nx h D;have y:w.mem.1<1000000:=by have:=v.clk;have:=h.now;omega
 unfold H5;show Keep b w.mem w.δ (ar w.η) q.1.mem q.1.δ (ar (q.1.η.set k q.2));rw[hr,GO f];have J:=E k f;have g:=Bu (w:=w) f;by_cases a:w.η[k].ζ=5
 .have hC:ar w.η k=some w.η[k].cm:=by rw[g];unfold cmX;rw[Wb a]
  have I:=(v.root k f).cm a;by_cases u:w.η[k].γ=false
  .obtain⟨z,A,B⟩:=G5 (w:={w with now:=w.now+1}) (x:=w.η[k]) (k:=k) (p:=p) a u;rw[t,z,A,B];have C:({w.η[k]with cm:=(Wv w.mem w.η[k].cm).2}:Rt)={w.η[k]with cm:=(Wv w.mem w.η[k].cm).2,ζ:=5}:=by rw[←a]
   show Keep b w.mem w.δ (ar w.η) (Wv w.mem w.η[k].cm).1 (cn k w.η[k].cm (Wv w.mem w.η[k].cm).2 w.δ) (co (ar w.η) k (cmX (dt {w.η[k]with cm:=(Wv w.mem w.η[k].cm).2})));rw[C,Wwt];exact r.step m ((h.root k f).comm a) h.mem y hC I
  .have ee:w.η[k].γ=true:=by simpa using u
   have M:w.η[k].cm.ζ<=3:=by
    rcases J.doom ee with e|e
    .omega
    .exact e.2
   have L:=((h.root k f).comm a).ζ;have e:ay {w with now:=w.now+1} w.η[k] k p=({w with now:=w.now+1},if(W4 w.η[k].cm).ζ=8 then de w.η[k]else{w.η[k]with cm:=W4 w.η[k].cm,γ:=false}):=by
    unfold ay;rw[Wa (by omega),Wa (by omega),Wa (by omega),Wa (by omega),Wa (by omega),Wa (by omega),Wb a];unfold ei;rw[Wb ee]
   rw[t,e];refine Keep.k1 r (λd c=>by rw[hC]at c;cases c;omega) (λd c=>?_) rfl (λ_ _ _=>⟨rfl,rfl⟩) (λj d e=>(m j d e).1);obtain⟨i,l⟩:=Mr c;by_cases o:(W4 w.η[k].cm).ζ=8
   .simp only[Wb o]at i;exact Wi (show(6:Int)=5 from i) (by omega)
   .simp only[Wa o]at l;have:d=W4 w.η[k].cm:=l;rw[this];unfold W4 at o⊢;split
    .rcases jG w.η[k].cm w.η[k].cm.pos with e|e<;>omega
    .split
     .rcases jG w.η[k].cm w.η[k].cm.χ.length with e|e<;>omega
     .omega
 .have hC:ar w.η k=none:=by rw[g];unfold cmX;rw[Wa a]
  obtain⟨F,G,H⟩:=Bb (w:={w with now:=w.now+1}) (k:=k) (p:=p) a;rw[t,F,G];refine Keep.k1 r (λd c=>by rw[hC]at c;cases c) (λd c=>?_) rfl (λ_ _ _=>⟨rfl,rfl⟩) (λj d e=>(m j d e).1);obtain⟨i,l⟩:=Mr c;have:=H i;rw[l];omega
theorem Wt2(h:WOk s.2.1 n w)(f:LX w)(l:WX w)(i:WT w)(g:n<1000000)(d:MI b w.mem w.δ (ar w.η)):H5 b w (cM s w a):=by
 have same:∀(k:Nat) (c:k<w.η.length) (y:Rt),cmX y=cmX w.η[k]->ar (w.η.set k y)=ar w.η:=λk c y e=>by
  rw[GO c,e,←Bu c];funext j;unfold co;split
  .rename_i e;rw[e]
  .rfl
 unfold cM;simp only;split
 .rename_i hb;have c:a.2.1.toNat<w.η.length:=by omega
  rw[Wn c];split
  .unfold m0;rw[Wn (show a.2.1.toNat<({w with now:=w.now+1}:Wo).η.length from c)];exact Sy h f l i g d c rfl (si h c)
  .split
   .split
    .exact AK d (same _ c _ rfl)
    .exact AK d rfl
   .split
    .split
     .exact AK d (same _ c _ rfl)
     .exact AK d rfl
    .exact AK d rfl
 .exact AK d rfl
end
section
variable{b:Int->Int}{s:Sc}{w v:Wo}{n:Int}{x y:Rt}{k:Nat}{p:Pg}{o:Opn}{a:Ac}{m m':Mm}{H H':List Wr}{C:Nat->Option Cm}{c:Cm}{i:Int}
structure Mono(b:Int->Int)(m:Mm)(H:List Wr)(m':Mm)(H':List Wr):Prop where
 ver:∀i,0<=i->i<=7->(WA m i).2.1<=(WA m' i).2.1
 top:∀i,(top (b i) i H).1<(top (b i) i H').1\/top (b i) i H'=top (b i) i H
theorem Mono.refl:Mono b m H m H:=⟨λ_ _ _=>aj _,λ_=>.inr rfl⟩
theorem Wq4(k:CmOk c)(b:aq m=true):∀i,0<=i->i<=7->(WA m i).2.1<=(WA (Wv m c).1 i).2.1:=λi d f=>by
 have o:=k.ζ;have g:c.ζ=1\/c.ζ=4\/c.ζ=5\/c.ζ=7->0<=(ah c.χ c.pos (0,0)).1/\(ah c.χ c.pos (0,0)).1<=7:=λh=>by
  obtain⟨j,r,p,l,n,q⟩:=k.put h;rw[l];exact n
 unfold Wv;simp only;split
 .split
  .show _<=(WA (qw m _ _) i).2.1;unfold qw;rw[lH b (g (by omega)) ⟨d,f⟩];split
   .rename_i e;rw[e];exact aj _
   .exact aj _
  .exact aj _
 split
 .have ht:=Ht b;have e:∀i,WA (tick m).1 i=WA m i:=λi=>by unfold tick;split<;>rfl
  split
  .show _<=(WA (tick m).1 i).2.1;rw[e];exact aj _
  .show _<=(WA (tick m).1 i).2.1;rw[e];exact aj _
 split
 .split<;>exact aj _
 split
 .show _<=(WA (gK m _ _ _) i).2.1;unfold gK;split
  .rw[lH b (g (by omega)) ⟨d,f⟩];split
   .rename_i e;rw[e];exact aj _
   .exact aj _
  .exact aj _
 have unl:∀a,(c.ζ=5\/c.ζ=7)->(WA m i).2.1<=(WA (fb m (ah c.χ c.pos (0,0)).1 c.who a) i).2.1:=λa h=>by
  unfold fb;split
  .rename_i hc;rw[lH b (g (by omega)) ⟨d,f⟩];split
   .rename_i e;rw[e];exact hc.2.1
   .exact aj _
  .exact aj _
 split
 .exact unl _ (.inl ‹_›)
 split
 .exact unl _ (.inr ‹_›)
 .exact aj _
theorem Wvb{q:Cm}:∀i,(top (b i) i H).1<(top (b i) i (cn k c q H)).1\/top (b i) i (cn k c q H)=top (b i) i H:=λi=>by
 unfold cn;split
 .unfold top;rw[HA];rcases LC (i:=i) (v:=2000000) (h:=(q.wv,(k:Int)+1,q.χ)) (bst (b i) i 2000000 H)with e|⟨x,_,_,a,d⟩
  .exact .inr e
  .rw[d];exact .inl a
 .exact .inr rfl
theorem WvF{q:Wo×Rt}(h:WOk s.2.1 n w)(m:WX w)(g:k<w.η.length)(c:q=ay {w with now:=w.now+1} w.η[k] k p):Mono b w.mem w.δ q.1.mem q.1.δ:=by
 by_cases a:w.η[k].ζ=5
 .by_cases hd:w.η[k].γ=false
  .obtain⟨d,f,l⟩:=G5 (w:={w with now:=w.now+1}) (x:=w.η[k]) (k:=k) (p:=p) a hd;rw[c,d,f];exact⟨Wq4 ((h.root k g).comm a) h.mem,Wvb⟩
  .have ee:w.η[k].γ=true:=by simpa using hd
   have e:(ay {w with now:=w.now+1} w.η[k] k p).1={w with now:=w.now+1}:=by
    unfold ay;rw[Wa (by omega),Wa (by omega),Wa (by omega),Wa (by omega),Wa (by omega),Wa (by omega),Wb a];unfold ei;rw[Wb ee]
   rw[c,e];exact Mono.refl
 .obtain⟨i,j,_⟩:=Bb (w:={w with now:=w.now+1}) (k:=k) (p:=p) a;rw[c,i,j];exact Mono.refl
theorem Sz(o:MI b m H C)(p:CL2 m C)(f:0<=i)(g:i<=7)(t:C0 m i=0):(WA m i).1=(top (b i) i H).2/\(WA m i).2.1=(top (b i) i H).1/\∀k c,C k=some c->c.ζ=3->pick c.χ i=none:=by
 have d:∀k c,C k=some c->¬lkd c i:=λk c a r=>by
  obtain⟨_,e,q⟩:=p k c a;have:=(q.own i f g).2 r;omega
 obtain⟨j,n⟩:=o.cell i f g λk c a _=>d k c a;refine⟨j,n,λk c a s=>?_⟩;cases hp:pick c.χ i with
 |none=>rfl
 |some x=>
  obtain⟨l,h,e⟩:=eI (Ef hp);refine Wi ⟨l,h,by rw[e],?_⟩ (d k c a);unfold lkA;omega
theorem Wy7(E:m.1<=1000000)(o:MI b m H C)(r:CL2 m C){k:Nat}{c:Cm}(f:C k=some c)(y:c.ζ=3)(I:c.rv<c.wv)(G:0<=c.rv)(h:0<=i)(n:i<=7)(D:C0 m i=0\/C0 m i=c.who)(O:(WA m i).2.1<=c.rv){v:Int}(p:RC b m H C c.rv i v):RC b m H C (c.wv-1) i v:=by
 obtain⟨_,N,M⟩:=r k c f;have g:∀j d,C j=some d->j≠k->¬lkd d i:=λj d a B A=>by
  obtain⟨_,e,q⟩:=r j d a;have:=(q.own i h n).2 A;omega
 obtain⟨F,w⟩:=o.cell i h n λj d a z=>by
  by_cases e:j=k
  .subst e;rw[f]at a;cases a;omega
  .exact g j d a e
 have J:=o.fr k c f y;have s:(bst (b i) i 2000000 H).1<=c.rv:=by unfold top at w;omega
 refine⟨?_,by omega,λj d a z L=>?_⟩
 .have hv:=p.val;have K:=p.clk;rw[hv,D5 (v':=2000000) (by omega) H s,D5 (v:=c.wv-1) (v':=2000000) (by omega) H (by omega)]
 .by_cases e:j=k
  .subst e;rw[f]at a;cases a;omega
  .cases jW:pick d.χ i with
   |none=>rfl
   |some x=>
    obtain⟨l,t,u⟩:=eI (Ef jW);refine Wi ⟨l,t,by rw[u],?_⟩ (g j d a e);unfold lkA;omega
end
section
section
variable{b:Int->Int}{s:Sc}{w v:Wo}{n:Int}{x y:Rt}{k:Nat}{p:Pg}{o:Opn}{m m':Mm}{H H':List Wr}{C C':Nat->Option Cm}{c:Cm}{i rv:Int}{f:Fm}{codes:List (List Opn)}{θ:List Opn}
def ZW(b:Int->Int)(m:Mm)(H:List Wr)(rv:Int)(p:Pb):Prop:=
 (0<=p.1/\p.1<=7)/\p.2.2.1<=rv/\(p.2.1=1/\p.2.2.1<=(WA m p.1).2.1\/p.2.1=2/\p.2.2.1<=(top (b p.1) p.1 H).1/\((top (b p.1) p.1 H).1=p.2.2.1->p.2.2.2=(top (b p.1) p.1 H).2))
theorem ZW.mono{p:Pb}(h:ZW b m H rv p)(f:Mono b m H m' H'):ZW b m' H' rv p:=by
 obtain⟨e,g,i⟩:=h;refine⟨e,g,i.imp (λ⟨a,c⟩=>⟨a,?_⟩) λ⟨a,c,d⟩=>⟨a,?_⟩⟩
 .have:=f.ver p.1 e.1 e.2;omega
 .rcases f.top p.1 with t|t
  .exact⟨by omega,λz=>by omega⟩
  .rw[t];exact⟨c,d⟩
theorem OR(l:MI b m H C)(M:CL2 m C)(T:m.1<=1000000)(U:0<=rv/\rv<=m.1):ZS (RC b m H C rv) (ZW b m H rv) (ZW b m H rv) m rv:=λc q f g t=>by
 have D:∀r:Pb,r.1=c->List.getD m.2 (Int.toNat r.1) ((0:Int),((0:Int),(0:Int)))=WA m c:=λr hr=>by rw[hr];rfl
 have s:=λN=>Sz (i:=c) l M f g N;unfold C0 at s;have e:q.1=c:=by
  rcases t with rfl|⟨_,h⟩
  .rfl
  .exact h
 unfold W7;simp only[D q e,WI,gF];rcases t with rfl|⟨⟨R,S,v⟩,_⟩
 .rw[Wb rfl];split
  .split
   .exact .inr (.inr ⟨by show(1:Int)≠3;omega,⟨⟨f,g⟩,‹_›,.inl ⟨rfl,aj _⟩⟩,rfl⟩)
   .exact .inl rfl
  .exact .inl rfl
 .rw[e]at v;rcases v with⟨F,G⟩|⟨I,J,w⟩
  .rw[Wa (by omega),Wb F];refine .inr (.inr ⟨by show(2:Int)≠3;omega,⟨R,S,.inr ⟨rfl,?_⟩⟩,e⟩);show q.2.2.1<=(top (b q.1) q.1 H).1/\((top (b q.1) q.1 H).1=q.2.2.1->(WA m c).1=(top (b q.1) q.1 H).2);rw[e];by_cases p:∀k d,C k=some d->d.ζ=4\/d.ζ=5->¬lkd d c
   .obtain⟨o,x⟩:=l.cell c f g p;exact⟨by omega,λ_=>o⟩
   .have:∃k d,C k=some d/\(d.ζ=4\/d.ζ=5)/\lkd d c:=by
     apply Classical.byContradiction;intro B;exact p λk d a n O=>B ⟨k,d,a,n,O⟩
    obtain⟨k,d,a,n,j,L,E,P⟩:=this;obtain⟨u,Q,_⟩:=l.sto k d a n j L P;rw[E]at u Q;rw[u];exact⟨by simp only;omega,λz=>by simp only at z;omega⟩
  .rw[Wa (by omega),Wa (by omega),Wb I];split
   .rename_i aM;split
    .rename_i u5;right;left;obtain⟨o,x,y⟩:=s aM;refine⟨rfl,⟨?_,by omega,λk d a K _=>y k d a K⟩⟩;show q.2.2.2=_;have A:(bst (b c) c 2000000 H).1<=rv:=by
      have:(top (b c) c H).1=q.2.2.1:=by omega
      unfold top at this;omega
     rw[D5 (v':=2000000) (by omega) H A];exact w (by omega)
    .exact .inl rfl
   .exact .inl rfl
theorem WzN{z v v':Int}(l:MI b m H C)(p:CL2 m C)(r:m.1<=1000000)(h:0<=i)(k:i<=7)(c:C0 m i=0)(u:(WA m i).2.1<=v)(a:RC b m H C v i z)(t:v<=v')(n:v'<=m.1):RC b m H C v' i z:=by
 obtain⟨s,f,g⟩:=Sz l p h k c;have e:(bst (b i) i 2000000 H).1<=v:=by unfold top at f;omega
 refine⟨?_,n,λj d o q _=>g j d o q⟩;rw[a.val,D5 (v':=2000000) (by have:=a.clk;omega) H e,D5 (v:=v') (v':=2000000) (by omega) H (by omega)]
theorem PK.wk{Z Z':Pb->Prop}{q:Kd}(h:PK Z θ f q)(g:∀p,Z p->Z' p):PK Z' θ f q:=λe=>by
 obtain⟨a,b,c,d,r⟩:=h e;exact⟨a,b,c,g _ d,r⟩
structure FB(M:Int->Int->Prop)(Z:Pb->Prop)(codes:List (List Opn))(f:Fm):Prop where
 fp:FP M Z codes f
 rd:∀r∈f.μ,M r.1 r.2
theorem FP.wk{M M':Int->Int->Prop}{Z Z':Pb->Prop}(h:FP M Z codes f)(a:∀c v,M c v->M' c v)(e:∀p,Z p->Z' p):FP M' Z' codes f:=
 ⟨h.ft.wk a,λd k b=>(h.pk d k b).wk e⟩
theorem FB.wk{M M':Int->Int->Prop}{Z Z':Pb->Prop}(h:FB M Z codes f)(a:∀c v,M c v->M' c v)(b:∀p,Z p->Z' p):FB M' Z' codes f:=⟨h.fp.wk a b,λr hr=>a _ _ (h.rd r hr)⟩
theorem Py{q:Kd}:(cH m f q k θ).1.μ=f.μ\/(cH m f q k θ).1.μ=f.μ++hN q.C1:=by
 unfold cH;split
 .unfold dU;split
  .exact .inl rfl
  .simp only;split
   .unfold c5;cases bm q.ι (opN θ q.pc).2.2.1 with
    |some v=>exact .inl rfl
    |none=>
     cases ent f.buf (opN θ q.pc).2.2.1 with
     |some r=>simp only;split<;>exact .inl rfl
     |none=>
      simp only;generalize W7 m f.rv _=a;split
      .exact .inl rfl
      .split<;>exact .inl rfl
   .repeat' split
    all_goals exact .inl rfl
 .split
  .split<;>exact .inl rfl
  .split
   .split
    .exact .inr rfl
    .simp only;split<;>exact .inl rfl
   .exact .inl rfl
theorem WwE{M:Int->Int->Prop}{Z:Pb->Prop}(h:FB M Z codes f)(j:FOk codes n f)(c:k<f.π.length)(o:aq m=true)(i:KC θ)(g:codes.getD k []=θ)(p:ZS M Z Z m f.rv):FB M Z codes (bJ m f k θ)/\(bJ m f k θ).rv=f.rv/\(bJ m f k θ).ξ=f.ξ/\(bJ m f k θ).start=f.start:=by
 obtain⟨a,r⟩:=WvW h.fp j c o i g p;refine⟨⟨a,?_⟩,r⟩;unfold bJ;split
 .exact h.rd
 .rw[oN c];intro e l;have b:e∈(cH m f f.π[k] k θ).1.μ:=l;rcases Py (m:=m) (f:=f) (q:=f.π[k]) (k:=k) (θ:=θ)with q|q
  .rw[q]at b;exact h.rd e b
  .rw[q]at b;rcases Xn.1 b with b|b
   .exact h.rd e b
   .unfold hN at b;obtain⟨z,s,rfl⟩:=Xz.1 b;obtain⟨u,d⟩:=dA.1 s;have d:z.2.2= -1:=by simpa using d
    rcases h.fp.ft.sn k c z u with⟨_,_,t⟩|⟨t,_⟩
    .exact t
    .omega
structure RO(b:Int->Int)(m:Mm)(H:List Wr)(C:Nat->Option Cm)(p:Pg)(x:Rt):Prop where
 rv:0<=x.rv/\x.rv<=m.1
 ε:x.ζ=0\/5<=x.ζ->aZ x.μ/\x.μ.length<=300
 rd:∀r∈x.μ,RC b m H C x.rv r.1 r.2
 pb:x.C3=true->x.ζ=1/\x.pc<p.1.length/\(opN p.1 x.pc).1=5/\ZW b m H x.rv x.pb/\x.pb.1=(opN p.1 x.pc).2.2.1/\bm x.ι (opN p.1 x.pc).2.2.1=none
 ext:x.ζ=4->x.rv<=x.C8/\x.C8<=m.1/\∀(i:Nat) (h:i<x.μ.length),(i:Int)<x.pos->RC b m H C x.C8 x.μ[i].1 x.μ[i].2
 fam:x.ζ=2->x.fam.rv=x.rv/\(∃ε,x.fam.start=al ε)/\FB (RC b m H C x.rv) (ZW b m H x.rv) p.2 x.fam
 fam0:x.ζ≠2->x.fam={}
theorem RO.keep(h:RO b m H C p x)(f:∀v i z,RC b m H C v i z->RC b m' H' C' v i z)(j:Mono b m H m' H')(t:m.1<=m'.1):RO b m' H' C' p x:=
 ⟨⟨h.rv.1,by have:=h.rv.2;omega⟩,h.ε,λr hr=>f _ _ _ (h.rd r hr),λn=>by
  obtain⟨a,c,d,e,g⟩:=h.pb n;exact⟨a,c,d,e.mono j,g⟩,λl=>by
  obtain⟨a,c,d⟩:=h.ext l;exact⟨a,by omega,λi o q=>f _ _ _ (d i o q)⟩,λk=>by
  obtain⟨a,c,d⟩:=h.fam k;exact⟨a,c,d.wk (λ_ _=>f _ _ _) λ_ s=>s.mono j⟩,h.fam0⟩
theorem RO.mk1(h:RO b m H C p x)(a:y.rv=x.rv)(c:y.μ=x.μ)(d:y.C3=false)(f:y.ζ≠2)(g:y.ζ≠4)(e:y.fam={})(af:y.ζ=0\/5<=y.ζ->aZ x.μ/\x.μ.length<=300):RO b m H C p y:=
 ⟨by rw[a];exact h.rv,λz=>by rw[c];exact af z,λr hr=>by rw[a];exact h.rd r (by rw[←c];exact hr),λz=>(by rw[d]at z;cases z),λz=>Wi z g,λz=>Wi z f,λ_=>e⟩
theorem RO.nil(h:0<=m.1)(c:0<=y.rv/\y.rv<=m.1)(a:y.μ= [])(d:y.C3=false)(f:y.ζ≠2)(g:y.ζ≠4)(e:y.fam={}):RO b m H C p y:=
 ⟨c,λ_=>by rw[a];exact⟨(λr hr=>by cases hr),by simp⟩,λr hr=>(by rw[a]at hr;cases hr),λz=>(by rw[d]at z;cases z),λz=>Wi z g,λz=>Wi z f,λ_=>e⟩
theorem Bx(a:0<=m.1):RO b m H C p (de x):=RO.nil a ⟨aj _,a⟩ rfl rfl (by show(6:Int)≠2;omega) (by show(6:Int)≠4;omega) rfl
theorem Mb(a:RLive p n x)(b:CC p.1):aZ x.μ/\x.μ.length<=300:=by
 have c:=a.rl;have d:=a.pc;have e:=Ep b x.pc.toNat (by omega);have f:=b.len;exact⟨a.μ,by omega⟩
theorem PA(h:RO b m H C p x)(d:x.ζ=1)(c:0<=m.1){y:Rt}(a:y.rv=x.rv/\y.μ=x.μ/\y.fam=x.fam):RO b m H C p (WR y):=by
 unfold WR;split
 .exact Bx c
 .exact h.mk1 a.1 a.2.1 rfl (by show(3:Int)≠2;omega) (by show(3:Int)≠4;omega) (a.2.2.trans (h.fam0 (by omega))) (λz=>by(change (3:Int)=0\/5<=(3:Int)at z;omega))
theorem Sg{a:Int}(h:RO b m H C p x)(e:x.ζ=1)(c:x.C3=false)(hr:aZ x.μ/\x.μ.length<=300):RO b m H C p (ec w x k a).2:=by
 have d:=h.fam0 (by omega);unfold ec eU;simp only;generalize (if a=2 then []else x.ι)=ε;split
 .exact h.mk1 rfl rfl c (by show(8:Int)≠2;omega) (by show(8:Int)≠4;omega) d λ_=>hr
 .exact h.mk1 rfl rfl c (by show(5:Int)≠2;omega) (by show(5:Int)≠4;omega) d λ_=>hr
end
end
section
section
variable{M M':Int->Int->Prop}{Z Z':Pb->Prop}{codes:List (List Opn)}{n:Int}{f g:Fm}{k:Nat}{θ:List Opn}{m:Mm}{x y:Kd}{base:List Int}
theorem FV.wk(h:FV M codes f)(d:∀c v,M c v->M' c v):FV M' codes f:=
 ⟨h.sim,h.own,h.val,h.pz,λi j e g=>(h.mrg i j e g).imp id λ⟨a,b,c⟩=>⟨a,b,d _ _ c⟩⟩
def RSf(f:Fm):Prop:=∀k∈f.υ,∀e∈(f.π.getD k.toNat {}).C1,e.2.2= -1->(e.1,e.2.1)∈f.μ
theorem Wne{l:List En}{e:En}(h:e∈l)(a:e.2.2= -1):(e.1,e.2.1)∈hN l:=by
 unfold hN;exact Xz.2 ⟨e,dA.2 ⟨h,by simp[a]⟩,rfl⟩
theorem WvX(h:RSf f)(y:FT M f)(n:k<f.π.length):RSf (bJ m f k θ):=by
 unfold bJ;split
 .exact h
 rw[oN n];have A:∀q:Fm×Kd,q.1.π=f.π->(q.1.μ=f.μ\/∃l,q.1.μ=f.μ++l)->(q.1.υ=f.υ/\f.π[k].ζ≠3\/q=dX f f.π[k] k/\f.π[k].ζ≠3\/q=(f,f.π[k]))->RSf (Fm.put q k):=λq p s i=>by
  have sub:∀r∈f.μ,r∈q.1.μ:=λr hr=>by
   rcases s with e|⟨l,e⟩<;>rw[e]
   .exact hr
   .exact Xm _ hr
  have d:f.π[k].ζ≠3->∀j∈f.υ,∀e∈((Fm.put q k).π.getD j.toNat {}).C1,e.2.2= -1->(e.1,e.2.1)∈q.1.μ:=λc j a e b g=>by
   obtain⟨B,C,u⟩:=y.ord j a;have o:k≠j.toNat:=λz=>by subst z;exact c u
   have:(Fm.put q k).π.getD j.toNat {}=f.π.getD j.toNat {}:=by
    show(q.1.π.set k q.2).getD _ _=_;rw[p,Xq,Xq,kD o]
   rw[this]at b;exact sub _ (h j a e b g)
  rcases i with⟨i,c⟩|⟨rfl,c⟩|rfl
  .intro j a;exact d c j (by rw[←i];exact a)
  .intro j a;have a:j∈f.υ++ [(k:Int)]:=a;rcases Xn.1 a with a|a
   .exact d c j a
   .rw[bH]at a;subst a;intro e b g;have b:e∈((f.π.set k (dX f f.π[k] k).2).getD ((k:Nat):Int).toNat {}).C1:=b;rw[Xi,Xq,oQ n]at b;exact Xh _ (Wne b g)
  .have e:Fm.put (f,f.π[k]) k=f:=by
    unfold Fm.put;simp only;rw[List.set_getElem_self n]
   rw[e];exact h
 have w:=LH (m:=m) (f:=f) (x:=f.π[k]) (k:=k) (θ:=θ);have t:=Py (m:=m) (f:=f) (q:=f.π[k]) (k:=k) (θ:=θ);refine A _ w.2.2.2.1 (t.imp id λz=>⟨_,z⟩) ?_;unfold cH;split
 .rename_i h0;refine .inl ⟨?_,by omega⟩;unfold dU;split
  .rfl
  .simp only;split
   .unfold c5;cases bm f.π[k].ι (opN θ f.π[k].pc).2.2.1 with
    |some v=>rfl
    |none=>
     cases ent f.buf (opN θ f.π[k].pc).2.2.1 with
     |some r=>simp only;split<;>rfl
     |none=>simp only;generalize W7 m f.rv _=D;(repeat' split)<;>rfl
   .repeat' split
    all_goals rfl
 .split
  .refine .inl ⟨?_,by omega⟩;split<;>rfl
  .split
   .split
    .exact .inr (.inl ⟨rfl,by omega⟩)
    .refine .inl ⟨?_,by omega⟩;simp only;split<;>rfl
   .exact .inr (.inr rfl)
theorem WuO{rv:Int}{ξ:List Int}{ι:List Rw}{l:Nat}:RSf (eO rv ξ ι l):=λk a=>by cases a
theorem WsQ{rv:Int}{ξ:List Int}{ι:List Rw}(hr:Vals 4 ξ):FV M codes (eO rv ξ ι codes.length):=(WsH (M:=M) (Z:=λ_=>True) hr).fv
theorem ZC(p:FOk codes n f)(C:codes.length<=3)(l:FT M f)(o:FV M codes f)(F:∀(k:Nat) (h:k<f.π.length),PK Z (codes.getD k []) f f.π[k])(s:RSf f)(w:mO f=true)(A:∃ε,f.start=al ε)(t:∀r∈f.μ,base.getD r.1.toNat 0=r.2):FX codes base f:=by
 have B:=p.len;have q:∀(k:Nat) (h:k<f.π.length),f.π[k].ζ=3:=λk d=>by
  have:=w;unfold mO at this;have:=List.all_eq_true.1 this _ (Xo d)
  grind
 have G:f.υ.length=codes.length:=by
  rw[p.done,←B,List.countP_eq_length];intro a D;obtain⟨k,d,rfl⟩:=nq.1 D;simp[q k d]
 have z:∀k,k<f.π.length->(k:Int)∈f.υ:=λk d=>by
  have v:=TI C G l.nod λx E=>by
   obtain⟨a,b,_⟩:=l.ord x E;omega
  simp only[lW,Xs,List.not_mem_nil,or_false,Prod.mk.injEq]at v;rcases v with⟨j,g⟩|⟨j,g⟩|⟨j,g⟩|⟨j,g⟩|⟨j,g⟩|⟨j,g⟩|⟨j,g⟩|⟨j,g⟩|⟨j,g⟩|⟨j,g⟩<;>rw[g]<;>simp<;>omega
 refine⟨⟨n,p⟩,⟨λ_=>True,⟨l.buf,l.non,λk d e m=>?_,l.nod,l.ord⟩,⟨o.sim,o.own,o.val,o.pz,λi u e m=>?_⟩,λ_ k d y=>?_⟩,w,A⟩
 .refine(l.sn k d e m).imp (λ⟨a,b,c⟩=>⟨a,b,?_⟩) id;refine t (e.1,e.2.1) (s k (z k d) e ?_ a);rw[Xi,oN d];exact m
 .refine(o.mrg i u e m).imp id λ⟨a,b,c⟩=>⟨a,b,?_⟩;exact t (e.1,e.2.1) (s _ (Xo u) e m b)
 .have:=(F k d y).1;rw[q k d]at this;omega
end
section
variable{R:Type}{N kk:Nat}{p:Pg}{T:Tg}{K0:List Int->Option R}{K1:Int->Bool->List Int->Int->List M7->List Int->List Int->Option R}
 {x y:Rt} {n:Int} {S:List Int×Int}
theorem Wyv(E:1048576<N)(d:POk p)(K:∀c∈p.2,dz c=true)(u:ThOk T)(P:SV S)(h:AtS N kk p T K0 K1 x S)(t:RLive p n x)(h2:x.ζ=2)(H:x.pc<p.1.length/\(opN p.1 x.pc).1=11)(D:FOk p.2 n x.fam)(qc:x.fam.ξ=x.ξ)(w:x.fam.start=al x.ι)(v:FX p.2 T.1 x.fam)(A:y.pc=x.pc+1)(hr:y.ξ=oi x.fam)(V:y.ι=jV x.fam)(F:y.υ=x.fam.υ)(U:y.κ=x.κ):At0 N kk p T K0 K1 y S:=by
 have L:=d.θ.len;obtain⟨i,r,q,M⟩:=kV (l:=p.1) t.pc.1 H.1;have g:=H.2;rw[M]at g;obtain⟨d0,d1⟩:=d.θ.fk i r g;obtain⟨Y,o2⟩:=v.ord d.k3;obtain⟨C,o,Q,S0,e,O⟩:=h;have G:x.κ= []:=by
  have B:=Wp Xb t.κ.pcs;rw[q,Xi]at B;simp only[Xy]at B;have e2:=fh d.θ.up i (by omega);exact Xv (by omega)
 have e:S0=S:=by
  rcases e with z|⟨z,_⟩
  .exact z
  .omega
 subst e;have X:C=false:=by
  cases C
  .rfl
  .have a:=Q rfl;rw[q,Xi]at a;have b:=Bk (l:=p.1) r;rw[g]at b;have b:frk p.1 (i+1)=frk p.1 i+1:=b;omega
 subst X;obtain⟨Z,I⟩:=v.fa;have W:FZ x.fam:=FZ.of I.ft D d.k3 (λc s=>(d.π c s).len) w;obtain⟨q1,q2⟩:=Wvp (base:=T.1) D I.ft W u.ω;have xr:ovl T.1 x.fam.start=ovl T.1 x.ι:=by rw[w];exact Tq u.ω t.ι (t.wl3 d)
 refine⟨true,⟨(λz=>by cases z),λ_=>by rw[F];exact Y⟩,λ_=>?_,λl J=>?_⟩
 .rw[A,q,show((i:Int)+1).toNat=i+1 by omega];have b:=Bk (l:=p.1) r;rw[g]at b;have b:frk p.1 (i+1)=frk p.1 i+1:=b;have:=Ep d.θ (i+1) (by omega);omega
 .have yE:l=x.fam.υ:=(J rfl).trans F;subst yE;have j:=O x.fam.υ (λz=>by cases z);rw[A,hr,U,V,G,cV];rw[G,cV,q]at j;rw[q];refine j.on E (by omega) (by omega) λn=>?_;have:=YU (R:=R) (k:=kk) (θ:=p.1) (π:=p.2) (az:=T.2.2) (aP:=T.1) (aA:=T.2.1) (K0:=K0) (K1:=K1) (n:=n) (ct:=S0.2) (mk:=[]) (m:=S0.1) (base:=T.1) (f:=x.fam) E r L g d.k3 v u.ω (λc s=>⟨K c s,(d.π c s).len⟩) P.len;rw[xr,qc,←q1]at this;exact this
end
end
section
abbrev V3:=Int->Int->Int->Prop
structure GE where
 st:Int
 f:Int->Option Int
 d:Int
structure Con(Kc:Int->Int->Prop)(l:List Hd)(k:Nat)(rd:List Rw)(T:Tg):Prop where
 ok:ThOk T
 rd:∀r∈rd,T.1.getD r.1.toNat 0=r.2
 key:∀i,0<=i->i<=7->hld l k i->Kc i (T.2.1.getD i.toNat 0)
 cnt:xld l k 8->Kc 8 T.2.2
def gS(g:Option GE)(T:Tg):List Int×Int:=((List.range 8).map λi:Nat=>match g with
 |some e=>(e.f (i:Int)).getD (T.2.1.getD i 0)
 |none=>T.2.1.getD i 0,(T.2.2+match g with|some e=>e.d|none=>0)%65536)
section
variable{R:Type}{N kk:Nat}{K0:Tg->List Int->Option R}{K1:Int->Bool->List Int->Int->List M7->List Int->List Int->Option R}
 {M M' I I':V3} {Kc Kc':Int->Int->Prop} {hr:List Rw} {l l':List Hd} {sh md:Shf} {g:Option GE} {k:Nat} {p:Pg} {w v:Wo} {x y:Rt} {n:Int} {T:Tg} {S:List Int×Int} {i:Nat} {u:Un}
def FnS(N kk:Nat)(p:Pg)(K0:Tg->List Int->Option R)(K1:Int->Bool->List Int->Int->List M7->List Int->List Int->Option R)(x:Rt)(T:Tg)(c:List Int)(S:List Int×Int):Prop:=
 ∃a:Bool,OF p a x/\∀l,(a=true->l=x.υ)->(x.CZ=1/\∃mk,bgn N kk p T (K0 T) K1 l=K1 (p.1.length:Int) false x.ξ S.2 mk c S.1)\/(x.CZ=2/\bgn N kk p T (K0 T) K1 l=K0 T x.ξ)
theorem FnS.same{c:List Int}(h:FnS N kk p K0 K1 x T c S)(b:y.υ=x.υ)(d:y.CZ=x.CZ)(e:y.ξ=x.ξ):FnS N kk p K0 K1 y T c S:=by
 obtain⟨a,o,h⟩:=h;exact⟨a,o.eq b,λl f=>by simp_all⟩
structure SR(N kk:Nat)(K0:Tg->List Int->Option R)(K1:Int->Bool->List Int->Int->List M7->List Int->List Int->Option R)(M I:V3)(hr:List Rw)(g:Option GE)(p:Pg)(x:Rt):Prop where
 rv:x.rv<=Wq x
 rd:∀r∈x.μ,M (if x.rv<Wq x then Wq x-1 else Wq x) r.1 r.2
 gst:(g≠none\/hr≠ []->x.rv<Wq x/\x.CZ=1)/\∀e,g=some e->e.st=Wq x
 sim:∃(hk:Int->Prop) (fv:Int->Int),(∀i,hk i->I (if x.rv<Wq x then Wq x-1 else Wq x) i (fv i))/\∀T,ThOk T->(∀r∈x.μ,T.1.getD r.1.toNat 0=r.2)->(∀i,0<=i->i<=7->hk i->T.2.1.getD i.toNat 0=fv i)->(hk 8->T.2.2=fv 8)->FnS N kk p K0 K1 x T (ovl T.1 hr) (gS g T)
theorem SR.same(h:SR N kk K0 K1 M I hr g p x)(f:y.υ=x.υ)(i:y.CZ=x.CZ)(j:y.ξ=x.ξ)(o:y.rv=x.rv)(q:y.μ=x.μ)(r:Wq y=Wq x):SR N kk K0 K1 M I hr g p y:=by
 obtain⟨a,b,c,k,fv,d,e⟩:=h;refine⟨by omega,by simp_all,by simp_all,k,fv,by simp_all,λT l s m n=>(e T l (by grind) m n).same f i j⟩
theorem SR.wk(h:SR N kk K0 K1 M I hr g p x)(j:∀v c z,M v c z->M' v c z)(f:∀v c z,I v c z->I' v c z):SR N kk K0 K1 M' I' hr g p x:=by
 obtain⟨a,b,c,l,fv,d,e⟩:=h;exact⟨a,λr hr=>j _ _ _ (b r hr),c,l,fv,λi k=>f _ _ _ (d i k),e⟩
def HU(l:List Hd)(k:Nat)(x:Rt):Prop:=∀u∈x.ο,((u.1=1\/u.1=2)->xld l k u.2.1)/\(u.1=3->hld l k 8)
structure RA(N kk:Nat)(K0:Tg->List Int->Option R)(K1:Int->Bool->List Int->Int->List M7->List Int->List Int->Option R)(M I:V3)(Kc:Int->Int->Prop)(hr:List Rw)(l:List Hd)(sh:Shf)(g:Option GE)(k:Nat)(p:Pg)(x:Rt):Prop where
 z0:x.ζ=0\/x.ζ=8\/(x.ζ=7/\x.CZ≠1)->x.ο= []
 fa:(x.CZ=0\/x.CZ=1\/x.CZ=2)/\(x.ζ<=4->x.CZ=0)/\(x.ζ=5\/x.ζ=8->x.CZ≠0)/\(x.ζ=6->x.CZ≠1)
 hu:HU l k x
 gn:stl x=false->g=none
 main:x.ζ=1\/x.ζ=2->∀T,Con Kc l k x.μ T->AtS N kk p T (K0 T) K1 x (svw l sh k T x.ο)
 blk:1<=x.ζ/\x.ζ<=4->∀j,j<x.κ.length->∀T,Con Kc l k (x.μ.take (x.κ.getD j zRM).2.1.toNat) T->MkA N kk p T (K0 T) K1 x (svw l sh k T x.ο) j
 x4:x.ζ=4->(x.ο.length:Int)<=x.last.2.2.2.1
 fam:x.ζ=2->x.fam.ξ=x.ξ/\x.fam.start=al x.ι/\FV (M x.rv) p.2 x.fam/\RSf x.fam
 cl:x.ζ=5->x.cm.rv=x.rv/\(∀r∈x.μ,r.1∈x.cm.μ)/\(x.CZ=2->x.cm.χ= [])
 ck:x.ζ=5->x.cm.ζ=3->x.rv<x.cm.wv/\∀(j:Nat) (h:j<x.cm.μ.length),(j:Int)<x.cm.pos->∀v,(x.cm.μ[j],v)∈x.μ->M (x.cm.wv-1) x.cm.μ[j] v
 cs:x.ζ=5->stl x=false->∀T,Con Kc l k x.μ T->FnS N kk p K0 K1 x T (ovl T.1 x.cm.χ) (svw l sh k T x.ο)
 fin:stl x=true->SR N kk K0 K1 M I hr g p x
 s8:stl x=true->x.ζ≠8->x.rv<Wq x
theorem Wv9(b:∀i,hld l' k i↔hld l k i)(hs:∀i,0<=i->i<=7->hld l k i->WD md.1 i=WD sh.1 i){us:List Un}:svw l' md k T us=svw l sh k T us:=by
 refine w5 lJ lJ (λi a=>?_) rfl;rw[mP a,mP a]
 grind
theorem RA.wk(h:RA N kk K0 K1 M I Kc hr l sh g k p x)(o:∀v c z,M v c z->M' v c z)(y:∀v c z,I v c z->I' v c z)(A:∀i,0<=i->i<=7->hld l k i->∀v,Kc' i v->Kc i v)(f:xld l k 8->∀v,Kc' 8 v->Kc 8 v)(n:∀i,hld l' k i↔hld l k i)(s:∀i,xld l' k i↔xld l k i)(hs:∀i,0<=i->i<=7->hld l k i->WD md.1 i=WD sh.1 i):RA N kk K0 K1 M' I' Kc' hr l' md g k p x:=by
 have e:∀{rd T},Con Kc' l' k rd T->Con Kc l k rd T:=λc=>⟨c.ok,c.rd,λi t w q=>A i t w q _ (c.key i t w ((n i).2 q)),λz=>f z _ (c.cnt ((s 8).2 z))⟩;have m:∀T us,svw l' md k T us=svw l sh k T us:=λT us=>Wv9 n hs;exact⟨h.z0,h.fa,λu r=>⟨λz=>(s _).2 ((h.hu u r).1 z),λz=>(n _).2 ((h.hu u r).2 z)⟩,h.gn,λz T c=>by rw[m];exact h.main z T (e c),λz j B T c=>by rw[m];exact h.blk z j B T (e c),h.x4,λz=>by
  obtain⟨a,b,c,d⟩:=h.fam z;exact⟨a,b,c.wk λ_ _=>o _ _ _,d⟩,h.cl,λz D=>by
  obtain⟨a,b⟩:=h.ck z D;simp_all,λz C T c=>by rw[m];exact h.cs z C T (e c),λz=>(h.fin z).wk o y,h.s8⟩
theorem RA.Dd(b:g=none)(e:y.ζ=0\/y.ζ=6\/y.ζ=7)(a:y.CZ=0)(d:y.ζ=0\/y.ζ=7->y.ο= [])(c:HU l k y):RA N kk K0 K1 M I Kc hr l sh g k p y:=by
 have hs:stl y=false:=by
  grind [stl,WM]
 exact⟨λz=>d (by omega),⟨.inl a,λ_=>a,λz=>by omega,λz=>by omega⟩,c,λ_=>b,λz=>by omega,λz=>by omega,λz=>by omega,λz=>by omega,λz=>by omega,λz=>by omega,λz=>by omega,λz=>(by simp_all),λz=>(by simp_all)⟩
theorem eP(h:x.ζ<=4):stl x=false:=by
 grind [stl,WM]
theorem RA.g0(h:RA N kk K0 K1 M I Kc hr l sh g k p x)(a:x.ζ<=4):g=none:=h.gn (eP a)
theorem Eh(h:RA N kk K0 K1 M I Kc hr l sh g k p x)(hs:stl x=false):RA N kk K0 K1 M I Kc hr l sh g k p (de x):=
 RA.Dd (h.gn hs) (.inr (.inl rfl)) rfl (λz=>by(change (6:Int)=0\/(6:Int)=7 at z;omega)) h.hu
theorem RA.C4(d:g=none)(h:1<=y.ζ/\y.ζ<=4)(c:y.CZ=0)(e:HU l k y)(a:y.ζ=1\/y.ζ=2->∀T,Con Kc l k y.μ T->AtS N kk p T (K0 T) K1 y (svw l sh k T y.ο))
  (mk:∀j,j<y.κ.length->∀T,Con Kc l k (y.μ.take (y.κ.getD j zRM).2.1.toNat) T->MkA N kk p T (K0 T) K1 y (svw l sh k T y.ο) j) (f:y.ζ=4->(y.ο.length:Int)<=y.last.2.2.2.1) (b:y.ζ=2->y.fam.ξ=y.ξ/\y.fam.start=al y.ι/\FV (M y.rv) p.2 y.fam/\RSf y.fam):RA N kk K0 K1 M I Kc hr l sh g k p y:=
 ⟨λz=>by omega,⟨.inl c,λ_=>c,λz=>by omega,λz=>by omega⟩,e,λ_=>d,a,λ_=>mk,f,b,λz=>by omega,λz=>by omega,λz=>by omega,λz=>(by grind [eP]),λz=>(by grind [eP])⟩
theorem w8(h:∀j,j<x.κ.length->∀T,Con Kc l k (x.μ.take (x.κ.getD j zRM).2.1.toNat) T->MkA N kk p T (K0 T) K1 x (svw l sh k T x.ο) j)(o:y.κ.length<=x.κ.length)(f:∀j,j<y.κ.length->y.κ.take (j+1)=x.κ.take (j+1))(i:y.υ=x.υ)(hr:∀q∈y.κ,y.μ.take q.2.1.toNat=x.μ.take q.2.1.toNat)(n:∀q∈y.κ,y.ι.take q.2.2.1.toNat=x.ι.take q.2.2.1.toNat)(r:∀{T b},Con Kc l' k b T->Con Kc l k b T)(m:∀T b,Con Kc l' k b T->∀q∈y.κ,gQ (svw l' md k T y.ο) (y.ο.drop q.2.2.2.1.toNat)=gQ (svw l sh k T x.ο) (x.ο.drop q.2.2.2.1.toNat)):∀j,j<y.κ.length->∀T,Con Kc l' k (y.μ.take (y.κ.getD j zRM).2.1.toNat) T->MkA N kk p T (K0 T) K1 y (svw l' md k T y.ο) j:=λj d T c=>by
 have s:y.κ.getD j zRM=x.κ.getD j zRM:=by
  have:=Wp (λl:List RM=>l[j]?) (f j d);simp only[List.getElem?_take_of_lt (Nat.lt_succ_self j)]at this;rw[Xq,Xq,this]
 have e:∀q∈x.κ.take (j+1),q∈y.κ:=λq a=>by
  grind
 have g:y.κ.getD j zRM∈y.κ:=by grind
 refine(h j (by omega) T ?_).keep i (f j d) (by omega) d (λq a=>n q (e q a)) λq a=>m T _ c q (e q a)
 grind
theorem xh(h:RA N kk K0 K1 M I Kc hr l sh g k p x)(e:1<=x.ζ/\x.ζ<=4)(b:y.κ=x.κ)(d:y.υ=x.υ)(hr:∀q∈x.κ,y.μ.take q.2.1.toNat=x.μ.take q.2.1.toNat)(i:y.ι=x.ι)(f:y.ο=x.ο):∀j,j<y.κ.length->∀T,Con Kc l k (y.μ.take (y.κ.getD j zRM).2.1.toNat) T->MkA N kk p T (K0 T) K1 y (svw l sh k T y.ο) j:=
 w8 (h.blk e) (by simp_all) (λj m=>by rw[b]) d (λq a=>hr q (by simp_all)) (λq a=>by rw[i]) (λc=>c) λT n c q a=>by rw[f]
theorem Pv(h:RA N kk K0 K1 M I Kc hr l sh g k p x)(j:x.ζ=1)(b:y.κ=x.κ)(c:y.υ=x.υ)(d:y.μ=x.μ)(e:y.ι=x.ι)(f:y.ο=x.ο)(i:y.CZ=x.CZ):RA N kk K0 K1 M I Kc hr l sh g k p (WR y):=by
 have a:HU l k y:=λu a=>h.hu u (by simp_all);unfold WR;split
 .exact RA.Dd (h.g0 (by omega)) (.inr (.inl rfl)) rfl (λz=>by(change (6:Int)=0\/(6:Int)=7 at z;omega)) a
 .refine RA.C4 (h.g0 (by omega)) ⟨by simp_all,by simp_all⟩ (i.trans (h.fa.2.1 (by omega))) a (λz=>by simp_all) (xh h (by omega) b c (λq m=>by show y.μ.take _=_;rw[d]) e f) (λz=>by simp_all) λz=>by simp_all
theorem WxX(h:RA N kk K0 K1 M I Kc hr l sh g k p x)(d:1<=x.ζ/\x.ζ<=4)(i:ShOk sh)(f:UnV u)(e:x.ο=x.ο.dropLast++ [u])(m:∀q∈x.κ,q.2.2.2.1.toNat<x.ο.length):∀j,j<x.κ.length->∀T,Con Kc l k (x.μ.take (x.κ.getD j zRM).2.1.toNat) T->MkA N kk p T (K0 T) K1 {x with ο:=x.ο.dropLast} (svw l (eM sh u) k T x.ο.dropLast) j:=by
 have b:u∈x.ο:=by grind
 refine w8 (y:={x with ο:=x.ο.dropLast}) (md:=eM sh u) (h.blk d) (Xl _) (λj n=>rfl) rfl (λq a=>rfl) (λq a=>rfl) (λc=>c) λT o c q a=>?_;show gQ (svw l (eM sh u) k T x.ο.dropLast) (x.ο.dropLast.drop _)=_;rw[←SX i f (λz=>((h.hu u b).1 z).h) c.ok,←e]
 grind [Ru]
theorem Ub(h:HU l k x):HU l k {x with ο:=x.ο.dropLast}:=λu a=>h u (Od _ a)
theorem Ut{us:List Un}(h:us≠ []):us=us.dropLast++ [c0 us (0,0,0)]:=by
 grind [c0,List.length_pos_iff,Wn,List.dropLast_concat_getLast]
theorem MX(h:RA N kk K0 K1 M I Kc hr l w.ψ g k p x)(o:ShOk w.ψ)(u:ROk p n x)(d:(x.ζ=1/\(opN p.1 x.pc).1=10/\x.κ≠ []\/x.ζ=3)/\(∀q∈x.κ,q.2.2.2.1.toNat<x.ο.length)\/x.ζ=6)(r:x.ο≠ []):RA N kk K0 K1 M I Kc hr l (dO w x).1.ψ g k p (dO w x).2:=by
 have e:=Ut r;have i:c0 x.ο (0,0,0)∈x.ο:=by
  grind
 have m:=u.ο _ i;unfold dO;rcases d with⟨d,f⟩|h6
 .have iF:=WxX h (by omega) o m e f;refine RA.C4 (h.g0 (by omega)) (by grind) (h.fa.2.1 (by omega)) (Ub h.hu) (λz T c=>?_) iF (λz=>by grind) λz=>by grind
  rcases d with⟨j,s,t⟩|h3
  .have:=Wys (h.main (.inl j) T c) j s t f e;show AtS N kk p T (K0 T) K1 {x with ο:=x.ο.dropLast} (svw l (eM w.ψ (c0 x.ο (0,0,0))) k T x.ο.dropLast);rw[←SX o m (λz=>((h.hu _ i).1 z).h) c.ok,←e];exact this
  grind
 .have aL:∀y:Rt,y.ζ=x.ζ->y.CZ=x.CZ->y.cm=x.cm->stl y=stl x:=λy a b c=>by unfold stl;rw[a,b,c]
  refine⟨λz=>?_,h.fa,Ub h.hu,h.gn,λz=>?_,λz=>?_,λz=>?_,λz=>?_,λz=>?_,λz=>?_,λz=>?_,λz=>(h.fin z).same rfl rfl rfl rfl rfl rfl,h.s8⟩
  .grind
  all_goals grind
end
end
section
section
variable{l hs:List Hd}{k j:Nat}{i what mode who:Int}{e:Hd}
theorem Nz(h:HOk l){a b:Hd}(m:a∈l)(n:b∈l)(e:a.2.1=b.2.1)(k:a≠b):a.1≠b.1/\a.2.2≠2/\b.2.2≠2:=by
 obtain⟨i,c,rfl⟩:=eI m;obtain⟨j,d,rfl⟩:=eI n;have f:=List.pairwise_iff_getElem.1 h.up;have g:∀x y:Hd,HdB x y->x.2.1=y.2.1->x.1≠y.1:=λx y z o p=>by
  have:=z.1;unfold cfH at this
  grind
 rcases Nat.lt_trichotomy i j with z|z|z
 .have:=f i j c d z;exact⟨g _ _ this e,(this.2 e).1,(this.2 e).2⟩
 .subst z;exact Wi rfl k
 .have:=f j i d c z;exact⟨λz=>g _ _ this e.symm z.symm,(this.2 e.symm).2,(this.2 e.symm).1⟩
theorem oq(h:HOk l)(n:hld l j i)(o:xld l k i):j=k:=by
 obtain⟨a,c,p,d⟩:=n;obtain⟨b,f,q,g,m⟩:=o;by_cases e:a=b
 .subst e;omega
 .exact Wi m (Nz h c f (d.trans g.symm) e).2.2
theorem Wvq(h:HOk l)(g:e∈l)(d:e.1=who)(f:e.2.1=what):gT l who what=e.2.2:=by
 unfold gT;cases hf:fnd (kp who what) l 0 with
 |none=>
  have:=A9 hf e g;unfold kp at this;simp[d,f]at this
 |some r=>
  obtain⟨a,i,c,b⟩:=kT hf;rw[dj]at c;rw[mA,Xp c]at b;injection b with b;unfold kp at a;simp only[Xj,Wg]at a;simp only;rw[←b]at a⊢;by_cases z:l[r.1]=e
  .rw[z]
  .exact Wi (a.1.trans d.symm) (Nz h (Xo c) g (a.2.trans f.symm) z).1
structure AskF(l hs:List Hd)(k:Nat)(what mode:Int):Prop where
 hh:∀i,hld hs k i↔hld l k i\/i=what
 xx:∀i,xld hs k i↔xld l k i\/(i=what/\mode=2)
 oth:∀j,j≠k->∀i,(hld hs j i↔hld l j i)/\(xld hs j i↔xld l j i)
 free:∀h∈l,h.2.1=what->h.1≠(k:Int)+1->mode≠2/\h.2.2≠2
theorem VC(h:HOk l)(F:mode=1\/mode=2)(g:hZ l ((k:Int)+1) what mode=some hs):AskF l hs k what mode:=by
 unfold hZ at g;split at g
 .rename_i hb;injection g with g;subst g;have f:=λx=>kF (e:=((k:Int)+1,what,gP (gT l ((k:Int)+1) what) mode)) (x:=x) ji h.ris;have s:gP (gT l ((k:Int)+1) what) mode=2↔xld l k what\/mode=2:=by
   have G:=UF (who:=(k:Int)+1) (what:=what) h;constructor
   .intro z;by_cases t:mode=2
    .exact .inr t
    .have n:gT l ((k:Int)+1) what=2:=by unfold gP at z;split at z<;>omega
     left;unfold gT at n;cases hf:fnd (kp ((k:Int)+1) what) l 0 with
     |none=>rw[hf]at n;simp at n
     |some r=>
      rw[hf]at n;obtain⟨o,B,q,p⟩:=kT hf;rw[dj]at q;rw[mA,Xp q]at p;injection p with p;unfold kp at o;simp only[Xj,Wg]at o;exact⟨r.2,p▸Xo q,o.1,o.2,n⟩
   .rintro(⟨e,u,v,w,y⟩|z)
    .rw[Wvq h u v w,y];unfold gP;split<;>omega
    .unfold gP;split<;>omega
  refine⟨λi=>⟨?_,?_⟩,λi=>⟨?_,?_⟩,λj E i=>⟨⟨?_,?_⟩,⟨?_,?_⟩⟩,λx A C t=>?_⟩
  .rintro⟨a,b,d,c⟩;rcases(f a).1 b with rfl|⟨b,_⟩
   .exact .inr c.symm
   .exact .inl ⟨a,b,d,c⟩
  .rintro(⟨a,b,d,c⟩|rfl)
   .by_cases e:i=what
    .exact⟨_,(f _).2 (.inl rfl),rfl,e.symm⟩
    .exact⟨a,(f a).2 (.inr ⟨b,apH.2 λz=>e (c.symm.trans z.2)⟩),d,c⟩
   .exact⟨_,(f _).2 (.inl rfl),rfl,rfl⟩
  .rintro⟨a,b,d,c,m⟩;rcases(f a).1 b with rfl|⟨b,_⟩
   .rcases s.1 m with z|z
    .rw[←c];exact .inl z
    .exact .inr ⟨c.symm,z⟩
   .exact .inl ⟨a,b,d,c,m⟩
  .rintro(⟨a,b,d,c,m⟩|⟨rfl,z⟩)
   .by_cases e:i=what
    .exact⟨_,(f _).2 (.inl rfl),rfl,e.symm,s.2 (.inl ⟨a,b,d,c.trans e,m⟩)⟩
    .exact⟨a,(f a).2 (.inr ⟨b,apH.2 λz=>e (c.symm.trans z.2)⟩),d,c,m⟩
   .exact⟨_,(f _).2 (.inl rfl),rfl,rfl,s.2 (.inr z)⟩
  .rintro⟨a,b,d,c⟩;rcases(f a).1 b with rfl|⟨b,_⟩
   .simp only at d;omega
   .exact⟨a,b,d,c⟩
  .rintro⟨a,b,d,c⟩;exact⟨a,(f a).2 (.inr ⟨b,apH.2 λz=>by have:=z.1;simp only at this;omega⟩),d,c⟩
  .rintro⟨a,b,d,c⟩;rcases(f a).1 b with rfl|⟨b,_⟩
   .simp only at d;omega
   .exact⟨a,b,d,c⟩
  .rintro⟨a,b,d,c⟩;exact⟨a,(f a).2 (.inr ⟨b,apH.2 λz=>by have:=z.1;simp only at this;omega⟩),d,c⟩
  .refine Classical.byContradiction λD=>?_;have:x.1∈sj l ((k:Int)+1) what mode:=Xz.2 ⟨x,dA.2 ⟨A,by grind [blk]⟩,rfl⟩;rw[hb]at this;cases this
 .cases g
end
section
variable{R:Type}{N kk:Nat}{K0:Tg->List Int->Option R}{K1:Int->Bool->List Int->Int->List M7->List Int->List Int->Option R}
 {M M' I I':V3} {Kc Kc':Int->Int->Prop} {hr:List Rw} {l l':List Hd} {sh md:Shf} {g:Option GE} {k:Nat} {p:Pg} {w v:Wo} {x y:Rt} {n:Int} {T:Tg} {S:List Int×Int} {i:Nat} {u:Un}
structure SK(Kc:Int->Int->Prop)(w:Wo)(k:Nat)(x:Rt):Prop where
 one:∀i v v',Kc i v->Kc i v'->v=v'
 free:∀i,0<=i->i<=7->(∀h∈w.holds,h.2.1=i->h.2.2≠2)->Kc i (WD w.ψ.1 i)
 cnt:(∀h∈w.holds,h.2.1=8->h.1=(k:Int)+1)->∀c,Kc 8 c->w.ψ.2=(c+dl x.ο)%65536
theorem TA{r:Rw}:∀{l:List Rw},r∈l->∃v,lst l r.1=some v
 |a::l,h=>by
  rw[lst];cases hq:lst l r.1 with
  |some v=>exact⟨v,rfl⟩
  |none=>
   rcases Xs.1 h with rfl|h
   .exact⟨_,Wb rfl⟩
   .obtain⟨v,b⟩:=TA h;rw[hq]at b;cases b
theorem WzX(g:1048576<N)(v:POk p)(h:AtS N kk p T (K0 T) K1 x S)(A:x.ζ=1)(w:0<=x.pc/\x.pc<=p.1.length){a:Int}(u:(a=1/\x.pc=p.1.length)\/(a=2/\x.pc<p.1.length/\(opN p.1 x.pc).1=10/\x.κ= [])):FnS N kk p K0 K1 {x with CZ:=a} T (ovl T.1 x.ι) S:=by
 have m:=v.θ.len;obtain⟨s,o,B,S0,c,b⟩:=h;obtain⟨i,j⟩:∃i:Nat,x.pc=i:=⟨x.pc.toNat,by omega⟩;refine⟨s,⟨o.no,o.yes⟩,λl k=>?_⟩;have b:=b l k;rw[j]at b;rcases u with⟨rfl,e⟩|⟨rfl,y,f,q⟩
 .left;have c:S0=S:=by
   rcases c with z|⟨_,z,_⟩
   .exact z
   .have:opN p.1 x.pc=(0,0,0,0):=by
     unfold opN;rw[Xq,ju (by omega)];rfl
    rw[this]at z;cases z
  subst c;have r:i=p.1.length:=by omega
  subst r;exact⟨rfl,_,b.fin g m λn=>ZL⟩
 .right;have d:i<p.1.length:=by omega
  have t:p.1[i].1=10:=by
   rw[j,p0 d]at f;exact f
  rw[q]at b;exact⟨rfl,b.fin g (by omega) λn=>YM d t⟩
theorem UR(h:(rO l ((k:Int)+1)).length=0){i:Int}:¬hld l k i:=λ⟨e,a,b,_⟩=>Qz h e a b
theorem Vr{us:List Un}(h:∀u∈us,u.1≠3):dl us=0:=by
 induction us with
 |nil=>rfl
 |cons a us ih=>
  rw[dl,Wa (h a (Xg ..)),ih λu b=>h u (Xf _ b)];omega
theorem UQ(h:HU l k x)(e:∀u∈x.ο,UnV u)(b:∀i,¬hld l k i):x.ο= []:=by
 cases hu:x.ο with
 |nil=>rfl
 |cons a us=>
  exfalso;have c:a∈x.ο:=by rw[hu];exact Xg ..
  obtain⟨d,f⟩:=h a c;rcases e a c with⟨z,_⟩|⟨z,_⟩|⟨z,_⟩
  .exact b _ (d (.inl z)).h
  .exact b _ (d (.inr z)).h
  .exact b _ (f z)
theorem Ta(K:1048576<N)(C:POk p)(h:RA N kk K0 K1 M I Kc [] w.holds w.ψ g k p x)(f:x.ζ=1)(E:ROk p n x)(X:x.γ=false)(J:∀r∈x.μ,M x.rv r.1 r.2){a:Int}(P:(a=1/\x.pc=p.1.length)\/(a=2/\x.pc<p.1.length/\(opN p.1 x.pc).1=10/\x.κ= [])):
  RA N kk K0 K1 M I Kc [] (ec w x k a).1.holds (ec w x k a).1.ψ g k p (ec w x k a).2:=by
 have m:=E.C4 (by omega);have j:=h.g0 (show x.ζ<=4 by omega);have U:=m.wl3 C;have d:=λT (c:Con Kc w.holds k x.μ T)=>WzX K C (h.main (.inl f) T c) f m.pc P;have Q:a=1\/a=2:=by omega
 unfold ec;simp only;generalize y:(if a=2 then []else x.ι)=ε;split
 .rename_i hz;have s:∀i,¬hld w.holds k i:=λi=>UR hz.2;have H:=UQ h.hu E.ο s;have b:stl (eU w {x with CZ:=a,Dc:=x.rv} k).2=true:=by rw[WM];exact .inl rfl
  have D:Wq (eU w {x with CZ:=a,Dc:=x.rv} k).2=x.rv:=by
   unfold Wq;rw[Wb b];rfl
  refine⟨λ_=>rfl,⟨by show a=0\/a=1\/a=2;omega,λz=>by(change (8:Int)<=4 at z;omega),λ_=>by show a≠0;omega,λz=>by(change (8:Int)=6 at z;omega)⟩,(λu R=>by cases R),λz=>(by rw[b]at z;cases z),?_,?_,?_,?_,?_,?_,?_,λ_=>⟨?_,?_,⟨λz=>?_,?_⟩,λ_=>False,λ_=>0,(λi z=>z.elim),λT V W _ _=>?_⟩,λ_ z=>Wi rfl z⟩
  .intro z;(change (8:Int)=1\/(8:Int)=2 at z);omega
  .intro z;(change (1:Int)<=8/\(8:Int)<=4 at z);omega
  .intro z;(change (8:Int)=4 at z);omega
  .intro z;(change (8:Int)=2 at z);omega
  .intro z;(change (8:Int)=5 at z);omega
  .intro z;(change (8:Int)=5 at z);omega
  .intro z;(change (8:Int)=5 at z);omega
  .rw[D];exact aj _
  .rw[D];show∀r∈x.μ,M (if x.rv<x.rv then _ else _) _ _;rw[Wa (by omega)];exact J
  .rw[j]at z;simp at z
  .intro e he;rw[j]at he;cases he
  .have c:Con Kc w.holds k x.μ T:=⟨V,W,λi _ _ z=>Wi z (s i),λz=>Wi z.h (s 8)⟩;have L:gS g T=svw w.holds w.ψ k T x.ο:=by
    rw[j,H];refine w5 (by simp[gS]) lJ (λi O=>?_) rfl;rw[mP O,Wa (s i)];unfold gS;have G:i.toNat<8:=by omega
    rw[Wn (by simpa using G),eX,B1]
   rw[L];obtain⟨B,o,q⟩:=d T c;refine⟨B,⟨o.no,o.yes⟩,λl t=>?_⟩;rcases q l t with q|q
   .left;have:x.ι= []:=by
     have f:a=1:=q.1;rw[←y,Wa (by omega)]at hz;exact Xv hz.1
    rw[this]at q;exact q
   .exact .inr q
 .rename_i hz;have b:stl {x with CZ:=a,cm:=dM ((k:Int)+1) x.rv ε x.μ,ζ:=5}=false:=by
   cases hs:stl {x with CZ:=a,cm:=dM ((k:Int)+1) x.rv ε x.μ,ζ:=5}
   .rfl
   .rw[WM]at hs;simp only[dM]at hs;split at hs<;>omega
  refine⟨?_,⟨by show a=0\/a=1\/a=2;omega,λz=>by(change (5:Int)<=4 at z;omega),λ_=>by show a≠0;omega,λz=>by(change (5:Int)=6 at z;omega)⟩,h.hu,λ_=>j,?_,?_,?_,?_,λ_=>⟨rfl,?_,λz=>?_⟩,λ_ z=>?_,λ_ _ T c=>?_,λz=>(by rw[b]at z;cases z),λz=>(by rw[b]at z;cases z)⟩
  .intro z;(change (5:Int)=0\/(5:Int)=8\/(5:Int)=7/\_ at z);omega
  .intro z;(change (5:Int)=1\/(5:Int)=2 at z);omega
  .intro z;(change (1:Int)<=5/\(5:Int)<=4 at z);omega
  .intro z;(change (5:Int)=4 at z);omega
  .intro z;(change (5:Int)=2 at z);omega
  .intro r bn;have A:=Mb m C.θ;show r.1∈(al x.μ).map (·.1);have F:=A.1 r bn;obtain⟨v,S⟩:=TA bn;refine Xz.2 ⟨(r.1,v),wg.2 ⟨⟨F.1.1,F.1.2⟩,?_⟩,rfl⟩;rw[AE A.1 A.2];exact S
  .have h2:a=2:=z;show al ε= [];rw[←y,Wb h2];rfl
  .simp only[dM]at z;split at z<;>omega
  .obtain⟨B,o,q⟩:=d T c;refine⟨B,⟨o.no,o.yes⟩,λl t=>?_⟩;rcases q l t with q|q
   .left;have f:a=1:=q.1;show a=1/\∃mk,bgn N kk p T (K0 T) K1 l=K1 (p.1.length:Int) false x.ξ (svw w.holds w.ψ k T x.ο).2 mk (ovl T.1 (al ε)) (svw w.holds w.ψ k T x.ο).1;rw[←y,Wa (by omega),Tq c.ok.ω m.ι U];exact q
   .exact .inr q
end
end
section
section
variable{R:Type}{N kk:Nat}{K0:Tg->List Int->Option R}{K1:Int->Bool->List Int->Int->List M7->List Int->List Int->Option R}
 {M M' I I':V3} {Kc Kc':Int->Int->Prop} {hr:List Rw} {l l':List Hd} {sh md:Shf} {g:Option GE} {k:Nat} {p:Pg} {w v:Wo} {x y:Rt} {n:Int} {T:Tg} {S:List Int×Int} {i:Nat} {u:Un}
theorem WyV(L:1048576<N)(j:POk p)(h:RA N kk K0 K1 M I Kc hr w.holds w.ψ g k p x)(b:x.ζ=1)(R:ROk p n x)(hi:x.pc=(i:Int))(l:i<p.1.length)(B:p.1[i].1=5):RA N kk K0 K1 M I Kc hr w.holds w.ψ g k p (eS w x p.1[i]):=by
 have d:=R.C4 (by omega);have D:=d.wl3 j;have C:=h.g0 (show x.ζ<=4 by omega);have E:=h.fa.2.1 (show x.ζ<=4 by omega);obtain⟨V,_⟩:=j.θ.ok i l;obtain⟨W,X⟩:=lz V B;have e:0<=p.1[i].2.2.1/\p.1[i].2.2.1<=7:=by grind [bY]
 have a:∀(y:Rt) (v:Int),y.ζ=1->y.υ=x.υ->y.pc=x.pc+1->y.ι=x.ι->y.κ=x.κ->y.ο=x.ο->y.CZ=x.CZ->y.ξ=d8 x.ξ p.1[i].2.1 v->(∀q∈x.κ,y.μ.take q.2.1.toNat=x.μ.take q.2.1.toNat)->(∀r∈x.μ,r∈y.μ)->(∀T,Con Kc w.holds k y.μ T->(ovl T.1 x.ι).getD p.1[i].2.2.1.toNat 0=v)->RA N kk K0 K1 M I Kc hr w.holds w.ψ g k p y:=λy v F o G t A f H J K S U=>by
  refine RA.C4 C (by omega) (H.trans E) (λu Q=>h.hu u (by rw[←f];exact Q)) (λ_ T c=>?_) (xh h (by omega) A o K t f) (λz=>by omega) λz=>by omega
  rw[f];exact(Wyw L j c.ok (h.main (.inl b) T ⟨c.ok,λr hr=>c.rd r (S r hr),c.key,c.cnt⟩) d hi l B F o G t A f (by rw[U T c];exact J)).s
 unfold eS;cases kW:bm x.ι p.1[i].2.2.1 with
 |some val=>exact a _ val b rfl rfl rfl rfl rfl rfl rfl (λq P=>rfl) (λr hr=>hr) λT c=>(TR c.ok.ω d.ι D e.1 e.2).1 kW
 |none=>
  simp only;generalize W7 w.mem x.rv _=q;split
  .exact Pv h b rfl rfl rfl rfl rfl rfl
  split
  .refine a _ q.2.2.2 b rfl rfl rfl rfl rfl rfl rfl (λm O=>Mj (d.upd m O).1.1) (λr hr=>Xm _ hr) λT c=>?_;rw[(TR (v:=0) c.ok.ω d.ι D e.1 e.2).2 kW];exact c.rd (p.1[i].2.2.1,q.2.2.2) (Xh _ (bH.2 rfl))
  .exact RA.C4 C (by show 1<=x.ζ/\x.ζ<=4;omega) E h.hu (λ_ T c=>(h.main (.inl b) T c).same rfl rfl rfl rfl rfl rfl rfl) (xh h (by omega) rfl rfl (λq P=>rfl) rfl rfl) (λz=>by(change x.ζ=4 at z;omega)) λz=>by(change x.ζ=2 at z;omega)
theorem WwI(L:1048576<N)(P:POk p)(h:RA N kk K0 K1 M I Kc hr w.holds w.ψ g k p x)(t:x.ζ=1)(R:ROk p n x)(hi:x.pc=(i:Int))(B:i<p.1.length)(C:p.1[i].1≠5/\p.1[i].1≠10/\p.1[i].1<11):RA N kk K0 K1 M I Kc hr (aT w x k p).1.holds (aT w x k p).1.ψ g k p (aT w x k p).2:=by
 have v:=R.C4 (by omega);have O:=h.g0 (show x.ζ<=4 by omega);have upd:=v.upd;have d:=λT (c:Con Kc w.holds k x.μ T)=>Wvw (k:=k) (w:=w) L P c.ok (EI c.ok) (h.main (.inl t) T c) v t hi B C;obtain⟨D,K,U,f,b,m,E,F⟩:=Wwx (k:=k) (w:=w) v t hi B C;rw[D];generalize V:(aT w x k p).2=y at*;refine RA.C4 O (by omega) (K.trans (h.fa.2.1 (by omega))) (λu Q=>h.hu u (by rw[←b];exact Q)) (λ_ T c=>by rw[b];exact(d T (by rw[←f];exact c)).s) ?_ (λz=>by omega) λz=>by omega
 have A:∀q∈x.κ,y.ι.take q.2.2.1.toNat=x.ι.take q.2.2.1.toNat:=λq a=>E _ (upd q a).1.2.1;rcases F with e|e|⟨e,G,H,J⟩
 .exact w8 (h.blk (by omega)) (by rw[e];exact Xl _) (λj l=>by rw[e]) m (λq a=>by rw[f]) (λq a=>A q (by rw[←e];exact a)) (λc=>c) λT S c q a=>by rw[b]
 .refine w8 (h.blk (by omega)) (by rw[e,xT];omega) (λj l=>?_) m (λq a=>by rw[f]) (λq a=>A q (Od _ (by rw[←e];exact a))) (λc=>c) λT S c q a=>by rw[b]
  rw[e,xT]at l;rw[e,uv,o5,fV (by omega)]
 .intro j l T c;rw[e,Xx,List.length_singleton]at l;by_cases o:j<x.κ.length
  .have r:y.κ.getD j zRM=x.κ.getD j zRM:=by
    rw[e,Xq,Xq,List.getElem?_append_left o]
   rw[r,f]at c;rw[b];exact(h.blk (by omega) j o T c).keep m (by rw[e,Mj (by omega)]) o (by rw[e,Xx];omega) (λq a=>A q (List.mem_of_mem_take a)) λq a=>by rw[b]
  .have bw:j=x.κ.length:=by omega
   subst bw;have r:y.κ.getD x.κ.length zRM=(x.pc,(x.μ.length:Int),(x.ι.length:Int),(x.ο.length:Int),x.ξ):=by
    rw[e,Xq,List.getElem?_append_right (Xl _)];simp
   rw[r,f]at c;simp only[Xi,List.take_length]at c;rw[b];exact ZA (d T c) (q:=(x.pc,(x.μ.length:Int),(x.ι.length:Int),(x.ο.length:Int),x.ξ)) (by rw[e];simp) (by rw[e];simp) J (by show(x.ι.length:Int)=_;rw[H]) (by show(x.ο.length:Int)=_;rw[b]) G.symm
theorem WxO{s:Shf}{o:Opn}{r:List Int}(b:ax o=true)(a:12<=o.1):(((WK s o r).2.2.1=1\/(WK s o r).2.2.1=2)->(WK s o r).2.2.2.1=(W0 o).1/\(W0 o).2=2)/\((WK s o r).2.2.1=3->(W0 o).1=8):=by
 unfold WK W0 gL
 grind
theorem Wvr(R:1048576<N)(O:POk p)(h:RA N kk K0 K1 M I Kc hr w.holds w.ψ g k p x)(v:x.ζ=1)(U:ROk p n x)(J:GOk w)(hi:x.pc=(i:Int))(F:i<p.1.length)(f:12<=p.1[i].1)(C:SK Kc w k x):RA N kk K0 K1 M I Kc hr (fM w x k p.1[i]).1.holds (fM w x k p.1[i]).1.ψ g k p (fM w x k p.1[i]).2:=by
 have o:=U.C4 (by omega);have S:=h.g0 (show x.ζ<=4 by omega);obtain⟨t,_⟩:=O.θ.ok i F;unfold fM;cases ha:hZ w.holds ((k:Int)+1) (W0 p.1[i]).1 (W0 p.1[i]).2 with
 |none=>exact Pv h v rfl rfl rfl rfl rfl rfl
 |some hs=>
  obtain⟨E,X⟩:=Sm t f;have A:=VC J.holds X ha;have H:∀{T d},Con Kc hs k d T->Con Kc w.holds k d T:=λc=>⟨c.ok,c.rd,λi V W z=>c.key i V W ((A.hh i).2 (.inl z)),λz=>c.cnt ((A.xx 8).2 (.inl z))⟩;have B:∀T d,Con Kc hs k d T->svw hs (WK w.ψ p.1[i] x.ξ).1 k T (if(WK w.ψ p.1[i] x.ξ).2.2.1=0 then x.ο else x.ο++ [(WK w.ψ p.1[i] x.ξ).2.2])=(cG (svw w.holds w.ψ k T x.ο) p.1[i] x.ξ).1/\(WK w.ψ p.1[i] x.ξ).2=(cG (svw w.holds w.ψ k T x.ο) p.1[i] x.ξ).2:=λT d c=>by
   refine Wu3 J.ψ o.ξ t f (λy=>?_) (λK=>?_) ((A.hh _).2 (.inr rfl)) λi hi=>by rw[A.hh];exact⟨λz=>z.resolve_right hi,.inl⟩
   .rw[mP ⟨E.1,y⟩];by_cases z:hld w.holds k (W0 p.1[i]).1
    .rw[Wb z]
    .rw[Wa z];refine C.one _ _ _ (c.key _ E.1 y ((A.hh _).2 (.inr rfl))) (C.free _ E.1 y λe m b=>?_);exact(A.free e m b λl=>z ⟨e,m,l,b⟩).2
   .have h8:(W0 p.1[i]).1=8:=by rw[K]
    have G:(W0 p.1[i]).2=2:=by rw[K]
    exact(C.cnt (λe m b=>Classical.byContradiction λz=>(A.free e m (b.trans h8.symm) z).1 G) _ (c.cnt ((A.xx 8).2 (.inr ⟨h8.symm,G⟩)))).symm
  refine RA.C4 S (by show 1<=x.ζ/\x.ζ<=4;omega) (h.fa.2.1 (by omega)) (λu a=>?_) (λ_ T c=>?_) (w8 (h.blk (by omega)) (Xl _) (λj Y=>rfl) rfl (λq D=>rfl) (λq D=>rfl) H λT d c q D=>?_) (λz=>by(change x.ζ=4 at z;omega)) λz=>by(change x.ζ=2 at z;omega)
  .have old:u∈x.ο->((u.1=1\/u.1=2)->xld hs k u.2.1)/\(u.1=3->hld hs k 8):=λL=>⟨λz=>(A.xx _).2 (.inl ((h.hu u L).1 z)),λz=>(A.hh _).2 (.inl ((h.hu u L).2 z))⟩;have a:u∈(if(WK w.ψ p.1[i] x.ξ).2.2.1=0 then x.ο else x.ο++ [(WK w.ψ p.1[i] x.ξ).2.2]):=a;split at a
   .exact old a
   .rcases Xn.1 a with a|a
    .exact old a
    .rw[bH]at a;subst a;obtain⟨P,Q⟩:=WxO (s:=w.ψ) (r:=x.ξ) t f;exact⟨λz=>(A.xx _).2 (.inr (P z)),λz=>(A.hh _).2 (.inr (Q z).symm)⟩
  .obtain⟨b,l⟩:=B T _ c;have:=(Wv8 R O c.ok (EI c.ok) (h.main (.inl v) T (H c)) o v hi F f).s;rw[←b,←l]at this;exact this
  .obtain⟨b,l⟩:=B T _ c;show gQ (svw hs (WK w.ψ p.1[i] x.ξ).1 k T (if(WK w.ψ p.1[i] x.ξ).2.2.1=0 then x.ο else x.ο++ [(WK w.ψ p.1[i] x.ξ).2.2])) _=_;rw[b];show gQ _ ((if(WK w.ψ p.1[i] x.ξ).2.2.1=0 then x.ο else x.ο++ [(WK w.ψ p.1[i] x.ξ).2.2]).drop _)=_;rw[l];exact Qp (EI c.ok) o.ξ t f (o.upd q D).1.2.2
theorem Eo(c:RLive p n x)(e:POk p)(f:x.κ.length≠0):(∀z∈x.κ,z.2.1<=x.last.2.1/\z.2.2.1<=x.last.2.2.1/\z.2.2.2.1<=x.last.2.2.2.1)/\x.κ.getD (x.κ.length-1) zRM=x.last/\x.last∈x.κ:=by
 obtain⟨j,q,b,_⟩:=c.mk24 e.θ f;have d:=c.κ.up;rw[b]at d;refine⟨λz a=>?_,rfl,?_⟩
 .rw[b,Xn,bH]at a;rcases a with a|rfl
  .exact(dx.1 d).2.2 z a _ (bH.2 rfl)
  .omega
 .have:x.last∈q++ [x.last]:=Xh _ (bH.2 rfl);rw[←b]at this;exact this
theorem Wvo(A:1048576<N)(m:POk p)(h:RA N kk K0 K1 M I Kc [] w.holds w.ψ g k p x)(e:x.ζ=1)(o:ROk p n x)(C:GOk w)(E:x.γ=false)(D:∀r∈x.μ,M x.rv r.1 r.2)(hi:x.pc=(i:Int))(u:i<p.1.length)(v:p.1[i].1=10):RA N kk K0 K1 M I Kc [] (ig w x k p.1).1.holds (ig w x k p.1).1.ψ g k p (ig w x k p.1).2:=by
 have f:=o.C4 (by omega);have F:=h.g0 (show x.ζ<=4 by omega);have y:(opN p.1 x.pc).1=10:=by rw[hi,p0 u];exact v
 unfold ig;by_cases b:x.κ.length=0
 .rw[Wb b];exact Ta A m h e o E D (.inr ⟨rfl,by omega,y,Xv b⟩)
 rw[Wa b];obtain⟨t,K,G⟩:=Eo f m b;have B:x.κ≠ []:=λz=>b (by rw[z];rfl);have J:=(f.upd _ G).2;by_cases d:(x.ο.length:Int)>x.last.2.2.2.1
 .rw[Wb d];have:=MX h C.ψ o (.inl ⟨.inl ⟨e,y,B⟩,λq a=>by have:=(t q a).2.2;have:=(f.upd q a).2.2.2;omega⟩) λz=>by rw[z]at d;simp at d;omega
  exact this
 .rw[Wa d];refine RA.C4 F (by show 1<=x.ζ/\x.ζ<=4;omega) (h.fa.2.1 (by omega)) h.hu (λ_ T c=>(WyB A m c.ok (EI c.ok) (h.main (.inl e) T c) f e hi u v b d).s) (w8 (h.blk (by omega)) (by show x.κ.dropLast.length<=_;rw[xT];omega) (λj l=>?_) rfl (λq a=>rfl) (λq a=>?_) (λc=>c) λT H c q a=>rfl) (λz=>by(change x.ζ=4 at z;omega)) λz=>by(change x.ζ=2 at z;omega)
  .have l:j<x.κ.dropLast.length:=l;rw[xT]at l;show x.κ.dropLast.take _=_;rw[uv,o5,fV (by omega)]
  .have:=(t q (Od _ a)).2.1;show(x.ι.take _).take _=_;rw[o5,fV (by omega)]
theorem Wzo(f:1048576<N)(b:POk p)(h:RA N kk K0 K1 M I Kc [] w.holds w.ψ g k p x)(a:x.ζ=1)(d:ROk p n x)(B:GOk w)(D:x.γ=false)(C:∀r∈x.μ,M x.rv r.1 r.2)(J:SK Kc w k x):RA N kk K0 K1 M I Kc [] (aT w x k p).1.holds (aT w x k p).1.ψ g k p (aT w x k p).2:=by
 have u:=d.C4 (by omega);by_cases v:x.pc>=p.1.length
 .unfold aT;rw[Wb v];exact Ta f b h a d D C (.inl ⟨rfl,by have:=u.pc;omega⟩)
 obtain⟨i,e,j,A⟩:=kV (l:=p.1) u.pc.1 (by omega);obtain⟨Q,P,O⟩:=b.θ.ok i e;by_cases K:p.1[i].1≠5/\p.1[i].1≠10/\p.1[i].1<11
 .exact WwI f b h a d j e K
 unfold aT;rw[Wa v];simp only[A];by_cases s:p.1[i].1=5
 .rw[Wb s];exact WyV f b h a d j e s
 rw[Wa s];by_cases m:p.1[i].1=10
 .rw[Wb m];exact Wvo f b h a d B D C j e m
 rw[Wa m];by_cases y:p.1[i].1=11
 .rw[Wb y];refine RA.C4 (h.g0 (by omega)) (by show(1:Int)<=2/\(2:Int)<=4;omega) (h.fa.2.1 (by omega)) h.hu (λ_ T c=>?_) (xh h (by omega) rfl rfl (λq L=>rfl) rfl rfl) (λz=>by(change (2:Int)=4 at z;omega)) λ_=>⟨rfl,rfl,WsQ u.ξ,WuO⟩;obtain⟨E,o,H,S0,G,F⟩:=h.main (.inl a) T c;have t:S0=svw w.holds w.ψ k T x.ο:=by
   rcases G with z|⟨_,z,_⟩
   .exact z
   .rw[A]at z;omega
  exact⟨E,⟨o.no,o.yes⟩,H,S0,.inl t,F⟩
 rw[Wa y,Wb (by omega)];exact Wvr f b h a d B j e (by omega) J
end
end
section
section
variable{b:Int->Int}{s:Sc}{w v:Wo}{n:Int}{x y:Rt}{k:Nat}{p:Pg}{o:Opn}{m m':Mm}{H H':List Wr}{C C':Nat->Option Cm}{c:Cm}{i rv:Int}{f:Fm}{codes:List (List Opn)}{θ:List Opn}
theorem Wye(h:RO b w.mem w.δ C p x)(f:RO b w.mem w.δ C' p x)(D:MI b w.mem w.δ C)(E:CL2 w.mem C)(t:w.mem.1<=1000000)(y:0<=w.mem.1)(m:x.ζ=1)(u:x.pc<p.1.length)(A:(opN p.1 x.pc).1=5)(n:0<=(opN p.1 x.pc).2.2.1/\(opN p.1 x.pc).2.2.1<=7)
  (B:∀v i z,RC b w.mem w.δ C v i z->RC b w.mem w.δ C' v i z):RO b w.mem w.δ C' p (eS w x (opN p.1 x.pc)):=by
 have l:¬(x.ζ=0\/5<=x.ζ):=by omega
 unfold eS;cases s:bm x.ι (opN p.1 x.pc).2.2.1 with
 |some val=>
  have d:x.C3=false:=by
   by_cases d:x.C3=true
   .have:=(h.pb d).2.2.2.2.2;rw[s]at this;cases this
   .simpa using d
  exact f.mk1 rfl rfl d (by show x.ζ≠2;omega) (by show x.ζ≠4;omega) (h.fam0 (by omega)) (λz=>Wi z l)
 |none=>
  simp only;have o:=OR (rv:=x.rv) D E t h.rv (opN p.1 x.pc).2.2.1 (if x.C3=true then x.pb else((opN p.1 x.pc).2.2.1,0,0,0)) n.1 n.2 (by
   by_cases d:x.C3=true
   .rw[Wb d];obtain⟨_,_,_,a,c,_⟩:=h.pb d;exact .inr ⟨a,c⟩
   .rw[Wa d];exact .inl rfl)
  generalize W7 w.mem x.rv _=q at*;by_cases k:q.2.1=4
  .rw[Wb k];exact PA f m y ⟨rfl,rfl,rfl⟩
  .rw[Wa k];by_cases j:q.2.1=3
   .rw[Wb j];have hr:RC b w.mem w.δ C x.rv (opN p.1 x.pc).2.2.1 q.2.2.2:=by
     rcases o with z|⟨_,z⟩|⟨z,_⟩
     .exact Wi z k
     .exact z
     .exact Wi j z
    refine⟨f.rv,λz=>Wi z l,λr g=>?_,λz=>(by cases z),λz=>?_,λz=>?_,λ_=>h.fam0 (by omega)⟩
    .rcases Xn.1 g with g|g
     .exact f.rd r g
     .rw[bH.1 g];exact B _ _ _ hr
    ·(change x.ζ=4 at z;omega)
    ·(change x.ζ=2 at z;omega)
   .rw[Wa j];refine⟨f.rv,λz=>Wi z l,f.rd,λ_=>?_,λz=>?_,λz=>?_,λ_=>h.fam0 (by omega)⟩
    .rcases o with z|⟨z,_⟩|⟨_,z,e⟩
     .exact Wi z k
     .exact Wi z j
     .exact⟨m,u,A,z,e,s⟩
    ·(change x.ζ=4 at z;omega)
    ·(change x.ζ=2 at z;omega)
theorem TO(h:RO b m H C p x)(a:x.ζ≠2)(c:x.ζ≠4)(d:x.C3=false)(hr:x.ζ=0\/5<=x.ζ->aZ x.μ/\x.μ.length<=300):RO b m H C p (dO w x).2:=
 h.mk1 rfl rfl d a c (h.fam0 a) hr
theorem Wzz(u:POk p)(h:RO b w.mem w.δ C p x)(c:RO b w.mem w.δ C' p x)(F:MI b w.mem w.δ C)(H:CL2 w.mem C)(D:w.mem.1<=1000000)(t:0<=w.mem.1)(e:x.ζ=1)(I:ROk p n x)
  (E:∀v i z,RC b w.mem w.δ C v i z->RC b w.mem w.δ C' v i z):RO b w.mem w.δ C' p (aT w x k p).2:=by
 have g:=I.C4 (by omega);have P:¬(x.ζ=0\/5<=x.ζ):=by omega
 have A:=Mb g u.θ;have J:=h.fam0 (by omega);unfold aT;by_cases j:x.pc>=p.1.length
 .rw[Wb j];have a:x.C3=false:=by
   by_cases a:x.C3=true
   .have:=(h.pb a).2.1;omega
   .simpa using a
  exact Sg c e a A
 .rw[Wa j];simp only;obtain⟨i,G,O,q⟩:=kV (l:=p.1) g.pc.1 (by omega);by_cases d:(opN p.1 x.pc).1=5
  .rw[Wb d];have B:0<=(opN p.1 x.pc).2.2.1/\(opN p.1 x.pc).2.2.1<=7:=by
    have:=(lz (u.θ.ok i G).1 (by rw[←q];exact d)).2;rw[←q]at this;unfold bY at this;simp at this;exact this
   exact Wye h c F H D t e (by omega) d B E
  rw[Wa d];have a:x.C3=false:=by
   by_cases a:x.C3=true
   .exact Wi (h.pb a).2.2.1 d
   .simpa using a
  have f:∀y:Rt,y.rv=x.rv->y.μ=x.μ->y.C3=x.C3->y.ζ=x.ζ->y.fam=x.fam->RO b w.mem w.δ C' p y:=λy K L M Q N=>
   c.mk1 K L (M.trans a) (by omega) (by omega) (N.trans J) (λz=>by omega)
  by_cases o:(opN p.1 x.pc).1=10
  .rw[Wb o];unfold ig;split
   .exact Sg c e a A
   .split
    .exact f _ rfl rfl rfl rfl rfl
    .exact f _ rfl rfl rfl rfl rfl
  rw[Wa o];by_cases s:(opN p.1 x.pc).1=11
  .rw[Wb s];refine⟨c.rv,λz=>(by(change (2:Int)=0\/5<=(2:Int)at z);omega),c.rd,λz=>(by(change x.C3=true at z);rw[a]at z;cases z),λz=>(by(change (2:Int)=4 at z);omega),λ_=>⟨rfl,⟨x.ι,rfl⟩,⟨Wuk,λr hr=>by cases hr⟩⟩,λz=>Wi rfl z⟩
  rw[Wa s];by_cases m:(opN p.1 x.pc).1>=12
  .rw[Wb m];unfold fM;split
   .exact PA c e t ⟨rfl,rfl,rfl⟩
   .exact f _ rfl rfl rfl rfl rfl
  rw[Wa m]
  repeat' split
  all_goals exact f _ rfl rfl rfl rfl rfl
theorem Wyj(h:RO b m H C p x)(e:x.ζ=2)(d:0<=m.1):RO b m H C p (eD x):=by
 unfold eD;split
 .exact Bx d
 .split
  .obtain⟨a,_,c⟩:=h.fam e;refine⟨h.rv,λz=>(by(change (1:Int)=0\/5<=(1:Int)at z);omega),λr hr=>?_,λz=>?_,λz=>(by(change (1:Int)=4 at z);omega),λz=>(by(change (1:Int)=2 at z);omega),λ_=>rfl⟩
   .rcases Xn.1 hr with hr|hr
    .exact h.rd r hr
    .exact c.rd r hr
   .have:=(h.pb z).1;omega
  .exact h
theorem Wsp(I:POk p)(h:RO b w.mem w.δ C p x)(f:RO b w.mem w.δ C' p x)(u:MI b w.mem w.δ C)(A:CL2 w.mem C)(m:w.mem.1<=1000000)(t:0<=w.mem.1)(c:x.ζ=4)(B:ROk p n x)
  (g:∀v i z,RC b w.mem w.δ C v i z->RC b w.mem w.δ C' v i z):RO b w.mem w.δ C' p (ez w x):=by
 have e:=B.C4 (by omega);have E:¬(x.ζ=0\/5<=x.ζ):=by omega
 have H:=e.pos c;have d:x.C3=false:=by
  by_cases d:x.C3=true
  .have:=(h.pb d).1;omega
  .simpa using d
 obtain⟨j,o,k⟩:=h.ext c;have J:x.last.2.1<=x.μ.length:=by
  have G:=e.back (.inr c);have:x.last∈x.κ:=by
   unfold Rt.last c0;rw[Xq,Xp (by omega)];exact Xo _
  exact(e.κ.each _ this).2.1.2.2
 unfold ez;split
 .rename_i ab;simp only;have a:x.pos.toNat<x.μ.length:=by omega
  have y:ah x.μ x.pos (0,0)=x.μ[x.pos.toNat]:=by unfold ah;exact Wn a _
  have af:=e.μ _ (Xo a);split
  .exact Bx t
  .rename_i hc;rw[y]at hc;have D:C0 w.mem x.μ[x.pos.toNat].1=0:=by
    unfold C0;exact Classical.byContradiction λz=>hc (.inl z)
   have s:(WA w.mem x.μ[x.pos.toNat].1).2.1<=x.rv:=by
    rcases Int.lt_or_le x.rv (WA w.mem x.μ[x.pos.toNat].1).2.1 with z|z
    .exact Wi (Or.inr z) hc
    .exact z
   refine⟨f.rv,λz=>Wi z E,f.rd,λz=>?_,λ_=>⟨j,(f.ext c).2.1,λi q l=>?_⟩,λz=>?_,λ_=>h.fam0 (by omega)⟩
   ·(change x.C3=true at z;rw[d]at z;cases z)
   .by_cases he:(i:Int)<x.pos
    .exact g _ _ _ (k i q he)
    .have Cx:(i:Int)<x.pos+1:=l;have:i=x.pos.toNat:=by omega
     subst this;exact g _ _ _ (WzN u A m af.1.1 af.1.2 D s (h.rd _ (Xo a)) j o)
   ·(change x.ζ=2 at z;omega)
 .rename_i fK;refine⟨⟨by have:=h.rv;show 0<=x.C8;omega,(f.ext c).2.1⟩,λz=>(by(change (1:Int)=0\/5<=(1:Int)at z);omega),λr hr=>?_,λz=>?_,λz=>(by(change (1:Int)=4 at z);omega),λz=>(by(change (1:Int)=2 at z);omega),λ_=>h.fam0 (by omega)⟩
  .obtain⟨i,a,rfl⟩:=nq.1 hr;rw[di]at a;have F:i<x.μ.length:=by omega
   have:(x.μ.take x.last.2.1.toNat)[i]'(by rw[di];exact a)=x.μ[i]:=List.getElem_take ..;show RC b w.mem w.δ C' x.C8 (x.μ.take x.last.2.1.toNat)[i].1 (x.μ.take x.last.2.1.toNat)[i].2;rw[this];exact g _ _ _ (k i F (by omega))
  ·(change x.C3=true at z;rw[d]at z;cases z)
theorem WxS(h:RO b m H C p x)(f:x.ζ=5)(e:0<=m.1)(a:x.C3=false){c:Cm}:RO b m H C p (dt {x with cm:=c}):=by
 have d:=h.fam0 (by omega);have hr:=h.ε (.inr (by omega));unfold dt;split
 .exact Bx e
 .split
  .exact h.mk1 rfl rfl a (by show(if x.CZ=2 then(6:Int)else 7)≠2;split<;>omega) (by show(if x.CZ=2 then(6:Int)else 7)≠4;split<;>omega) d λ_=>hr
  .exact h.mk1 rfl rfl a (by show x.ζ≠2;omega) (by show x.ζ≠4;omega) d λ_=>hr
theorem Wyb(G:POk p)(h:RO b w.mem w.δ C p x)(E:MI b w.mem w.δ C)(F:CL2 w.mem C)(K:aq w.mem=true)(P:w.mem.1<1000000)(u:ROk p n x)
  (q:∀v i z,RC b w.mem w.δ C v i z->RC b (ay w x k p).1.mem (ay w x k p).1.δ C' v i z) (O:Mono b w.mem w.δ (ay w x k p).1.mem (ay w x k p).1.δ) (J:w.mem.1<=(ay w x k p).1.mem.1):
  RO b (ay w x k p).1.mem (ay w x k p).1.δ C' p (ay w x k p).2:=by
 have c:=(WP K).2.1;have a:=h.keep q O J;have A:0<=(ay w x k p).1.mem.1:=by omega
 have y:x.ζ≠1->x.C3=false:=λL=>by
  by_cases d:x.C3=true
  .exact Wi (h.pb d).1 L
  .simpa using d
 by_cases g:x.ζ=5
 .by_cases j:x.γ=false
  .obtain⟨R,B,I⟩:=G5 (w:=w) (x:=x) (k:=k) (p:=p) g j;rw[I];exact WxS a g A (y (by omega))
  .have ee:x.γ=true:=by simpa using j
   have e:ay w x k p=(w,if(W4 x.cm).ζ=8 then de x else{x with cm:=W4 x.cm,γ:=false}):=by
    unfold ay;rw[Wa (by omega),Wa (by omega),Wa (by omega),Wa (by omega),Wa (by omega),Wa (by omega),Wb g];unfold ei;rw[Wb ee]
   have B:(ay w x k p).2=if(W4 x.cm).ζ=8 then de x else{x with cm:=W4 x.cm,γ:=false}:=by rw[e]
   rw[B];split
   .exact Bx A
   .exact a.mk1 rfl rfl (y (by omega)) (by show x.ζ≠2;omega) (by show x.ζ≠4;omega) (h.fam0 (by omega)) λ_=>h.ε (.inr (by omega))
 .obtain⟨M,N,_⟩:=Bb (w:=w) (k:=k) (p:=p) g;rw[M,N]at q a⊢;unfold ay;by_cases j:x.γ=true/\1<=x.ζ/\x.ζ<=4
  .rw[Wb j];exact Bx c
  rw[Wa j];by_cases D:x.ζ=0
  .rw[Wb D];unfold il;split
   .exact a
   .split
    .exact a
    .split
     .exact a
     .exact RO.nil c ⟨c,aj _⟩ rfl rfl (by show(1:Int)≠2;omega) (by show(1:Int)≠4;omega) rfl
  rw[Wa D];by_cases r:x.ζ=1
  .rw[Wb r];exact Wzz G h a E F (by omega) c r u q
  rw[Wa r];have d:=y r;by_cases f:x.ζ=2
  .rw[Wb f];exact Wyj a f c
  rw[Wa f];have t:=h.fam0 f;by_cases l:x.ζ=3
  .rw[Wb l];unfold hV;split
   .exact TO a f (by omega) d (λz=>by omega)
   .exact⟨a.rv,λz=>(by(change (4:Int)=0\/5<=(4:Int)at z);omega),a.rd,λz=>(by(change x.C3=true at z);rw[d]at z;cases z),λ_=>⟨h.rv.2,aj _,λi S H=>(by(change (i:Int)<0 at H);omega)⟩,λz=>(by(change (4:Int)=2 at z);omega),λ_=>t⟩
  rw[Wa l];by_cases s:x.ζ=4
  .rw[Wb s];exact Wsp G h a E F (by omega) c s u q
  rw[Wa s,Wa g];have Q:=u.ζ;have hr:=h.ε (.inr (by omega));by_cases m:x.ζ=6
  .rw[Wb m];split
   .exact TO a f s d λ_=>hr
   .exact a.mk1 rfl rfl d (by show(7:Int)≠2;omega) (by show(7:Int)≠4;omega) t λ_=>hr
  rw[Wa m];by_cases o:x.ζ=7
  .rw[Wb o];split
   .exact RO.nil c ⟨aj _,c⟩ rfl rfl (by show(0:Int)≠2;omega) (by show(0:Int)≠4;omega) rfl
   .exact a.mk1 rfl rfl d (by show(8:Int)≠2;omega) (by show(8:Int)≠4;omega) t λ_=>hr
  .rw[Wa o];exact a
end
end
section
section
variable{R:Type}{N kk:Nat}{K0:Tg->List Int->Option R}{K1:Int->Bool->List Int->Int->List M7->List Int->List Int->Option R}
 {M M' I I':V3} {Kc Kc':Int->Int->Prop} {hr:List Rw} {l l':List Hd} {sh md:Shf} {g:Option GE} {k:Nat} {p:Pg} {w v:Wo} {x y:Rt} {n:Int} {T:Tg} {S:List Int×Int} {i:Nat} {u:Un} {c':Cm}
theorem Wws(b:g=none)(h:∀i,¬hld l k i){t rv a:Int}:RA N kk K0 K1 M I Kc hr l sh g k p {ζ:=1,CY:=t,rv:=rv,C7:=a,ξ:=[0,0,0,0]}:=by
 refine RA.C4 b (by simp_all) rfl (λu m=>by cases m) (λ_ T c=>?_) (λj f=>Wi f (Nat.not_lt_zero _)) (λz=>by simp_all) λz=>by simp_all
 refine At0.s ⟨false,⟨λ_=>rfl,λz=>(by cases z)⟩,λz=>(by cases z),λl' _=>⟨N,by simp_all,?_⟩⟩;have e:svw l sh k T []=(T.2.1,T.2.2):=w5 lJ c.ok.map.1 (λi d=>by rw[mP d,Wa (h i)]) (by have:=c.ok.cnt;show(T.2.2+0)%65536=T.2.2;omega);show bgn N kk p T (K0 T) K1 l'=wA N kk p T (K0 T) K1 l' N 0 [0,0,0,0] (svw l sh k T []) [] T.1;rw[e];rfl
theorem WxG(F:1048576<N)(d:POk p)(A:∀c∈p.2,dz c=true)(h:RA N kk K0 K1 M I Kc hr l sh g k p x)(a:x.ζ=2)(J:ROk p n x){Z:Pb->Prop}(u:FB (M x.rv) Z p.2 x.fam):RA N kk K0 K1 M I Kc hr l sh g k p (eD x):=by
 have b:=J.C4 (by omega);have G:=h.g0 (show x.ζ<=4 by omega);obtain⟨o,f,t⟩:=b.fork a;obtain⟨B,q,C,D⟩:=h.fam a;unfold eD;split
 .grind [Eh,eP]
 rename_i Q;split
 .rename_i nF;refine RA.C4 G (by simp_all) (h.fa.2.1 (by omega)) h.hu (λ_ T c=>?_) (λj P=>?_) (λz=>by simp_all) λz=>by simp_all
  .have u7:=ZC (base:=T.1) t d.k3 u.fp.ft C (u.fp.pk (by simp_all)) D nF ⟨_,q⟩ λr e=>c.rd r (Xh _ e);have w:Con Kc l k x.μ T:=⟨c.ok,λr e=>c.rd r (Xm _ e),c.key,c.cnt⟩;exact(Wyv (y:={x with ξ:=oi x.fam,ι:=jV x.fam,μ:=x.μ++x.fam.μ,υ:=x.fam.υ,fam:={},ζ:=1,pc:=x.pc+1}) F d A c.ok (EI c.ok) (h.main (.inr a) T w) b a ⟨o,f⟩ t B q u7 rfl rfl rfl rfl rfl).s
  .have kg:x.κ.length=0:=by
    obtain⟨i,v,H,E⟩:=kV (l:=p.1) b.pc.1 o;rw[E]at f;obtain⟨K,L⟩:=d.θ.fk i v f;have m:=Wp Xb b.κ.pcs;rw[H,Xi]at m;simp only[Xy]at m;have O:=fh d.θ.up i (by omega);omega
   simp_all
 .exact h
theorem WsV(c:POk p)(h:RA N kk K0 K1 M I Kc hr l w.ψ g k p x)(m:ShOk w.ψ)(d:ROk p n x)(b:x.ζ=3):RA N kk K0 K1 M I Kc hr l (hV w x).1.ψ g k p (hV w x).2:=by
 have a:=d.C4 (by omega);have e:=a.back (.inl b);obtain⟨i,r,f⟩:=Eo a c e;have o:=(a.upd _ f).2;unfold hV;split
 .grind [MX]
 .rename_i hu;exact RA.C4 (h.g0 (by omega)) (by simp_all) (h.fa.2.1 (by omega)) h.hu (λz=>by simp_all) (xh h (by omega) rfl rfl (λq j=>rfl) rfl rfl) (λ_=>by show(x.ο.length:Int)<=x.last.2.2.2.1;omega) λz=>by simp_all
theorem Wt6(o:POk p)(h:RA N kk K0 K1 M I Kc hr l sh g k p x)(r:ROk p n x)(e:x.ζ=4):RA N kk K0 K1 M I Kc hr l sh g k p (ez w x):=by
 have b:=r.C4 (by omega);have t:=b.back (.inr e);have i:=h.g0 (show x.ζ<=4 by omega);have f:=h.fa.2.1 (show x.ζ<=4 by omega);obtain⟨d,A,v⟩:=Eo b o t;have D:=(b.upd _ v).2;have m:=h.x4 e;unfold ez;split
 .simp only;split
  .grind [Eh,eP]
  .exact RA.C4 i (by simp_all) f h.hu (λz=>by simp_all) (xh h (by omega) rfl rfl (λq a=>rfl) rfl rfl) (λ_=>m) λz=>by simp_all
 .refine RA.C4 i (by simp_all) f h.hu (λ_ T c=>?_) (w8 (h.blk (by omega)) (Xl _) (λj B=>rfl) rfl (λq a=>?_) (λq a=>?_) (λc=>c) λT C c q a=>rfl) (λz=>by simp_all) λz=>by simp_all
  .have iF:=h.blk (by omega) (x.κ.length-1) (by omega) T (by simp_all);exact(ZE (y:={x with rv:=x.C8,C8:=0,pos:=0,μ:=x.μ.take x.last.2.1.toNat,ι:=x.ι.take x.last.2.2.1.toNat,ξ:=x.last.2.2.2.2,pc:=x.last.1+1,ζ:=1}) iF (by omega) A (by omega) (λz u=>(d z u).2.1) rfl rfl rfl rfl rfl rfl).s
  .have:=(d q a).1;show(x.μ.take _).take _=_;rw[o5,fV (by omega)]
  grind
theorem WzS(h:RA N kk K0 K1 M I Kc hr l sh g k p x)(a:x.ζ=2)(w:ROk p n x){Z:Pb->Prop}(e:FB (M x.rv) Z p.2 x.fam){m:Mm}{j:Nat}(b:j<x.fam.π.length)(i:KC (p.2.getD j [])):RA N kk K0 K1 M I Kc hr l sh g k p {x with fam:=bJ m x.fam j (p.2.getD j [])}:=by
 have v:=w.C4 (by omega);obtain⟨y,A,u⟩:=v.fork a;obtain⟨o,r,s,t⟩:=h.fam a;have d:(bJ m x.fam j (p.2.getD j [])).ξ=x.fam.ξ/\(bJ m x.fam j (p.2.getD j [])).start=x.fam.start:=by
  unfold bJ;split
  .simp_all
  .have:=LH (m:=m) (f:=x.fam) (x:=x.fam.π.getD j {}) (k:=j) (θ:=p.2.getD j []);exact⟨this.2.1,this.2.2.1⟩
 refine RA.C4 (h.g0 (by omega)) (by simp_all) (h.fa.2.1 (by omega)) h.hu (λ_ T c=>(h.main (.inr a) T c).same rfl rfl rfl rfl rfl rfl rfl) (xh h (by omega) rfl rfl (λq B=>rfl) rfl rfl) (λz=>by simp_all) λ_=>⟨d.1.trans o,d.2.trans r,Wvu s e.fp.ft u b i rfl,WvX t e.fp.ft b⟩
theorem WxR(h:RA N kk K0 K1 M I Kc hr l sh g k p x){b:Bool}:RA N kk K0 K1 M I Kc hr l sh g k p {x with γ:=b}:=
 ⟨h.z0,h.fa,h.hu,h.gn,λz T c=>(h.main z T c).same rfl rfl rfl rfl rfl rfl rfl,λz j a T c=>(h.blk z j a T c).keep rfl rfl a a (λq d=>rfl) λq d=>rfl,h.x4,h.fam,h.cl,h.ck,λz e T c=>(h.cs z e T c).same rfl rfl rfl,λz=>(h.fin z).same rfl rfl rfl rfl rfl rfl,h.s8⟩
theorem M9(h:RA N kk K0 K1 M I Kc hr l sh g k p x)(d:x.ζ=5)(hs:stl x=false)(m:c'.rv=x.cm.rv/\c'.μ=x.cm.μ/\c'.χ=x.cm.χ)(u:c'.ζ≠4/\c'.ζ≠5)(s:c'.ζ=3->x.rv<c'.wv/\∀(j:Nat) (t:j<x.cm.μ.length),(j:Int)<c'.pos->∀v,(x.cm.μ[j],v)∈x.μ->M (c'.wv-1) x.cm.μ[j] v){b:Bool}:RA N kk K0 K1 M I Kc hr l sh g k p {x with cm:=c',γ:=b}:=by
 have o:stl {x with cm:=c',γ:=b}=false:=by
  grind [stl,WM]
 obtain⟨e,n,f⟩:=h.cl d;obtain⟨i,q,a⟩:=m;refine⟨h.z0,h.fa,h.hu,λ_=>h.gn hs,λz=>by simp_all,λz=>by simp_all,λz=>by simp_all,λz=>by simp_all,λ_=>⟨i.trans e,λr hr=>by grind,λz=>a.trans (f z)⟩,λ_ z=>?_,λ_ _ T c=>?_,λz=>(by simp_all),λz=>(by simp_all)⟩
 .simp_all
 .show FnS N kk p K0 K1 _ T (ovl T.1 c'.χ) _;rw[a];exact(h.cs d hs T c).same rfl rfl rfl
noncomputable def oO(l:List Hd)(sh:Shf)(k:Nat)(x:Rt)(a:Int):Option GE:=
 open Classical in if x.CZ = 1 then some ⟨a,λ i=>if xld l k i /\ 0 <= i /\ i <= 7 then some (WD sh.1 i) else none,dl x.ο⟩ else none
open Classical in
theorem Wur(h:RA N kk K0 K1 M I Kc [] w.holds w.ψ g k p x)(m:x.ζ=5)(hs:stl x=false)(s:SK Kc w k x)(hH:HOk w.holds){wv:Int}(K:x.rv<wv)(hM:∀r∈x.μ,M (wv-1) r.1 r.2)(hI:∀i,(0<=i/\i<=7/\hld w.holds k i)\/(i=8/\xld w.holds k 8)->∃z,Kc i z/\I' (wv-1) i z)
  (hy:stl y=true) (G:Wq y=wv) (j:y.υ=x.υ) (d:y.CZ=x.CZ) (C:y.ξ=x.ξ) (D:y.rv=x.rv) (Z:y.μ=x.μ) (e6:y.ο=x.ο) (e7:y.ζ=5/\y.cm.ζ≠3/\y.cm.rv=x.cm.rv/\y.cm.μ=x.cm.μ/\y.cm.χ=x.cm.χ\/y.ζ=6/\x.CZ=2\/y.ζ=7/\x.CZ≠2):RA N kk K0 K1 M I' Kc' x.cm.χ w.holds w.ψ (oO w.holds w.ψ k x wv) k p y:=by
 obtain⟨Q,R,S⟩:=h.cl m;obtain⟨V,W,n,X⟩:=h.fa;have n:=n (.inl m);refine⟨λz=>by omega,⟨by omega,λz=>by omega,λ_=>by omega,λz=>by omega⟩,λu hu=>h.hu u (by simp_all),λz=>(by simp_all),λz=>by omega,λz=>by omega,λz=>by omega,λz=>by omega,λz=>?_,λz z3=>by omega,λz f=>(by simp_all),λ_=>?_,λ_ _=>by omega⟩
 .grind
 refine SR.same (x:={y with rv:=x.rv}) ?_ rfl rfl rfl D rfl rfl;have fP:Wq {y with rv:=x.rv}=wv:=G;have J:(if x.rv<wv then wv-1 else wv)=wv-1:=Wb K;have P:∀i,∃z,(0<=i/\i<=7/\hld w.holds k i)\/(i=8/\xld w.holds k 8)->Kc i z/\I' (wv-1) i z:=λi=>by
  by_cases q:(0<=i/\i<=7/\hld w.holds k i)\/(i=8/\xld w.holds k 8)
  .simp_all
  .exact⟨0,λz=>Wi z q⟩
 refine⟨by grind,λr Y=>?_,⟨λz=>?_,λe H=>?_⟩,λi=>(0<=i/\i<=7/\hld w.holds k i)\/(i=8/\xld w.holds k 8),λi=>Classical.choose (P i),λi b=>?_,λT O t2 t3 t4=>?_⟩
 .simp_all
 .refine⟨by simp_all,?_⟩;show y.CZ=1;rw[d];by_cases q:x.CZ=1
  .exact q
  .exfalso;rcases z with z|z
   .unfold oO at z;simp_all
   simp_all
 .grind [oO]
 .grind
 .have c:Con Kc w.holds k x.μ T:=⟨O,by grind,λi i0 i7 b=>by
   grind,λb=>by
   grind⟩
  obtain⟨F,o,q⟩:=h.cs m hs T c;refine⟨F,o.eq j,λl t=>?_⟩;show(y.CZ=1/\∃mk,bgn N kk p T (K0 T) K1 l=K1 (p.1.length:Int) false y.ξ _ mk _ _)\/(y.CZ=2/\bgn N kk p T (K0 T) K1 l=K0 T y.ξ);rw[d,C];rcases q l (λz=>(t z).trans j)with⟨L,q2⟩|q
  .left;have hS:gS (oO w.holds w.ψ k x wv) T=svw w.holds w.ψ k T x.ο:=by
    unfold oO;rw[Wb L];refine w5 (by simp[gS]) lJ (λi b=>?_) rfl;rw[mP b];unfold gS;have U:i.toNat<8:=by omega
    rw[Wn (by simp_all),eX,B1];simp only;rw[show((i.toNat:Nat):Int)=i by omega];by_cases z:xld w.holds k i
    .rw[Wb ⟨z,b.1,b.2⟩,Wb z.h];rfl
    .rw[Wa λy=>z y.1];by_cases f:hld w.holds k i
     .rw[Wb f];refine s.one _ _ _ (c.key i b.1 b.2 f) (s.free i b.1 b.2 λe H j d=>?_);obtain⟨a,v,A,B⟩:=f;by_cases E:a=e
      .subst E;exact z ⟨a,v,A,B,d⟩
      grind [Nz]
     simp_all
   simp_all
  simp_all
theorem HN(h:RA N kk K0 K1 M I Kc hr l sh g k p x)(hs:stl x=true)(v:stl y=true)(d:Wq y=Wq x)(f:y.υ=x.υ)(a:y.CZ=x.CZ)(i:y.ξ=x.ξ)(b:y.rv=x.rv)(j:y.μ=x.μ)(o:y.ζ=0\/y.ζ=8\/(y.ζ=7/\y.CZ≠1)->y.ο= [])(n:HU l' k y)(e:y.CZ≠0/\(y.ζ=6->y.CZ≠1))(c:5<=y.ζ/\(y.ζ=5->x.ζ=5/\y.cm.ζ≠3/\y.cm.rv=x.cm.rv/\y.cm.μ=x.cm.μ/\y.cm.χ=x.cm.χ))(m:y.ζ≠8->x.ζ≠8):RA N kk K0 K1 M I Kc hr l' md g k p y:=by
 refine⟨o,⟨by rw[a];exact h.fa.1,λz=>by omega,λ_=>e.1,e.2⟩,n,λz=>(by simp_all),λz=>by omega,λz=>by omega,λz=>by omega,λz=>by omega,λz=>?_,λz r=>Wi r (c.2 z).2.1,λz C=>(by simp_all),λ_=>(h.fin hs).same f a i b j d,λ_ z=>by rw[d,b];exact h.s8 hs (m z)⟩;obtain⟨q,_,w,A,B⟩:=c.2 z;obtain⟨s,t,u⟩:=h.cl q
 grind
end
end
section
def uK1(u:Un)(i v:Int):Int:=if(u.1=1\/u.1=2)/\u.2.1=i then(if u.1=1 then u.2.2+1 else 0)else v
def gq(us:List Un)(i v:Int):Int:=us.foldr (λu v=>uK1 u i v) v
def dn(x:Rt):Bool:=stl x&&decide (x.CZ=1)
def ov(x:Rt)(i v:Int):Int:=if dn x=true then v else gq x.ο i v
def oc(x:Rt):Int:=if dn x=true then 0 else dl x.ο
section
variable{l hs:List Hd}{k j:Nat}{i v:Int}{w:Wo}{x y:Rt}{q:Wo×Rt}{p:Pg}{n:Int}{u:Un}{us:List Un}
theorem LU:gq (us++ [u]) i v=gq us i (uK1 u i v):=by simp[gq,List.foldr_append]
theorem TU:∀{us:List Un},(∀u∈us,(u.1=1\/u.1=2)->u.2.1≠i)->gq us i v=v
 | [],_=>rfl
 |a::us,h=>by
  show uK1 a i (gq us i v)=v;rw[TU λu b=>h u (Xf _ b)];unfold uK1;rw[Wa λz=>h a (Xg ..) z.1 z.2]
structure SE(w:Wo)(x:Rt)(k:Nat)(q:Wo×Rt):Prop where
 oth:∀j,j≠k->∀i,(hld q.1.holds j i↔hld w.holds j i)/\(xld q.1.holds j i↔xld w.holds j i)
 sh:∀i,0<=i->i<=7->WD q.1.ψ.1 i=WD w.ψ.1 i\/xld q.1.holds k i
 k2:∀i,0<=i->i<=7->xld q.1.holds k i->(xld w.holds k i/\ov q.2 i (WD q.1.ψ.1 i)=ov x i (WD w.ψ.1 i))\/((∀j,¬xld w.holds j i)/\ov q.2 i (WD q.1.ψ.1 i)=WD w.ψ.1 i)
 k1:∀i,0<=i->i<=7->¬xld q.1.holds k i->xld w.holds k i->ov x i (WD w.ψ.1 i)=WD w.ψ.1 i
 cnt:∀c,w.ψ.2=(c+oc x)%65536->q.1.ψ.2=(c+oc q.2)%65536
theorem SE.same(a:q.1.holds=w.holds)(b:q.1.ψ=w.ψ)(d:∀i v,ov q.2 i v=ov x i v)(e:oc q.2=oc x):SE w x k q:=
 ⟨λj _ i=>by rw[a];exact⟨Iff.rfl,Iff.rfl⟩,λi _ _=>.inl (by rw[b]),λi _ _ z=>.inl ⟨by rw[←a];exact z,by rw[b,d]⟩,λi _ _ z g=>Wi (by rw[a];exact g) z,λc f=>by rw[b,e];exact f⟩
theorem Vw(h:dn y=dn x)(a:y.ο=x.ο):(∀i v,ov y i v=ov x i v)/\oc y=oc x:=by
 unfold ov oc;rw[h,a];exact⟨λ_ _=>rfl,rfl⟩
theorem sW(h:dn x=false):(∀i v,ov x i v=gq x.ο i v)/\oc x=dl x.ο:=by
 unfold ov oc;rw[h];exact⟨λ_ _=>rfl,rfl⟩
theorem sH(h:stl x=false):dn x=false:=by unfold dn;rw[h];rfl
theorem SE.un(c:q.1.holds=w.holds)(d:q.1.ψ=w.ψ)(f:stl x=false)(g:stl q.2=false)(e:q.2.ο=x.ο):SE w x k q:=by
 obtain⟨a,b⟩:=Vw ((sH g).trans (sH f).symm) e;exact .same c d a b
theorem SE.st(c:q.1.holds=w.holds)(d:q.1.ψ=w.ψ)(h:stl q.2=stl x)(e:q.2.CZ=x.CZ)(f:q.2.ο=x.ο):SE w x k q:=by
 obtain⟨a,b⟩:=Vw (show dn q.2=dn x by unfold dn;rw[h,e]) f;exact .same c d a b
theorem Ms(h:ShOk w.ψ)(d:UnV u):WD (eM w.ψ u).1 i=uK1 u i (WD w.ψ.1 i)/\(eM w.ψ u).2=(if u.1=3 then(w.ψ.2-u.2.2+65536)%65536 else w.ψ.2):=by
 rcases d with⟨a,b,c⟩|⟨a,b,c⟩|⟨a,b,c⟩
 .have e:eM w.ψ u=(ij w.ψ.1 u.2.1 u.2.2,w.ψ.2):=by unfold eM;rw[Wb a]
  rw[e,Wa (by omega)];refine⟨?_,rfl⟩;simp only;rw[AB h.slots b c];unfold uK1;by_cases e:i=u.2.1
  .rw[Wb e,Wb ⟨.inl a,e.symm⟩,Wb a]
  .rw[Wa e,Wa λz=>e z.2.symm]
 .have e:eM w.ψ u=(ou w.ψ.1 u.2.1,w.ψ.2):=by unfold eM;rw[Wa (by omega),Wb a]
  rw[e,Wa (by omega)];refine⟨?_,rfl⟩;simp only;rw[DM h.slots];unfold uK1;by_cases e:i=u.2.1
  .rw[Wb e,Wb ⟨.inr a,e.symm⟩,Wa (by omega)]
  .rw[Wa e,Wa λz=>e z.2.symm]
 .have e:eM w.ψ u=(w.ψ.1,(w.ψ.2-u.2.2+65536)%65536):=by unfold eM;rw[Wa (by omega),Wa (by omega),Wb a]
  rw[e,Wb a];refine⟨?_,rfl⟩;unfold uK1;rw[Wa (by omega)]
theorem WsS{s:Shf}{o:Opn}{r:List Int}(h:ShOk s)(hr:Vals 4 r)(d:ax o=true)(f:12<=o.1):((W0 o).1<=7/\(W0 o).2=2/\(∀i,i≠(W0 o).1->WD (WK s o r).1.1 i=WD s.1 i)/\(WK s o r).2.2=gL (W0 o).1 (WD s.1 (W0 o).1)/\(WK s o r).1.2=s.2)\/(((W0 o).2=1\/(W0 o).1=8)/\(WK s o r).1.1=s.1/\(((WK s o r).2.2.1=0/\(WK s o r).1.2=s.2)\/((WK s o r).2.2.1=3/\(WK s o r).1.2=(s.2+(WK s o r).2.2.2.2)%65536))):=by
 unfold WK W0;by_cases b:o.1=12
 .have o1:=hP.1 (qj d b).1;have e:0<=ah r o.2.2.1 0/\ah r o.2.2.1 0<=65535:=hr.get o.2.2.1.toNat;rw[Wb b,Wb (.inl b)];exact .inl ⟨o1.2,rfl,λi c=>by show WD (ij s.1 o.2.1 _) i=_;rw[AB h.slots o1 e,Wa c],rfl,rfl⟩
 by_cases a:o.1=14
 .have o1:=hP.1 (qn d a).1;simp only[Wa b,Wa (show¬o.1=13 by omega),Wb a,Wb (show o.1=12\/o.1=14 from .inr a)];exact .inl ⟨o1.2,trivial,λi c=>by rw[DM h.slots,Wa c],trivial,trivial⟩
 right;have g:=ly d
 grind
theorem Nc(h:GOk w)(s:ROk p n x)(r:HU w.holds k x)(o:x.ο≠ [])(b:dn x=false):SE w x k (dO w x):=by
 have f:=Ut o;have l:c0 x.ο (0,0,0)∈x.ο:=by
  have:=f;generalize c0 x.ο (0,0,0)=u at*;rw[this];simp
 have a:=s.ο _ l;have g:dn (dO w x).2=false:=b;have t:∀i,0<=i/\i<=7->ov (dO w x).2 i (WD (dO w x).1.ψ.1 i)=ov x i (WD w.ψ.1 i):=λi C=>by
  unfold ov;rw[b,g,Wa (by simp),Wa (by simp)]
  conv=>rhs;rw[f]
  rw[LU,←(Ms h.ψ a).1];rfl
 refine⟨λj _ i=>⟨Iff.rfl,Iff.rfl⟩,λi d e=>?_,λi d e z=>.inl ⟨z,t i ⟨d,e⟩⟩,λi d e z B=>Wi B z,λc m=>?_⟩
 .show WD (eM w.ψ _).1 i=_\/_;rw[(Ms h.ψ a).1];by_cases z:((c0 x.ο (0,0,0)).1=1\/(c0 x.ο (0,0,0)).1=2)/\(c0 x.ο (0,0,0)).2.1=i
  .right;have:=(r _ l).1 z.1;rw[z.2]at this;exact this
  .left;unfold uK1;rw[Wa z]
 .show(eM w.ψ _).2=_;rw[(Ms h.ψ a (i:=0)).2];have A:dl x.ο=dl x.ο.dropLast+(if(c0 x.ο (0,0,0)).1=3 then(c0 x.ο (0,0,0)).2.2 else 0):=by
   conv=>lhs;rw[f]
   exact rN
  have v:oc x=dl x.ο:=by unfold oc;rw[b];rfl
  have y:oc (dO w x).2=dl x.ο.dropLast:=by unfold oc;rw[g];rfl
  rw[v,A]at m;rw[y,m];have:(c0 x.ο (0,0,0)).1=3->0<=(c0 x.ο (0,0,0)).2.2/\(c0 x.ο (0,0,0)).2.2<=65535:=λz=>by
   rcases a with q|q|q
   .omega
   .omega
   .exact q.2.2
  split<;>omega
theorem F3:stl (WR x)=false/\(WR x).ο=x.ο:=by
 unfold WR;split
 .refine⟨?_,rfl⟩;unfold stl de;simp
 .exact⟨eP (by show(3:Int)<=4;omega),rfl⟩
theorem WvD{o:Opn}(h:GOk w)(U:Vals 4 x.ξ)(I:ax o=true)(F:12<=o.1)(W:HU w.holds k x)(G:x.ζ=1)(hH:∀e∈w.holds,∃j:Nat,e.1=(j:Int)+1):SE w x k (fM w x k o):=by
 have J:stl x=false:=eP (by omega);unfold fM;cases ha:hZ w.holds ((k:Int)+1) (W0 o).1 (W0 o).2 with
 |none=>exact SE.un rfl rfl J F3.1 F3.2
 |some hs=>
  obtain⟨mr,X⟩:=Sm I F;have A:=VC h.holds X ha;have T:=WsS h.ψ U I F;have vo:=h.ψ.cnt;generalize WK w.ψ o x.ξ=b at*;have L:=sH J;have E:∀y:Rt,y.ζ=1->dn y=false:=λy z=>sH (eP (by omega));have p:∀i v,ov x i v=gq x.ο i v:=(sW L).1;have q:∀i v,ov {x with ξ:=b.2.1,ο:=if b.2.2.1=0 then x.ο else x.ο++ [b.2.2],pc:=x.pc+1} i v=gq (if b.2.2.1=0 then x.ο else x.ο++ [b.2.2]) i v:=(sW (x:={x with ξ:=b.2.1,ο:=if b.2.2.1=0 then x.ο else x.ο++ [b.2.2],pc:=x.pc+1}) (E _ G)).1;have m:oc x=dl x.ο:=(sW L).2;have n:oc {x with ξ:=b.2.1,ο:=if b.2.2.1=0 then x.ο else x.ο++ [b.2.2],pc:=x.pc+1}=dl (if b.2.2.1=0 then x.ο else x.ο++ [b.2.2]):=(sW (x:={x with ξ:=b.2.1,ο:=if b.2.2.1=0 then x.ο else x.ο++ [b.2.2],pc:=x.pc+1}) (E _ G)).2;have D:∀i,¬xld w.holds k i->∀v,gq x.ο i v=v:=λi z v=>TU λu V C e=>z (e▸(W u V).1 C);rcases T with⟨P,r,s,Q,R⟩|⟨P,r,s⟩
  .have Cz:b.2.2.1≠0/\uK1 b.2.2 (W0 o).1 (WD b.1.1 (W0 o).1)=WD w.ψ.1 (W0 o).1/\(∀i,i≠(W0 o).1->∀v,uK1 b.2.2 i v=v)/\b.2.2.1≠3:=by
    rw[Q];unfold gL uK1;have:=Gx w.ψ.1 (W0 o).1;split<;>grind
   obtain⟨K,Y,Z,t4⟩:=Cz;refine⟨A.oth,λi g l=>?_,λi g l z=>?_,λi g l z d=>Wi ((A.xx i).2 (.inl d)) z,λc f=>?_⟩
   .by_cases e:i=(W0 o).1
    .exact .inr ((A.xx i).2 (.inr ⟨e,r⟩))
    .exact .inl (s i e)
   .rw[p,q,Wa K,LU];by_cases e:i=(W0 o).1
    .subst e;show(_/\gq x.ο _ (uK1 _ _ (WD b.1.1 _))=_)\/(_/\gq x.ο _ (uK1 _ _ (WD b.1.1 _))=_);rw[Y];by_cases d:xld w.holds k (W0 o).1
     .exact .inl ⟨d,rfl⟩
     .refine .inr ⟨λj H=>?_,D _ d _⟩;by_cases S:j=k
      .subst S;exact d H
      .obtain⟨a,M,a2,N,O⟩:=H;exact(A.free a M N (by omega)).2 O
    .left;rw[Z i e];refine⟨((A.xx i).1 z).resolve_right λz=>e z.1,?_⟩;show gq x.ο i (WD b.1.1 i)=_;rw[s i e]
   .rw[m]at f;rw[n,Wa K,rN,Wa t4];show b.1.2=_;rw[R,f];congr 1;omega
  .have C:∀i v,gq (if b.2.2.1=0 then x.ο else x.ο++ [b.2.2]) i v=gq x.ο i v:=λi v=>by
    split
    .rfl
    .rename_i z;rw[LU];unfold uK1;rw[Wa (by omega)]
   refine⟨A.oth,λi g l=>.inl (by show WD b.1.1 i=_;rw[r]),λi g l z=>.inl ⟨?_,?_⟩,λi g l z d=>Wi ((A.xx i).2 (.inl d)) z,λc f=>?_⟩
   .exact((A.xx i).1 z).resolve_right λz=>by omega
   .rw[p,q,C];show gq x.ο i (WD b.1.1 i)=_;rw[r]
   .rw[m]at f;rw[n];show b.1.2=_;rcases s with⟨t,B⟩|⟨t,B⟩
    .rw[Wb t,B,f]
    .rw[Wa (by omega),rN,Wb t,B,f];omega
theorem SG{i:Int}:(hld (W1 l ((k:Int)+1)) j i↔hld l j i/\j≠k)/\(xld (W1 l ((k:Int)+1)) j i↔xld l j i/\j≠k):=by
 have g:∀e:Hd,e∈W1 l ((k:Int)+1)↔e∈l/\e.1≠(k:Int)+1:=λe=>by
  unfold W1;rw[dA];simp
 unfold hld xld;constructor
 .constructor
  .rintro⟨e,c,d,f⟩;obtain⟨a,b⟩:=(g e).1 c;exact⟨⟨e,a,d,f⟩,by omega⟩
  .rintro⟨⟨e,c,d,f⟩,h⟩;exact⟨e,(g e).2 ⟨c,by omega⟩,d,f⟩
 .constructor
  .rintro⟨e,c,d,f⟩;obtain⟨a,b⟩:=(g e).1 c;exact⟨⟨e,a,d,f⟩,by omega⟩
  .rintro⟨⟨e,c,d,f⟩,h⟩;exact⟨e,(g e).2 ⟨c,by omega⟩,d,f⟩
theorem Tp(d:q.1.holds=W1 w.holds ((k:Int)+1))(e:q.1.ψ=w.ψ)(h:dn x=true\/x.ο= [])(p:q.2.ο= []):SE w x k q:=by
 have m:∀i v,ov x i v=v:=λi v=>by unfold ov;rcases h with z|z<;>rw[z]<;>simp[gq]
 have n:oc x=0:=by unfold oc;rcases h with z|z<;>rw[z]<;>simp[dl]
 have o:oc q.2=0:=by unfold oc;rw[p];simp[dl]
 refine⟨λj g i=>?_,λi _ _=>.inl (by rw[e]),λi _ _ z=>?_,λi _ _ _ _=>m _ _,λc f=>by rw[e,o];rw[n]at f;exact f⟩
 .rw[d];obtain⟨a,b⟩:=SG (l:=w.holds) (k:=k) (j:=j) (i:=i);exact⟨by rw[a];exact⟨λz=>z.1,λz=>⟨z,g⟩⟩,by rw[b];exact⟨λz=>z.1,λz=>⟨z,g⟩⟩⟩
 .rw[d,SG.2]at z;exact Wi rfl z.2
end
end
section
section
variable{b:Int->Int}{s:Sc}{w v:Wo}{n:Int}{x y:Rt}{k:Nat}{p:Pg}{o:Opn}{m m':Mm}{H H':List Wr}{C C':Nat->Option Cm}{c:Cm}{a:Ac}
theorem Wy9(g:MI b m H C)(i:CmOk c)(p:aq m=true)(j:m.1<1000000)(o:C k=some c)(s:c.ζ<=3)(a:(Wv m c).2.ζ=4):(Wv m c).2.χ=c.χ/\∀h∈H,h.1≠(Wv m c).2.wv:=by
 have q:=i.ζ;revert a;unfold Wv;simp only;by_cases d:c.ζ=1
 .rw[Wb d];split
  .intro a;have:(WB c 2).ζ=1\/(WB c 2).ζ=2:=by
    unfold WB;split
    .right;show cb c 2=2;unfold cb;rw[Wa (by omega),Wa (by omega)]
    .left;exact d
   simp only at a;omega
  .intro a;simp only at a;have:=jG c c.pos;omega
 rw[Wa d];by_cases f:c.ζ=2
 .have et:tick m=((m.1+1,m.2),m.1+1):=by unfold tick;rw[Wb j]
  have r:=(WP p).2.1;rw[Wb f,et];simp only;rw[Wa (by omega)];intro _;refine⟨rfl,λh e=>?_⟩;have:=g.st h e;show h.1≠m.1+1;omega
 rw[Wa f,Wb (by omega)];split
 .intro a;simp only at a;have:=jG c c.χ.length;omega
 .intro _;obtain⟨l,_,n⟩:=q0 c 4;refine⟨l,λh e=>?_⟩;show h.1≠(WB c 4).wv;rw[n];exact(g.fr k c o (by omega)).2.2 h e
theorem NG:∀(n:Nat) (l:List Int),l.Nodup->(∀x∈l,1<=x/\x<=n)->l.length<=n
 |0,l,_,h=>by
  cases l with
  |nil=>simp
  |cons a l=>have:=h a (Xg ..);omega
 |n+1,l,c,h=>by
  by_cases d:((n+1:Nat):Int)∈l
  .have:=NG n (l.erase ((n+1:Nat):Int)) (c.erase _) λx b=>by
    obtain⟨i,f⟩:=(List.Nodup.mem_erase_iff c).1 b;have:=h x f;omega
   rw[List.length_erase_of_mem d]at this;omega
  .have:=NG n l c λx b=>by
    have:=h x b;have g:x≠((n+1:Nat):Int):=λe=>d (e▸b);omega
   omega
structure HW(l:List Rt)(H:List Wr):Prop where
 who:∀h∈H,∃k:Nat,∃hk:k<l.length,h.2.1=(k:Int)+1/\stl l[k]=true
 nod:(H.map (·.2.1)).Nodup
 dist:H.Pairwise λa b=>a.1≠b.1
 up:∀h∈H,h.2.2.Pairwise λa b=>a.1<b.1
theorem HW.stay{l l':List Rt}(h:HW l H)(g:l.length=l'.length)(hs:∀(i:Nat) (h:i<l.length) (f:i<l'.length),stl l[i]=true->stl l'[i]=true):HW l' H:=
 ⟨λe c=>by
  obtain⟨k,d,a,b⟩:=h.who e c;exact⟨k,by omega,a,hs k d (by omega) b⟩,h.nod,h.dist,h.up⟩
theorem HW.len{l:List Rt}(h:HW l H)(g:l.length<=4):H.length<=4:=by
 have a:=NG 4 (H.map (·.2.1)) h.nod λz c=>by
  obtain⟨e,b,rfl⟩:=Xz.1 c;obtain⟨k,f,d,_⟩:=h.who e b;omega
 simpa using a
theorem HW.app{l l':List Rt}(h:HW l H)(x:k<l.length)(y:l'.length=l.length)(hs:∀(i:Nat) (h:i<l.length) (w:i<l'.length),stl l[i]=true->stl l'[i]=true){e:Wr}(r:e.2.1=(k:Int)+1)(n:stl l[k]=false)(o:stl (l'[k]'(by omega))=true)(p:∀z∈H,z.1≠e.1)(s:e.2.2.Pairwise λa b=>a.1<b.1):HW l' (H++ [e]):=by
 refine⟨λz c=>?_,?_,?_,λz c=>?_⟩
 .rcases Xn.1 c with c|c
  .obtain⟨j,m,g,d⟩:=h.who z c;exact⟨j,by omega,g,hs j m (by omega) d⟩
  .rw[bH.1 c];exact⟨k,by omega,r,o⟩
 .rw[List.map_append,List.nodup_append];refine⟨h.nod,by simp,λz c u f=>?_⟩;obtain⟨v,t,rfl⟩:=Xz.1 c;simp only[List.map_cons,cV,bH]at f;obtain⟨j,m,g,d⟩:=h.who v t;intro q;have:j=k:=by omega
  subst this;rw[n]at d;cases d
 .rw[dx];refine⟨h.dist,List.pairwise_singleton ..,λz c u f=>?_⟩;rw[bH.1 f];exact p z c
 .rcases Xn.1 c with c|c
  .exact h.up z c
  .rw[bH.1 c];exact s
theorem Wym(d:WOk s.2.1 n w)(v:WX w)(y:WT w)(M:MI b w.mem w.δ (ar w.η))(q:HW w.η w.δ)(Q:n<=99999):HW (cM s w a).η (cM s w a).δ:=by
 have u:=Ro (a:=a) d v;have A:=u.2.len;have r:∀(i:Nat) (h:i<w.η.length) (P:i<(cM s w a).η.length),stl w.η[i]=true->stl (cM s w a).η[i]=true:=λi G H hs=>((u.2.root i G H).st hs).1;have B:w.mem.1<1000000:=by have:=y.clk;have:=d.now;omega
 have I:(cM s w a).δ=w.δ\/∃k:Nat,∃c:k<w.η.length,(w.η[k].ζ=5/\w.η[k].γ=false/\w.η[k].cm.ζ<=3/\(Wv w.mem w.η[k].cm).2.ζ=4)/\(cM s w a).δ=w.δ++ [((Wv w.mem w.η[k].cm).2.wv,(k:Int)+1,(Wv w.mem w.η[k].cm).2.χ)]/\(cM s w a).η[k]?=some (dt {w.η[k]with cm:=(Wv w.mem w.η[k].cm).2}):=by
  unfold cM;simp only;split
  .rename_i hb;have c:a.2.1.toNat<w.η.length:=by omega
   rw[Wn c];generalize a.2.1.toNat=k at*;split
   .unfold m0;rw[Wn (show k<({w with now:=w.now+1}:Wo).η.length from c)];have hr:=si d c;show(ay {w with now:=w.now+1} w.η[k] k (s.2.1.getD k pg0)).1.δ=_\/_;by_cases l:w.η[k].ζ=5
    .by_cases o:w.η[k].γ=false
     .obtain⟨O,g,E⟩:=G5 (w:={w with now:=w.now+1}) (x:=w.η[k]) (k:=k) (p:=s.2.1.getD k pg0) l o;by_cases m:w.η[k].cm.ζ<=3/\(Wv w.mem w.η[k].cm).2.ζ=4
      .right;refine⟨k,c,⟨l,o,m.1,m.2⟩,?_,?_⟩
       .show(ay {w with now:=w.now+1} w.η[k] k (s.2.1.getD k pg0)).1.δ=_;rw[g];unfold cn;rw[Wb m]
       .show((ay {w with now:=w.now+1} w.η[k] k (s.2.1.getD k pg0)).1.η.set k _)[k]?=_;rw[hr,oQ c,E]
      .left;rw[g];unfold cn;rw[Wa m]
     .left;have F:w.η[k].γ=true:=by simpa using o
      unfold ay;rw[Wa (by omega),Wa (by omega),Wa (by omega),Wa (by omega),Wa (by omega),Wa (by omega),Wb l];unfold ei;rw[Wb F]
    .left;obtain⟨_,L,_⟩:=Bb (w:={w with now:=w.now+1}) (k:=k) (p:=s.2.1.getD k pg0) l;exact L
   .left;split
    .split<;>rfl
    .split
     .split<;>rfl
     .rfl
  .left;rfl
 rcases I with e|⟨k,c,⟨f,N,C,t⟩,e,j⟩
 .rw[e];exact q.stay A r
 .rw[e];obtain⟨J,K⟩:=Wy9 (k:=k) M ((d.root k c).comm f) d.mem B (by rw[Bu c];unfold cmX;rw[Wb f]) C t;have D:k<(cM s w a).η.length:=by omega
  rw[Xp D]at j;have j:=Option.some.inj j;refine q.app (k:=k) (e:=((Wv w.mem w.η[k].cm).2.wv,(k:Int)+1,(Wv w.mem w.η[k].cm).2.χ)) c (by omega) r rfl ?_ ?_ K (by show(Wv w.mem w.η[k].cm).2.χ.Pairwise _;rw[J];exact((d.root k c).comm f).pup)
  .rw[Bool.eq_false_iff];intro z;rcases WM.1 z with z|z|z<;>omega
  .rw[j];have g:dt {w.η[k]with cm:=(Wv w.mem w.η[k].cm).2}={w.η[k]with cm:=(Wv w.mem w.η[k].cm).2}:=by
    unfold dt;rw[Wa (by simp only;omega),Wa (by simp only;omega)]
   rw[g];exact WM.2 (.inr (.inl ⟨f,.inl t⟩))
def ROs(b:Int->Int)(s:Sc)(w:Wo):Prop:=∀(k:Nat) (h:k<w.η.length),RO b w.mem w.δ (ar w.η) (s.2.1.getD k pg0) w.η[k]
structure OA(b:Int->Int)(s:Sc)(n:Int)(w:Wo):Prop where
 ok:WOk s.2.1 n w
 wx:WX w
 lx:LX w
 wt:WT w
 mi:MI b w.mem w.δ (ar w.η)
 ro:ROs b s w
 hw:HW w.η w.δ
theorem MZ(h:OA b s n w)(Q:n<=99999):OA b s (n+1) (cM s w a):=by
 have T:=Ro (a:=a) h.ok h.wx;have S:=TC (a:=a) h.ok;have o:=Wt2 (a:=a) h.ok h.lx h.wx h.wt (by omega) h.mi;refine⟨S,T.1,WyL h.ok h.wx h.lx,Wx8 h.ok h.wt,o.1,?_,?_⟩
 .have aa:=h.ok.len;have G:w.mem.1<1000000:=by have:=h.wt.clk;have:=h.ok.now;omega
  have x:CL2 w.mem (ar w.η):=Nx h.ok h.lx;revert o;unfold H5 cM;simp only;split
  .rename_i hb;have c:a.2.1.toNat<w.η.length:=by omega
   rw[Wn c];generalize a.2.1.toNat=k at*;split
   .unfold m0;rw[Wn (show k<({w with now:=w.now+1}:Wo).η.length from c)];have l:=h.ok.root k c;have hr:=si h.ok c;have E:=WvF (b:=b) (p:=s.2.1.getD k pg0) h.ok h.wx c rfl;have C:w.mem.1<=(ay {w with now:=w.now+1} w.η[k] k (s.2.1.getD k pg0)).1.mem.1:=(UE (n:=n) (h.wx k c) l ⟨h.ok.mem,h.ok.ψ,h.ok.holds⟩ (w:={w with now:=w.now+1}) (k:=k) ⟨(h.lx.root k c).cm,(h.lx.root k c).no,(h.lx.root k c).hd,(h.lx.root k c).tk⟩).clk;have u:POk (s.2.1.getD k pg0):=h.ok.progs _ (by rw[Wn (show k<s.2.1.length by omega)];exact Xo _);generalize g:ay {w with now:=w.now+1} w.η[k] k (s.2.1.getD k pg0)=q at*;intro o;have F:∀v i z,RC b w.mem w.δ (ar w.η) v i z->RC b q.1.mem q.1.δ (ar (Wo.put q k).η) v i z:=o.2;intro j f;change j<(q.1.η.set k q.2).length at f;have I:j<w.η.length:=by rw[aK,hr]at f;exact f
    show RO b q.1.mem q.1.δ (ar (Wo.put q k).η) _ ((q.1.η.set k q.2)[j]'f);rw[ex];split
    .rename_i e;subst e;have:=Wyb (w:={w with now:=w.now+1}) (k:=k) (C':=ar (Wo.put q k).η) u (h.ro k c) h.mi x h.ok.mem G l (by rw[g];exact F) (by rw[g];exact E) (by rw[g];exact C);rw[g]at this;exact this
    .simp only[hr];exact(h.ro j I).keep F E C
   .have same:∀y:Rt,cmX y=cmX w.η[k]->RO b w.mem w.δ (ar w.η) (s.2.1.getD k pg0) y->ROs b s (Wo.put ({w with now:=w.now+1},y) k):=λy R d j f=>by
     have r:(Wo.put ({w with now:=w.now+1},y) k).η=w.η.set k y:=rfl;have P:ar (Wo.put ({w with now:=w.now+1},y) k).η=ar w.η:=by
      rw[r,GO c,R,←Bu c];funext i;unfold co;split
      .rename_i e;rw[e]
      .rfl
     show RO b w.mem w.δ (ar (Wo.put ({w with now:=w.now+1},y) k).η) _ _;rw[P];simp only[r,ex];split
     .rename_i e;subst e;exact d
     .exact h.ro j (by rw[r,aK]at f;exact f)
    split
    .split
     .rename_i hc;intro _;have t:=hc.1;have l:=h.ok.root k c;have H:=l.C4 (by omega);obtain⟨_,_,D⟩:=H.fork t;obtain⟨B,K,L⟩:=(h.ro k c).fam t;have u:POk (s.2.1.getD k pg0):=h.ok.progs _ (by rw[Wn (show k<s.2.1.length by omega)];exact Xo _);have A:a.2.2.toNat<(s.2.1.getD k pg0).2.length:=by omega
      have U:(s.2.1.getD k pg0).2.getD a.2.2.toNat []=(s.2.1.getD k pg0).2[a.2.2.toNat]:=Wn A _;obtain⟨M,N,V,O⟩:=WwE (m:=w.mem) (k:=a.2.2.toNat) (θ:=(s.2.1.getD k pg0).2.getD a.2.2.toNat []) L D (by rw[D.len];exact A) h.ok.mem (by rw[U];exact u.π _ (Xo _)) rfl (by rw[B];exact OR h.mi x (by omega) (h.ro k c).rv);have d:=h.ro k c;refine same {w.η[k]with fam:=bJ w.mem w.η[k].fam a.2.2.toNat ((s.2.1.getD k pg0).2.getD a.2.2.toNat [])} rfl ⟨d.rv,d.ε,d.rd,d.pb,d.ext,λ_=>⟨N.trans B,?_,M⟩,λz=>Wi t z⟩;obtain⟨ε,J⟩:=K;exact⟨ε,O.trans J⟩
     .intro _;exact h.ro
    .split
     .split
      .intro _;have d:=h.ro k c;exact same {w.η[k]with γ:=true} rfl ⟨d.rv,d.ε,d.rd,d.pb,d.ext,d.fam,d.fam0⟩
      .intro _;exact h.ro
     .intro _;exact h.ro
  .intro _;exact h.ro
 .exact Wym h.ok h.wx h.wt h.mi h.hw Q
theorem TZ:∀(l:List Ac) (n:Int) (w:Wo),OA b s n w->n+l.length<=99999->OA b s (n+l.length) (l.foldl (cM s) w)
 | [],n,w,h,_=>by simpa using h
 |e::l,n,w,h,hn=>by
  simp only[List.length_cons]at hn
  push_cast at hn
  have:=TZ l (n+1) _ (MZ (a:=e) h (by omega)) (by omega);rw[show n+((e::l).length:Int)=n+1+(l.length:Int) by simp;omega];exact this
end
end
section
def ow(x:Rt):Option Int:=if x.ζ=5/\x.cm.ζ=3 then some x.cm.wv else if stl x=true/\x.rv<Wq x then some (Wq x)else none
section
variable{R:Type}{N kk:Nat}{K0:Tg->List Int->Option R}{K1:Int->Bool->List Int->Int->List M7->List Int->List Int->Option R}
 {M I:V3} {Kc:Int->Int->Prop} {hr:List Rw} {g:Option GE} {k:Nat} {p:Pg} {w:Wo} {x y:Rt} {q:Wo×Rt} {n:Int} {i:Nat} {o:Opn} {m:Mm} {c:Cm}
structure NO(N kk:Nat)(K0:Tg->List Int->Option R)(K1:Int->Bool->List Int->Int->List M7->List Int->List Int->Option R)(M I:V3)(Kc:Int->Int->Prop)(hr:List Rw)(g:Option GE)(k:Nat)(p:Pg)(w:Wo)(x:Rt)(q:Wo×Rt):Prop where
 ra:RA N kk K0 K1 M I Kc hr q.1.holds q.1.ψ g k p q.2
 se:SE w x k q
 ow:ow q.2=none\/(ow q.2=ow x/\(x.ζ=5/\x.cm.ζ=3\/stl x=true))\/(ow q.2=some (w.mem.1+1)/\q.1.mem.1=w.mem.1+1)
 hh:x.ζ=5->q.1.holds=w.holds
 p5:q.2.ζ=5->q.2.cm.ζ=3->x.ζ=5
 δ:q.1.δ=w.δ
 nst:x.ζ=5->stl x=false->stl q.2=false
structure SO(N kk:Nat)(K0:Tg->List Int->Option R)(K1:Int->Bool->List Int->Int->List M7->List Int->List Int->Option R)(M:V3)(Kc:Int->Int->Prop)(k:Nat)(p:Pg)(w:Wo)(x:Rt)(q:Wo×Rt):Prop where
 hh:q.1.holds=w.holds
 hs:q.1.ψ=w.ψ
 h5:x.ζ=5
 sx:stl x=false
 sy:stl q.2=true
 rv:q.2.rv<Wq q.2
 ow:(x.cm.ζ=3/\x.cm.wv=Wq q.2)\/(Wq q.2=w.mem.1+1/\q.1.mem.1=w.mem.1+1)
 np:q.2.ζ=5->q.2.cm.ζ≠3
 CZ:q.2.CZ=x.CZ
 und:q.2.ο=x.ο
 δ:q.1.δ=if x.cm.χ= []then w.δ else w.δ++ [(Wq q.2,(k:Int)+1,x.cm.χ)]
 ra:∀(I':V3) (Kc':Int->Int->Prop),(∀i,(0<=i/\i<=7/\hld w.holds k i)\/(i=8/\xld w.holds k 8)->∃z,Kc i z/\I' (Wq q.2-1) i z)->RA N kk K0 K1 M I' Kc' x.cm.χ w.holds w.ψ (oO w.holds w.ψ k x (Wq q.2)) k p q.2
theorem qk(hs:stl x=false)(a:x.ζ≠5\/x.cm.ζ≠3):ow x=none:=by
 unfold ow;rw[Wa (by omega),hs,Wa (by simp)]
theorem N1(a:stl x=true)(b:stl y=true)(d:Wq y=Wq x)(e:y.rv=x.rv):ow y=ow x:=by
 have c:∀z:Rt,stl z=true->¬(z.ζ=5/\z.cm.ζ=3):=λz h=>by
  rw[WM]at h;omega
 unfold ow;rw[Wa (c x a),Wa (c y b),a,b,d,e]
theorem SJ{a:Int}(f:x.ζ=1)(d:HU w.holds k x)(e:∀u∈x.ο,UnV u)(c:stl x=false):SE w x k (ec w x k a)/\ow (ec w x k a).2=none/\((ec w x k a).2.ζ=5->(ec w x k a).2.cm.ζ≠3)/\(ec w x k a).1.δ=w.δ:=by
 unfold ec;simp only;generalize (if a=2 then []else x.ι)=ε;split
 .rename_i hz;have b:=UQ d e λi=>UR hz.2;have hs:stl (eU w {x with CZ:=a,Dc:=x.rv} k).2=true:=by rw[WM];exact .inl rfl
  refine⟨SE.same rfl rfl (λi v=>?_) ?_,?_,λz=>by(change (8:Int)=5 at z;omega),rfl⟩
  .unfold ov;rw[b];show(if _ then v else gq [] i v)=_;simp[gq]
  .unfold oc;rw[b];show(if _ then(0:Int)else dl [])=_;simp[dl]
  .unfold ow;rw[Wa (by show¬((8:Int)=5/\_);omega),hs];have:Wq (eU w {x with CZ:=a,Dc:=x.rv} k).2=x.rv:=by unfold Wq;rw[Wb hs];rfl
   rw[this];show(if true=true/\x.rv<x.rv then _ else _)=_;rw[Wa (by omega)]
 .have hc:(dM ((k:Int)+1) x.rv ε x.μ).ζ=1\/(dM ((k:Int)+1) x.rv ε x.μ).ζ=2:=by
   simp only[dM];split<;>simp
  have hs:stl {x with CZ:=a,cm:=dM ((k:Int)+1) x.rv ε x.μ,ζ:=5}=false:=by
   cases z:stl {x with CZ:=a,cm:=dM ((k:Int)+1) x.rv ε x.μ,ζ:=5}
   .rfl
   .rw[WM]at z;simp only at z;omega
  exact⟨SE.un rfl rfl c hs rfl,qk hs (.inr (by show(dM _ _ _ _).ζ≠3;omega)),λ_=>by show(dM _ _ _ _).ζ≠3;omega,rfl⟩
theorem low(h:y.ζ<=4):ow y=none/\(y.ζ=5->y.cm.ζ≠3):=⟨qk (eP h) (.inl (by omega)),λz=>by omega⟩
theorem mN:stl (de x)=false/\ow (de x)=none/\((de x).ζ=5->(de x).cm.ζ≠3):=by
 have h:stl (de x)=false:=by unfold stl de;simp
 exact⟨h,qk h (.inl (by show(6:Int)≠5;omega)),λz=>by(change (6:Int)=5 at z;omega)⟩
theorem Lp:ow (WR x)=none/\((WR x).ζ=5->(WR x).cm.ζ≠3):=by
 unfold WR;split
 .exact mN.2
 .exact low (by show(3:Int)<=4;omega)
theorem Wx9(a:x.ζ=1):stl (eS w x o)=false/\(eS w x o).ο=x.ο/\ow (eS w x o)=none/\((eS w x o).ζ=5->(eS w x o).cm.ζ≠3):=by
 unfold eS;cases bm x.ι o.2.2.1 with
 |some v=>exact⟨eP (by show x.ζ<=4;omega),rfl,low (by show x.ζ<=4;omega)⟩
 |none=>
  simp only;generalize W7 w.mem x.rv _=q;split
  .exact⟨F3.1,F3.2,Lp⟩
  split<;>exact⟨eP (by show x.ζ<=4;omega),rfl,low (by show x.ζ<=4;omega)⟩
theorem Wzg(s:POk p)(f:x.ζ=1)(m:ROk p n x)(r:GOk w)(h:HU w.holds k x)(A:∀e∈w.holds,∃j:Nat,e.1=(j:Int)+1):SE w x k (aT w x k p)/\ow (aT w x k p).2=none/\((aT w x k p).2.ζ=5->(aT w x k p).2.cm.ζ≠3)/\(aT w x k p).1.δ=w.δ:=by
 have g:=m.C4 (by omega);have hs:stl x=false:=eP (by omega);have q:∀y:Rt,y.ζ<=4->y.ο=x.ο->SE w x k (w,y)/\ow y=none/\(y.ζ=5->y.cm.ζ≠3)/\w.δ=w.δ:=λy a b=>⟨SE.un rfl rfl hs (eP a) b,(low a).1,(low a).2,rfl⟩;unfold aT;split
 .exact SJ f h m.ο hs
 rename_i D;obtain⟨i,u,E,v⟩:=kV (l:=p.1) g.pc.1 (by omega);obtain⟨C,G,F⟩:=s.θ.ok i u;simp only[v];split
 .obtain⟨a,b,c,d⟩:=Wx9 (w:=w) (o:=p.1[i]) f;exact⟨SE.un rfl rfl hs a b,c,d,rfl⟩
 split
 .unfold ig;split
  .exact SJ f h m.ο hs
  rename_i B;split
  .rename_i ab;have t:x.ο≠ []:=λz=>by
    rw[z]at ab;have:=(g.upd _ (Eo g s B).2.2).2.2.2;simp at ab;omega
   have:=Nc (k:=k) r m h t (sH hs);exact⟨this,(low (y:=(dO w x).2) (by show x.ζ<=4;omega)).1,λz=>by(change x.ζ=5 at z;omega),rfl⟩
  .exact q _ (by show x.ζ<=4;omega) rfl
 split
 .exact q _ (by show(2:Int)<=4;omega) rfl
 split
 .rename_i cI;refine⟨WvD r g.ξ C cI h f A,?_⟩;unfold fM;cases hZ w.holds ((k:Int)+1) (W0 p.1[i]).1 (W0 p.1[i]).2 with
  |none=>exact⟨Lp.1,Lp.2,rfl⟩
  |some hs=>exact⟨(low (by show x.ζ<=4;omega)).1,λz=>by(change x.ζ=5 at z;omega),rfl⟩
 repeat' split
 all_goals exact q _ (by show x.ζ<=4;omega) rfl
end
end
section
section
variable{R:Type}{N kk:Nat}{K0:Tg->List Int->Option R}{K1:Int->Bool->List Int->Int->List M7->List Int->List Int->Option R}
 {M I:V3} {Kc:Int->Int->Prop} {hr:List Rw} {g:Option GE} {k:Nat} {p:Pg} {w:Wo} {x y:Rt} {q:Wo×Rt} {n:Int} {i:Nat} {o:Opn} {m:Mm} {c:Cm}
theorem lS{v:Wo}(a:v.holds=w.holds)(c:v.ψ=w.ψ)(d:v.δ=w.δ)(i:stl x=false)(b:stl y=false)(h:y.ο=x.ο)(j:RA N kk K0 K1 M I Kc hr w.holds w.ψ g k p y)(e:ow y=none\/(ow y=ow x/\(x.ζ=5/\x.cm.ζ=3\/stl x=true))\/(ow y=some (w.mem.1+1)/\v.mem.1=w.mem.1+1))(f:y.ζ=5->y.cm.ζ=3->x.ζ=5):NO N kk K0 K1 M I Kc hr g k p w x (v,y):=
 ⟨by simp_all,SE.un a c i b h,e,λ_=>a,f,d,λ_ _=>b⟩
theorem HX{v:Wo}(b:v.holds=w.holds)(d:v.ψ=w.ψ)(e:v.δ=w.δ)(a:stl x=true)(c:stl y=true)(j:y.ο=x.ο)(i:y.CZ=x.CZ)(f:Wq y=Wq x)(h:y.rv=x.rv)(l:RA N kk K0 K1 M I Kc hr w.holds w.ψ g k p y):NO N kk K0 K1 M I Kc hr g k p w x (v,y):=
 ⟨by simp_all,SE.st b d (c.trans a.symm) i j,.inr (.inl ⟨N1 a c f h,.inr a⟩),λ_=>b,λz m=>by grind [WM],e,λ_ z=>by simp_all⟩
theorem NZ{b:Bool}(a:x.ζ=5)(d:c.ζ≠4/\c.ζ≠5):stl {x with cm:=c,γ:=b}=false:=by
 grind [stl,WM]
theorem Wr3(h:RA N kk K0 K1 M I Kc hr w.holds w.ψ g k p x)(G:stl x=false->hr= [])(d:x.ζ=5)(hd:x.γ=false)(Q:CmOk x.cm)(yB:x.cm.ζ≠6/\x.cm.ζ≠8)(X:w.mem.1<1000000)(h0:0<=w.mem.1)(gl:x.rv<=w.mem.1)(S:stl x=false->SK Kc w k x)(hH:HOk w.holds)
  (kB:x.cm.ζ=3->¬(((WA w.mem (ah x.cm.μ x.cm.pos 0)).2.2≠0/\(WA w.mem (ah x.cm.μ x.cm.pos 0)).2.2≠x.cm.who)\/(WA w.mem (ah x.cm.μ x.cm.pos 0)).2.1>x.cm.rv)->∀v,(ah x.cm.μ x.cm.pos 0,v)∈x.μ->M (x.cm.wv-1) (ah x.cm.μ x.cm.pos 0) v):NO N kk K0 K1 M I Kc hr g k p w x (ei w x k)\/SO N kk K0 K1 M Kc k p w x (ei w x k):=by
 have vX:=h.fa;have T:=vX.2.2.1 (.inl d);obtain⟨cl1,cl2,cl3⟩:=h.cl d;have da:=Q.ζ;have dC:=Q.pos;unfold ei;rw[Wa (by grind)];simp only;by_cases hs:stl x=true
 .
  have U:x.cm.ζ=4\/x.cm.ζ=5:=by
   grind [WM]
  have hq:(Wv w.mem x.cm).2.wv=x.cm.wv/\(Wv w.mem x.cm).2.rv=x.cm.rv/\(Wv w.mem x.cm).2.μ=x.cm.μ/\(Wv w.mem x.cm).2.χ=x.cm.χ/\((Wv w.mem x.cm).2.ζ=4\/(Wv w.mem x.cm).2.ζ=5\/(Wv w.mem x.cm).2.ζ=6):=by
   have hn:∀l,l=5\/l=6->(WB x.cm l).wv=x.cm.wv/\(WB x.cm l).rv=x.cm.rv/\(WB x.cm l).μ=x.cm.μ/\(WB x.cm l).χ=x.cm.χ/\((WB x.cm l).ζ=4\/(WB x.cm l).ζ=5\/(WB x.cm l).ζ=6):=λl da=>by
    unfold WB dL cb;split
    .grind
    simp_all
   unfold Wv
   grind
  left;have V:(if x.cm.ζ<=3/\(Wv w.mem x.cm).2.ζ=4 then w.δ++ [((Wv w.mem x.cm).2.wv,(k:Int)+1,(Wv w.mem x.cm).2.χ)]else w.δ)=w.δ:=Wa (by omega);rw[V];generalize Wv w.mem x.cm=q at*;obtain⟨q1,q2,q3,q4,q5⟩:=hq;have Ar:Wq x=x.cm.wv:=by unfold Wq;rw[Wb hs,Wb d]
  unfold dt;rw[Wa (by grind)];simp only;by_cases F:q.2.ζ=6
  .rw[Wb F];have c:stl {x with Dc:=q.2.wv,cm:={},ζ:=if x.CZ=2 then 6 else 7}=true:=by
    rw[WM];simp only;split<;>omega
   have s:Wq {x with Dc:=q.2.wv,cm:={},ζ:=if x.CZ=2 then 6 else 7}=Wq x:=by
    unfold Wq
    grind
   exact HX rfl rfl rfl hs c rfl rfl s rfl (HN h hs c s rfl rfl rfl rfl rfl (λz=>by simp only at z;split at z<;>omega) h.hu ⟨T,λz=>by simp only at z⊢;split at z<;>omega⟩ ⟨by simp only;split<;>omega,λz=>by simp only at z;split at z<;>omega⟩ λ_=>by omega)
  .rw[Wa F];have c:stl {x with cm:=q.2}=true:=by grind [WM]
   have s:Wq {x with cm:=q.2}=Wq x:=by
    unfold Wq;rw[Wb c,Wb hs];simp only;rw[Wb d,Wb d,q1]
   exact HX rfl rfl rfl hs c rfl rfl s rfl (HN h hs c s rfl rfl rfl rfl rfl (λz=>by simp_all) h.hu ⟨T,λz=>by simp_all⟩ ⟨by simp_all,λ_=>⟨d,by grind,q2,q3,q4⟩⟩ λ_=>by omega)
 have hs:stl x=false:=by simp_all
 have G:=G hs;subst G;have S:=S hs;have hg:=h.gn hs;have U:x.cm.ζ≠4/\x.cm.ζ≠5:=by
  refine⟨λz=>?_,λz=>?_⟩<;> · grind [WM]
 have f:∀(m':Mm) (c':Cm),c'.rv=x.cm.rv/\c'.μ=x.cm.μ/\c'.χ=x.cm.χ->c'.ζ=7\/c'.ζ=8->NO N kk K0 K1 M I Kc [] g k p w x ({w with mem:=m',δ:=if x.cm.ζ<=3/\c'.ζ=4 then w.δ++ [(c'.wv,(k:Int)+1,c'.χ)]else w.δ},dt {x with cm:=c'}):=λm' c' m D=>by
  rw[Wa (show¬(x.cm.ζ<=3/\c'.ζ=4) by omega)];unfold dt;by_cases R:c'.ζ=8
  .rw[Wb R];exact lS (y:=de x) rfl rfl rfl hs mN.1 rfl (Eh h hs) (.inl mN.2.1) λz=>by omega
  .rw[Wa R,Wa (by simp_all)];have c:stl {x with cm:=c'}=false:=by grind [NZ]
   exact lS rfl rfl rfl hs c rfl (M9 (b:=x.γ) h d hs m (by omega) λz=>by omega) (.inl (qk c (.inr (by simp_all)))) λz=>by omega
 have H:∀(m':Mm) (c':Cm),c'.rv=x.cm.rv/\c'.μ=x.cm.μ/\c'.χ=x.cm.χ->c'.ζ=1\/c'.ζ=2\/c'.ζ=3->(c'.ζ=3->(x.rv<c'.wv/\∀(j:Nat) (L:j<x.cm.μ.length),(j:Int)<c'.pos->∀v,(x.cm.μ[j],v)∈x.μ->M (c'.wv-1) x.cm.μ[j] v)/\(x.cm.ζ=3/\c'.wv=x.cm.wv\/c'.wv=w.mem.1+1/\m'.1=w.mem.1+1))->NO N kk K0 K1 M I Kc [] g k p w x ({w with mem:=m',δ:=if x.cm.ζ<=3/\c'.ζ=4 then w.δ++ [(c'.wv,(k:Int)+1,c'.χ)]else w.δ},dt {x with cm:=c'}):=λm' c' m D E=>by
  rw[Wa (show¬(x.cm.ζ<=3/\c'.ζ=4) by omega)];unfold dt;rw[Wa (by grind),Wa (by grind)];have c:stl {x with cm:=c'}=false:=by grind [NZ]
  refine lS rfl rfl rfl hs c rfl (M9 (b:=x.γ) h d hs m (by omega) λz=>(E z).1) ?_ λz=>by omega
  by_cases e:c'.ζ=3
  .have ho:ow {x with cm:=c'}=some c'.wv:=by unfold ow;rw[Wb ⟨d,e⟩]
   rcases(E e).2 with⟨a,b⟩|⟨a,b⟩
   .refine .inr (.inl ⟨?_,.inl ⟨d,a⟩⟩);rw[ho,b];unfold ow;rw[Wb ⟨d,a⟩]
   simp_all
  grind [qk]
 have set:∀(m':Mm) (c':Cm),c'.rv=x.cm.rv/\c'.μ=x.cm.μ/\c'.χ=x.cm.χ->x.cm.ζ<=3->(c'.ζ=4/\x.cm.χ≠ []\/c'.ζ=6/\x.cm.χ= [])->x.rv<c'.wv->(∀r∈x.μ,M (c'.wv-1) r.1 r.2)->(x.cm.ζ=3/\c'.wv=x.cm.wv\/c'.wv=w.mem.1+1/\m'.1=w.mem.1+1)->SO N kk K0 K1 M Kc k p w x ({w with mem:=m',δ:=if x.cm.ζ<=3/\c'.ζ=4 then w.δ++ [(c'.wv,(k:Int)+1,c'.χ)]else w.δ},dt {x with cm:=c'}):=λm' c' m E D e4 e5 F=>by
  have mk:∀y:Rt,stl y=true->Wq y=c'.wv->y.rv=x.rv->y.υ=x.υ->y.CZ=x.CZ->y.ξ=x.ξ->y.μ=x.μ->y.ο=x.ο->(y.ζ=5/\y.cm.ζ≠3/\y.cm.rv=x.cm.rv/\y.cm.μ=x.cm.μ/\y.cm.χ=x.cm.χ\/y.ζ=6/\x.CZ=2\/y.ζ=7/\x.CZ≠2)->SO N kk K0 K1 M Kc k p w x ({w with mem:=m',δ:=if x.cm.ζ<=3/\c'.ζ=4 then w.δ++ [(c'.wv,(k:Int)+1,c'.χ)]else w.δ},y):=λy f1 f2 f3 f4 f5 f6 f7 f8 f9=>by
   refine⟨rfl,rfl,d,hs,f1,?_,?_,λz=>?_,f5,f8,?_,λI' Kc' J=>?_⟩
   .simp_all
   .grind
   .simp_all
   .grind
   .show RA N kk K0 K1 M I' Kc' x.cm.χ w.holds w.ψ (oO w.holds w.ψ k x (Wq y)) k p y;have J:∀i,(0<=i/\i<=7/\hld w.holds k i)\/(i=8/\xld w.holds k 8)->∃z,Kc i z/\I' (Wq y-1) i z:=J;rw[f2]at J⊢
    grind [Wur]
  unfold dt;rw[Wa (show¬c'.ζ=8 by omega)];rcases D with⟨a,b⟩|⟨a,b⟩
  .rw[Wa (show¬c'.ζ=6 by omega)];have c:stl {x with cm:=c'}=true:=by grind [WM]
   exact mk _ c (by unfold Wq;rw[Wb c,Wb d]) rfl rfl rfl rfl rfl rfl (.inl ⟨d,by simp_all,m.1,m.2.1,m.2.2⟩)
  .rw[Wb (show c'.ζ=6 from a)];have c:stl {x with Dc:=c'.wv,cm:={},ζ:=if x.CZ=2 then 6 else 7}=true:=by
    rw[WM];simp only;split<;>omega
   refine mk _ c (by unfold Wq;rw[Wb c,Wa (by simp only;split<;>omega)]) rfl rfl rfl rfl rfl rfl (.inr ?_);simp only;split<;>omega
 have P:x.cm.ζ=3->x.cm.steps=x.cm.μ.length:=λz=>by unfold Cm.steps;rw[Wa (by omega),Wb z]
 by_cases t:x.cm.ζ=1
 .left;unfold Wv;simp only;rw[Wb t];split
  .refine H _ _ ?_ ?_ λz=>?_
   .unfold WB dL;split<;>exact⟨rfl,rfl,rfl⟩
   .grind [WB,dL,cb]
   grind [WB,dL,cb]
  .refine f _ _ ?_ (jG _ _);unfold cy;split<;>exact⟨rfl,rfl,rfl⟩
 by_cases A:x.cm.ζ=2
 .have et:tick w.mem=((w.mem.1+1,w.mem.2),w.mem.1+1):=by unfold tick;rw[Wb X]
  unfold Wv;simp only;rw[Wa t,Wb A,et];simp only;rw[Wa (by omega)];have K:∀c':Cm,c'=dL {x.cm with wv:=w.mem.1+1} 3->(c'.rv=x.cm.rv/\c'.μ=x.cm.μ/\c'.χ=x.cm.χ)/\c'.wv=w.mem.1+1/\c'.pos=0/\(x.cm.μ.length=0/\x.cm.χ.length=0/\c'.ζ=6\/x.cm.μ.length=0/\x.cm.χ.length≠0/\c'.ζ=4\/x.cm.μ.length≠0/\c'.ζ=3):=λc' e=>by
   subst e;refine⟨⟨rfl,rfl,rfl⟩,rfl,rfl,?_⟩
   grind [dL,cb]
  generalize dL {x.cm with wv:=w.mem.1+1} 3=c' at*;obtain⟨B,C,d3,u⟩:=K c' rfl;have nE:x.cm.μ.length=0->∀r∈x.μ,M (c'.wv-1) r.1 r.2:=λdR r bn=>by
   simp_all
  rcases u with⟨O,W,o⟩|⟨O,W,o⟩|⟨O,o⟩
  .grind
  .grind
  .exact .inl (H _ c' B (.inr (.inr o)) λ_=>⟨⟨by omega,λj L hp=>by omega⟩,.inr ⟨C,rfl⟩⟩)
 by_cases n:x.cm.ζ=3
 .obtain⟨Z,ck2⟩:=h.ck d n;have P:=P n;unfold Wv;simp only;rw[Wa t,Wa A,Wb n];split
  .left;refine f _ _ ?_ (jG _ _);unfold cy;split<;>exact⟨rfl,rfl,rfl⟩
  .rename_i j7;have cY:=kB n j7;have fY:∀(j:Nat) (L:j<x.cm.μ.length),(j:Int)<x.cm.pos+1->∀v,(x.cm.μ[j],v)∈x.μ->M (x.cm.wv-1) x.cm.μ[j] v:=λj L vN v hv=>by
    grind [ah,Wn]
   have K:∀c':Cm,c'=WB x.cm 4->(c'.rv=x.cm.rv/\c'.μ=x.cm.μ/\c'.χ=x.cm.χ)/\c'.wv=x.cm.wv/\(x.cm.pos+1=x.cm.steps/\(x.cm.χ.length=0/\c'.ζ=6\/x.cm.χ.length≠0/\c'.ζ=4)\/c'.ζ=3/\c'.pos=x.cm.pos+1):=λc' e=>by
    subst e;unfold WB dL cb;split
    .grind
    simp_all
   generalize WB x.cm 4=c' at*;obtain⟨B,C,u⟩:=K c' rfl;rcases u with⟨bS,u⟩|⟨o,a4⟩
   .grind [eI,Xv]
   .left;exact H _ c' B (.inr (.inr o)) λ_=>⟨⟨by omega,by simp_all⟩,.inl ⟨n,C⟩⟩
 .left;have Y:x.cm.ζ=7:=by omega
  unfold Wv;simp only;rw[Wa t,Wa A,Wa n,Wa (by omega),Wa (by omega),Wb Y];refine f _ _ ?_ (jG _ _);unfold cy;split<;>exact⟨rfl,rfl,rfl⟩
end
end
section
section
variable{R:Type}{N kk:Nat}{K0:Tg->List Int->Option R}{K1:Int->Bool->List Int->Int->List M7->List Int->List Int->Option R}
 {M I:V3} {Kc:Int->Int->Prop} {hr:List Rw} {g:Option GE} {k:Nat} {p:Pg} {w:Wo} {x y:Rt} {q:Wo×Rt} {n:Int} {i:Nat} {o:Opn} {m:Mm} {c:Cm}
theorem Wvn(Y:1048576<N)(A:POk p)(cA:∀c∈p.2,dz c=true)(h:RA N kk K0 K1 M I Kc hr w.holds w.ψ g k p x)(E:stl x=false->hr= [])(l:ROk p n x)(s:GOk w)(hX:RX x)(hb:LB w k x)(yB:x.ζ=5->x.cm.ζ≠6/\x.cm.ζ≠8)(bZ:w.mem.1<1000000)(h0:0<=w.mem.1)(gl:x.rv<=w.mem.1)(hM:∀r∈x.μ,M x.rv r.1 r.2)(S:x.ζ=2->∃Z,FB (M x.rv) Z p.2 x.fam)(hk:stl x=false->SK Kc w k x)(hH:∀e∈w.holds,∃j:Nat,e.1=(j:Int)+1)
  (kB:x.ζ=5->x.cm.ζ=3->¬(((WA w.mem (ah x.cm.μ x.cm.pos 0)).2.2≠0/\(WA w.mem (ah x.cm.μ x.cm.pos 0)).2.2≠x.cm.who)\/(WA w.mem (ah x.cm.μ x.cm.pos 0)).2.1>x.cm.rv)->∀v,(ah x.cm.μ x.cm.pos 0,v)∈x.μ->M (x.cm.wv-1) (ah x.cm.μ x.cm.pos 0) v):NO N kk K0 K1 M I Kc hr g k p w x (ay w x k p)\/SO N kk K0 K1 M Kc k p w x (ay w x k p):=by
 have da:=l.ζ;unfold ay;by_cases O:x.γ=true/\1<=x.ζ/\x.ζ<=4
 .rw[Wb O];have hs:=eP O.2.2;exact .inl (lS rfl rfl rfl hs mN.1 rfl (Eh h hs) (.inl mN.2.1) λz=>by(change (6:Int)=5 at z;omega))
 rw[Wa O];by_cases F:x.ζ=0
 .rw[Wb F];have hs:stl x=false:=eP (by omega);have P:=h.z0 (.inl F);have same:∀v:Wo,v.holds=w.holds->v.ψ=w.ψ->v.δ=w.δ->NO N kk K0 K1 M I Kc hr g k p w x (v,x):=λv a b c=>lS a b c hs hs rfl h (.inl (low (by omega)).1) λz=>by omega
  left;unfold il;split
  .exact same _ rfl rfl rfl
  split
  .exact same _ rfl rfl rfl
  split
  .exact same _ rfl rfl rfl
  .exact lS rfl rfl rfl hs (eP (by show(1:Int)<=4;omega)) P.symm (Wws (h.g0 (by omega)) λi ⟨e,e1,e2,_⟩=>(hb.hd e e1 e2).1 F) (.inl (low (by show(1:Int)<=4;omega)).1) λz=>by(change (1:Int)=5 at z;omega)
 rw[Wa F];by_cases G:x.ζ=1
 .rw[Wb G];have hs:stl x=false:=eP (by omega);have E:=E hs;subst E;have t:x.γ=false:=by
   cases f:x.γ
   .rfl
   .exact Wi ⟨f,by omega,by omega⟩ O
  obtain⟨s1,s2,s3,s4⟩:=Wzg (k:=k) (w:=w) A G l s h.hu hH;exact .inl ⟨Wzo Y A h G l s t hM (hk hs),s1,.inl s2,λz=>by omega,λz C=>Wi C (s3 z),s4,λz=>by omega⟩
 rw[Wa G];by_cases H:x.ζ=2
 .rw[Wb H];have hs:stl x=false:=eP (by omega);obtain⟨Z,S⟩:=S H;have o:=WxG Y A cA h H l S;have f:stl (eD x)=false/\(eD x).ο=x.ο/\ow (eD x)=none/\((eD x).ζ=5->(eD x).cm.ζ≠3):=by
   unfold eD;split
   .exact⟨mN.1,rfl,mN.2⟩
   split
   .exact⟨eP (by show(1:Int)<=4;omega),rfl,low (by show(1:Int)<=4;omega)⟩
   .exact⟨hs,rfl,low (by omega)⟩
  exact .inl (lS rfl rfl rfl hs f.1 f.2.1 o (.inl f.2.2.1) λz C=>Wi C (f.2.2.2 z))
 rw[Wa H];by_cases J:x.ζ=3
 .rw[Wb J];have hs:stl x=false:=eP (by omega);have o:=WsV A h s.ψ l J;have Q:=l.C4 (by omega);have hz:=Q.back (.inl J);left;revert o;unfold hV;split
  .rename_i ab;intro o;have D:x.ο≠ []:=λz=>by
    rw[z]at ab;have:=(Q.upd _ (Eo Q A hz).2.2).2.2.2;simp at ab;omega
   exact⟨o,Nc s l h.hu D (sH hs),.inl (low (y:=(dO w x).2) (by show x.ζ<=4;omega)).1,λ_=>rfl,λz=>by(change x.ζ=5 at z;omega),rfl,λz=>by omega⟩
  .intro o;exact lS rfl rfl rfl hs (eP (by show(4:Int)<=4;omega)) rfl o (.inl (low (by show(4:Int)<=4;omega)).1) λz=>by(change (4:Int)=5 at z;omega)
 rw[Wa J];by_cases T:x.ζ=4
 .rw[Wb T];have hs:stl x=false:=eP (by omega);have o:=Wt6 (w:=w) A h l T;have f:stl (ez w x)=false/\(ez w x).ο=x.ο/\ow (ez w x)=none/\((ez w x).ζ=5->(ez w x).cm.ζ≠3):=by
   unfold ez;split
   .simp only;split
    .exact⟨mN.1,rfl,mN.2⟩
    .exact⟨eP (by show x.ζ<=4;omega),rfl,low (by show x.ζ<=4;omega)⟩
   .exact⟨eP (by show(1:Int)<=4;omega),rfl,low (by show(1:Int)<=4;omega)⟩
  exact .inl (lS rfl rfl rfl hs f.1 f.2.1 o (.inl f.2.2.1) λz C=>Wi C (f.2.2.2 z))
 rw[Wa T];by_cases m:x.ζ=5
 .rw[Wb m];have V:=l.comm m;cases t:x.γ with
  |false=>exact Wr3 h E m t V (yB m) bZ h0 gl hk s.holds (kB m)
  |true=>
   left;have sB:x.cm.ζ<=3:=by
    rcases hX.doom t with e|e
    .omega
    .exact e.2
   have hs:stl x=false:=by
    cases z:stl x
    .rfl
    .rw[WM]at z;omega
   have mf:=V.ζ;have yA:(W4 x.cm).ζ=7\/(W4 x.cm).ζ=8:=by
    unfold W4;split
    .exact jG _ _
    .rw[Wb (by omega)];exact jG _ _
   have CG:(W4 x.cm).rv=x.cm.rv/\(W4 x.cm).μ=x.cm.μ/\(W4 x.cm).χ=x.cm.χ:=by
    unfold W4 cy
    repeat' split
    all_goals exact⟨rfl,rfl,rfl⟩
   unfold ei;rw[Wb t];by_cases W:(W4 x.cm).ζ=8
   .rw[Wb W];exact lS rfl rfl rfl hs mN.1 rfl (Eh h hs) (.inl mN.2.1) λz=>by(change (6:Int)=5 at z;omega)
   .rw[Wa W];have d:=NZ (x:=x) (c:=W4 x.cm) (b:=false) m (by omega);exact lS rfl rfl rfl hs d rfl (M9 h m hs CG (by omega) λz=>by omega) (.inl (qk d (.inr (by simp only;omega)))) λz=>by simp only;omega
 rw[Wa m];have np:stl x=true\/stl x=false:=by cases stl x<;>simp
 have oun:stl x=false->∀y:Rt,y.ζ≠5->stl y=false->ow y=none:=λ_ y a b=>qk b (.inl a);by_cases K:x.ζ=6
 .rw[Wb K];left;have yG:=h.fa.2.2.2 K;split
  .rename_i ab;have D:x.ο≠ []:=λz=>by rw[z]at ab;simp at ab
   have t:dn x=false:=by unfold dn;simp[yG]
   have U:stl (dO w x).2=stl x:=rfl;refine⟨MX h s.ψ l (.inr K) D,Nc s l h.hu D t,?_,λ_=>rfl,λz=>by(change x.ζ=5 at z;omega),rfl,λz=>by omega⟩;rcases np with z|z
   .exact .inr (.inl ⟨N1 z (U.trans z) rfl rfl,.inr z⟩)
   .exact .inl (qk (U.trans z) (.inl (by show x.ζ≠5;omega)))
  .rename_i ab;have P:x.ο= []:=Xv (by omega);by_cases q:x.CZ=0
   .have hs:stl x=false:=by
     cases z:stl x
     .rfl
     .rw[WM]at z;omega
    have d:stl {x with ζ:=7}=false:=by
     cases z:stl {x with ζ:=7}
     .rfl
     .rw[WM]at z;simp only at z;omega
    exact lS rfl rfl rfl hs d rfl (RA.Dd (h.gn hs) (.inr (.inr rfl)) q (λ_=>P) h.hu) (.inl (qk d (.inl (by show(7:Int)≠5;omega)))) λz=>by(change (7:Int)=5 at z;omega)
   .have hs:stl x=true:=by rw[WM];omega
    have d:stl {x with ζ:=7}=true:=by rw[WM];exact .inr (.inr ⟨.inr rfl,q⟩)
    have B:Wq {x with ζ:=7}=Wq x:=by
     unfold Wq;rw[Wb d,Wb hs,Wa (by show¬(7:Int)=5;omega),Wa m]
    exact HX rfl rfl rfl hs d rfl rfl B rfl (HN h hs d B rfl rfl rfl rfl rfl (λ_=>P) h.hu ⟨q,λz=>by(change (7:Int)=6 at z;omega)⟩ ⟨by show(5:Int)<=7;omega,λz=>by(change (7:Int)=5 at z;omega)⟩ λ_=>by omega)
 rw[Wa K];by_cases L:x.ζ=7
 .rw[Wb L];left;have X:dn x=true\/x.ο= []:=by
   by_cases q:x.CZ=1
   .left;unfold dn;rw[WM.2 (.inr (.inr ⟨.inr L,by omega⟩))];simp[q]
   .exact .inr (h.z0 (.inr (.inr ⟨L,q⟩)))
  split
  .rename_i q;have hs:stl x=false:=by
    cases z:stl x
    .rfl
    .rw[WM]at z;omega
   exact⟨RA.Dd (h.gn hs) (.inl rfl) rfl (λ_=>rfl) (λu R=>by cases R),Tp rfl rfl X rfl,.inl (low (by show(0:Int)<=4;omega)).1,λz=>by omega,λz=>by(change (0:Int)=5 at z;omega),rfl,λz=>by omega⟩
  .rename_i q;have hs:stl x=true:=by rw[WM];omega
   have d:stl (eU {w with holds:=W1 w.holds ((k:Int)+1)} x k).2=true:=by rw[WM];exact .inl rfl
   have B:Wq (eU {w with holds:=W1 w.holds ((k:Int)+1)} x k).2=Wq x:=by
    unfold Wq;rw[Wb d,Wb hs,Wa (by show¬(8:Int)=5;omega),Wa m];rfl
   exact⟨HN h hs d B rfl rfl rfl rfl rfl (λ_=>rfl) (λu R=>by cases R) ⟨q,λz=>by(change (8:Int)=6 at z;omega)⟩ ⟨by show(5:Int)<=8;omega,λz=>by(change (8:Int)=5 at z;omega)⟩ (λ_=>by omega),Tp rfl rfl X rfl,.inr (.inl ⟨N1 hs d B rfl,.inr hs⟩),λz=>by omega,λz=>by(change (8:Int)=5 at z;omega),rfl,λz=>by omega⟩
 rw[Wa L];have hs:stl x=true:=by rw[WM];omega
 exact .inl (HX rfl rfl rfl hs hs rfl rfl rfl rfl h)
end
end
end Go.Sx
