/- Plain laws of the Lean functions. -/
import Derived.Test.YtnkbflecplbceaaGreatMW3
open List renaming mem_append→Xm,mem_singleton→Xac,getElem_mem→Xx,map_cons→Xai,sum_cons→Xcd,mem_cons_of_mem→Xf,mem_cons_self→Xi,length_cons→Xr,getElem_set→Xam,length_set→Xaa,getElem_of_mem→Xaq,replicate→Xt,getElem_replicate→Xbg,getD→Xd,all_eq_true→Xae,all_cons→Xcl,set_getElem_self→Xbe,getElem_set_self→Xdf,set_set→Xdo
open Int renaming toNat_natCast→Xj,le_refl→Xv,le_trans→Xew,lt_of_le_of_lt→Xcv,le_of_eq→Xfp,toNat→Xb
open Nat renaming add_zero→Xat,le_refl→Xn
open Bool renaming and_eq_true→Xh,or_eq_true→Xbs
open Option renaming bind_some→Xc
namespace Go.Sx
set_option linter.unusedVariables false
set_option linter.unusedSimpArgs false
section
def Wa8(x:Kd):Int:=if x.phase=0 then 75-3*x.pc-(if x.busy=true then x.pb.2.1 else 0)else 0
def Wbf(x:Kd):Int:=if x.phase=3 then 0 else if x.phase=2 then 25-x.pos else 26
structure KT(f:Fm)(k:Nat)(x:Kd):Prop where
 pb:x.busy=true->x.pb.2.1=1\/x.pb.2.1=2
 own:f.owner=(k:Int)+1↔x.phase=2
 seen:x.since=f.clock->∀e∈x.seen,Wvr f.buf e.1=e.2.2
inductive KO (f:Fm) (k:Nat) (x:Kd):Fm×Kd->Prop
 |lost {q:Fm×Kd}:q.1.lost=true->KO f k x q
 |run {y:Kd}:x.phase=0->y.since=x.since->(y.phase=0\/y.phase=1)->Wa8 y<Wa8 x->(y.busy=true->y.pb.2.1=1\/y.pb.2.1=2)->
   (x.since=f.clock->∀e∈y.seen,Wvr f.buf e.1=e.2.2)->KO f k x (f,y)
 |again:x.phase=0->x.since<f.clock->KO f k x (f,f.again x)
 |fail:x.phase=2->x.since<f.clock->KO f k x ({f with owner:=0},f.again x)
 |ask:x.phase=1->f.owner=0->KO f k x ({f with owner:=(k:Int)+1},{x with phase:=2})
 |wait:x.phase=1->f.owner≠0->KO f k x (f,x)
 |look:x.phase=2->x.pos<x.seen.length->KO f k x (f,{x with pos:=x.pos+1})
 |merge:x.phase=2->KO f k x (Wdf f x k)
 |done:x.phase=3->KO f k x (f,x)
variable{code:List Opn}{codes:List (List Opn)}{n:Int}{f:Fm}{x:Kd}{m:Mm}{k:Nat}{o:Opn}
theorem WnZ{rv:Int}{p:Pb}(h:0<=p.2.1/\p.2.1<=2):(W0 m rv p).2.1=4\/(W0 m rv p).2.1=p.2.1+1:=by
 unfold W0;simp only[Wu,Wav]
 repeat' split
 all_goals first
  |exact .inl rfl
  |(refine .inr ?_;show(1:Int)=_;omega)
  |(refine .inr ?_;show(2:Int)=_;omega)
  |(refine .inr ?_;show(3:Int)=_;omega)
  |omega
theorem WvF(hF:FOk codes n f)(h:KOk code f.clock n x)(h0:x.phase=0)(ht:KT f k x)(aS:x.pc+1<=24):KO f k x (Wec m f x o):=by
 have hl:Wa8 x=75-3*x.pc-(if x.busy=true then x.pb.2.1 else 0):=by unfold Wa8;rw[if_pos h0]
 have gU:0<=(if x.busy=true then x.pb.2.1 else 0)/\(if x.busy=true then x.pb.2.1 else 0)<=2:=by
  split
  .have:=ht.pb ‹_›;omega
  .omega
 have bY:∀y:Kd,y.phase=0->y.pc=x.pc+1->y.busy=x.busy->y.pb=x.pb->Wa8 y<Wa8 x:=λy a b c d=>by
  unfold Wa8;rw[if_pos a,if_pos h0,b,c,d];omega
 unfold Wec;cases Wbk x.writes o.2.2.1 with
 |some v=>exact .run h0 rfl (.inl h0) (bY _ h0 rfl rfl rfl) ht.pb ht.seen
 |none=>
  simp only;cases he:ent f.buf o.2.2.1 with
  |some r=>
   simp only;have hr:=WcU he;have mH:r.2∈f.buf:=List.mem_of_getElem? hr.2.2.2;split
   .exact .again h0 (by have:=(hF.bufE _ mH).2.2;omega)
   .refine .run h0 rfl (.inl h0) (bY _ h0 rfl rfl rfl) ht.pb λhs e c9=>?_;rcases Xm.1 c9 with c9|c9
    .exact ht.seen hs e c9
    .rw[Xac]at c9;subst c9;have hc:r.2.1=o.2.2.1:=eq_of_beq hr.1;unfold Wvr;rw[hc,he]
  |none=>
   simp only;have hp:0<=(if x.busy=true then x.pb else(o.2.2.1,0,0,0)).2.1/\(if x.busy=true then x.pb else(o.2.2.1,0,0,0)).2.1<=2:=by
    split
    .have:=ht.pb ‹_›;omega
    .simp
   have gg:(if x.busy=true then x.pb else(o.2.2.1,0,0,0)).2.1=(if x.busy=true then x.pb.2.1 else 0):=by split<;>rfl
   have hs:=WnZ (m:=m) (rv:=f.rv) hp;rw[gg]at hs;generalize W0 m f.rv (if x.busy=true then x.pb else(o.2.2.1,0,0,0))=p at*;split
   .exact .lost rfl
   .split
    .refine .run h0 rfl (.inl h0) ?_ (λh=>by cases h) λzS e c9=>?_
     .rw[hl];show(if x.phase=0 then 75-3*(x.pc+1) -0 else 0)<_;rw[if_pos h0];omega
     .rcases Xm.1 c9 with c9|c9
      .exact ht.seen zS e c9
      .rw[Xac]at c9;subst c9;unfold Wvr;rw[he]
    .refine .run h0 rfl (.inl h0) ?_ (λ_=>by show p.2.1=1\/p.2.1=2;omega) ht.seen;rw[hl];show(if x.phase=0 then 75-3*x.pc-p.2.1 else 0)<_;rw[if_pos h0];omega
theorem Wwy(bg:KC code)(hF:FOk codes n f)(h:KOk code f.clock n x)(h0:x.phase=0)(ht:KT f k x):KO f k x (WqG m f x code):=by
 have aD:=bg.toCC;have hlen:=aD.len;have hl:Wa8 x=75-3*x.pc-(if x.busy=true then x.pb.2.1 else 0):=by unfold Wa8;rw[if_pos h0]
 have gU:0<=(if x.busy=true then x.pb.2.1 else 0)/\(if x.busy=true then x.pb.2.1 else 0)<=2:=by
  split
  .have:=ht.pb ‹_›;omega
  .omega
 have zT:=h.pc;have ta:∀y:Kd,y.phase=1->Wa8 y<Wa8 x:=λy a=>by unfold Wa8 at*;rw[if_neg (by omega),hl];omega
 have bY:∀y:Kd,y.phase=0->x.pc+1<=y.pc->y.busy=x.busy->y.pb=x.pb->Wa8 y<Wa8 x:=λy a b c d=>by
  unfold Wa8;rw[if_pos a,if_pos h0,c,d];omega
 unfold WqG;split
 .exact .run h0 rfl (.inr rfl) (ta _ rfl) ht.pb ht.seen
 .obtain⟨i,hi,aS,ho⟩:=Wft (l:=code) h.pc.1 (by have:=h.pc;omega);simp only[ho];have hM:=h.marks h0;rw[aS,Xj]at hM;split
  .exact WvF hF h h0 ht (by omega)
  .split
   .unfold Wh1;split
    .exact .run h0 rfl (.inr rfl) (ta _ rfl) ht.pb ht.seen
    .obtain⟨j,q,y,e1,e2,e3,⟨hj,h8⟩,pQ,cO,gg,e5,e6⟩:=Whf (d:=((0,0,[]):KM)) aD (show i<=code.length by omega) hM.pcs ‹_›;refine .run h0 rfl (.inl h0) (bY _ h0 ?_ rfl rfl) ht.pb ht.seen;simp only[e2,e3,Xj];omega
   .split
    .exact .run h0 rfl (.inl h0) (bY _ h0 (Xv _) rfl rfl) ht.pb ht.seen
    .split
     .have hk:=WvV (bg.ok i hi).1 ‹_›;refine .run h0 rfl (.inl h0) (bY _ h0 ?_ rfl rfl) ht.pb ht.seen;show x.pc+1<=(if WbL x.regs code[i].2.1 0=0 then x.pc+code[i].2.2.1 else x.pc)+1;split<;>omega
     .split
      .exact .run h0 rfl (.inl h0) (bY _ h0 (Xv _) rfl rfl) ht.pb ht.seen
      .split
       .exact .run h0 rfl (.inl h0) (bY _ h0 (Xv _) rfl rfl) ht.pb ht.seen
       .exact .run h0 rfl (.inl h0) (bY _ h0 (Xv _) rfl rfl) ht.pb ht.seen
theorem Wq1(bg:KC code)(hF:FOk codes n f)(h:KOk code f.clock n x)(ht:KT f k x):KO f k x (Wea m f x k code):=by
 have aV:=h.phase;unfold Wea;split
 .exact Wwy bg hF h ‹_› ht
 .split
  .split
   .exact .ask ‹_› ‹_›
   .exact .wait ‹_› ‹_›
  .split
   .split
    .exact .merge ‹_›
    .have hp:=h.pos;have hlt:x.pos<x.seen.length:=by omega
     simp only;split
     .exact .look ‹_› hlt
     .rename_i hne;refine .fail ‹_› ?_;have hs:=h.since;by_cases he:x.since=f.clock
      .exfalso;apply hne;have hg:WbL x.seen x.pos (0,0,0)=x.seen[x.pos.toNat]'(by omega):=Wf (by omega) _;rw[hg];exact ht.seen he _ (Xx _)
      .omega
   .exact .done (by omega)
end
section
def Way(x:Kd):Int:=if x.phase=3 then 0 else 1
def Wbv(c:Int)(x:Kd):Int:=if x.phase≠3/\x.since<c then 1 else 0
def WK(c:Int)(x:Kd):Int:=Wbf x+26*Wbv c x
def Wc1(g:Kd->Int)(l:List Kd):Int:=(l.map g).sum
def tri(u:Int):Int:=if u<=1 then 0 else if u=2 then 1 else 3
def Wfg(f:Fm):Int:=Wc1 Way f.kids
def fQ(f:Fm):Int:=Wc1 (WK f.clock) f.kids+26*tri (Wfg f)
def fP(f:Fm)(x:Kd):Int:=Wa8 x+75*(Wbv f.clock x+(Wfg f-1))
theorem WbP{g:Kd->Int}{y:Kd}:∀{l:List Kd} {k:Nat} (h:k<l.length),Wc1 g (l.set k y)=Wc1 g l-g l[k]+g y
 |x::l,0,h=>by simp[Wc1];omega
 |x::l,k+1,h=>by
  have:=WbP (g:=g) (y:=y) (l:=l) (k:=k) (by simpa using h);simp only[Wc1,List.set_cons_succ,Xai,Xcd,List.getElem_cons_succ]at*;omega
theorem Wis{g h:Kd->Int}:∀{l:List Kd},(∀x∈l,g x<=h x)->Wc1 g l<=Wc1 h l
 | [],_=>by simp[Wc1]
 |x::l,hl=>by
  have:=Wis (l:=l) λy hy=>hl y (Xf _ hy);have:=hl x (Xi ..);simp only[Wc1,Xai,Xcd]at*;omega
theorem WkO{g h:Kd->Int}{a:Int}:∀{l:List Kd},Wc1 (λx=>g x+a*h x) l=Wc1 g l+a*Wc1 h l
 | []=>by simp[Wc1]
 |x::l=>by
  have:=WkO (g:=g) (h:=h) (a:=a) (l:=l);simp only[Wc1,Xai,Xcd,Int.mul_add]at*;omega
theorem WoU(x:Kd):0<=Way x/\Way x<=1:=by unfold Way;split<;>omega
theorem Wcg(c:Int)(x:Kd):0<=Wbv c x/\Wbv c x<=Way x:=by
 unfold Wbv Way;by_cases h:x.phase=3
 .rw[if_neg (by omega),if_pos h];omega
 .rw[if_neg h];split<;>omega
theorem WkL(f:Fm):0<=Wfg f/\Wfg f<=f.kids.length:=by
 unfold Wfg;have:∀l:List Kd,0<=Wc1 Way l/\Wc1 Way l<=l.length:=λl=>by
  induction l with
  |nil=>simp[Wc1]
  |cons x l ih=>
   have:=WoU x;simp only[Wc1,Xai,Xcd,Xr]at*;omega
 exact this f.kids
theorem WeK{code:List Opn}{c n:Int}{x:Kd}(h:KOk code c n x)(hl:code.length<=24):0<=Wbf x/\Wbf x<=26/\(x.phase=2->1<=Wbf x/\Wbf x<=25)/\((x.phase=0\/x.phase=1)->Wbf x=26):=by
 have hp:=h.pos;have hs:=h.sl;have aS:=h.pc;have aV:=h.phase;unfold Wbf;split
 .omega
 .split<;>omega
theorem WkC{code:List Opn}{c n:Int}{x:Kd}(h:KOk code c n x)(hl:code.length<=24)(hb:x.busy=true->x.pb.2.1=1\/x.pb.2.1=2):0<=Wa8 x/\Wa8 x<=75/\(x.phase=0->1<=Wa8 x):=by
 have aS:=h.pc;unfold Wa8;split
 .split
  .have:=hb ‹_›;omega
  .omega
 .omega
structure KD(f:Fm)(k:Nat)(q:Fm×Kd):Prop where
 le:fQ (Fm.put q k)<=fQ f
 p:∀(j:Nat) (h:j<f.kids.length) (h':j<(Fm.put q k).kids.length),Way (Fm.put q k).kids[j]=1->fP (Fm.put q k) (Fm.put q k).kids[j]<=fP f f.kids[j]/\Way f.kids[j]=1
variable{codes:List (List Opn)}{n:Int}{f:Fm}{x y:Kd}{k:Nat}{q:Fm×Kd}{code:List Opn}
theorem WgL(h:k<f.kids.length)(hk:q.1.kids=f.kids){j:Nat}(hj:j<f.kids.length)(h':j<(Fm.put q k).kids.length):(Fm.put q k).kids[j]=if k=j then q.2 else f.kids[j]:=by
 show(q.1.kids.set k q.2)[j]=_;simp only[hk,Xam]
theorem WfU(hk:k<f.kids.length)(h1:q.1.kids=f.kids)(hc:q.1.clock=f.clock)(hu:Way q.2=Way f.kids[k])(hs:WK f.clock q.2<=WK f.clock f.kids[k])(hp:Way q.2=1->Wa8 q.2+75*Wbv f.clock q.2<=Wa8 f.kids[k]+75*Wbv f.clock f.kids[k]):
  KD f k q/\Wfg (Fm.put q k)=Wfg f/\fQ (Fm.put q k)=fQ f-WK f.clock f.kids[k]+WK f.clock q.2:=by
 have e1:(Fm.put q k).kids=f.kids.set k q.2:=by show q.1.kids.set k q.2=_;rw[h1]
 have e2:(Fm.put q k).clock=f.clock:=hc;have e3:Wfg (Fm.put q k)=Wfg f:=by unfold Wfg;rw[e1,WbP hk,hu];omega
 have e4:fQ (Fm.put q k)=fQ f-WK f.clock f.kids[k]+WK f.clock q.2:=by unfold fQ;rw[e1,e2,e3,WbP hk];omega
 refine⟨⟨by rw[e4];omega,λj h h' hj=>?_⟩,e3,e4⟩;have hg:=WgL hk h1 h h';rw[hg]at hj⊢;unfold fP;rw[e2,e3];by_cases he:k=j
 .subst he;rw[if_pos rfl]at hj⊢;have:=hp hj;rw[hu]at hj;exact⟨by omega,hj⟩
 .rw[if_neg he]at hj⊢;exact⟨Xv _,hj⟩
end
section
structure KE(f:Fm)(k:Nat)(x:Kd)(q:Fm×Kd):Prop where
 d:KD f k q
 s0:x.phase=0->Way q.2=1->fP (Fm.put q k) q.2<fP f x
 s2:x.phase=2->fQ (Fm.put q k)<fQ f
 s1:x.phase=1->f.owner=0->fQ (Fm.put q k)<fQ f
 own:q.1.owner=f.owner\/q.1.owner=0\/(q.1.owner=(k:Int)+1/\x.phase=1/\f.owner=0)
 kids:q.1.kids=f.kids
 kt:∀(j:Nat) (h:j<(Fm.put q k).kids.length),KT (Fm.put q k) j (Fm.put q k).kids[j]
variable{codes:List (List Opn)}{n:Int}{f:Fm}{x y:Kd}{k:Nat}{q:Fm×Kd}{code:List Opn}{m:Mm}
theorem WkK(h:q.1.kids=f.kids):(Fm.put q k).kids.length=f.kids.length:=by show(q.1.kids.set k q.2).length=_;rw[h,Xaa]
theorem WfS(hk:k<f.kids.length)(hT:∀(j:Nat) (h:j<f.kids.length),KT f j f.kids[j])(h1:q.1.kids=f.kids)(hc:q.1.clock=f.clock)(hb:q.1.buf=f.buf)(ho:∀j:Nat,j≠k->(q.1.owner=(j:Int)+1↔f.owner=(j:Int)+1))(hy:KT q.1 k q.2):
  ∀(j:Nat) (h:j<(Fm.put q k).kids.length),KT (Fm.put q k) j (Fm.put q k).kids[j]:=λj h=>by
 have hj:j<f.kids.length:=by rw[WkK h1]at h;exact h
 rw[WgL hk h1 hj h];by_cases he:k=j
 .subst he;rw[if_pos rfl];exact⟨hy.pb,hy.own,hy.seen⟩
 .rw[if_neg he];have ht:=hT j hj;refine⟨ht.pb,?_,λhs e c9=>?_⟩
  .show q.1.owner=(j:Int)+1↔_;rw[ho j (λh=>he h.symm)];exact ht.own
  .show Wvr q.1.buf e.1=e.2.2;rw[hb];exact ht.seen (hs.trans hc) e c9
theorem Wci(h:x.phase≠3):Way x=1:=by unfold Way;rw[if_neg h]
theorem Wk9(h:x.phase≠3)(hy:y.phase≠3)(hs:y.since=x.since)(c:Int):Wbv c y=Wbv c x:=by
 unfold Wbv;rw[hs];by_cases hh:x.since<c
 .rw[if_pos ⟨hy,hh⟩,if_pos ⟨h,hh⟩]
 .rw[if_neg (λz=>hh z.2),if_neg (λz=>hh z.2)]
theorem Wb2:Wbv f.clock (f.again x)=0:=by unfold Wbv Fm.again;simp
theorem WfM:Wa8 (f.again x)=75:=by unfold Wa8 Fm.again;simp
theorem WeB:Wbf (f.again x)=26:=by unfold Wbf Fm.again;simp
theorem Wrw(h:x.phase≠3)(hs:x.since<f.clock):Wbv f.clock x=1:=by unfold Wbv;rw[if_pos ⟨h,hs⟩]
theorem Wpa{c:Int}:∀{l:List Kd},Wc1 (WK (c+1)) l<=Wc1 (WK c) l+26*Wc1 Way l:=λ{l}=>by
 have h1:Wc1 (WK (c+1)) l<=Wc1 (λx=>WK c x+26*Way x) l:=Wis λx _=>by
  have a:=Wcg (c+1) x;have b:=Wcg c x;unfold WK;omega
 rw[WkO]at h1;exact h1
theorem Wui{u:Int}(h:1<=u/\u<=3):tri u=tri (u-1)+(u-1):=by
 unfold tri;have:u=1\/u=2\/u=3:=by omega
 rcases this with rfl|rfl|rfl<;>decide
theorem Wwc(hk:k<f.kids.length)(h3:f.kids.length<=3)(hl:∀c∈codes,c.length<=24)(hF:FOk codes n f)(hT:∀(j:Nat) (h:j<f.kids.length),KT f j f.kids[j])(hx:f.kids[k]=x)(ho:KO f k x q):
  q.1.lost=true\/KE f k x q:=by
 have hlen:(codes.getD k []).length<=24:=by
  have ct:k<codes.length:=by rw[←hF.len];exact hk
  rw[Wf ct];exact hl _ (Xx _)
 have hK:=hF.kid k hk;rw[hx]at hK;have ht:=hT k hk;rw[hx]at ht;obtain⟨c1,c2,c3,c4⟩:=WeK hK hlen;obtain⟨l1,l2,l3⟩:=WkC hK hlen ht.pb;have tO:=Wcg f.clock x;cases ho with
 |lost h=>exact .inl h
 |run h0 hs hp hlt hb hse=>
  rename_i y;refine .inr ?_;have v8:y.phase≠3:=by omega
  have d9:x.phase≠3:=by omega
  have aQ:=Wk9 d9 v8 hs f.clock;have hch:Wbf y=26:=by unfold Wbf;rw[if_neg v8,if_neg (by omega)]
  obtain⟨d1,d2,d3⟩:=WfU (q:=(f,y)) hk rfl rfl (by rw[hx];rw[Wci d9];exact Wci v8) (by rw[hx];show WK f.clock y<=_;unfold WK;rw[aQ];omega) (λ_=>by rw[hx];show Wa8 y+75*Wbv f.clock y<=_;rw[aQ];omega);refine⟨d1,λ_ _=>?_,λh=>by omega,λh=>by omega,.inl rfl,rfl,WfS hk hT rfl rfl rfl (λ_ _=>Iff.rfl) ⟨hb,?_,λh=>hse (hs▸h)⟩⟩
  .unfold fP;rw[d2];show Wa8 y+75*(Wbv f.clock y+_)<_;rw[aQ];omega
  .show f.owner=(k:Int)+1↔y.phase=2;rw[ht.own];omega
 |again h0 hs=>
  refine .inr ?_;have d9:x.phase≠3:=by omega
  have mq:=Wrw d9 hs;obtain⟨d1,d2,d3⟩:=WfU (q:=(f,f.again x)) hk rfl rfl (by rw[hx];rw[Wci d9];exact Wci (by show(0:Int)≠3;omega)) (by rw[hx];show WK f.clock (f.again x)<=_;unfold WK;rw[Wb2,WeB];omega) (λ_=>by rw[hx];show Wa8 (f.again x)+75*Wbv f.clock (f.again x)<=_;rw[Wb2,WfM];omega);refine⟨d1,λ_ _=>?_,λh=>by omega,λh=>by omega,.inl rfl,rfl,WfS hk hT rfl rfl rfl (λ_ _=>Iff.rfl) ⟨(λh=>by cases h),?_,(λh e he=>by cases he)⟩⟩
  .unfold fP;rw[d2];show Wa8 (f.again x)+75*(Wbv f.clock (f.again x)+_)<_;rw[Wb2,WfM];have:=l3 h0;omega
  .show f.owner=(k:Int)+1↔(0:Int)=2;rw[ht.own];omega
 |fail h2 hs=>
  refine .inr ?_;have d9:x.phase≠3:=by omega
  have mq:=Wrw d9 hs;have c:=c3 h2;obtain⟨d1,d2,d3⟩:=WfU (q:=({f with owner:=0},f.again x)) hk rfl rfl (by rw[hx];rw[Wci d9];exact Wci (by show(0:Int)≠3;omega)) (by rw[hx];show WK f.clock (f.again x)<=_;unfold WK;rw[Wb2,WeB];omega) (λ_=>by rw[hx];show Wa8 (f.again x)+75*Wbv f.clock (f.again x)<=_;rw[Wb2,WfM];omega);have pZ:=ht.own.2 h2;refine⟨d1,λh=>by omega,λ_=>?_,λh=>by omega,.inr (.inl rfl),rfl,WfS hk hT rfl rfl rfl (λj hj=>?_) ⟨(λh=>by cases h),?_,(λh e he=>by cases he)⟩⟩
  .rw[d3,hx];show fQ f-WK f.clock x+WK f.clock (f.again x)<fQ f;unfold WK;rw[Wb2,WeB];omega
  .show(0:Int)=(j:Int)+1↔f.owner=(j:Int)+1;omega
  .show(0:Int)=(k:Int)+1↔(0:Int)=2;omega
 |ask h1 h0=>
  refine .inr ?_;have d9:x.phase≠3:=by omega
  have aQ:Wbv f.clock ({x with phase:=2}:Kd)=Wbv f.clock x:=Wk9 (x:=x) (y:={x with phase:=2}) d9 (by show(2:Int)≠3;omega) rfl _;have hp:=hK.pos;have hch:Wbf ({x with phase:=2}:Kd)=25-x.pos:=rfl;have zU:=c4 (.inr h1);have iJ:Wa8 ({x with phase:=2}:Kd)=0:=rfl;obtain⟨d1,d2,d3⟩:=WfU (q:=({f with owner:=(k:Int)+1},{x with phase:=2})) hk rfl rfl (by rw[hx];rw[Wci d9];rfl) (by rw[hx];show WK f.clock ({x with phase:=2}:Kd)<=_;unfold WK;rw[aQ,hch];omega) (λ_=>by rw[hx];show Wa8 ({x with phase:=2}:Kd)+75*Wbv f.clock ({x with phase:=2}:Kd)<=_;rw[aQ,iJ];omega);refine⟨d1,λh=>by omega,λh=>by omega,λ_ _=>?_,.inr (.inr ⟨rfl,h1,h0⟩),rfl,WfS hk hT rfl rfl rfl (λj hj=>?_) ⟨ht.pb,?_,ht.seen⟩⟩
  .rw[d3,hx];show fQ f-WK f.clock x+WK f.clock ({x with phase:=2}:Kd)<fQ f;unfold WK;rw[aQ,hch];omega
  .show(k:Int)+1=(j:Int)+1↔f.owner=(j:Int)+1;omega
  .show(k:Int)+1=(k:Int)+1↔(2:Int)=2;simp
 |wait h1 h0=>
  refine .inr ?_;have d9:x.phase≠3:=by omega
  obtain⟨d1,d2,d3⟩:=WfU (q:=(f,x)) hk rfl rfl (by rw[hx]) (by rw[hx];exact Xv _) (λ_=>by rw[hx];exact Xv _);exact⟨d1,λh=>by omega,λh=>by omega,λ_ h=>absurd h h0,.inl rfl,rfl,WfS hk hT rfl rfl rfl (λ_ _=>Iff.rfl) ht⟩
 |done qX=>
  refine .inr ?_;obtain⟨d1,d2,d3⟩:=WfU (q:=(f,x)) hk rfl rfl (by rw[hx]) (by rw[hx];exact Xv _) (λ_=>by rw[hx];exact Xv _);exact⟨d1,λh=>by omega,λh=>by omega,λh=>by omega,.inl rfl,rfl,WfS hk hT rfl rfl rfl (λ_ _=>Iff.rfl) ht⟩
 |look h2 hlt=>
  refine .inr ?_;have d9:x.phase≠3:=by omega
  have aQ:Wbv f.clock ({x with pos:=x.pos+1}:Kd)=Wbv f.clock x:=Wk9 d9 d9 rfl _;have hch:Wbf ({x with pos:=x.pos+1}:Kd)=Wbf x-1:=by
   unfold Wbf;show(if x.phase=3 then 0 else if x.phase=2 then 25-(x.pos+1)else 26)=_;rw[if_neg d9,if_neg d9,if_pos h2,if_pos h2];omega
  have iJ:Wa8 ({x with pos:=x.pos+1}:Kd)=Wa8 x:=rfl;obtain⟨d1,d2,d3⟩:=WfU (q:=(f,{x with pos:=x.pos+1})) hk rfl rfl (by rw[hx];rfl) (by rw[hx];show WK f.clock ({x with pos:=x.pos+1}:Kd)<=_;unfold WK;rw[aQ,hch];omega) (λ_=>by rw[hx];show Wa8 ({x with pos:=x.pos+1}:Kd)+75*Wbv f.clock ({x with pos:=x.pos+1}:Kd)<=_;rw[aQ,iJ];omega);refine⟨d1,λh=>by omega,λ_=>?_,λh=>by omega,.inl rfl,rfl,WfS hk hT rfl rfl rfl (λ_ _=>Iff.rfl) ⟨ht.pb,ht.own,ht.seen⟩⟩;rw[d3,hx];show fQ f-WK f.clock x+WK f.clock ({x with pos:=x.pos+1}:Kd)<fQ f;unfold WK;rw[aQ,hch];omega
 |merge h2=>
  refine .inr ?_;have d9:x.phase≠3:=by omega
  have c:=c3 h2;obtain⟨z,hz⟩:∃z,z=(Wdf f x k).2:=⟨_,rfl⟩;have z3:z.phase=3:=by rw[hz];rfl
  have p9:Way z=0:=by unfold Way;rw[if_pos z3]
  have tH:Way x=1:=Wci d9;have e1:(Fm.put (Wdf f x k) k).kids=f.kids.set k z:=by rw[hz];rfl
  have e2:(Fm.put (Wdf f x k) k).clock=f.clock+1:=rfl;have e3:Wfg (Fm.put (Wdf f x k) k)=Wfg f-1:=by unfold Wfg;rw[e1,WbP hk,hx,p9,tH];omega
  have hs0:WK (f.clock+1) z=0:=by unfold WK Wbf Wbv;rw[if_pos z3,if_neg (by omega)];rfl
  have zV:=WkL f;have wa:=WkL (Fm.put (Wdf f x k) k);rw[e3]at wa;have e4:fQ (Fm.put (Wdf f x k) k)<fQ f:=by
   unfold fQ;rw[e1,e2,e3,WbP hk,hs0,hx];have tc:=Wpa (c:=f.clock) (l:=f.kids);have h1:=Wpa (c:=f.clock) (l:=f.kids.set k z);rw[WbP hk,WbP hk,WbP hk,hx,hs0,p9,tH]at h1;have pW:WK f.clock z=0:=by unfold WK Wbf Wbv;rw[if_pos z3,if_neg (by omega)];rfl
   rw[pW]at h1;have nf:=Wui (u:=Wfg f) (by omega);have td:1<=WK f.clock x:=by unfold WK;omega
   have ka:Wc1 Way f.kids=Wfg f:=rfl;rw[ka]at h1;omega
  refine⟨⟨Int.le_of_lt e4,λj h h' hj=>?_⟩,λh=>by omega,λ_=>e4,λh=>by omega,.inr (.inl rfl),rfl,λj h=>?_⟩
  .have hg:=WgL (q:=Wdf f x k) hk rfl h h';rw[hg]at hj⊢;by_cases he:k=j
   .rw[if_pos he,←hz,p9]at hj;omega
   .rw[if_neg he]at hj⊢;refine⟨?_,hj⟩;unfold fP;rw[e2,e3];have a:=Wcg (f.clock+1) f.kids[j];have b:=Wcg f.clock f.kids[j];have:=WoU f.kids[j];omega
  .have hj:j<f.kids.length:=by rw[WkK (q:=Wdf f x k) rfl]at h;exact h
   rw[WgL (q:=Wdf f x k) hk rfl hj h];have pZ:=ht.own.2 h2;by_cases he:k=j
   .subst he;rw[if_pos rfl];refine⟨ht.pb,?_,λhs=>?_⟩
    .show(0:Int)=(k:Int)+1↔(3:Int)=2;omega
    .have:=hK.since;change x.since=f.clock+1 at hs;omega
   .rw[if_neg he];have xZ:=hT j hj;refine⟨xZ.pb,?_,λhs=>?_⟩
    .show(0:Int)=(j:Int)+1↔_;rw[←xZ.own];omega
    .have:=(hF.kid j hj).since;change f.kids[j].since=f.clock+1 at hs;omega
end
section
def Wb0(m:Mm)(codes:List (List Opn)):Nat->Nat->Fm->Fm
 |0,_,f=>f
 |d+1,i,f=>Wb0 m codes d (i+1) (Wcz m f i (codes.getD i []))
structure FmR(f:Fm)(i:Nat)(g:Fm):Prop where
 len:g.kids.length=f.kids.length
 le:fQ g<=fQ f
 kt:∀(j:Nat) (h:j<g.kids.length),KT g j g.kids[j]
 p:∀(j:Nat) (h:j<f.kids.length) (h':j<g.kids.length),Way g.kids[j]=1->Way f.kids[j]=1/\fP g g.kids[j]<=fP f f.kids[j]/\
  (i<=j->fP g g.kids[j]+fQ g<fP f f.kids[j]+fQ f\/(f.kids[j].phase=1/\∃k:Nat,k<i/\f.owner=(k:Int)+1))
 chk:∀(k:Nat) (h:k<f.kids.length),i<=k->f.kids[k].phase=2->fQ g<fQ f
variable{codes:List (List Opn)}{n:Int}{f g:Fm}{m:Mm}{k:Nat}
theorem WgO{code:List Opn}(h:f.lost=true):Wcz m f k code=f:=by unfold Wcz;rw[if_pos h]
theorem WdM:∀(d i:Nat) (f:Fm),f.lost=true->Wb0 m codes d i f=f
 |0,_,_,_=>rfl
 |d+1,i,f,h=>by rw[Wb0,WgO h];exact WdM d (i+1) f h
theorem WrK(hm:WZ m=true)(bg:∀c∈codes,KC c)(h3:codes.length<=3):∀(d i:Nat) (n:Int) (f:Fm),i+d=codes.length->FOk codes n f->(∀(j:Nat) (h:j<f.kids.length),KT f j f.kids[j])->
  (Wb0 m codes d i f).lost=true\/FmR f i (Wb0 m codes d i f)
 |0,i,n,f,hi,hF,hT=>.inr ⟨rfl,Xv _,hT,λj h h' hj=>⟨hj,Xv _,λhij=>by have:=hF.len;simp only[Wb0]at h';omega⟩,λk h kP=>by have:=hF.len;omega⟩
 |d+1,i,n,f,hi,hF,hT=>by
  have hlen:=hF.len;have hk:i<f.kids.length:=by omega
  have tf:i<codes.length:=by omega
  by_cases bz:f.lost=true
  .exact .inl (by rw[WdM _ _ _ bz];exact bz)
  rw[Wb0];have aM:codes.getD i []=codes[i]:=Wf tf _;have hKC:=bg _ (Xx tf);have hKO:=hF.kid i hk;rw[aM]at hKO;have ho:=Wq1 (m:=m) hKC hF hKO (hT i hk);obtain hE:=Wwc hk (by omega) (λc hc=>(bg c hc).toCC.len) hF hT rfl ho;have aQ:Wcz m f i (codes.getD i [])=Fm.put (Wea m f f.kids[i] i codes[i]) i:=by
   unfold Wcz;rw[if_neg bz,aM,show f.kids.getD i {}=f.kids[i]from Wf hk _]
  have hF1:FOk codes (n+1) (Wcz m f i (codes.getD i [])):=by
   rw[aM];exact WkU hk hm hKC hF aM
  rw[aQ]at hF1⊢;rcases hE with hE|hE
  .left;have:(Fm.put (Wea m f f.kids[i] i codes[i]) i).lost=true:=hE;rw[WdM _ _ _ this];exact this
  generalize Wea m f f.kids[i] i codes[i]=q at*;have aY:(Fm.put q i).kids.length=f.kids.length:=WkK hE.kids;have bZ:=λ(j:Nat) (hj:j<f.kids.length)=>WgL (q:=q) hk hE.kids hj (by rw[aY];exact hj);have tC:(Fm.put q i).owner=q.1.owner:=rfl;rcases WrK hm bg h3 d (i+1) (n+1) (Fm.put q i) (by omega) hF1 hE.kt with hI|hI
  .exact .inl hI
  right;refine⟨hI.len.trans aY,Xew hI.le hE.d.le,hI.kt,λj h h' hj=>?_,λk h kP h2=>?_⟩
  .have x5:j<(Fm.put q i).kids.length:=by rw[aY];exact h
   obtain⟨a1,a2,a3⟩:=hI.p j x5 h' hj;obtain⟨b1,b2⟩:=hE.d.p j h x5 a1;refine⟨b2,Xew a2 b1,λhij=>?_⟩;have hle:=hI.le;have ri:=hE.d.le;by_cases he:i=j
   .subst he;have hg:=bZ i h;rw[if_pos rfl]at hg;rw[hg]at a1 a2 b1;have aV:=hKO.phase;have d9:f.kids[i].phase≠3:=λh3=>by unfold Way at b2;rw[if_pos h3]at b2;omega
    by_cases p0:f.kids[i].phase=0
    .have:=hE.s0 p0 a1;left;omega
    by_cases p2:f.kids[i].phase=2
    .have:=hE.s2 p2;left;omega
    have p1:f.kids[i].phase=1:=by omega
    by_cases o0:f.owner=0
    .have:=hE.s1 p1 o0;left;omega
    have pZ:=hF.owner;obtain⟨k,fA⟩:∃k:Nat,f.owner=(k:Int)+1:=⟨(f.owner-1).toNat,by omega⟩;by_cases jw:k<i
    .exact .inr ⟨p1,k,jw,fA⟩
    have iJ:k<f.kids.length:=by omega
    have nH:=(hT k iJ).own.1 fA;have hne:k≠i:=λe=>by subst e;omega
    have tK:=bZ k iJ;rw[if_neg (λe=>hne e.symm)]at tK;have:=hI.chk k (by rw[aY];exact iJ) (by omega) (by rw[tK];exact nH);left;omega
   .have hg:=bZ j h;rw[if_neg he]at hg;rcases a3 (by omega)with hlt|⟨p1,k,kW,fA⟩
    .left;omega
    .rw[hg]at p1;rw[tC]at fA;rcases hE.own with h0|h0|⟨h0,p,o⟩
     .rw[h0]at fA;by_cases jw:k<i
      .exact .inr ⟨p1,k,jw,fA⟩
      .have:k=i:=by omega
       subst this;have:=hE.s2 ((hT k hk).own.1 fA);left;omega
     .omega
     .have:=hE.s1 p o;left;omega
  .by_cases he:i=k
   .subst he;exact Xcv hI.le (hE.s2 h2)
   .have hg:=bZ k h;rw[if_neg he]at hg;exact Int.lt_of_lt_of_le (hI.chk k (by rw[aY];exact h) (by omega) (by rw[hg];exact h2)) hE.d.le
end
section
def W6(c:Cm):Int:=
 if c.phase=1 then 3*c.puts.length-c.pos+1+c.reads.length else
 if c.phase=2 then 1+c.reads.length+2*c.puts.length else
 if c.phase=3 then c.reads.length-c.pos+2*c.puts.length else
 if c.phase=4 then 2*c.puts.length-c.pos else
 if c.phase=5 then c.puts.length-c.pos else
 if c.phase=7 then c.pos+1 else 0
section
variable{c:Cm}{m:Mm}{n ph:Int}
theorem WgD(h:CmOk c):0<=W6 c/\W6 c<=33/\(c.phase≠6->c.phase≠8->1<=W6 c):=by
 have hp:=h.phase;have h1:=h.plen;have h2:=h.rlen;have h3:=h.pos;unfold Cm.steps at h3;unfold W6;have:c.phase=1\/c.phase=2\/c.phase=3\/c.phase=4\/c.phase=5\/c.phase=6\/c.phase=7\/c.phase=8:=by omega
 rcases this with h|h|h|h|h|h|h|h<;>(rw[h]at h3⊢;simp at h3⊢;try omega)
theorem Wb9(h:0<=n):W6 (Waq c n)=n:=by
 unfold Waq;split
 .rename_i h0;rw[h0];rfl
 .show(if(7:Int)=1 then _ else if(7:Int)=2 then _ else if(7:Int)=3 then _ else if(7:Int)=4 then _ else if(7:Int)=5 then _ else if(7:Int)=7 then n-1+1 else 0)=n;simp
theorem Wj8(h:ph=2\/ph=3\/ph=4\/ph=5\/ph=6):W6 (Wdm c ph)<=if ph=2 then 1+c.reads.length+2*c.puts.length else if ph=3 then c.reads.length+2*c.puts.length else if ph=4 then 2*c.puts.length else if ph=5 then c.puts.length else 0:=by
 obtain⟨a,ha⟩:∃a,Wa9 c ph=a:=⟨_,rfl⟩;have:a=ph\/a=6\/(ph=3/\a=4):=by
  unfold Wa9 at ha;split at ha
  .omega
  .split at ha<;>omega
 have e:W6 (Wdm c ph)=W6 {c with phase:=a,pos:=0}:=by unfold Wdm;rw[ha]
 rw[e];unfold W6;simp only;rcases h with rfl|rfl|rfl|rfl|rfl<;>rcases this with rfl|rfl|⟨_,rfl⟩<;>simp<;>omega
theorem WdO(h:CmOk c)(hp:c.phase=1/\ph=2\/c.phase=3/\ph=4\/c.phase=4/\ph=5\/c.phase=5/\ph=6):W6 (WQ c ph)<W6 c:=by
 have h3:=h.pos;have hb:=Wj8 (c:=c) (ph:=ph) (by omega);unfold Cm.steps at h3;unfold WQ;split
 .rename_i hs;refine Xcv hb ?_;unfold Cm.steps at hs;unfold W6;rcases hp with⟨a,rfl⟩|⟨a,rfl⟩|⟨a,rfl⟩|⟨a,rfl⟩<;>(rw[a]at h3 hs⊢;simp at h3 hs⊢;omega)
 .unfold W6;simp only;rcases hp with⟨a,rfl⟩|⟨a,rfl⟩|⟨a,rfl⟩|⟨a,rfl⟩<;>(rw[a];simp;omega)
theorem Wnl(h:CmOk c)(h6:c.phase≠6)(h8:c.phase≠8):W6 (WB m c).2<W6 c:=by
 have hp:=h.phase;have h1:=h.plen;have h2:=h.rlen;have h3:=h.pos;unfold Cm.steps at h3;unfold WB;simp only;by_cases p1:c.phase=1
 .rw[if_pos p1];split
  .exact WdO h (.inl ⟨p1,rfl⟩)
  .show W6 (Waq c c.pos)<_;rw[Wb9 h3.1];unfold W6;rw[p1]at h3⊢;simp at h3⊢;omega
 rw[if_neg p1];by_cases p2:c.phase=2
 .rw[if_pos p2];split
  .show W6 (Waq c c.puts.length)<_;rw[Wb9 (by omega)];unfold W6;rw[p2]at h3⊢;simp at h3⊢;omega
  .refine Xcv (Wj8 (c:={c with wv:=(tick m).2}) (.inr (.inl rfl))) ?_;unfold W6;rw[p2]at h3⊢;simp at h3⊢;omega
 rw[if_neg p2];by_cases p3:c.phase=3
 .rw[if_pos p3];split
  .show W6 (Waq c c.puts.length)<_;rw[Wb9 (by omega)];unfold W6;rw[p3]at h3⊢;simp at h3⊢;omega
  .exact WdO h (.inr (.inl ⟨p3,rfl⟩))
 rw[if_neg p3];by_cases p4:c.phase=4
 .rw[if_pos p4];exact WdO h (.inr (.inr (.inl ⟨p4,rfl⟩)))
 rw[if_neg p4];by_cases p5:c.phase=5
 .rw[if_pos p5];exact WdO h (.inr (.inr (.inr ⟨p5,rfl⟩)))
 rw[if_neg p5,if_pos (show c.phase=7 by omega)];show W6 (Waq c c.pos)<_;rw[Wb9 h3.1];unfold W6;rw[show c.phase=7 by omega];simp;omega
theorem Wmq(h:CmOk c):W6 (Wag c)<=W6 c/\(c.phase<=3->W6 (Wag c)<W6 c):=by
 have hp:=h.phase;have h3:=h.pos;unfold Cm.steps at h3;unfold Wag;by_cases p1:c.phase=1
 .rw[if_pos p1,Wb9 h3.1];unfold W6;rw[p1]at h3⊢;simp at h3⊢;omega
 rw[if_neg p1];split
 .rename_i vY;rw[Wb9 (by omega)];rcases vY with p|p<;>(unfold W6;rw[p]at h3⊢;simp at h3⊢;omega)
 .exact⟨Xv _,λh=>by omega⟩
end
end
section
def Wsw(f:Fm):List Kd->Int
 | []=>0
 |x::l=>if Way x=1/\Wsw f l<=fP f x+fQ f then fP f x+fQ f else Wsw f l
def Wlz(f:Fm):Int:=Wsw f f.kids
theorem Wpr(f:Fm):∀(l:List Kd),0<=Wsw f l
 | []=>Xv _
 |x::l=>by have:=Wpr f l;rw[Wsw];split<;>omega
theorem Wk1{f:Fm}{b:Int}:∀{l:List Kd},0<=b->(∀x∈l,Way x=1->fP f x+fQ f<=b)->Wsw f l<=b
 | [],h,_=>h
 |x::l,h,hl=>by
  have ih:=Wk1 (f:=f) h λy hy=>hl y (Xf _ hy);rw[Wsw];split
  .rename_i hc;exact hl x (Xi ..) hc.1
  .exact ih
theorem WnQ{f:Fm}:∀{l:List Kd},∀x∈l,Way x=1->fP f x+fQ f<=Wsw f l
 | [],x,h,_=>by cases h
 |y::l,x,h,hu=>by
  rw[Wsw];rcases List.mem_cons.1 h with rfl|h
  .split
   .exact Xv _
   .rename_i hc;by_cases h':Wsw f l<=fP f x+fQ f
    .exact absurd ⟨hu,h'⟩ hc
    .omega
  .have:=WnQ (f:=f) x h hu;split<;>omega
variable{codes:List (List Opn)}{n:Int}{f g:Fm}{m:Mm}
theorem Wxg(hF:FOk codes n f)(hl:∀c∈codes,c.length<=24):0<=fQ f:=by
 have h1:Wc1 (λ_=>0) f.kids<=Wc1 (WK f.clock) f.kids:=by
  refine Wis λx hx=>?_;obtain⟨k,hk,rfl⟩:=Xaq hx;have bg:k<codes.length:=by rw[←hF.len];exact hk
  have hK:=hF.kid k hk;rw[Wf bg]at hK;have a:=(WeK hK (hl _ (Xx bg))).1;have b:=Wcg f.clock f.kids[k];unfold WK;omega
 have h2:∀l:List Kd,Wc1 (λ_=>0) l=0:=λl=>by induction l with
  |nil=>rfl
  |cons x l ih=>simp only[Wc1,Xai,Xcd]at*;omega
 rw[h2]at h1;have h3:0<=tri (Wfg f):=by
  unfold tri;split
  .omega
  .split<;>omega
 unfold fQ;omega
theorem Wxe(hF:FOk codes n f)(hl:∀c∈codes,c.length<=24)(hT:∀(j:Nat) (h:j<f.kids.length),KT f j f.kids[j]){k:Nat}(hk:k<f.kids.length)(hu:Way f.kids[k]=1):1<=fP f f.kids[k]+fQ f:=by
 have hq:=Wxg hF hl;have bg:k<codes.length:=by rw[←hF.len];exact hk
 have hK:=hF.kid k hk;rw[Wf bg]at hK;have hlen:=hl _ (Xx bg);obtain⟨l1,l2,l3⟩:=WkC hK hlen (hT k hk).pb;have b:=Wcg f.clock f.kids[k];have eP:1<=Wfg f:=by
  unfold Wfg;have:=WbP (g:=Way) (y:=f.kids[k]) hk;have h0:0<=Wc1 Way (f.kids.set k {phase:=3}):=(WkL {f with kids:=f.kids.set k {phase:=3}}).1;rw[WbP hk,hu]at h0;have:Way ({phase:=3}:Kd)=0:=rfl;omega
 by_cases p0:f.kids[k].phase=0
 .have:=l3 p0;unfold fP;omega
 .
  obtain⟨c1,c2,c3,c4⟩:=WeK hK hlen;have aV:=hK.phase;have d9:f.kids[k].phase≠3:=λh3=>by unfold Way at hu;rw[if_pos h3]at hu;omega
  have hc:1<=Wbf f.kids[k]:=by
   by_cases p2:f.kids[k].phase=2
   .exact(c3 p2).1
   .have:=c4 (.inr (by omega));omega
  have hs:WK f.clock f.kids[k]<=Wc1 (WK f.clock) f.kids:=by
   have h0:Wc1 (λ_=>0) (f.kids.set k {phase:=3})<=Wc1 (WK f.clock) (f.kids.set k {phase:=3}):=by
    refine Wis λx hx=>?_;rcases List.mem_or_eq_of_mem_set hx with hx|rfl
    .obtain⟨j,hj,rfl⟩:=Xaq hx;have x6:j<codes.length:=by rw[←hF.len];exact hj
     have hK:=hF.kid j hj;rw[Wf x6]at hK;have a:=(WeK hK (hl _ (Xx x6))).1;have b:=Wcg f.clock f.kids[j];unfold WK;omega
    .unfold WK Wbf Wbv;simp
   have hz:∀l:List Kd,Wc1 (λ_=>0) l=0:=λl=>by induction l with
    |nil=>rfl
    |cons x l ih=>simp only[Wc1,Xai,Xcd]at*;omega
   rw[hz,WbP hk]at h0;have:WK f.clock ({phase:=3}:Kd)=0:=by unfold WK Wbf Wbv;simp
   omega
  have h3:0<=tri (Wfg f):=by
   unfold tri;split
   .omega
   .split<;>omega
  unfold fP fQ;unfold WK at hs;unfold WK;omega
end
section
theorem WtR{l:List Opn}{j e:Nat}(hc:CC l)(hm:Mate l j e)(h8:∃h:j<l.length,l[j].1=8):∀i,j<i->i<=e->dep l j<dep l i/\frk l i=frk l (j+1):=λi lH wA=>by
 obtain⟨hj,h8⟩:=h8;have hlen:=hm.len;have key:∀d,j+1+d<=e->dep l j<dep l (j+1+d)/\frk l (j+1+d)=frk l (j+1):=λd=>by
  induction d with
  |zero=>intro _;rw[Xat,WaF hj,Wt8 h8];exact⟨by omega,rfl⟩
  |succ d ih=>
   intro hd;obtain⟨i1,i2⟩:=ih (by omega);have hlt:j+1+d<l.length:=by omega
   have hb:=Whb l[j+1+d];have gm:=WaF hlt;have hne:=hm.ne (j+1+d) (by omega) (by omega);refine⟨by rw[show j+1+(d+1)=j+1+d+1 by omega];omega,?_⟩;rw[show j+1+(d+1)=j+1+d+1 by omega,WdZ hlt,i2];have:¬l[j+1+d].1=11:=λdj=>by
    have h0:=(hc.fk _ hlt dj).1;have:=hc.up.at (j:=j) (by omega);omega
   rw[show(l[j+1+d].1==11)=false by simpa using this];rfl
 have:=key (i-(j+1)) (by omega);rw[show j+1+(i-(j+1))=i by omega]at this;exact this
def WrX(x:Rt):Int:=if x.busy=true then x.pb.2.1 else 0
def Wed(p:Pg)(pc:Int):Int:=382*(1-frk p.1 pc.toNat)
def WaY(x:Rt):Int:=x.undos.length+146*(2-x.spare)+36
def Wi(p:Pg)(x:Rt):Int:=
 if x.phase=1 then 75-3*x.pc-WrX x+Wed p x.pc+WaY x else
 if x.phase=2 then(if x.fam.lost=true then x.undos.length+3 else 73-3*x.pc+Wlz x.fam+WaY x)else
 if x.phase=3 then x.last.2.1+74-3*x.last.1+Wed p x.pc+WaY x else
 if x.phase=4 then x.last.2.1-x.pos+73-3*x.last.1+Wed p x.pc+WaY x else
 if x.phase=5 then W6 x.cm+x.undos.length+3 else
 if x.phase=6 then x.undos.length+2 else
 if x.phase=7 then 1 else 0
structure RT(x:Rt):Prop where
 pb:x.busy=true->x.pb.2.1=1\/x.pb.2.1=2
 fam:x.phase=2->x.fam.lost=true\/∀(j:Nat) (h:j<x.fam.kids.length),KT x.fam j x.fam.kids[j]
 cm:x.phase=5->x.cm.phase≠6/\x.cm.phase≠8
variable{w:Wo}{x y:Rt}{k:Nat}{p:Pg}{n:Int}{o:Opn}
theorem WfR(h:RT x):0<=WrX x/\WrX x<=2:=by
 unfold WrX;split
 .have:=h.pb ‹_›;omega
 .omega
theorem Wl1{a b:Int}(h:a<=b):Wed p b<=Wed p a:=by
 have:=WhL p.1 (show a.toNat<=b.toNat by omega);unfold Wed;omega
theorem Wq0(hc:CC p.1){a:Int}(h:a<=p.1.length):0<=Wed p a:=by
 have:=WfX hc a.toNat (by omega);unfold Wed;omega
theorem Wce(h:x.phase=1):Wi p x=75-3*x.pc-WrX x+Wed p x.pc+WaY x:=by unfold Wi;rw[if_pos h]
theorem WnG(h:x.phase=6):Wi p x=x.undos.length+2:=by unfold Wi;rw[h];simp
theorem We1:Wi p (WcI x)=x.undos.length+2:=WnG rfl
theorem WhV(h1:x.phase=1)(hy:y.phase=1)(aS:x.pc+1<=y.pc)(hb:y.busy=x.busy)(hp:y.pb=x.pb)(hs:y.spare=x.spare)(hu:(y.undos.length:Int)<=x.undos.length+1):Wi p y<Wi p x:=by
 rw[Wce h1,Wce hy];have:=Wl1 (p:=p) (show x.pc<=y.pc by omega);unfold WrX WaY;rw[hb,hp,hs];omega
end
section
variable{w:Wo}{x y:Rt}{k:Nat}{p:Pg}{n:Int}{o:Opn}
theorem Wei(aD:CC p.1)(hl:RLive p n x)(ht:RT x)(h1:x.phase=1):(x.undos.length:Int)+37+146*(2-x.spare)<=Wi p x:=by
 rw[Wce h1];have hp:=WfR ht;have aS:=hl.pc;have hlen:=aD.len;have:=Wq0 aD aS.2;unfold WaY;omega
theorem Wh9(aD:CC p.1)(hl:RLive p n x)(ht:RT x)(h1:x.phase=1){out:Int}(kY:0<=x.rv/\x.rv<=1000000)(hk:k<=8):Wi p (Wao w x k out).2<Wi p x:=by
 have qa:=Wei aD hl ht h1;have hs:=hl.spare;unfold Wao;simp only;generalize (if out=2 then []else x.writes)=rows;split
 .show Wi p (WjJ w {x with fate:=out,stamp:=x.rv} k).2<_;have:Wi p (WjJ w {x with fate:=out,stamp:=x.rv} k).2=0:=rfl;omega
 .have hc:CmOk (Wbc ((k:Int)+1) x.rv rows x.reads):=Wlt (by omega) kY;have:=(WgD hc).2.1;have e:Wi p ({x with fate:=out,cm:=Wbc ((k:Int)+1) x.rv rows x.reads,phase:=5}:Rt)=W6 (Wbc ((k:Int)+1) x.rv rows x.reads)+x.undos.length+3:=rfl;show Wi p ({x with fate:=out,cm:=Wbc ((k:Int)+1) x.rv rows x.reads,phase:=5}:Rt)<_;rw[e];omega
theorem Wk8(aD:CC p.1)(hl:RLive p n x)(hz:x.marks.length≠0):0<=x.last.1/\x.last.1<x.pc/\0<=x.last.2.1/\x.last.2.1<=x.last.1+72/\Wed p (x.last.1+1)=Wed p x.pc:=by
 have hM:=hl.marks;have aS:=hl.pc;obtain⟨j,q,y,e1,e2,e3,h8,pQ,cO,gg,e5,e6⟩:=Whf (d:=zRM) aD (show x.pc.toNat<=p.1.length by omega) hM.pcs hz;have e4:x.last=y:=e2;have hy:=(hM.each y (by rw[e1];simp)).2.1;have hf:=(WtR aD cO h8 x.pc.toNat pQ gg).2;have hfj:=WfX aD j (by omega);rw[e4];rw[e3]at hy⊢;rw[Xj]at hy;refine⟨by omega,by omega,hy.1,by omega,?_⟩;unfold Wed;rw[hf,show((j:Int)+1).toNat=j+1 by omega]
theorem Wfj(aD:CC p.1)(hl:RLive p n x)(ht:RT x)(h1:x.phase=1){b:Bool}{q:Pb}:Wi p (WA {x with busy:=b,pb:=q})<Wi p x:=by
 have qa:=Wei aD hl ht h1;have hs:=hl.spare;unfold WA;split
 .have e:Wi p (WcI ({x with busy:=b,pb:=q}:Rt))=x.undos.length+2:=rfl;rw[e];omega
 .rename_i hc;have hz:x.marks.length≠0:=λh=>hc (.inl h);obtain⟨m1,m2,m3,m4,m5⟩:=Wk8 aD hl hz;have hp:=WfR ht;have aS:=hl.pc;have hlen:=aD.len;rw[Wce h1];have e:Wi p ({x with busy:=false,pb:=(0,0,0,0),spare:=x.spare+1,phase:=3}:Rt)=x.last.2.1+74-3*x.last.1+Wed p x.pc+(x.undos.length+146*(2-(x.spare+1))+36):=rfl;show Wi p ({x with busy:=false,pb:=(0,0,0,0),spare:=x.spare+1,phase:=3}:Rt)<_;rw[e];unfold WaY;omega
theorem WpS(aD:CC p.1)(hl:RLive p n x)(ht:RT x)(h1:x.phase=1):Wi p (Wc2 w x o)<Wi p x:=by
 have hp:=WfR ht;unfold Wc2;cases Wbk x.writes o.2.2.1 with
 |some v=>exact WhV h1 h1 (Xv _) rfl rfl rfl (by show(x.undos.length:Int)<=_;omega)
 |none=>
  simp only;have hq:0<=(if x.busy=true then x.pb else(o.2.2.1,0,0,0)).2.1/\(if x.busy=true then x.pb else(o.2.2.1,0,0,0)).2.1<=2:=by
   split
   .have:=ht.pb ‹_›;omega
   .simp
  have gg:(if x.busy=true then x.pb else(o.2.2.1,0,0,0)).2.1=WrX x:=by unfold WrX;split<;>rfl
  have hs:=WnZ (m:=w.mem) (rv:=x.rv) hq;rw[gg]at hs;generalize W0 w.mem x.rv (if x.busy=true then x.pb else(o.2.2.1,0,0,0))=q at*;split
  .exact Wfj aD hl ht h1
  .have hf:=Wl1 (p:=p) (show x.pc<=x.pc+1 by omega);split
   .rw[Wce h1];refine Xcv (Xfp (Wce h1)) ?_;show 75-3*(x.pc+1) -0+Wed p (x.pc+1)+WaY x<_;omega
   .rw[Wce h1];refine Xcv (Xfp (Wce h1)) ?_;show 75-3*x.pc-q.2.1+Wed p x.pc+WaY x<_;omega
theorem WsI{α:Type}(l:List α)(h:l.length≠0):(l.dropLast.length:Int)=l.length-1:=by rw[List.length_dropLast];omega
theorem Wg0(h:x.phase=1\/x.phase=3\/x.phase=6)(hz:x.undos.length≠0):Wi p (Wdv w x).2<Wi p x:=by
 have hd:=WsI x.undos hz;have e:Wi p (Wdv w x).2=Wi p x-1:=by
  unfold Wdv Wi WaY;simp only;rw[hd];rcases h with h|h|h
  .rw[if_pos h,if_pos h];show 75-3*x.pc-WrX x+Wed p x.pc+_=_;omega
  .rw[if_neg (by omega),if_neg (by omega),if_pos h,if_neg (by omega),if_neg (by omega),if_pos h];show x.last.2.1+74-3*x.last.1+Wed p x.pc+_=_;omega
  .rw[h];simp;omega
 omega
theorem WnA(aD:CC p.1)(hl:RLive p n x)(ht:RT x)(h1:x.phase=1)(hk:k<=8):Wi p (WbT w x k p.1).2<Wi p x:=by
 unfold WbT;split
 .exact Wh9 aD hl ht h1 hl.rv hk
 .rename_i hz;split
  .have hM:=hl.marks;have cJ:0<=x.last.2.2.2.1:=by
    have hm:x.last∈x.marks:=Wf7 hz _;exact(hM.each _ hm).2.2.2.1
   exact Wg0 (.inl h1) (by omega)
  .have hM:=hl.marks;have aS:=hl.pc;obtain⟨j,q,y,e1,e2,e3,h8,pQ,cO,gg,e5,e6⟩:=Whf (d:=zRM) aD (show x.pc.toNat<=p.1.length by omega) hM.pcs hz;have e4:x.last=y:=e2;refine WhV h1 h1 ?_ rfl rfl rfl (by show(x.undos.length:Int)<=_;omega);show x.pc+1<=(Wie p.1 x.last.1.toNat:Int)+1;rw[e4,e3,Xj];omega
theorem Wn9(aD:CC p.1)(hl:RLive p n x)(ht:RT x)(h1:x.phase=1):Wi p (Wbr w x k o).2<Wi p x:=by
 unfold Wbr;cases Wak w.holds ((k:Int)+1) (Waz o).1 (Waz o).2 with
 |none=>
  have:=Wfj aD hl ht h1 (b:=x.busy) (q:=x.pb);exact this
 |some hs=>
  refine WhV h1 h1 (Xv _) rfl rfl rfl ?_;show((if(WaN w.shelf o x.regs).2.2.1=0 then x.undos else x.undos++ [(WaN w.shelf o x.regs).2.2]).length:Int)<=_;split
  .omega
  .simp
theorem Wq2(aD:CC p.1)(h3:p.2.length<=3)(hl:RLive p n x)(ht:RT x)(h1:x.phase=1)(hk:k<=8)(wc:∀regs writes rv,Wlz (Wax rv regs writes p.2.length)<=381):Wi p (Wfi w x k p).2<Wi p x:=by
 unfold Wfi;split
 .exact Wh9 aD hl ht h1 hl.rv hk
 .obtain⟨i,hi,aS,ho⟩:=Wft (l:=p.1) hl.pc.1 (by have:=hl.pc;omega);simp only[ho];have tg:∀y:Rt,y.phase=1->x.pc+1<=y.pc->y.busy=x.busy->y.pb=x.pb->y.spare=x.spare->y.undos=x.undos->Wi p y<Wi p x:=λy a b c d e f=>WhV h1 a b c d e (by rw[f];omega);split
  .exact WpS aD hl ht h1
  .split
   .exact WnA aD hl ht h1 hk
   .split
    .rename_i dj;rw[Wce h1];have e:Wi p ({x with phase:=2,fam:=Wax x.rv x.regs x.writes p.2.length}:Rt)=73-3*x.pc+Wlz (Wax x.rv x.regs x.writes p.2.length)+WaY x:=rfl;show Wi p ({x with phase:=2,fam:=Wax x.rv x.regs x.writes p.2.length}:Rt)<_;rw[e];have:=wc x.regs x.writes x.rv;have hp:=WfR ht;have hf:=WfX aD (i+1) (by omega);rw[WdZ hi,show(p.1[i].1==11)=true by simpa using dj]at hf;have:Wed p x.pc=382:=by
      unfold Wed;rw[aS,Xj];have:frk p.1 i=0:=by have:Bool.toNat true=1:=rfl;omega
      rw[this];rfl
     omega
    .split
     .exact Wn9 aD hl ht h1
     .split
      .exact tg _ h1 (Xv _) rfl rfl rfl rfl
      .split
       .have hk:=WvV (aD.ok i hi).1 ‹_›;refine tg _ h1 ?_ rfl rfl rfl rfl;show x.pc+1<=(if WbL x.regs p.1[i].2.1 0=0 then x.pc+p.1[i].2.2.1 else x.pc)+1;split<;>omega
       .split
        .exact tg _ h1 (Xv _) rfl rfl rfl rfl
        .split
         .exact tg _ h1 (Xv _) rfl rfl rfl rfl
         .exact tg _ h1 (Xv _) rfl rfl rfl rfl
end
section
variable{w:Wo}{x y:Rt}{k:Nat}{p:Pg}{n:Int}{o:Opn}
theorem Wlk(g:Kd->Int)(x:Kd):∀u:Nat,Wc1 g (Xt u x)=u*g x
 |0=>by simp[Wc1]
 |u+1=>by
  have:=Wlk g x u;simp only[Wc1,List.replicate_succ,Xai,Xcd]at*;rw[this,Int.natCast_succ,Int.add_mul];omega
theorem Wqv{rv:Int}{regs:List Int}{writes:List Rw}{u:Nat}(h:u<=3):Wlz (Wax rv regs writes u)<=381:=by
 have hk:(Wax rv regs writes u).kids=Xt u {regs:=regs}:=rfl;have hc:(Wax rv regs writes u).clock=0:=rfl;have h1:Way ({regs:=regs}:Kd)=1:=rfl;have h2:Wbv 0 ({regs:=regs}:Kd)=0:=rfl;have h3:WK 0 ({regs:=regs}:Kd)=26:=rfl;have h4:Wa8 ({regs:=regs}:Kd)=75:=rfl;have hu:Wfg (Wax rv regs writes u)=u:=by unfold Wfg;rw[hk,Wlk,h1];omega
 have hq:fQ (Wax rv regs writes u)=u*26+26*tri u:=by unfold fQ;rw[hu,hk,hc,Wlk,h3]
 refine Wk1 (by omega) λy hy _=>?_;rw[hk]at hy;obtain⟨p9,rfl⟩:=List.mem_replicate.1 hy;unfold fP;rw[hq,hu,hc,h2,h4];have:u=1\/u=2\/u=3:=by omega
 rcases this with rfl|rfl|rfl<;>decide
theorem Wpy(hl:RLive p n x)(aD:CC p.1)(ht:RT x)(h2:x.phase=2)(hq:x.fam.lost=true\/Wa6 x.fam=true):Wi p (WbY x)<Wi p x:=by
 have hs:=hl.spare;have e:Wi p x=if x.fam.lost=true then(x.undos.length:Int)+3 else 73-3*x.pc+Wlz x.fam+WaY x:=by unfold Wi;rw[if_neg (by omega),if_pos h2]
 unfold WbY;split
 .rename_i bz;rw[We1,e,if_pos bz];omega
 .rename_i bz;rw[if_pos (hq.resolve_left bz),e,if_neg bz];refine Xcv (Xfp (Wce rfl)) ?_;have hp:=WfR ht;have h0:=Wpr x.fam x.fam.kids;obtain⟨f1,f2,f3⟩:=hl.fork h2;obtain⟨i,hi,aS,ho⟩:=Wft (l:=p.1) hl.pc.1 f1;have hf:=WfX aD (i+1) (by omega);have x7:=WdZ hi;rw[←ho,f2]at x7;have hz:Wed p (x.pc+1)=0:=by
   unfold Wed;have:frk p.1 (i+1)=1:=by rw[x7]at hf⊢;have:((11:Int)==11).toNat=1:=rfl;omega
   rw[show(x.pc+1).toNat=i+1 by omega,this];rfl
  show 75-3*(x.pc+1) -WrX x+Wed p (x.pc+1)+WaY x<73-3*x.pc+Wsw x.fam x.fam.kids+WaY x;rw[hz];omega
theorem WlX(aD:CC p.1)(hl:RLive p n x)(h3:x.phase=3):Wi p (WaT w x).2<Wi p x:=by
 have hz:=hl.back (.inl h3);have hM:=hl.marks;unfold WaT;split
 .have cJ:0<=x.last.2.2.2.1:=(hM.each _ (Wf7 hz _)).2.2.2.1;exact Wg0 (.inr (.inl h3)) (by omega)
 .have e:Wi p x=x.last.2.1+74-3*x.last.1+Wed p x.pc+WaY x:=by unfold Wi;rw[if_neg (by omega),if_neg (by omega),if_pos h3]
  have e':Wi p ({x with newRv:=w.mem.1,pos:=0,phase:=4}:Rt)=x.last.2.1-0+73-3*x.last.1+Wed p x.pc+WaY x:=rfl;show Wi p ({x with newRv:=w.mem.1,pos:=0,phase:=4}:Rt)<_;rw[e,e'];omega
theorem WmA(aD:CC p.1)(hl:RLive p n x)(ht:RT x)(h4:x.phase=4):Wi p (WaG w x)<Wi p x:=by
 have hz:=hl.back (.inr h4);have hs:=hl.spare;have bQ:=hl.pos h4;obtain⟨m1,m2,m3,m4,m5⟩:=Wk8 aD hl hz;have aS:=hl.pc;have hlen:=aD.len;have wG:=Wq0 aD aS.2;have hp:=WfR ht;have e:Wi p x=x.last.2.1-x.pos+73-3*x.last.1+Wed p x.pc+WaY x:=by unfold Wi;rw[if_neg (by omega),if_neg (by omega),if_neg (by omega),if_pos h4]
 unfold WaG;split
 .simp only;split
  .rw[We1,e];unfold WaY;omega
  .have e':Wi p ({x with pos:=x.pos+1}:Rt)=x.last.2.1-(x.pos+1)+73-3*x.last.1+Wed p x.pc+WaY x:=by
    unfold Wi;rw[if_neg (show¬x.phase=1 by omega),if_neg (show¬x.phase=2 by omega),if_neg (show¬x.phase=3 by omega),if_pos h4];rfl
   rw[e,e'];omega
 .rw[e];refine Xcv (Xfp (Wce rfl)) ?_;show 75-3*(x.last.1+1) -WrX x+Wed p (x.last.1+1)+WaY x<_;rw[m5];omega
theorem WmT(hc:CmOk x.cm)(h5:x.phase=5)(ll:x.cm.phase≠6/\x.cm.phase≠8)(hdm:x.doomed=true->x.cm.phase<=3):Wi p (Wal w x k).2<Wi p x:=by
 have e:Wi p x=W6 x.cm+x.undos.length+3:=by unfold Wi;rw[h5];rfl
 have hb:=(WgD hc).2.2 ll.1 ll.2;unfold Wal;split
 .rename_i hd;simp only;split
  .rw[We1,e];omega
  .have e':Wi p ({x with cm:=Wag x.cm,doomed:=false}:Rt)=W6 (Wag x.cm)+x.undos.length+3:=by
    unfold Wi;show(if x.phase=1 then _ else _)=_;rw[h5];rfl
   rw[e',e];have:=(Wmq hc).2 (hdm hd);omega
 .have hs:=Wnl (m:=w.mem) hc ll.1 ll.2;show Wi p (Wbh {x with cm:=(WB w.mem x.cm).2})<_;generalize (WB w.mem x.cm).2=c at*;unfold Wbh;split
  .have e':Wi p (WcI ({x with cm:=c}:Rt))=x.undos.length+2:=rfl;rw[e',e];omega
  .split
   .rw[e];by_cases h2:x.fate=2
    .have e':Wi p ({x with stamp:=c.wv,cm:={},phase:=if x.fate=2 then 6 else 7}:Rt)=x.undos.length+2:=by rw[if_pos h2];rfl
     show Wi p ({x with stamp:=c.wv,cm:={},phase:=if x.fate=2 then 6 else 7}:Rt)<_;rw[e'];omega
    .have e':Wi p ({x with stamp:=c.wv,cm:={},phase:=if x.fate=2 then 6 else 7}:Rt)=1:=by rw[if_neg h2];rfl
     show Wi p ({x with stamp:=c.wv,cm:={},phase:=if x.fate=2 then 6 else 7}:Rt)<_;rw[e'];omega
   .have e':Wi p ({x with cm:=c}:Rt)=W6 c+x.undos.length+3:=by
     unfold Wi;show(if x.phase=1 then _ else _)=_;rw[h5];rfl
    rw[e',e];omega
end
section
variable{w:Wo}{x y:Rt}{k:Nat}{p:Pg}{n:Int}{o:Opn}
theorem RT.of(h:RT x)(hb:y.busy=x.busy)(hp:y.pb=x.pb)(h2:y.phase≠2)(h5:y.phase≠5):RT y:=
 ⟨λhy=>by rw[hp];exact h.pb (hb▸hy),λhy=>absurd hy h2,λhy=>absurd hy h5⟩
theorem RT.no(hb:y.busy=false)(h2:y.phase≠2)(h5:y.phase≠5):RT y:=
 ⟨(λhy=>by rw[hb]at hy;cases hy),λhy=>absurd hy h2,λhy=>absurd hy h5⟩
theorem WeQ:RT (WcI x):=RT.no rfl (by show(6:Int)≠2;omega) (by show(6:Int)≠5;omega)
theorem WhB:RT (WA x):=by
 unfold WA;split
 .exact WeQ
 .exact RT.no rfl (by show(3:Int)≠2;omega) (by show(3:Int)≠5;omega)
theorem WmC(h:RT x){out:Int}:RT (Wao w x k out).2:=by
 unfold Wao;simp only;generalize (if out=2 then []else x.writes)=rows;split
 .exact h.of rfl rfl (by show(8:Int)≠2;omega) (by show(8:Int)≠5;omega)
 .refine⟨h.pb,λhy=>by(change (5:Int)=2 at hy;omega),λ_=>?_⟩;have e:(Wbc ((k:Int)+1) x.rv rows x.reads).phase=if(Wc3 rows).length=0 then 2 else 1:=rfl;show(Wbc ((k:Int)+1) x.rv rows x.reads).phase≠6/\(Wbc ((k:Int)+1) x.rv rows x.reads).phase≠8;rw[e];split<;>omega
theorem Ws2(h:RT x)(h1:x.phase=1):RT (Wc2 w x o):=by
 have hn:∀y:Rt,y.phase=1->y.phase≠2/\y.phase≠5:=λy hy=>by omega
 unfold Wc2;cases Wbk x.writes o.2.2.1 with
 |some v=>exact h.of rfl rfl (hn _ h1).1 (hn _ h1).2
 |none=>
  simp only;have hq:0<=(if x.busy=true then x.pb else(o.2.2.1,0,0,0)).2.1/\(if x.busy=true then x.pb else(o.2.2.1,0,0,0)).2.1<=2:=by
   split
   .have:=h.pb ‹_›;omega
   .simp
  have hs:=WnZ (m:=w.mem) (rv:=x.rv) hq;generalize (if x.busy=true then x.pb else(o.2.2.1,0,0,0))=q0 at*;generalize W0 w.mem x.rv q0=q at*;split
  .exact WhB
  .split
   .exact RT.no rfl (hn _ h1).1 (hn _ h1).2
   .exact⟨λ_=>by show q.2.1=1\/q.2.1=2;omega,λhy=>absurd hy (hn _ h1).1,λhy=>absurd hy (hn _ h1).2⟩
theorem Wr4{rv:Int}{regs:List Int}{writes:List Rw}{u:Nat}(j:Nat)(h:j<(Wax rv regs writes u).kids.length):KT (Wax rv regs writes u) j (Wax rv regs writes u).kids[j]:=by
 have e:(Wax rv regs writes u).kids[j]={regs:=regs}:=by simp only[Wax,Xbg]
 rw[e];refine⟨(λh=>by cases h),?_,λ_ e he=>by cases he⟩;show(0:Int)=(j:Int)+1↔(0:Int)=2;omega
theorem WuZ(h:RT x)(h1:x.phase=1):RT (Wfi w x k p).2:=by
 have hn:∀y:Rt,y.phase=1->y.phase≠2/\y.phase≠5:=λy hy=>by omega
 unfold Wfi;split
 .exact WmC h
 .simp only;generalize opN p.1 x.pc=o;split
  .exact Ws2 h h1
  .split
   .unfold WbT;split
    .exact WmC h
    .split
     .exact h.of rfl rfl (hn _ h1).1 (hn _ h1).2
     .exact h.of rfl rfl (hn _ h1).1 (hn _ h1).2
   .split
    .exact⟨h.pb,λ_=>.inr λj hj=>Wr4 j hj,λhy=>by(change (2:Int)=5 at hy;omega)⟩
    .split
     .unfold Wbr;cases Wak w.holds ((k:Int)+1) (Waz o).1 (Waz o).2 with
      |none=>exact WhB
      |some hs=>exact h.of rfl rfl (hn _ h1).1 (hn _ h1).2
     .repeat' split
      all_goals exact h.of rfl rfl (hn _ h1).1 (hn _ h1).2
theorem WpV(h:RT x)(h5:x.phase=5):RT (Wal w x k).2:=by
 unfold Wal;split
 .simp only;split
  .exact WeQ
  .rename_i h8;refine⟨h.pb,λhy=>by(change x.phase=2 at hy;omega),λ_=>⟨?_,h8⟩⟩;have:=(h.cm h5).1;show(Wag x.cm).phase≠6;unfold Wag Waq
   repeat' split
   all_goals first|(simp only;omega)|exact this
 .show RT (Wbh {x with cm:=(WB w.mem x.cm).2});generalize (WB w.mem x.cm).2=c;unfold Wbh;split
  .exact WeQ
  .rename_i h8;split
   .have:(if x.fate=2 then(6:Int)else 7)≠2/\(if x.fate=2 then(6:Int)else 7)≠5:=by split<;>omega
    exact h.of rfl rfl this.1 this.2
   .rename_i h6;exact⟨h.pb,λhy=>by(change x.phase=2 at hy;omega),λ_=>⟨h6,h8⟩⟩
theorem Wo8(h:RT x):RT (W2 w x k p).2:=by
 unfold W2;by_cases hd:x.doomed=true/\1<=x.phase/\x.phase<=4
 .rw[if_pos hd];exact WeQ
 rw[if_neg hd];by_cases h0:x.phase=0
 .rw[if_pos h0];unfold Wdk;split
  .exact h
  .split
   .exact h
   .split
    .exact h
    .exact RT.no rfl (by show(1:Int)≠2;omega) (by show(1:Int)≠5;omega)
 rw[if_neg h0];by_cases h1:x.phase=1
 .rw[if_pos h1];exact WuZ h h1
 rw[if_neg h1];by_cases h2:x.phase=2
 .rw[if_pos h2];show RT (WbY x);unfold WbY;split
  .exact WeQ
  .split
   .exact h.of rfl rfl (by show(1:Int)≠2;omega) (by show(1:Int)≠5;omega)
   .exact h
 rw[if_neg h2];by_cases h3:x.phase=3
 .rw[if_pos h3];unfold WaT;split
  .exact h.of rfl rfl (by show x.phase≠2;omega) (by show x.phase≠5;omega)
  .exact h.of rfl rfl (by show(4:Int)≠2;omega) (by show(4:Int)≠5;omega)
 rw[if_neg h3];by_cases h4:x.phase=4
 .rw[if_pos h4];show RT (WaG w x);unfold WaG;simp only;split
  .split
   .exact WeQ
   .exact h.of rfl rfl (by show x.phase≠2;omega) (by show x.phase≠5;omega)
  .exact h.of rfl rfl (by show(1:Int)≠2;omega) (by show(1:Int)≠5;omega)
 rw[if_neg h4];by_cases h5:x.phase=5
 .rw[if_pos h5];exact WpV h h5
 rw[if_neg h5];by_cases h6:x.phase=6
 .rw[if_pos h6];by_cases hz:x.undos.length>0
  .rw[if_pos hz];exact h.of rfl rfl (by show x.phase≠2;omega) (by show x.phase≠5;omega)
  .rw[if_neg hz];exact h.of rfl rfl (by show(7:Int)≠2;omega) (by show(7:Int)≠5;omega)
 rw[if_neg h6];by_cases h7:x.phase=7
 .rw[if_pos h7];by_cases hf:x.fate=0
  .rw[if_pos hf];exact RT.no rfl (by show(0:Int)≠2;omega) (by show(0:Int)≠5;omega)
  .rw[if_neg hf];exact h.of rfl rfl (by show(8:Int)≠2;omega) (by show(8:Int)≠5;omega)
 .rw[if_neg h7];exact h
end
section
variable{w:Wo}{x y:Rt}{k:Nat}{p:Pg}{n:Int}{o:Opn}{f:Fm}{codes:List (List Opn)}
theorem WoB(hp:POk p)(hx:ROk p n x)(ht:RT x)(h:1<=x.phase/\x.phase<=4):(x.undos.length:Int)+3<=Wi p x:=by
 have hl:=hx.live h;have hs:=hl.spare;have hlen:=hp.code.len;by_cases h1:x.phase=1
 .have:=Wei hp.code hl ht h1;omega
 by_cases h2:x.phase=2
 .have aS:=hl.pc;obtain⟨f1,f2,f3⟩:=hl.fork h2;have e:Wi p x=if x.fam.lost=true then(x.undos.length:Int)+3 else 73-3*x.pc+Wlz x.fam+WaY x:=by unfold Wi;rw[if_neg (by omega),if_pos h2]
  rw[e];split
  .omega
  .have:=Wpr x.fam x.fam.kids;unfold Wlz WaY;omega
 have hz:=hl.back (by omega);obtain⟨m1,m2,m3,m4,m5⟩:=Wk8 hp.code hl hz;have aS:=hl.pc;have wG:=Wq0 hp.code aS.2;by_cases h3:x.phase=3
 .have e:Wi p x=x.last.2.1+74-3*x.last.1+Wed p x.pc+WaY x:=by unfold Wi;rw[if_neg h1,if_neg h2,if_pos h3]
  rw[e];unfold WaY;omega
 .have h4:x.phase=4:=by omega
  have bQ:=hl.pos h4;have e:Wi p x=x.last.2.1-x.pos+73-3*x.last.1+Wed p x.pc+WaY x:=by unfold Wi;rw[if_neg h1,if_neg h2,if_neg h3,if_pos h4]
  rw[e];unfold WaY;omega
theorem WjO(hp:POk p)(hx:ROk p n x)(qQ:RX x)(ht:RT x)(hk:k<=8)(h:1<=x.phase/\x.phase<=7):
  Wi p (W2 w x k p).2<Wi p x\/(x.phase=2/\x.fam.lost≠true/\Wa6 x.fam≠true/\(W2 w x k p).2=x):=by
 unfold W2;by_cases hd:x.doomed=true/\1<=x.phase/\x.phase<=4
 .rw[if_pos hd];have:=WoB hp hx ht hd.2;left;show Wi p (WcI x)<_;rw[We1];omega
 rw[if_neg hd,if_neg (by omega)];by_cases h1:x.phase=1
 .rw[if_pos h1];exact .inl (Wq2 hp.code hp.k3 (hx.live (by omega)) ht h1 hk λregs writes rv=>Wqv hp.k3)
 rw[if_neg h1];by_cases h2:x.phase=2
 .rw[if_pos h2];by_cases hq:x.fam.lost=true\/Wa6 x.fam=true
  .exact .inl (Wpy (hx.live (by omega)) hp.code ht h2 hq)
  .refine .inr ⟨h2,λh=>hq (.inl h),λh=>hq (.inr h),?_⟩;show WbY x=x;unfold WbY;rw[if_neg (λh=>hq (.inl h)),if_neg (λh=>hq (.inr h))]
 rw[if_neg h2];by_cases h3:x.phase=3
 .rw[if_pos h3];exact .inl (WlX hp.code (hx.live (by omega)) h3)
 rw[if_neg h3];by_cases h4:x.phase=4
 .rw[if_pos h4];exact .inl (WmA hp.code (hx.live (by omega)) ht h4)
 rw[if_neg h4];by_cases h5:x.phase=5
 .rw[if_pos h5];exact .inl (WmT (hx.comm h5) h5 (ht.cm h5) λhdm=>by
   rcases qQ.doom hdm with h|h
   .omega
   .exact h.2)
 rw[if_neg h5];left;by_cases h6:x.phase=6
 .rw[if_pos h6];by_cases hz:x.undos.length>0
  .rw[if_pos hz];exact Wg0 (.inr (.inr h6)) (by omega)
  .rw[if_neg hz,WnG h6];show(1:Int)<_;omega
 .rw[if_neg h6,if_pos (by omega)];have e:Wi p x=1:=by unfold Wi;rw[show x.phase=7 by omega];rfl
  rw[e];by_cases hf:x.fate=0
  .rw[if_pos hf];show(0:Int)<1;omega
  .rw[if_neg hf];show(0:Int)<1;omega
theorem Wvd(f:Fm):Wfg f=(f.kids.length:Int) -f.kids.countP λx=>decide (x.phase=3):=by
 unfold Wfg;have:∀l:List Kd,Wc1 Way l=(l.length:Int) -l.countP λx=>decide (x.phase=3):=λl=>by
  induction l with
  |nil=>rfl
  |cons x l ih=>
   have e:Wc1 Way (x::l)=Way x+Wc1 Way l:=by simp[Wc1]
   rw[e,ih,List.countP_cons,Xr];unfold Way;by_cases h:x.phase=3
   .rw[if_pos h,decide_eq_true h];simp;omega
   .rw[if_neg h,decide_eq_false h];simp;omega
 exact this f.kids
theorem Ws3(hF:FOk codes n f)(h3:codes.length<=3)(hl:∀c∈codes,c.length<=24)(hT:∀(j:Nat) (h:j<f.kids.length),KT f j f.kids[j]):Wlz f<=381:=by
 have hlen:=hF.len;have hcl:=hF.clock;have hdn:=hF.done;have ka:=Wvd f;have zV:=WkL f;have nC:f.clock<=0->∀x:Kd,∀k (h:k<f.kids.length),f.kids[k]=x->Wbv f.clock x=0:=λh0 x k hk he=>by
  have:=(hF.kid k hk).since;rw[he]at this;unfold Wbv;rw[if_neg (by omega)]
 have td:Wc1 (WK f.clock) f.kids<=(if f.clock<=0 then 26 else 52)*Wfg f:=by
  have e:∀a:Int,Wc1 (λx=>0+a*Way x) f.kids=a*Wfg f:=λa=>by
   rw[WkO (g:=λ_=>0)];have:∀l:List Kd,Wc1 (λ_=>0) l=0:=λl=>by induction l with
    |nil=>rfl
    |cons x l ih=>simp only[Wc1,Xai,Xcd]at*;omega
   rw[this];unfold Wfg;omega
  rw[←e];refine Wis λx hx=>?_;obtain⟨k,hk,he⟩:=Xaq hx;have bg:k<codes.length:=by omega
  have hK:=hF.kid k hk;rw[Wf bg,he]at hK;obtain⟨c1,c2,c3,c4⟩:=WeK hK (hl _ (Xx bg));have hb:=Wcg f.clock x;have aV:=hK.phase;unfold WK;by_cases p3:x.phase=3
  .have:Wbf x=0:=by unfold Wbf;rw[if_pos p3]
   have hu:Way x=0:=by unfold Way;rw[if_pos p3]
   rw[hu]at hb⊢;omega
  .have hu:Way x=1:=Wci p3;rw[hu]at hb⊢;split
   .rw[nC ‹_› x k hk he];omega
   .omega
 refine Wk1 (by omega) λx hx qp=>?_;obtain⟨k,hk,he⟩:=Xaq hx;have bg:k<codes.length:=by omega
 have hK:=hF.kid k hk;rw[Wf bg,he]at hK;have kp:=hT k hk;rw[he]at kp;obtain⟨l1,l2,l3⟩:=WkC hK (hl _ (Xx bg)) kp.pb;have hb:=Wcg f.clock x;unfold fP fQ;by_cases h0:f.clock<=0
 .rw[if_pos h0]at td;have hs:=nC h0 x k hk he;rw[hs];have:Wfg f=0\/Wfg f=1\/Wfg f=2\/Wfg f=3:=by omega
  rcases this with hu|hu|hu|hu<;>(rw[hu]at td⊢;unfold tri;simp;omega)
 .rw[if_neg h0]at td;have:Wfg f=0\/Wfg f=1\/Wfg f=2:=by omega
  rcases this with hu|hu|hu<;>(rw[hu]at td⊢;unfold tri;simp;omega)
theorem WbO(hp:POk p)(hx:ROk p n x)(ht:RT x):0<=Wi p x/\Wi p x<=808/\(1<=x.phase/\x.phase<=7->1<=Wi p x):=by
 have aV:=hx.phase;have cJ:=hx.ul;have hlen:=hp.code.len;by_cases h:1<=x.phase/\x.phase<=4
 .have qa:=WoB hp hx ht h;refine⟨by omega,?_,λ_=>by omega⟩;have hl:=hx.live h;have hs:=hl.spare;have aS:=hl.pc;have hu:=hl.ul;have x8:Wed p x.pc<=382:=by unfold Wed;omega
  have gU:=WfR ht;by_cases h1:x.phase=1
  .rw[Wce h1];unfold WaY;omega
  by_cases h2:x.phase=2
  .obtain⟨f1,f2,f3⟩:=hl.fork h2;have e:Wi p x=if x.fam.lost=true then(x.undos.length:Int)+3 else 73-3*x.pc+Wlz x.fam+WaY x:=by unfold Wi;rw[if_neg (by omega),if_pos h2]
   rw[e];split
   .omega
   .rename_i bz;have:=Ws3 f3 hp.k3 (λc hc=>(hp.kids c hc).toCC.len) ((ht.fam h2).resolve_left bz);unfold WaY;omega
  have hz:=hl.back (by omega);obtain⟨m1,m2,m3,m4,m5⟩:=Wk8 hp.code hl hz;have hM:=(hl.marks.each _ (Wf7 hz zRM)).2.1;have uN:=WhL p.1 (show x.last.1.toNat<=x.pc.toNat by omega);have zW:=WfX hp.code x.pc.toNat (by omega);have hM':x.last.2.1<=x.last.1+72*frk p.1 x.last.1.toNat:=hM.2.1;have mt:Wed p x.pc=382*(1-frk p.1 x.pc.toNat):=rfl;by_cases h3:x.phase=3
  .have e:Wi p x=x.last.2.1+74-3*x.last.1+Wed p x.pc+WaY x:=by unfold Wi;rw[if_neg h1,if_neg h2,if_pos h3]
   rw[e,mt];unfold WaY;omega
  .have h4:x.phase=4:=by omega
   have bQ:=hl.pos h4;have e:Wi p x=x.last.2.1-x.pos+73-3*x.last.1+Wed p x.pc+WaY x:=by unfold Wi;rw[if_neg h1,if_neg h2,if_neg h3,if_pos h4]
   rw[e,mt];unfold WaY;omega
 .have:x.phase=0\/x.phase=5\/x.phase=6\/x.phase=7\/x.phase=8:=by omega
  rcases this with h|h|h|h|h
  .have e:Wi p x=0:=by unfold Wi;rw[h];rfl
   omega
  .have hb:=WgD (hx.comm h);have e:Wi p x=W6 x.cm+x.undos.length+3:=by unfold Wi;rw[h];rfl
   omega
  .rw[WnG h];omega
  .have e:Wi p x=1:=by unfold Wi;rw[h];rfl
   omega
  .have e:Wi p x=0:=by unfold Wi;rw[h];rfl
   omega
end
section
def Wvz(m:Mm)(rv:Int):Prop:=∀i,0<=i->i<=7->(WN m i).2.2=0/\(WN m i).2.1<=rv
def pbV(m:Mm)(b:Bool)(q:Pb):Prop:=b=true->(0<=q.1/\q.1<=7)/\q.2.2.1=(WN m q.1).2.1
variable{m:Mm}{rv:Int}{q:Pb}{o:Opn}{x:Kd}{f:Fm}{k:Nat}{code:List Opn}{codes:List (List Opn)}{n:Int}
theorem Wru(h:Wvz m rv)(hc:0<=q.1/\q.1<=7)(hp:0<=q.2.1/\q.2.1<=2)(hv:1<=q.2.1->q.2.2.1=(WN m q.1).2.1):
  (W0 m rv q).1=q.1/\(W0 m rv q).2.1=q.2.1+1/\(W0 m rv q).2.2.1=(WN m q.1).2.1:=by
 obtain⟨f1,f2⟩:=h q.1 hc.1 hc.2;have e:Xd m.2 (Xb q.1) (0,(0,0))=WN m q.1:=rfl;unfold W0;simp only[e,Wu,Wav];have:q.2.1=0\/q.2.1=1\/q.2.1=2:=by omega
 rcases this with h0|h0|h0
 .rw[if_pos h0,if_pos f1,if_pos f2,h0];exact⟨rfl,rfl,rfl⟩
 .have:=hv (by omega);rw[if_neg (by omega),if_pos h0,h0];exact⟨rfl,rfl,this⟩
 .have:=hv (by omega);rw[if_neg (by omega),if_neg (by omega),if_pos h0,if_pos f1,if_pos this.symm,h0];exact⟨rfl,rfl,this⟩
theorem WoQ{b:Bool}{p:Pb}{c:Int}(hm:Wvz m rv)(hv:pbV m b p)(hb:b=true->p.2.1=1\/p.2.1=2)(hB:0<=c/\c<=7):
  (0<=(if b=true then p else(c,0,0,0)).1/\(if b=true then p else(c,0,0,0)).1<=7)/\(if b=true then p else(c,0,0,0)).2.1<=2/\
  (W0 m rv (if b=true then p else(c,0,0,0))).1=(if b=true then p else(c,0,0,0)).1/\(W0 m rv (if b=true then p else(c,0,0,0))).2.1=(if b=true then p else(c,0,0,0)).2.1+1/\
  (W0 m rv (if b=true then p else(c,0,0,0))).2.2.1=(WN m (if b=true then p else(c,0,0,0)).1).2.1:=by
 by_cases h:b=true
 .rw[if_pos h];have h1:=hv h;have h2:=hb h;exact⟨h1.1,by omega,Wru hm h1.1 (by omega) λ_=>h1.2⟩
 .rw[if_neg h];exact⟨hB,by show(0:Int)<=2;omega,Wru hm hB (by show(0:Int)<=0/\(0:Int)<=2;omega) λh=>by(change (1:Int)<=0 at h;omega)⟩
structure FGd(m:Mm)(f:Fm):Prop where
 lost:f.lost=false
 free:Wvz m f.rv
 kid:∀(k:Nat) (h:k<f.kids.length),pbV m f.kids[k].busy f.kids[k].pb
theorem WtQ(hm:Wvz m f.rv)(hl:f.lost=false)(hv:pbV m x.busy x.pb)(hb:x.busy=true->x.pb.2.1=1\/x.pb.2.1=2)(hB:0<=o.2.2.1/\o.2.2.1<=7):
  (Wec m f x o).1=f/\pbV m (Wec m f x o).2.busy (Wec m f x o).2.pb:=by
 unfold Wec;cases Wbk x.writes o.2.2.1 with
 |some v=>exact⟨rfl,hv⟩
 |none=>
  simp only;cases ent f.buf o.2.2.1 with
  |some r=>
   simp only;split
   .exact⟨rfl,(λh=>by cases h)⟩
   .exact⟨rfl,hv⟩
  |none=>
   simp only;obtain⟨hc,uB,hs⟩:=WoQ (b:=x.busy) (p:=x.pb) (c:=o.2.2.1) hm hv hb hB;generalize (if x.busy=true then x.pb else(o.2.2.1,0,0,0))=q0 at*;generalize W0 m f.rv q0=q at*;obtain⟨s1,s2,s3⟩:=hs;rw[if_neg (by omega)];split
   .exact⟨rfl,(λh=>by cases h)⟩
   .refine⟨rfl,λ_=>?_⟩;show(0<=q.1/\q.1<=7)/\q.2.2.1=(WN m q.1).2.1;rw[s1];exact⟨hc,s3⟩
theorem WsY(hm:Wvz m f.rv)(hl:f.lost=false)(bg:KC code)(hK:KOk code f.clock n x)(hv:pbV m x.busy x.pb)(ht:KT f k x):
  (Wea m f x k code).1.lost=false/\(Wea m f x k code).1.rv=f.rv/\(Wea m f x k code).1.kids=f.kids/\pbV m (Wea m f x k code).2.busy (Wea m f x k code).2.pb:=by
 have dQ:pbV m (f.again x).busy (f.again x).pb:=λh=>by cases h
 unfold Wea;split
 .rename_i h0;unfold WqG;split
  .exact⟨hl,rfl,rfl,hv⟩
  .obtain⟨i,hi,aS,ho⟩:=Wft (l:=code) hK.pc.1 (by have:=hK.pc;omega);simp only[ho];split
   .have aH:=WvX (bg.ok i hi).1 ‹_›;have hB:0<=code[i].2.2.1/\code[i].2.2.1<=7:=by have:=aH.2;unfold W5 at this;simpa using this
    obtain⟨a,b⟩:=WtQ (o:=code[i]) hm hl hv ht.pb hB;rw[a];exact⟨hl,rfl,rfl,b⟩
   .split
    .refine⟨hl,rfl,rfl,?_⟩;unfold Wh1;split<;>exact hv
    .repeat' split
     all_goals exact⟨hl,rfl,rfl,hv⟩
 .split
  .split
   .exact⟨hl,rfl,rfl,hv⟩
   .exact⟨hl,rfl,rfl,hv⟩
  .split
   .split
    .exact⟨hl,rfl,rfl,hv⟩
    .simp only;split
     .exact⟨hl,rfl,rfl,hv⟩
     .exact⟨hl,rfl,rfl,dQ⟩
   .exact⟨hl,rfl,rfl,hv⟩
theorem Wt6(hF:FOk codes n f)(hT:∀(j:Nat) (h:j<f.kids.length),KT f j f.kids[j])(hg:FGd m f)(hk:k<f.kids.length)(bg:KC (codes.getD k [])):FGd m (Wcz m f k (codes.getD k [])):=by
 have hg0:f.kids.getD k {}=f.kids[k]:=Wf hk _;unfold Wcz;rw[if_neg (by rw[hg.lost];simp),hg0];obtain⟨a,b,c,d⟩:=WsY (k:=k) hg.free hg.lost bg (hF.kid k hk) (hg.kid k hk) (hT k hk);refine⟨a,?_,λj hj=>?_⟩
 .show Wvz m (Wea m f f.kids[k] k (codes.getD k [])).1.rv;rw[b];exact hg.free
 .have hj':j<f.kids.length:=by rw[WkK c]at hj;exact hj
  rw[WgL hk c hj' hj];split
  .exact d
  .exact hg.kid j hj'
end
section
structure CGd(m:Mm)(c:Cm):Prop where
 ph:1<=c.phase/\c.phase<=5
 sole:∀i,0<=i->i<=7->owner m i=0\/owner m i=c.who
 ver:c.phase<=3->∀i,0<=i->i<=7->(WN m i).2.1<=c.rv
variable{m:Mm}{c:Cm}
theorem Woo(ph:Int)(h:ph=2\/ph=3\/ph=4\/ph=5\/ph=6):2<=Wa9 c ph/\Wa9 c ph<=6/\ph<=Wa9 c ph:=by
 unfold Wa9;split
 .omega
 .split<;>omega
theorem Wgq{ph:Int}(h:ph=2\/ph=3\/ph=4\/ph=5\/ph=6)(hc:1<=c.phase/\c.phase<=5)(hle:c.phase<=ph):1<=(WQ c ph).phase/\(WQ c ph).phase<=6/\c.phase<=(WQ c ph).phase/\(WQ c ph).rv=c.rv/\(WQ c ph).who=c.who:=by
 unfold WQ;split
 .have:=Woo (c:=c) ph h;show 1<=Wa9 c ph/\Wa9 c ph<=6/\c.phase<=Wa9 c ph/\_/\_;exact⟨by omega,by omega,by omega,rfl,rfl⟩
 .exact⟨by show 1<=c.phase;omega,by show c.phase<=6;omega,Xv _,rfl,rfl⟩
theorem WrP(hc:CmOk c)(hm:WZ m=true)(hk:CmLk m c)(hg:CGd m c)(eQ:m.1<1000000):1<=(WB m c).2.phase/\(WB m c).2.phase<=6/\(WB m c).2.rv=c.rv/\
  ((WB m c).2.phase<=3->∀i,0<=i->i<=7->(WN (WB m c).1 i).2.1<=c.rv):=by
 have aV:=hg.ph;have hpos:=hc.pos;unfold Cm.steps at hpos;have we:∀j:Nat,(h:j<c.puts.length)->0<=c.puts[j].1/\c.puts[j].1<=7:=λj h=>(hc.rows _ (Xx h)).1;unfold WB;simp only;by_cases p1:c.phase=1
 .rw[if_pos p1];rw[p1]at hpos;simp at hpos;obtain⟨j,hj⟩:∃j:Nat,c.pos=j:=⟨c.pos.toNat,by omega⟩;have hjl:j<c.puts.length:=by omega
  have bZ:WbL c.puts c.pos (0,0)=c.puts[j]:=by unfold WbL;rw[hj,Xj];exact Wf hjl _
  have hb:=we j hjl;have dQ:¬lkd c c.puts[j].1:=λ⟨i,hi,a,b⟩=>by
   have hij:i<j:=by unfold lkA at b;omega
   have:=List.pairwise_iff_getElem.1 hc.pup i j hi hjl hij;omega
  have hown:(WN m c.puts[j].1).2.2=0:=by
   rcases hg.sole _ hb.1 hb.2 with h|h
   .exact h
   .exact absurd ((hk.own _ hb.1 hb.2).1 h) dQ
  rw[bZ,if_pos hown];obtain⟨a,b,_,d,_⟩:=Wgq (c:=c) (ph:=2) (by omega) aV (by omega);refine⟨a,b,d,λ_ i h0 h7=>?_⟩;show(WN (WnN m c.puts[j].1 c.who) i).2.1<=c.rv;unfold WnN;rw[We2 hm hb ⟨h0,h7⟩];split
  .exact hg.ver (by omega) _ hb.1 hb.2
  .exact hg.ver (by omega) i h0 h7
 rw[if_neg p1];by_cases p2:c.phase=2
 .rw[if_pos p2];have kp:tick m=((m.1+1,m.2),m.1+1):=by unfold tick;rw[if_pos eQ]
  have h0:=(WD hm).2.1;rw[kp,if_neg (show¬m.1+1=0 by omega)];have:=Woo (c:={c with wv:=m.1+1}) 3 (by omega);exact⟨by show 1<=Wa9 {c with wv:=m.1+1} 3;omega,by show Wa9 {c with wv:=m.1+1} 3<=6;omega,rfl,λ_ i h0 h7=>hg.ver (by omega) i h0 h7⟩
 rw[if_neg p2];by_cases p3:c.phase=3
 .rw[if_pos p3];rw[p3]at hpos;simp at hpos;have nc:0<=WbL c.reads c.pos 0/\WbL c.reads c.pos 0<=7:=by
   have:WbL c.reads c.pos 0=c.reads[c.pos.toNat]'(by omega):=Wf (by omega) _;rw[this];exact hc.rd _ (Xx _)
  have hs:=hg.sole _ nc.1 nc.2;have hv:=hg.ver (by omega) _ nc.1 nc.2;unfold owner at hs;rw[if_neg (by omega)];obtain⟨a,b,_,d,_⟩:=Wgq (c:=c) (ph:=4) (by omega) aV (by omega);exact⟨a,b,d,λ_ i h0 h7=>hg.ver (by omega) i h0 h7⟩
 rw[if_neg p3];by_cases p4:c.phase=4
 .rw[if_pos p4];obtain⟨a,b,e,d,_⟩:=Wgq (c:=c) (ph:=5) (by omega) aV (by omega);exact⟨a,b,d,λh=>by(change (WQ c 5).phase<=3 at h;omega)⟩
 rw[if_neg p4,if_pos (show c.phase=5 by omega)];obtain⟨a,b,e,d,_⟩:=Wgq (c:=c) (ph:=6) (by omega) aV (by omega);exact⟨a,b,d,λh=>by(change (WQ c 6).phase<=3 at h;omega)⟩
end
section
structure RGd(m:Mm)(x:Rt):Prop where
 dm:x.doomed=false
 sp:x.spare=0
 ph:x.phase=1\/x.phase=2\/x.phase=5\/x.phase=6\/x.phase=7
 run:x.phase=1\/x.phase=2->Wvz m x.rv/\pbV m x.busy x.pb
 fam:x.phase=2->FGd m x.fam
 cm:x.phase=5->CGd m x.cm
 ft:x.phase=5\/x.phase=6\/x.phase=7->x.fate≠0
variable{w:Wo}{x y:Rt}{k:Nat}{p:Pg}{n:Int}{o:Opn}
theorem RGd.on{m:Mm}(h:RGd m x)(h1:x.phase=1)(hy:y.phase=1)(hd:y.doomed=x.doomed)(hs:y.spare=x.spare)(hr:y.rv=x.rv)(hv:pbV m y.busy y.pb):RGd m y:=
 ⟨hd.trans h.dm,hs.trans h.sp,.inl hy,λ_=>⟨by rw[hr];exact(h.run (.inl h1)).1,hv⟩,λh2=>by omega,λh2=>by omega,λh2=>by omega⟩
theorem Wmu(h:RGd w.mem x)(h1:x.phase=1){out:Int}(ho:out≠0):(Wao w x k out).2.phase=8\/RGd (Wao w x k out).1.mem (Wao w x k out).2:=by
 have hf:=(h.run (.inl h1)).1;unfold Wao;simp only;generalize (if out=2 then []else x.writes)=rows;split
 .exact .inl rfl
 .have e:(Wbc ((k:Int)+1) x.rv rows x.reads).phase=if(Wc3 rows).length=0 then 2 else 1:=rfl;refine .inr ⟨h.dm,h.sp,.inr (.inr (.inl rfl)),λh2=>?_,λh2=>?_,λ_=>⟨?_,λi a b=>.inl (hf i a b).1,λ_ i a b=>(hf i a b).2⟩,λ_=>ho⟩
  .change (5:Int)=1\/(5:Int)=2 at h2;omega
  .change (5:Int)=2 at h2;omega
  .show 1<=(Wbc ((k:Int)+1) x.rv rows x.reads).phase/\(Wbc ((k:Int)+1) x.rv rows x.reads).phase<=5;rw[e];split<;>omega
theorem WtK(h:RGd w.mem x)(h1:x.phase=1)(ht:RT x)(hB:0<=o.2.2.1/\o.2.2.1<=7):RGd w.mem (Wc2 w x o):=by
 obtain⟨hf,hv⟩:=h.run (.inl h1);unfold Wc2;cases Wbk x.writes o.2.2.1 with
 |some v=>exact h.on h1 h1 rfl rfl rfl hv
 |none=>
  simp only;obtain⟨hc,uB,hs⟩:=WoQ (b:=x.busy) (p:=x.pb) (c:=o.2.2.1) hf hv ht.pb hB;generalize (if x.busy=true then x.pb else(o.2.2.1,0,0,0))=q0 at*;generalize W0 w.mem x.rv q0=q at*;obtain⟨s1,s2,s3⟩:=hs;rw[if_neg (by omega)];split
  .exact h.on h1 h1 rfl rfl rfl (λh=>by cases h)
  .refine h.on h1 h1 rfl rfl rfl λ_=>?_;show(0<=q.1/\q.1<=7)/\q.2.2.1=(WN w.mem q.1).2.1;rw[s1];exact⟨hc,s3⟩
theorem Wvi(aD:CC p.1)(hl:RLive p n x)(h:RGd w.mem x)(h1:x.phase=1)(ht:RT x)(hh:∀e∈w.holds,e.1=(k:Int)+1):(Wfi w x k p).2.phase=8\/RGd (Wfi w x k p).1.mem (Wfi w x k p).2:=by
 obtain⟨hf,hv⟩:=h.run (.inl h1);unfold Wfi;split
 .exact Wmu h h1 (by omega)
 .obtain⟨i,hi,aS,ho⟩:=Wft (l:=p.1) hl.pc.1 (by have:=hl.pc;omega);simp only[ho];split
  .have aH:=WvX (aD.ok i hi).1 ‹_›;have hB:0<=p.1[i].2.2.1/\p.1[i].2.2.1<=7:=by have:=aH.2;unfold W5 at this;simpa using this
   exact .inr (WtK h h1 ht hB)
  .split
   .unfold WbT;split
    .exact Wmu h h1 (by omega)
    .split
     .exact .inr (h.on h1 h1 rfl rfl rfl hv)
     .exact .inr (h.on h1 h1 rfl rfl rfl hv)
   .split
    .refine .inr ⟨h.dm,h.sp,.inr (.inl rfl),λ_=>⟨hf,hv⟩,λ_=>⟨rfl,hf,λj hj=>?_⟩,λh2=>?_,λh2=>?_⟩
     .have e:(Wax x.rv x.regs x.writes p.2.length).kids[j]={regs:=x.regs}:=by simp only[Wax,Xbg]
      show pbV w.mem (Wax x.rv x.regs x.writes p.2.length).kids[j].busy (Wax x.rv x.regs x.writes p.2.length).kids[j].pb;rw[e]
      exactλh=>by cases h
     .change (2:Int)=5 at h2;omega
     .change (2:Int)=5\/(2:Int)=6\/(2:Int)=7 at h2;omega
    .split
     .have hb:Wev w.holds ((k:Int)+1) (Waz p.1[i]).1 (Waz p.1[i]).2= []:=by
       unfold Wev;rw[List.map_eq_nil_iff,List.filter_eq_nil_iff];intro e he;have:=hh e he;unfold blk;simp[this]
      have e:Wak w.holds ((k:Int)+1) (Waz p.1[i]).1 (Waz p.1[i]).2=some (WfL w.holds ((k:Int)+1) (Waz p.1[i]).1 (Waz p.1[i]).2):=by unfold Wak;rw[if_pos hb]
      unfold Wbr;rw[e];exact .inr (h.on h1 h1 rfl rfl rfl hv)
     .repeat' split
      all_goals exact .inr (h.on h1 h1 rfl rfl rfl hv)
theorem Wug(hp:POk p)(hx:ROk p n x)(h:RGd w.mem x)(ht:RT x)(hh:∀e∈w.holds,e.1=(k:Int)+1)(hm:WZ w.mem=true)(hb:LB w k x)(eQ:w.mem.1<1000000):
  (W2 w x k p).2.phase=8\/RGd (W2 w x k p).1.mem (W2 w x k p).2:=by
 unfold W2;rw[if_neg (by rw[h.dm];simp),if_neg (by have:=h.ph;omega)];by_cases h1:x.phase=1
 .rw[if_pos h1];exact Wvi hp.code (hx.live (by omega)) h h1 ht hh
 rw[if_neg h1];by_cases h2:x.phase=2
 .rw[if_pos h2];obtain⟨hf,hv⟩:=h.run (.inr h2);right;show RGd w.mem (WbY x);unfold WbY;rw[if_neg (by rw[(h.fam h2).lost];simp)];split
  .exact⟨h.dm,h.sp,.inl rfl,λ_=>⟨hf,hv⟩,λh2=>by(change (1:Int)=2 at h2;omega),λh2=>by(change (1:Int)=5 at h2;omega),λh2=>by(change (1:Int)=5\/(1:Int)=6\/(1:Int)=7 at h2;omega)⟩
  .exact h
 rw[if_neg h2,if_neg (by have:=h.ph;omega),if_neg (by have:=h.ph;omega)];have lM:=h.ft (by have:=h.ph;omega);by_cases h5:x.phase=5
 .rw[if_pos h5];obtain⟨hw,hcl⟩:=hb.cm h5;have hc:=hx.comm h5;have hg:=h.cm h5;obtain⟨a,b,d,e⟩:=WrP hc hm hcl hg eQ;have tT:=WjQ w.mem x.cm;have ge:=λwho (a:who≠(k:Int)+1) (b:who≠0) (i:Int) (c:0<=i) (d:i<=7)=>WjN (i:=i) hc hm (who:=who) (by rw[hw];exact a) b ⟨c,d⟩;right;unfold Wal;rw[if_neg (by rw[h.dm];simp)];simp only;show RGd (WB w.mem x.cm).1 (Wbh {x with cm:=(WB w.mem x.cm).2});generalize (WB w.mem x.cm).1=m' at*;generalize (WB w.mem x.cm).2=c' at*;unfold Wbh;simp only;rw[if_neg (by omega)];split
  .have aV:(if x.fate=2 then(6:Int)else 7)=6\/(if x.fate=2 then(6:Int)else 7)=7:=by split<;>simp
   generalize (if x.fate=2 then(6:Int)else 7)=ph at*;exact⟨h.dm,h.sp,by show ph=1\/ph=2\/ph=5\/ph=6\/ph=7;omega,λh2=>by(change ph=1\/ph=2 at h2;omega),λh2=>by(change ph=2 at h2;omega),λh2=>by(change ph=5 at h2;omega),λ_=>lM⟩
  .refine⟨h.dm,h.sp,.inr (.inr (.inl h5)),λh2=>by(change x.phase=1\/x.phase=2 at h2;omega),λh2=>by(change x.phase=2 at h2;omega),λ_=>⟨⟨a,by show c'.phase<=5;omega⟩,λi i0 i7=>?_,λh3 i i0 i7=>?_⟩,λ_=>lM⟩
   .show owner m' i=0\/owner m' i=c'.who;by_cases z0:owner m' i=0
    .exact .inl z0
    .by_cases zk:owner m' i=(k:Int)+1
     .exact .inr (by rw[tT,hw];exact zk)
     .have:=(ge _ zk z0 i i0 i7).1.1 rfl;rcases hg.sole i i0 i7 with hs|hs
      .rw[hs]at this;exact absurd this.symm z0
      .rw[hs,hw]at this;exact absurd this.symm zk
   .show(WN m' i).2.1<=c'.rv;rw[d];exact e h3 i i0 i7
 rw[if_neg h5];by_cases h6:x.phase=6
 .rw[if_pos h6];right;by_cases hz:x.undos.length>0
  .rw[if_pos hz];exact⟨h.dm,h.sp,.inr (.inr (.inr (.inl h6))),λh2=>by(change x.phase=1\/x.phase=2 at h2;omega),λh2=>by(change x.phase=2 at h2;omega),λh2=>by(change x.phase=5 at h2;omega),λ_=>lM⟩
  .rw[if_neg hz];exact⟨h.dm,h.sp,.inr (.inr (.inr (.inr rfl))),λh2=>by(change (7:Int)=1\/(7:Int)=2 at h2;omega),λh2=>by(change (7:Int)=2 at h2;omega),λh2=>by(change (7:Int)=5 at h2;omega),λ_=>lM⟩
 .rw[if_neg h6,if_pos (by have:=h.ph;omega),if_neg lM];exact .inl rfl
end
section
variable{s:Sc}{w v:Wo}{n:Int}{a:Ac}{x y:Rt}{k:Nat}{p:Pg}{f:Fm}{codes:List (List Opn)}{m:Mm}
theorem WoO(hm:WZ m=true)(bg:∀c∈codes,KC c)(h3:codes.length<=3)(hF:FOk codes n f)(hT:∀(j:Nat) (h:j<f.kids.length),KT f j f.kids[j])(hk:k<codes.length):
  (Wcz m f k (codes.getD k [])).lost=true\/∀(j:Nat) (h:j<(Wcz m f k (codes.getD k [])).kids.length),KT (Wcz m f k (codes.getD k [])) j (Wcz m f k (codes.getD k [])).kids[j]:=by
 have hlen:=hF.len;have ct:k<f.kids.length:=by omega
 by_cases bz:f.lost=true
 .exact .inl (by rw[WgO bz];exact bz)
 have aM:codes.getD k []=codes[k]:=Wf hk _;have hKO:=hF.kid k ct;rw[aM]at hKO;have ho:=Wq1 (m:=m) (bg _ (Xx hk)) hF hKO (hT k ct);have hE:=Wwc ct (by omega) (λc hc=>(bg c hc).toCC.len) hF hT rfl ho;have aQ:Wcz m f k (codes.getD k [])=Fm.put (Wea m f f.kids[k] k codes[k]) k:=by
  unfold Wcz;rw[if_neg bz,aM,show f.kids.getD k {}=f.kids[k]from Wf ct _]
 rw[aQ];rcases hE with hE|hE
 .exact .inl hE
 .exact .inr hE.kt
theorem WpE{c:Cm}(hm:WZ m=true):(WB m c).1.1<=m.1+1:=by
 have ht:(tick m).1.1<=m.1+1:=by unfold tick;split<;>(simp only;omega)
 unfold WB;simp only;by_cases p1:c.phase=1
 .rw[if_pos p1];split<;>(show m.1<=m.1+1;omega)
 rw[if_neg p1];by_cases p2:c.phase=2
 .rw[if_pos p2];split<;>exact ht
 rw[if_neg p2];by_cases p3:c.phase=3
 .rw[if_pos p3];split<;>(show m.1<=m.1+1;omega)
 rw[if_neg p3];by_cases p4:c.phase=4
 .rw[if_pos p4];unfold Wem;split<;>(show m.1<=m.1+1;omega)
 rw[if_neg p4];by_cases p5:c.phase=5
 .rw[if_pos p5];unfold Wb5;split<;>(show m.1<=m.1+1;omega)
 rw[if_neg p5];by_cases p7:c.phase=7
 .rw[if_pos p7];unfold Wb5;split<;>(show m.1<=m.1+1;omega)
 rw[if_neg p7];show m.1<=m.1+1;omega
theorem Wjy{out:Int}:(Wao w x k out).1.mem=w.mem:=by
 unfold Wao;simp only;generalize (if out=2 then []else x.writes)=rows;split<;>rfl
theorem Wmb:(W2 w x k p).1.mem=w.mem\/(x.phase=5/\(W2 w x k p).1.mem=(WB w.mem x.cm).1):=by
 unfold W2;by_cases hd:x.doomed=true/\1<=x.phase/\x.phase<=4
 .rw[if_pos hd];exact .inl rfl
 rw[if_neg hd];by_cases h0:x.phase=0
 .rw[if_pos h0];left;unfold Wdk;repeat' split
  all_goals rfl
 rw[if_neg h0];by_cases h1:x.phase=1
 .rw[if_pos h1];left;unfold Wfi;split
  .exact Wjy
  .simp only;generalize opN p.1 x.pc=o;split
   .rfl
   .split
    .unfold WbT;split
     .exact Wjy
     .split<;>rfl
    .split
     .rfl
     .split
      .unfold Wbr;cases Wak w.holds ((k:Int)+1) (Waz o).1 (Waz o).2<;>rfl
      .repeat' split
       all_goals rfl
 rw[if_neg h1];by_cases h2:x.phase=2
 .rw[if_pos h2];exact .inl rfl
 rw[if_neg h2];by_cases h3:x.phase=3
 .rw[if_pos h3];left;unfold WaT;split<;>rfl
 rw[if_neg h3];by_cases h4:x.phase=4
 .rw[if_pos h4];exact .inl rfl
 rw[if_neg h4];by_cases h5:x.phase=5
 .rw[if_pos h5];unfold Wal;split
  .exact .inl rfl
  .exact .inr ⟨h5,rfl⟩
 rw[if_neg h5];left;by_cases h6:x.phase=6
 .rw[if_pos h6];split<;>rfl
 rw[if_neg h6];by_cases h7:x.phase=7
 .rw[if_pos h7];split<;>rfl
 .rw[if_neg h7]
structure WT(w:Wo):Prop where
 root:∀(k:Nat) (h:k<w.roots.length),RT w.roots[k]
 clk:w.mem.1<=w.now
theorem Wsr{w0:Wo}{q:Wo×Rt}(hx:WT w0)(hr:q.1.roots=w0.roots)(hq:RT q.2)(hc:q.1.mem.1<=q.1.now):WT (Wo.put q k):=by
 refine⟨λi hi=>?_,hc⟩;change i<(q.1.roots.set k q.2).length at hi;have gT:i<w0.roots.length:=by rw[Xaa,hr]at hi;exact hi
 show RT ((q.1.roots.set k q.2)[i]'hi);rw[Xam];split
 .exact hq
 .simp only[hr];exact hx.root i gT
theorem Wrx(h:WOk s.2.1 n w)(hx:WT w):WT (Wc6 s w a):=by
 have cC:WT {w with now:=w.now+1}:=⟨hx.root,by have:=hx.clk;show w.mem.1<=w.now+1;omega⟩;unfold Wc6;simp only;split
 .rename_i hb;have hk:a.2.1.toNat<w.roots.length:=by omega
  have hR:=hx.root _ hk;have qb:a.2.1.toNat<s.2.1.length:=by rw[←h.len];exact hk
  rw[Wf hk];split
  .unfold Wje;rw[Wf (show a.2.1.toNat<({w with now:=w.now+1}:Wo).roots.length from hk)];have aQ:=WhM (w:={w with now:=w.now+1}) (k:=a.2.1.toNat) (WgA h.progs qb) ⟨h.mem,h.shelf,h.holds⟩ (h.root _ hk) (by have:=h.l4;omega) h.n0;refine Wsr cC (Wh0 h hk) (Wo8 hR) ?_;have pX:(W2 {w with now:=w.now+1} w.roots[a.2.1.toNat] a.2.1.toNat (s.2.1.getD a.2.1.toNat pg0)).1.now=w.now+1:=aQ.now;rw[pX];have eQ:=hx.clk;rcases Wmb (w:={w with now:=w.now+1}) (x:=w.roots[a.2.1.toNat]) (k:=a.2.1.toNat) (p:=s.2.1.getD a.2.1.toNat pg0)with e|⟨_,e⟩
   .rw[e];show w.mem.1<=w.now+1;omega
   .rw[e];have:=WpE (m:=w.mem) (c:=w.roots[a.2.1.toNat].cm) h.mem;show(WB w.mem w.roots[a.2.1.toNat].cm).1.1<=w.now+1;omega
  .split
   .split
    .rename_i hc;unfold WwU;refine Wsr (w0:={w with now:=w.now+1}) cC rfl ?_ cC.clk;refine⟨hR.pb,λ_=>?_,λh5=>by(change w.roots[a.2.1.toNat].phase=5 at h5;omega)⟩;have hp:=WgA h.progs qb;have hF:=((h.root _ hk).live (by omega)).fork hc.1;rcases hR.fam hc.1 with hl|hT
     .left;show(Wcz w.mem w.roots[a.2.1.toNat].fam a.2.2.toNat _).lost=true;rw[WgO hl];exact hl
     .exact WoO h.mem hp.kids hp.k3 hF.2.2 hT (by omega)
    .exact cC
   .split
    .split
     .exact Wsr (w0:={w with now:=w.now+1}) cC rfl ⟨hR.pb,hR.fam,hR.cm⟩ cC.clk
     .exact cC
    .exact cC
 .exact cC
theorem WqQ:∀(l:List Ac) (n:Int) (w:Wo),WOk s.2.1 n w->WT w->WT (l.foldl (Wc6 s) w)
 | [],n,w,h,hx=>hx
 |a::l,n,w,h,hx=>WqQ l (n+1) _ (Wcy (a:=a) h) (Wrx (a:=a) h hx)
theorem WsB:WT (WfH s):=⟨λi h=>by
 simp only[WfH,Xbg];exact RT.no rfl (by show(0:Int)≠2;omega) (by show(0:Int)≠5;omega),Xv _⟩
end
section
variable{s:Sc}{w v:Wo}{n:Int}{a:Ac}{x y:Rt}{k:Nat}{p:Pg}{q:Wo×Rt}
structure TQ(w:Wo)(k:Nat)(x:Rt)(q:Wo×Rt):Prop where
 tok:q.1.token=w.token\/(q.1.token=(k:Int)+1/\w.token=0/\x.phase=0/\q.2.phase=0)\/(w.token=(k:Int)+1/\q.1.token=0/\q.2.phase=8)
 try1:x.phase≠0->x.phase≠8->q.2.phase≠0->q.2.tries=x.tries
 idle:x.phase=0->q.2.phase=0\/(q.2.tries=x.tries/\(w.token=0/\x.tries<3\/w.token=(k:Int)+1/\W4 k w.roots 0=true)/\q.1.token=w.token)
 done:x.phase=8->q=(w,x)
theorem TQ.keep(ht:q.1.token=w.token)(hr:q.2.tries=x.tries)(h0:x.phase≠0)(h8:x.phase≠8):TQ w k x q:=
 ⟨.inl ht,λ_ _ _=>hr,λh=>absurd h h0,λh=>absurd h h8⟩
theorem WsF{w0:Wo}{x0:Rt}(hw:w0.token=w.token)(hr:x0.tries=x.tries)(h0:x.phase≠0)(h8:x.phase≠8):TQ w k x (WjJ w0 x0 k):=by
 refine⟨?_,λ_ _ _=>hr,λh=>absurd h h0,λh=>absurd h h8⟩;show(if w0.token=(k:Int)+1 then 0 else w0.token)=w.token\/_;split
 .rename_i h;right;right;refine⟨by rw[←hw];exact h,?_,rfl⟩;show(if w0.token=(k:Int)+1 then 0 else w0.token)=0;rw[if_pos h]
 .exact .inl hw
theorem Wm5{out:Int}(h0:x.phase≠0)(h8:x.phase≠8):TQ w k x (Wao w x k out):=by
 unfold Wao;simp only;generalize (if out=2 then []else x.writes)=rows;split
 .exact WsF rfl rfl h0 h8
 .exact TQ.keep rfl rfl h0 h8
theorem Wex:(WA x).tries=x.tries:=by
 unfold WA;split<;>rfl
theorem Wky:TQ w k x (W2 w x k p):=by
 unfold W2;by_cases hd:x.doomed=true/\1<=x.phase/\x.phase<=4
 .rw[if_pos hd];exact TQ.keep rfl rfl (by omega) (by omega)
 rw[if_neg hd];by_cases h0:x.phase=0
 .rw[if_pos h0];have h8:x.phase≠8:=by omega
  unfold Wdk;split
  .exact⟨.inl rfl,λh=>absurd h0 h,λ_=>.inl h0,λh=>absurd h h8⟩
  .split
   .rename_i h;exact⟨.inr (.inl ⟨rfl,h.2,h0,h0⟩),λh=>absurd h0 h,λ_=>.inl h0,λh=>absurd h h8⟩
   .split
    .exact⟨.inl rfl,λh=>absurd h0 h,λ_=>.inl h0,λh=>absurd h h8⟩
    .rename_i a1 a2 a3;refine⟨.inl rfl,λh=>absurd h0 h,λ_=>.inr ⟨rfl,?_,rfl⟩,λh=>absurd h h8⟩;by_cases ht:w.token=0
     .exact .inl ⟨ht,by omega⟩
     .have hk:w.token=(k:Int)+1:=by omega
      refine .inr ⟨hk,?_⟩;cases ho:W4 k w.roots 0 with
      |true=>rfl
      |false=>exact absurd ⟨hk,ho⟩ a3
 rw[if_neg h0];by_cases h8:x.phase=8
 .rw[if_neg (by omega),if_neg (by omega),if_neg (by omega),if_neg (by omega),if_neg (by omega),if_neg (by omega),if_neg (by omega)];exact⟨.inl rfl,λ_ h=>absurd h8 h,λh=>absurd h h0,λ_=>rfl⟩
 have keep:∀q:Wo×Rt,q.1.token=w.token->q.2.tries=x.tries->TQ w k x q:=λq a b=>TQ.keep a b h0 h8;by_cases h1:x.phase=1
 .rw[if_pos h1];unfold Wfi;split
  .exact Wm5 h0 h8
  .simp only;generalize opN p.1 x.pc=o;split
   .refine keep _ rfl ?_;unfold Wc2;cases Wbk x.writes o.2.2.1 with
    |some v=>rfl
    |none=>
     simp only;generalize W0 w.mem x.rv _=b;split
     .exact Wex
     .split<;>rfl
   .split
    .unfold WbT;split
     .exact Wm5 h0 h8
     .split<;>exact keep _ rfl rfl
    .split
     .exact keep _ rfl rfl
     .split
      .unfold Wbr;cases Wak w.holds ((k:Int)+1) (Waz o).1 (Waz o).2 with
       |none=>exact keep _ rfl Wex
       |some hs=>exact keep _ rfl rfl
      .repeat' split
       all_goals exact keep _ rfl rfl
 rw[if_neg h1];by_cases h2:x.phase=2
 .rw[if_pos h2];refine keep _ rfl ?_;show(WbY x).tries=x.tries;unfold WbY;split
  .rfl
  .split<;>rfl
 rw[if_neg h2];by_cases h3:x.phase=3
 .rw[if_pos h3];unfold WaT;split<;>exact keep _ rfl rfl
 rw[if_neg h3];by_cases h4:x.phase=4
 .rw[if_pos h4];refine keep _ rfl ?_;show(WaG w x).tries=x.tries;unfold WaG;simp only;split
  .split<;>rfl
  .rfl
 rw[if_neg h4];by_cases h5:x.phase=5
 .rw[if_pos h5];unfold Wal;split
  .refine keep _ rfl ?_;simp only;split<;>rfl
  .refine keep _ rfl ?_;show(Wbh {x with cm:=(WB w.mem x.cm).2}).tries=x.tries;unfold Wbh;split
   .rfl
   .split<;>rfl
 rw[if_neg h5];by_cases h6:x.phase=6
 .rw[if_pos h6];split<;>exact keep _ rfl rfl
 rw[if_neg h6];by_cases h7:x.phase=7
 .rw[if_pos h7];split
  .exact⟨.inl rfl,λ_ _ h=>absurd rfl h,λh=>absurd h h0,λh=>absurd h h8⟩
  .exact WsF rfl rfl h0 h8
 .rw[if_neg h7];exact keep _ rfl rfl
end
section
variable{s:Sc}{w v:Wo}{n:Int}{a:Ac}{x y:Rt}{k:Nat}{p:Pg}{q:Wo×Rt}
theorem WdT:∀{l:List Rt} {i:Nat},W4 k l i=true->∀(j:Nat) (h:j<l.length),i+j≠k->l[j].phase=0\/l[j].phase=8
 | [],i,_,j,h,_=>by simp at h
 |x::l,i,ho,j,h,hne=>by
  rw[W4]at ho;simp only[Xh,Xbs,decide_eq_true_eq]at ho;cases j with
  |zero=>
   rcases ho.1 with h1|h1
   .exact absurd h1 (by simpa using hne)
   .exact h1
  |succ j=>exact WdT ho.2 j (by simpa using h) (by omega)
structure TX(w:Wo):Prop where
 t1:∀(k:Nat) (h:k<w.roots.length),w.roots[k].phase≠0->w.roots[k].phase≠8->w.roots[k].tries>=3->w.token=(k:Int)+1
 t2:∀(k:Nat) (h:k<w.roots.length),w.token=(k:Int)+1->w.roots[k].phase≠0->∀(j:Nat) (h:j<w.roots.length),j≠k->w.roots[j].phase=0\/w.roots[j].phase=8
theorem Wuu{w0:Wo}(hx:TX w0)(hl:LX w0)(hk:k<w0.roots.length)(hr:q.1.roots=w0.roots)(hq:TQ w0 k w0.roots[k] q):TX (Wo.put q k):=by
 have hlen:(q.1.roots.set k q.2).length=w0.roots.length:=by rw[Xaa,hr]
 have bZ:∀(i:Nat) (hi:i<w0.roots.length),(q.1.roots.set k q.2)[i]'(by rw[hlen];exact hi)=if k=i then q.2 else w0.roots[i]:=λi hi=>by
  rw[Xam];simp only[hr]
 have x9:w0.roots[k].phase=8->q.2=w0.roots[k]:=λh=>by rw[hq.done h]
 refine⟨λi hi p0 p8 ht=>?_,λi hi ht p0 j hj hne=>?_⟩
 .change i<(q.1.roots.set k q.2).length at hi;have gT:i<w0.roots.length:=by rw[←hlen];exact hi
  change ((q.1.roots.set k q.2)[i]'hi).phase≠0 at p0;change ((q.1.roots.set k q.2)[i]'hi).phase≠8 at p8;change ((q.1.roots.set k q.2)[i]'hi).tries>=3 at ht;rw[bZ i gT]at p0 p8 ht;show q.1.token=(i:Int)+1;by_cases he:k=i
  .subst he;rw[if_pos rfl]at p0 p8 ht;by_cases h0:w0.roots[k].phase=0
   .rcases hq.idle h0 with h|⟨h1,h2,h3⟩
    .exact absurd h p0
    .rw[h3];rcases h2 with h2|h2
     .omega
     .exact h2.1
   .by_cases h8:w0.roots[k].phase=8
    .rw[x9 h8]at p8;exact absurd h8 p8
    .have nf:=hq.try1 h0 h8 p0;have:=hx.t1 k hk h0 h8 (by omega);rcases hq.tok with h|⟨h,_⟩|⟨_,_,h⟩
     .rw[h];exact this
     .exact h
     .exact absurd h p8
  .rw[if_neg he]at p0 p8 ht;have:=hx.t1 i gT p0 p8 ht;rcases hq.tok with h|⟨_,h,_⟩|⟨h,_⟩
   .rw[h];exact this
   .omega
   .omega
 .change i<(q.1.roots.set k q.2).length at hi;change j<(q.1.roots.set k q.2).length at hj;have gT:i<w0.roots.length:=by rw[←hlen];exact hi
  have ga:j<w0.roots.length:=by rw[←hlen];exact hj
  change q.1.token=(i:Int)+1 at ht;change ((q.1.roots.set k q.2)[i]'hi).phase≠0 at p0;show((q.1.roots.set k q.2)[j]'hj).phase=0\/((q.1.roots.set k q.2)[j]'hj).phase=8;rw[bZ i gT]at p0;rw[bZ j ga];by_cases he:k=i
  .subst he;rw[if_pos rfl]at p0;rw[if_neg (λh=>hne h.symm)];by_cases h0:w0.roots[k].phase=0
   .rcases hq.idle h0 with h|⟨h1,h2,h3⟩
    .exact absurd h p0
    .rcases h2 with h2|h2
     .rw[h3,h2.1]at ht;omega
     .exact WdT h2.2 j ga (by omega)
   .rcases hq.tok with h|⟨_,_,h,_⟩|⟨_,h,_⟩
    .exact hx.t2 k hk (by rw[←h];exact ht) h0 j ga hne
    .exact absurd h h0
    .omega
  .rw[if_neg he]at p0;have ya:w0.token=(i:Int)+1:=by
    rcases hq.tok with h|⟨h,_⟩|⟨_,h,_⟩
    .rw[←h];exact ht
    .omega
    .omega
   by_cases qR:k=j
   .subst qR;rw[if_pos rfl];have jf:=hx.t2 i gT ya p0 k hk (λh=>he h);rcases jf with h0|h8
    .rcases hq.idle h0 with h|⟨_,h2,_⟩
     .exact .inl h
     .rcases h2 with h2|h2<;>omega
    .rw[x9 h8];exact .inr h8
   .rw[if_neg qR];exact hx.t2 i gT ya p0 j ga hne
theorem Wsx(h:WOk s.2.1 n w)(hl:LX w)(hx:TX w):TX (Wc6 s w a):=by
 have cC:TX {w with now:=w.now+1}:=⟨hx.t1,hx.t2⟩;have aY:LX {w with now:=w.now+1}:=⟨λk hk=>⟨(hl.root k hk).cm,(hl.root k hk).no,(hl.root k hk).hd,(hl.root k hk).tk⟩,hl.ow,hl.hd,hl.tk⟩;unfold Wc6;simp only;split
 .rename_i hb;have hk:a.2.1.toNat<w.roots.length:=by omega
  have same:∀y:Rt,y.phase=w.roots[a.2.1.toNat].phase->y.tries=w.roots[a.2.1.toNat].tries->w.roots[a.2.1.toNat].phase≠0->w.roots[a.2.1.toNat].phase≠8->TX (Wo.put ({w with now:=w.now+1},y) a.2.1.toNat):=λy e1 e2 h0 h8=>
   Wuu (w0:={w with now:=w.now+1}) cC aY hk rfl ⟨.inl rfl,λ_ _ _=>e2,λh=>absurd h h0,λh=>absurd h h8⟩
  rw[Wf hk];split
  .unfold Wje;rw[Wf (show a.2.1.toNat<({w with now:=w.now+1}:Wo).roots.length from hk)];exact Wuu (w0:={w with now:=w.now+1}) cC aY hk (Wh0 h hk) Wky
  .split
   .split
    .rename_i hc;exact same _ rfl rfl (by omega) (by omega)
    .exact cC
   .split
    .split
     .rename_i hc;exact same _ rfl rfl (by omega) (by omega)
     .exact cC
    .exact cC
 .exact cC
theorem WrB:∀(l:List Ac) (n:Int) (w:Wo),WOk s.2.1 n w->WX w->LX w->TX w->TX (l.foldl (Wc6 s) w)
 | [],n,w,h,hx,hl,ht=>ht
 |a::l,n,w,h,hx,hl,ht=>WrB l (n+1) _ (Wcy (a:=a) h) (Wgo (a:=a) h hx).1 (Wob h hx hl) (Wsx h hl ht)
theorem Wss:TX (WfH s):=by
 have e:∀(k:Nat) (h:k<(WfH s).roots.length),(WfH s).roots[k].phase=0:=λk h=>by simp only[WfH,Xbg]
 exact⟨λk h h0=>absurd (e k h) h0,λk h _ h0=>absurd (e k h) h0⟩
end
section
variable{w:Wo}{n:Int}{x y:Rt}{k:Nat}{p:Pg}{f g:Fm}{m:Mm}
theorem Wn4(h2:x.phase=2):Wi p x=if x.fam.lost=true then(x.undos.length:Int)+3 else 73-3*x.pc+Wlz x.fam+WaY x:=by unfold Wi;rw[if_neg (by omega),if_pos h2]
theorem Wvh{i:Nat}(hR:FmR f i g){b:Int}(hb:0<=b)(h:∀(j:Nat) (h:j<f.kids.length) (h':j<g.kids.length),Way g.kids[j]=1->fP g g.kids[j]+fQ g<=b):Wlz g<=b:=by
 refine Wk1 hb λz hz hu=>?_;obtain⟨j,hj,he⟩:=Xaq hz;rw[←he]at hu⊢;exact h j (by rw[←hR.len];exact hj) hj hu
theorem Wil(hp:POk p)(hx:ROk p n x)(ht:RT x)(h2:x.phase=2)(hl:x.fam.lost≠true)(ho:Wa6 x.fam≠true)(hm:WZ m=true):
  Wi p {x with fam:=Wb0 m p.2 p.2.length 0 x.fam}<Wi p x:=by
 have hL:=hx.live (by omega);have hs:=hL.spare;have hlen:=hp.code.len;obtain⟨f1,f2,f3⟩:=hL.fork h2;have hT:=(ht.fam h2).resolve_left hl;have mn:∀c∈p.2,c.length<=24:=λc hc=>(hp.kids c hc).toCC.len;have hR:=WrK hm hp.kids hp.k3 p.2.length 0 n x.fam (by omega) f3 hT;have h1:1<=Wlz x.fam:=by
  have:∃z∈x.fam.kids,z.phase≠3:=by
   apply Classical.byContradiction;intro dQ;apply ho;unfold Wa6;rw[Xae];intro z hz;by_cases h3:z.phase=3
   .simpa using h3
   .exact absurd ⟨z,hz,h3⟩ dQ
  obtain⟨z,hz,zX⟩:=this;obtain⟨j,hj,he⟩:=Xaq hz;have hu:Way x.fam.kids[j]=1:=Wci (by rw[he];exact zX);have a:=Wxe f3 mn hT hj hu;have b:=WnQ (f:=x.fam) _ (Xx hj) hu;unfold Wlz;omega
 rw[Wn4 h2,if_neg hl,Wn4 (x:={x with fam:=Wb0 m p.2 p.2.length 0 x.fam}) h2];show(if(Wb0 m p.2 p.2.length 0 x.fam).lost=true then(x.undos.length:Int)+3 else 73-3*x.pc+Wlz (Wb0 m p.2 p.2.length 0 x.fam)+WaY x)<_;split
 .unfold WaY;omega
 .rename_i iH;have hR:=hR.resolve_left iH;have:Wlz (Wb0 m p.2 p.2.length 0 x.fam)<=Wlz x.fam-1:=Wvh hR (by omega) λj h h' hu=>by
   obtain⟨a1,a2,a3⟩:=hR.p j h h' hu;have b:=WnQ (f:=x.fam) _ (Xx h) a1;rcases a3 (by omega)with c|⟨_,k,hk,_⟩
   .unfold Wlz;omega
   .omega
  omega
end
section
def Wcm(s:Sc)(k:Nat):Nat->Nat->Wo->Wo
 |0,_,w=>w
 |d+1,j,w=>Wcm s k d (j+1) (Wc6 s w (2,(k:Int),(j:Int)))
def WaL(s:Sc):Nat->Nat->Wo->Wo
 |0,_,w=>w
 |d+1,i,w=>WaL s d (i+1) (Wcm s i (s.2.1.getD i pg0).2.length 0 (Wc6 s w (1,(i:Int),0)))
def WfA(w:Wo):Bool:=w.roots.all λx=>decide (x.phase=8)
def WaI(s:Sc):Nat->Wo->Wo×Nat
 |0,w=>(w,0)
 |d+1,w=>if WfA w=true then(w,0)else((WaI s d (WaL s s.2.1.length 0 w)).1,(WaI s d (WaL s s.2.1.length 0 w)).2+1)
variable{s:Sc}{w v:Wo}{n:Int}{k:Nat}{N:Nat}
theorem WkI:∀(d j:Nat) (n:Int) (w:Wo),WOk s.2.1 n w->WOk s.2.1 (n+d) (Wcm s k d j w)
 |0,_,n,w,h=>by rw[Wcm];simpa using h
 |d+1,j,n,w,h=>by
  have:=WkI d (j+1) (n+1) _ (Wcy (a:=(2,(k:Int),(j:Int))) h);rw[Wcm,show n+((d+1:Nat):Int)=n+1+(d:Int) by omega];exact this
theorem WvR{R:Type}{rounds:Int}{b1 b2 b3 b4:Int}{jV:Int}{K0:Int->Bool->Int->Int->Int->Int->List Kb->List Int->List Kb->List Y_Root->List Kn->Option R}(hN:1048576<N)(hk:k<s.2.1.length)(h3:s.2.1[k].2.length<=3):
  ∀(d j fuel:Nat) (n:Int) (w:Wo),j+d=s.2.1[k].2.length->d<fuel->WOk s.2.1 n w->n+d<=99999->
  Zci N rounds (k:Int) s.2.1 jV s b1 b2 b3 b4 K0 fuel (j:Int) w.now w.token w.mem.1 w.shelf.2 w.mem.2 w.shelf.1 w.holds (w.roots.map Rt.e) w.hist=
  K0 (s.2.1[k].2.length:Int) false (Wcm s k d j w).now (Wcm s k d j w).token (Wcm s k d j w).mem.1 (Wcm s k d j w).shelf.2 (Wcm s k d j w).mem.2 (Wcm s k d j w).shelf.1 (Wcm s k d j w).holds ((Wcm s k d j w).roots.map Rt.e) (Wcm s k d j w).hist:=by
 intro d;have bZ:Xd s.2.1 (Xb (k:Int)) (([]:List Ka),([]:List Kx))=s.2.1[k]:=Wq hk _
 induction d with
 |zero=>
  intro j fuel n w hj hf hw hn;obtain⟨f,rfl⟩:∃f,fuel=f+1:=⟨fuel-1,by omega⟩;have:decide ((j:Int)<Wb s.2.1[k].2)=false:=decide_eq_false (by unfold Wb;omega);simp only[Zci,Wt,bZ,this,cond_false,Wcm];rw[show(j:Int)=(s.2.1[k].2.length:Int) by omega]
 |succ d ih=>
  intro j fuel n w hj hf hw hn;obtain⟨f,rfl⟩:∃f,fuel=f+1:=⟨fuel-1,by omega⟩;have:decide ((j:Int)<Wb s.2.1[k].2)=true:=decide_eq_true (by unfold Wb;omega);have hr:=Wn6 (a:=(2,(k:Int),(j:Int))) hw (by omega) hN;simp only[Zci,Wt,bZ,this,cond_true];rw[show((w.now,(w.token,((w.mem.1,w.mem.2),((w.shelf.1,w.shelf.2),(w.holds,(w.roots.map Rt.e,w.hist)))))):Y_World)=w.e from rfl,hr];simp only[Xc,Wg (show j<4611686018427387904 by omega)];rw[Wcm];exact ih (j+1) f (n+1) _ (by omega) (by omega) (Wcy hw) (by omega)
theorem pk3(h:WOk s.2.1 n w){i:Nat}(hi:i<s.2.1.length):(s.2.1.getD i pg0).2.length<=3:=(WgA h.progs hi).k3
theorem WmI:∀(d i:Nat) (n:Int) (w:Wo),i+d=s.2.1.length->WOk s.2.1 n w->∃n',n<=n'/\n'<=n+4*d/\WOk s.2.1 n' (WaL s d i w)
 |0,_,n,w,hi,h=>⟨n,by omega,by omega,by rw[WaL];exact h⟩
 |d+1,i,n,w,hi,h=>by
  have h1:=WkI (k:=i) (s.2.1.getD i pg0).2.length 0 (n+1) _ (Wcy (a:=(1,(i:Int),0)) h);have h3:=pk3 h (i:=i) (by omega);obtain⟨n',a,b,c⟩:=WmI d (i+1) _ _ (by omega) h1;exact⟨n',by omega,by omega,by rw[WaL];exact c⟩
theorem Wtm{R:Type}{rounds:Int}{b1 b2 b3 b4:Int}{K0:Int->Bool->Int->Int->Int->Int->List Kb->List Int->List Kb->List Y_Root->List Kn->Option R}(hN:1048576<N)(iY:s.2.1.length<=4):
  ∀(d i fuel:Nat) (n:Int) (w:Wo),i+d=s.2.1.length->d<fuel->WOk s.2.1 n w->n+4*d<=99999->
  Zbu N rounds s.2.1 s b1 b2 b3 b4 K0 fuel (i:Int) w.now w.token w.mem.1 w.shelf.2 w.mem.2 w.shelf.1 w.holds (w.roots.map Rt.e) w.hist=
  K0 (s.2.1.length:Int) false (WaL s d i w).now (WaL s d i w).token (WaL s d i w).mem.1 (WaL s d i w).shelf.2 (WaL s d i w).mem.2 (WaL s d i w).shelf.1 (WaL s d i w).holds ((WaL s d i w).roots.map Rt.e) (WaL s d i w).hist:=by
 intro d
 induction d with
 |zero=>
  intro i fuel n w hi hf hw hn;obtain⟨f,rfl⟩:∃f,fuel=f+1:=⟨fuel-1,by omega⟩;have:i=s.2.1.length:=by omega
  subst this;simp only[Zbu,Waw (Xn _),cond_false,WaL]
 |succ d ih=>
  intro i fuel n w hi hf hw hn;obtain⟨f,rfl⟩:∃f,fuel=f+1:=⟨fuel-1,by omega⟩;have hlt:i<s.2.1.length:=by omega
  have hr:=Wn6 (a:=(1,(i:Int),0)) hw (by omega) hN;have hg:s.2.1.getD i pg0=s.2.1[i]:=Wf hlt _;have h3:=pk3 hw hlt;rw[hg]at h3;have yb:=Wcy (a:=(1,(i:Int),0)) hw;have hk:=WvR (R:=R) (rounds:=rounds) (b1:=b1) (b2:=b2) (b3:=b3) (b4:=b4) (jV:=Wb s.2.1)
   (K0:=λvd ve oN oO oP oQ oR oS oT oU oV=>(Zbu N rounds s.2.1 s b1 b2 b3 b4 K0 f (We .i64 (i:Int) (1:Int)) oN oO oP oQ oR oS oT oU oV)) hN hlt h3 s.2.1[i].2.length 0 N (n+1) _ (by omega) (by omega) yb (by omega)
  have aH:=WkI (k:=i) s.2.1[i].2.length 0 (n+1) _ yb;simp only[Zbu,Waf hlt,Wn hlt,cond_true];rw[show((w.now,(w.token,((w.mem.1,w.mem.2),((w.shelf.1,w.shelf.2),(w.holds,(w.roots.map Rt.e,w.hist)))))):Y_World)=w.e from rfl,hr];simp only[Xc];refine hk.trans ?_;simp only[Wg (show i<4611686018427387904 by omega)];rw[WaL,hg];exact ih (i+1) f _ _ (by omega) (by omega) aH (by omega)
theorem WoC(hl:w.roots.length<=4)(hN:1048576<N):Zn3 N w.e=ret (WfA w):=by
 unfold Zn3 Zay Z1;have e1:w.e.2.2.2.2.2.1=w.roots.map Rt.e:=rfl;rw[e1];have hb:(w.roots.map Rt.e).length<=4:=by simpa using hl
 have h1:=WE (l:=w.roots.map Rt.e) (V:=Unit) (R:=Unit×Kh) (lp:=λn j _=>Zk N (w.roots.map Rt.e) (λaL=>(some ((),(aL,())))) (λaO bh=>(some ((),((-1:Int),())))) n j) (n:=N) (by omega)
  (body:=λj x v k=>bif (x.1 !=8)then some ((),(j,()))else k v) (K:=λ_ v=>some ((),((-1:Int),())))
  (λn i u hi=>by
   simp only[Zk,Zoa,Waf hi,Wn hi,Wq hi,Wg (show i<4611686018427387904 by omega),cond_true,Xc])
  (λn u=>by simp only[Zk,Waw (Xn _),cond_false]) ()
 have h2:∀(l:List Y_Root) (j:Nat),∃r:Int,Wb7 (λ(j:Int) (x:Y_Root) (v:Unit) (k:Unit->Option Kt)=>bif (x.1 !=8)then some ((),(j,()))else k v) (λ_ v=>some ((),((-1:Int),()))) l j ()=some ((),(r,()))/\(decide (r>=0)= !(l.all λx=>x.1==8)):=λl=>by
  induction l with
  |nil=>intro j;exact⟨-1,rfl,rfl⟩
  |cons x l ih=>
   intro j;rw[Wb7];cases hx:x.1==8 with
   |true=>
    have:(x.1 !=8)=false:=by rw[bne,hx];rfl
    simp only[this,cond_false];obtain⟨r,a,b⟩:=ih (j+1);exact⟨r,a,by rw[b,Xcl,hx];rfl⟩
   |false=>
    have:(x.1 !=8)=true:=by rw[bne,hx];rfl
    simp only[this,cond_true];exact⟨j,rfl,by rw[Xcl,hx];simp⟩
 obtain⟨r,a,b⟩:=h2 (w.roots.map Rt.e) 0;rw[h1.trans a];simp only[Xc,b,Bool.not_not];have:((w.roots.map Rt.e).all λx=>x.1==8)=WfA w:=by
  unfold WfA;rw[List.all_map];congr 1
 rw[this]
theorem WtE{R:Type}{K0:Int->Bool->Int->Int->Int->Int->List Kb->List Int->List Kb->List Y_Root->List Kn->Option R}(hN:1048576<N)(iY:s.2.1.length<=4):
  ∀(d r fuel:Nat) (n:Int) (w:Wo),r+d=6000->d<fuel->WOk s.2.1 n w->n+16*d<=99999->
  Zbv N s K0 fuel (r:Int) w.now w.token w.mem.1 w.shelf.2 w.mem.2 w.shelf.1 w.holds (w.roots.map Rt.e) w.hist=
  (λv:Wo×Nat=>K0 ((r+v.2:Nat):Int) false v.1.now v.1.token v.1.mem.1 v.1.shelf.2 v.1.mem.2 v.1.shelf.1 v.1.holds (v.1.roots.map Rt.e) v.1.hist) (WaI s d w):=by
 intro d
 induction d with
 |zero=>
  intro r fuel n w hr hf hw hn;obtain⟨f,rfl⟩:∃f,fuel=f+1:=⟨fuel-1,by omega⟩;have hl:w.roots.length<=4:=by rw[hw.len];exact iY
  simp only[Zbv];rw[show((w.now,(w.token,((w.mem.1,w.mem.2),((w.shelf.1,w.shelf.2),(w.holds,(w.roots.map Rt.e,w.hist)))))):Y_World)=w.e from rfl,WoC hl hN];have h6:decide ((r:Int)<6000)=false:=decide_eq_false (by omega);simp only[ret,Xc,h6,cond_false,WaI,Xat];cases WfA w<;>rfl
 |succ d ih=>
  intro r fuel n w hr hf hw hn;obtain⟨f,rfl⟩:∃f,fuel=f+1:=⟨fuel-1,by omega⟩;have hl:w.roots.length<=4:=by rw[hw.len];exact iY
  simp only[Zbv];rw[show((w.now,(w.token,((w.mem.1,w.mem.2),((w.shelf.1,w.shelf.2),(w.holds,(w.roots.map Rt.e,w.hist)))))):Y_World)=w.e from rfl,WoC hl hN];have h6:decide ((r:Int)<6000)=true:=decide_eq_true (by omega);simp only[ret,Xc,h6,cond_true,WaI];cases ho:WfA w with
  |true=>rfl
  |false=>
   simp only[Bool.not_false,cond_true,Bool.false_eq_true,if_false];obtain⟨n',a,b,c⟩:=WmI s.2.1.length 0 n w (by omega) hw;have ep:=Wtm (s:=s) (R:=R) (rounds:=We .i64 (r:Int) 1) (b1:=0) (b2:=0) (b3:=0) (b4:=0)
    (K0:=λvg vi oW oX oY oZ pd pe pf pg pi=>(Zbv N s K0 f (We .i64 (r:Int) (1:Int)) oW oX oY oZ pd pe pf pg pi)) hN iY s.2.1.length 0 N n w (by omega) (by omega) hw (by omega)
   refine ep.trans ?_;simp only[Wg (show r<4611686018427387904 by omega)];rw[ih (r+1) f n' _ (by omega) (by omega) c (by omega)];simp only[show r+1+(WaI s d (WaL s s.2.1.length 0 w)).2=r+((WaI s d (WaL s s.2.1.length 0 w)).2+1) by omega]
theorem WsM(hb:SB s)(hN:1048576<N)(aH:WjB s=true):Zdd N s=some ((),((WaI s 6000 (Web s)).1.e,(((WaI s 6000 (Web s)).2:Int),()))):=by
 obtain⟨h1,h2,h3,h4⟩:=WeG aH;have hW:=WkA aH;have hp:=WqN hb hN;unfold Zdd;rw[Wfo hb hN,aH];simp only[ret,Xc,Bool.not_true,cond_false];rw[hp,if_pos aH];simp only[ret,Xc];have hlen:(s.2.2.length:Int)<=400:=by omega
 have:=WtE (s:=s) (N:=N) (K0:=λdM vk pj pk pm pn po pp pq pr pt=>(some ((),((pj,(pk,((pm,po),((pp,pn),(pq,(pr,pt)))))),(dM,()))):Option (Unit×(Y_World×Kh)))) hN (by omega) 6000 0 N _ (Web s) (by omega) (by omega) hW (by omega);refine this.trans ?_;simp only[Nat.zero_add];rfl
end
section
variable{s:Sc}{w v:Wo}{n:Int}{x y:Rt}{k:Nat}{p:Pg}{f g:Fm}{m:Mm}{o:Opn}
def WcR(p:Pg)(x:Rt):Int:=if x.phase<=4 then Wi p x-292 else Wi p x
def Wv1(p:Pg)(x y:Rt):Prop:=y.phase=1\/y.phase=2\/y.phase=8\/y.phase=3\/(y.phase=6/\y.fate=0)\/(y.phase=5/\Wi p y<=x.undos.length+36)
theorem Wkj:(WA x).phase=3\/((WA x).phase=6/\(WA x).fate=0):=by
 unfold WA;split
 .exact .inr ⟨rfl,rfl⟩
 .exact .inl rfl
theorem WjT(hl:RLive p n x)(hk:k<=8){out:Int}:Wv1 p x (Wao w x k out).2:=by
 unfold Wao;simp only;generalize (if out=2 then []else x.writes)=rows;split
 .exact .inr (.inr (.inl rfl))
 .have hc:CmOk (Wbc ((k:Int)+1) x.rv rows x.reads):=Wlt (by omega) hl.rv;have:=(WgD hc).2.1;have e:Wi p ({x with fate:=out,cm:=Wbc ((k:Int)+1) x.rv rows x.reads,phase:=5}:Rt)=W6 (Wbc ((k:Int)+1) x.rv rows x.reads)+x.undos.length+3:=rfl;refine .inr (.inr (.inr (.inr (.inr ⟨rfl,?_⟩))));show Wi p ({x with fate:=out,cm:=Wbc ((k:Int)+1) x.rv rows x.reads,phase:=5}:Rt)<=_;rw[e];omega
theorem Wtf(hl:RLive p n x)(h1:x.phase=1)(hk:k<=8):Wv1 p x (Wfi w x k p).2:=by
 have one:∀y:Rt,y.phase=1->Wv1 p x y:=λy h=>.inl h;have cf:∀z:Rt,Wv1 p x (WA z):=λz=>by
  rcases Wkj (x:=z)with h|h
  .exact .inr (.inr (.inr (.inl h)))
  .exact .inr (.inr (.inr (.inr (.inl h))))
 unfold Wfi;split
 .exact WjT hl hk
 .simp only;generalize opN p.1 x.pc=o;split
  .show Wv1 p x (Wc2 w x o);unfold Wc2;cases Wbk x.writes o.2.2.1 with
   |some v=>exact one _ h1
   |none=>
    simp only;generalize W0 w.mem x.rv _=b;split
    .exact cf _
    .split<;>exact one _ h1
  .split
   .unfold WbT;split
    .exact WjT hl hk
    .split<;>exact one _ h1
   .split
    .exact .inr (.inl rfl)
    .split
     .unfold Wbr;cases Wak w.holds ((k:Int)+1) (Waz o).1 (Waz o).2 with
      |none=>exact cf _
      |some hs=>exact one _ h1
     .repeat' split
      all_goals exact one _ h1
theorem WqK(hp:POk p)(hx:ROk p n x)(ht:RT x)(hg:RGd m x):1<=WcR p x:=by
 have iD:=(WbO hp hx ht).2.2;have aV:=hg.ph;have hs:=hg.sp;unfold WcR;by_cases h1:x.phase=1
 .have:=Wei hp.code (hx.live (by omega)) ht h1;rw[if_pos (by omega)];omega
 by_cases h2:x.phase=2
 .have hl:=hx.live (by omega);have aS:=hl.pc;have hlen:=hp.code.len;have h0:=Wpr x.fam x.fam.kids;rw[if_pos (by omega),Wn4 h2,if_neg (by rw[(hg.fam h2).lost];simp)];unfold Wlz WaY;omega
 .rw[if_neg (by omega)];exact iD (by omega)
theorem WwW(hp:POk p)(hx:ROk p n x)(qQ:RX x)(ht:RT x)(hk:k<=8)(hg:RGd w.mem x)(hh:∀e∈w.holds,e.1=(k:Int)+1)(hm:WZ w.mem=true)(hb:LB w k x)(eQ:w.mem.1<1000000):
  (W2 w x k p).2.phase=8\/(RGd (W2 w x k p).1.mem (W2 w x k p).2/\(WcR p (W2 w x k p).2<WcR p x\/(x.phase=2/\x.fam.lost≠true/\Wa6 x.fam≠true/\(W2 w x k p).2=x))):=by
 rcases Wug hp hx hg ht hh hm hb eQ with h8|hy
 .exact .inl h8
 refine .inr ⟨hy,?_⟩;have aV:=hg.ph;have wg:=hy.ph;rcases WjO (w:=w) hp hx qQ ht hk (by omega)with hlt|hwt
 .left;have hs:=hg.sp;by_cases h1:x.phase=1
  .have hl:=hx.live (by omega);have ho:=Wtf (w:=w) hl h1 hk;have qa:=Wei hp.code hl ht h1;have e:W2 w x k p=Wfi w x k p:=by
    unfold W2;rw[if_neg (by rw[hg.dm];simp),if_neg (by omega),if_pos h1]
   rw[e]at hy wg hlt⊢;have lM:=hy.ft;unfold WcR;rw[if_pos (show x.phase<=4 by omega)];rcases ho with h|h|h|h|h|h
   .rw[if_pos (by omega)];omega
   .rw[if_pos (by omega)];omega
   .omega
   .omega
   .exact absurd h.2 (lM (by omega))
   .rw[if_neg (by omega)];omega
  by_cases h2:x.phase=2
  .have e:(W2 w x k p).2=WbY x:=by
    unfold W2;rw[if_neg (by rw[hg.dm];simp),if_neg (by omega),if_neg h1,if_pos h2]
   rw[e]at hlt⊢;have e2:(WbY x).phase<=4:=by
    unfold WbY;rw[if_neg (by rw[(hg.fam h2).lost];simp)];split
    .show(1:Int)<=4;omega
    .omega
   unfold WcR;rw[if_pos e2,if_pos (by omega)];omega
  .unfold WcR;rw[if_neg (show¬x.phase<=4 by omega)];split<;>omega
 .exact .inr hwt
theorem Wu1{z:Kd}{j:Nat}{c:List Opn}(h:z.phase=3):Wea m f z j c=(f,z):=by
 unfold Wea;rw[if_neg (by omega),if_neg (by omega),if_neg (by omega)]
theorem WpK(h:Wa6 f=true){j:Nat}(hj:j<f.kids.length){c:List Opn}:Wcz m f j c=f:=by
 unfold Wcz;split
 .rfl
 .have h3:f.kids[j].phase=3:=by
   unfold Wa6 at h;rw[Xae]at h;simpa using h _ (Xx hj)
  rw[show f.kids.getD j {}=f.kids[j]from Wf hj _,Wu1 h3];unfold Fm.put;simp only;rw[Xbe]
variable{codes:List (List Opn)}
theorem WiX(h:Wa6 f=true):∀(d i:Nat),i+d=f.kids.length->Wb0 m codes d i f=f
 |0,_,_=>rfl
 |d+1,i,hi=>by rw[Wb0,WpK h (by omega)];exact WiX h d (i+1) (by omega)
theorem Wl3(hm:WZ m=true)(bg:∀c∈codes,KC c)(h3:codes.length<=3):∀(d i:Nat) (n:Int) (f:Fm),i+d=codes.length->FOk codes n f->(∀(j:Nat) (h:j<f.kids.length),KT f j f.kids[j])->FGd m f->FGd m (Wb0 m codes d i f)
 |0,_,_,_,_,_,_,hg=>hg
 |d+1,i,n,f,hi,hF,hT,hg=>by
  have hlen:=hF.len;have hc:KC (codes.getD i []):=by rw[Wf (show i<codes.length by omega) _];exact bg _ (Xx _)
  have yc:=Wt6 (k:=i) hF hT hg (by omega) hc;rw[Wb0];refine Wl3 hm bg h3 d (i+1) (n+1) _ (by omega) (WkU (by omega) hm hc hF rfl) ?_ yc;rcases WoO hm bg h3 hF hT (k:=i) (by omega)with h|h
  .rw[yc.lost]at h;cases h
  .exact h
def Waj(m:Mm)(p:Pg)(d i:Nat)(x:Rt):Rt:=if x.phase=2 then{x with fam:=Wb0 m p.2 d i x.fam}else x
theorem Wpx:∀(d j:Nat) (w:Wo) (hk:k<w.roots.length),j+d=(s.2.1.getD k pg0).2.length->
  Wcm s k d j w={w with now:=w.now+d,roots:=w.roots.set k (Waj w.mem (s.2.1.getD k pg0) d j w.roots[k])}
 |0,j,w,hk,hj=>by
  have:Waj w.mem (s.2.1.getD k pg0) 0 j w.roots[k]=w.roots[k]:=by
   unfold Waj;split<;>rfl
  rw[Wcm,this,Xbe];simp
 |d+1,j,w,hk,hj=>by
  rw[Wcm];have hb:0<=(k:Int)/\(k:Int)<w.roots.length:=by omega
  have hg:w.roots.getD k rt0=w.roots[k]:=Wf hk _;have e:Wc6 s w (2,(k:Int),(j:Int))={w with now:=w.now+1,roots:=w.roots.set k (Waj w.mem (s.2.1.getD k pg0) 1 j w.roots[k])}:=by
   unfold Wc6;simp only[Xj];rw[if_pos hb,if_neg (by omega),if_pos trivial,hg];unfold Waj;by_cases h2:w.roots[k].phase=2
   .rw[if_pos ⟨h2,by omega,by omega⟩,if_pos h2];rfl
   .rw[if_neg (λh=>h2 h.1),if_neg h2,Xbe]
  have ct:k<(Wc6 s w (2,(k:Int),(j:Int))).roots.length:=by rw[e];show k<(w.roots.set k _).length;rw[Xaa];exact hk
  rw[Wpx d (j+1) _ ct (by omega)];have e1:(Wc6 s w (2,(k:Int),(j:Int))).roots[k]=Waj w.mem (s.2.1.getD k pg0) 1 j w.roots[k]:=by
   simp only[e,Xdf]
  rw[e1,e];simp only[Xdo];have e2:Waj w.mem (s.2.1.getD k pg0) d (j+1) (Waj w.mem (s.2.1.getD k pg0) 1 j w.roots[k])=Waj w.mem (s.2.1.getD k pg0) (d+1) j w.roots[k]:=by
   unfold Waj;by_cases h2:w.roots[k].phase=2
   .rw[if_pos h2,if_pos h2,if_pos h2];rfl
   .rw[if_neg h2,if_neg h2,if_neg h2]
  rw[e2];congr 1;omega
end
section
variable{s:Sc}{w v:Wo}{n:Int}{x y:Rt}{k:Nat}{p:Pg}{f g:Fm}{m:Mm}{o:Opn}
theorem Wqs(h0:x.phase≠0)(hz:(W2 w x k p).2.phase=0):(W2 w x k p).2.tries=x.tries+1:=by
 unfold W2 at hz⊢;by_cases hd:x.doomed=true/\1<=x.phase/\x.phase<=4
 .rw[if_pos hd]at hz;exact absurd (show(6:Int)=0 from hz) (by omega)
 rw[if_neg hd,if_neg h0]at hz⊢;by_cases h1:x.phase=1
 .rw[if_pos h1]at hz;have cl:∀out,(Wao w x k out).2.phase≠0:=λout=>by
   unfold Wao;simp only;generalize (if out=2 then []else x.writes)=rows;split
   .show(8:Int)≠0;omega
   .show(5:Int)≠0;omega
  have:(Wfi w x k p).2.phase≠0:=by
   unfold Wfi;split
   .exact cl _
   .simp only;generalize opN p.1 x.pc=o;split
    .exact(Wnj h1).1
    .split
     .unfold WbT;split
      .exact cl _
      .split<;>(show x.phase≠0;omega)
     .split
      .show(2:Int)≠0;omega
      .split
       .unfold Wbr;cases Wak w.holds ((k:Int)+1) (Waz o).1 (Waz o).2 with
        |none=>exact WdP.1
        |some hs=>exact h0
       .repeat' split
        all_goals exact h0
  exact absurd hz this
 rw[if_neg h1]at hz⊢;by_cases h2:x.phase=2
 .rw[if_pos h2]at hz;have:(WbY x).phase≠0:=by
   unfold WbY;split
   .show(6:Int)≠0;omega
   .split
    .show(1:Int)≠0;omega
    .exact h0
  exact absurd hz this
 rw[if_neg h2]at hz⊢;by_cases h3:x.phase=3
 .rw[if_pos h3]at hz;have:(WaT w x).2.phase≠0:=by
   unfold WaT;split
   .exact h0
   .show(4:Int)≠0;omega
  exact absurd hz this
 rw[if_neg h3]at hz⊢;by_cases h4:x.phase=4
 .rw[if_pos h4]at hz;have:(WaG w x).phase≠0:=by
   unfold WaG;simp only;split
   .split
    .show(6:Int)≠0;omega
    .exact h0
   .show(1:Int)≠0;omega
  exact absurd hz this
 rw[if_neg h4]at hz⊢;by_cases h5:x.phase=5
 .rw[if_pos h5]at hz;have:(Wal w x k).2.phase≠0:=by
   unfold Wal;split
   .simp only;split
    .show(6:Int)≠0;omega
    .exact h0
   .show(Wbh {x with cm:=(WB w.mem x.cm).2}).phase≠0;unfold Wbh;split
    .show(6:Int)≠0;omega
    .split
     .show(if x.fate=2 then(6:Int)else 7)≠0;split<;>omega
     .exact h0
  exact absurd hz this
 rw[if_neg h5]at hz⊢;by_cases h6:x.phase=6
 .rw[if_pos h6]at hz;split at hz
  .exact absurd hz h0
  .exact absurd (show(7:Int)=0 from hz) (by omega)
 rw[if_neg h6]at hz⊢;by_cases h7:x.phase=7
 .rw[if_pos h7]at hz⊢;split at hz
  .rw[if_pos ‹_›]
  .exact absurd (show(8:Int)=0 from hz) (by omega)
 .rw[if_neg h7]at hz;exact absurd hz h0
structure WI(s:Sc)(n:Int)(w:Wo):Prop where
 ok:WOk s.2.1 n w
 wx:WX w
 lx:LX w
 wt:WT w
 tx:TX w
theorem WI.act(h:WI s n w)(a:Ac):WI s (n+1) (Wc6 s w a):=
 ⟨Wcy h.ok,(Wgo h.ok h.wx).1,Wob h.ok h.wx h.lx,Wrx h.ok h.wt,Wsx h.ok h.lx h.tx⟩
theorem WI.kids:∀(d j:Nat) (n:Int) (w:Wo),WI s n w->WI s (n+d) (Wcm s k d j w)
 |0,_,n,w,h=>by rw[Wcm];simpa using h
 |d+1,j,n,w,h=>by
  have:=WI.kids d (j+1) (n+1) _ (h.act (2,(k:Int),(j:Int)));rw[Wcm,show n+((d+1:Nat):Int)=n+1+(d:Int) by omega];exact this
def Wuy(s:Sc)(k:Nat)(w:Wo):Wo:=Wcm s k (s.2.1.getD k pg0).2.length 0 (Wc6 s w (1,(k:Int),0))
theorem WI.blk(h:WI s n w):WI s (n+1+(s.2.1.getD k pg0).2.length) (Wuy s k w):=WI.kids _ _ _ _ (h.act _)
theorem WwC(h:WOk s.2.1 n w)(hk:k<w.roots.length):Wuy s k w=
  (λq:Wo×Rt=>{q.1 with now:=q.1.now+(s.2.1.getD k pg0).2.length,roots:=w.roots.set k (Waj q.1.mem (s.2.1.getD k pg0) (s.2.1.getD k pg0).2.length 0 q.2)}) (W2 {w with now:=w.now+1} w.roots[k] k (s.2.1.getD k pg0)):=by
 have hr:=Wh0 h hk;have hb:0<=(k:Int)/\(k:Int)<w.roots.length:=by omega
 have e:Wc6 s w (1,(k:Int),0)=Wo.put (W2 {w with now:=w.now+1} w.roots[k] k (s.2.1.getD k pg0)) k:=by
  unfold Wc6;simp only[Xj];rw[if_pos hb,if_pos trivial];unfold Wje;rw[Wf (show k<({w with now:=w.now+1}:Wo).roots.length from hk)]
 unfold Wuy;rw[e];generalize W2 {w with now:=w.now+1} w.roots[k] k (s.2.1.getD k pg0)=q at*;have ct:k<(Wo.put q k).roots.length:=by show k<(q.1.roots.set k q.2).length;rw[Xaa,hr];exact hk
 rw[Wpx _ _ _ ct (by omega)];have e1:(Wo.put q k).roots[k]=q.2:=Xdf ..;rw[e1];unfold Wo.put;simp only[Xdo,hr]
theorem WlE{d i:Nat}:(Waj m p d i x).phase=x.phase/\(Waj m p d i x).tries=x.tries:=by
 unfold Waj;split<;>exact⟨rfl,rfl⟩
theorem WcP{d i:Nat}(h:x.phase≠2):Waj m p d i x=x:=by unfold Waj;rw[if_neg h]
theorem Wr0(hp:POk p)(hx:ROk p n x)(ht:RT x)(hm:WZ m=true):Wi p (Waj m p p.2.length 0 x)<=Wi p x:=by
 by_cases h2:x.phase=2
 .obtain⟨f1,f2,f3⟩:=(hx.live (by omega)).fork h2;unfold Waj;rw[if_pos h2];by_cases hl:x.fam.lost=true
  .rw[WdM _ _ _ hl];exact Xv _
  by_cases ho:Wa6 x.fam=true
  .rw[WiX ho _ _ (by rw[f3.len];omega)];exact Xv _
  .have:=Wil hp hx ht h2 hl ho hm;omega
 .rw[WcP h2];exact Xv _
structure BK(w v:Wo)(k:Nat)(p:Pg)(x y:Rt):Prop where
 tok:v.token=w.token\/(v.token=(k:Int)+1/\w.token=0/\x.phase=0/\y.phase=0)\/(w.token=(k:Int)+1/\v.token=0/\y.phase=8)
 mem:x.phase≠5->v.mem=w.mem
 done:x.phase=8->y=x
 idle:x.phase=0->(y=x/\(w.token=0->v.token=(k:Int)+1)/\(w.token=(k:Int)+1->W4 k w.roots 0=false))\/
  (y.phase=1/\Wi p y=785/\y.tries=x.tries/\v.token=w.token/\(w.token=0/\x.tries<3\/w.token=(k:Int)+1/\W4 k w.roots 0=true/\RGd v.mem y/\WcR p y=493))
 live:1<=x.phase/\x.phase<=7->y.phase=8\/(y.phase=0/\y.tries=x.tries+1)\/((1<=y.phase/\y.phase<=7)/\y.tries=x.tries/\Wi p y<Wi p x)
 keep:x.phase≠0->x.phase≠8->y.phase≠0->y.tries=x.tries
 good:x.phase≠0->x.phase≠8->RGd w.mem x->(∀e∈w.holds,e.1=(k:Int)+1)->y.phase=8\/(RGd v.mem y/\WcR p y<WcR p x)
theorem Wqk(h:WI s n w)(hk:k<w.roots.length)(h0:w.roots[k].phase=0)(ho:W4 k w.roots 0=true){t b:Int}{r:List Int}:
  RGd w.mem {phase:=1,tries:=t,rv:=w.mem.1,began:=b,regs:=r}:=by
 refine⟨rfl,rfl,.inl rfl,λ_=>⟨λi a c=>⟨?_,?_⟩,λh=>by cases h⟩,λh=>by(change (1:Int)=2 at h;omega),λh=>by(change (1:Int)=5 at h;omega),λh=>by(change (1:Int)=5\/(1:Int)=6\/(1:Int)=7 at h;omega)⟩
 .rcases h.lx.ow i a c with e|⟨j,hj,e⟩
  .exact e
  .have h5:w.roots[j].phase≠5:=by
    by_cases dp:j=k
    .subst dp;omega
    .rcases WdT ho j hj (by omega)with e|e<;>omega
   exact absurd e ((h.lx.root j hj).no h5 i a c)
 .have:=We4 h.ok.mem ⟨a,c⟩;unfold Wp5 at this;simp only[Xh,decide_eq_true_eq]at this;exact this.2.1.2
theorem WwA(h:WI s n w)(hk:k<w.roots.length)(hn:n<=99999):∃y,(Wuy s k w).roots=w.roots.set k y/\BK w (Wuy s k w) k (s.2.1.getD k pg0) w.roots[k] y:=by
 have iY:=h.ok.l4;have hlen:=h.ok.len;have hp:POk (s.2.1.getD k pg0):=WgA h.ok.progs (by omega);have hx:=h.ok.root k hk;have qQ:=h.wx k hk;have ht:=h.wt.root k hk;have eQ:=h.wt.clk;have pX:=h.ok.now;have wh:=hx.phase;have aD:0<=(s.2.1.getD k pg0).2.length:=Nat.zero_le _;rw[WwC h.ok hk];generalize cQ:s.2.1.getD k pg0=p at*;have hq:=WhM (w:={w with now:=w.now+1}) (k:=k) hp ⟨h.ok.mem,h.ok.shelf,h.ok.holds⟩ hx (by omega) h.ok.n0;have yd:=Wo8 (w:={w with now:=w.now+1}) (k:=k) (p:=p) ht;have nM:=Wmb (w:={w with now:=w.now+1}) (x:=w.roots[k]) (k:=k) (p:=p);have tU:=Wky (w:={w with now:=w.now+1}) (x:=w.roots[k]) (k:=k) (p:=p);have hz:=Wqs (w:={w with now:=w.now+1}) (x:=w.roots[k]) (k:=k) (p:=p);have th:=WjO (w:={w with now:=w.now+1}) (k:=k) hp hx qQ ht (by omega);have ja:LB {w with now:=w.now+1} k w.roots[k]:=⟨(h.lx.root k hk).cm,(h.lx.root k hk).no,(h.lx.root k hk).hd,(h.lx.root k hk).tk⟩;have uW:=λhg hh=>WwW (w:={w with now:=w.now+1}) (k:=k) hp hx qQ ht (by omega) hg hh h.ok.mem ja (show w.mem.1<1000000 by omega);have bA:w.roots[k].phase=0->W2 {w with now:=w.now+1} w.roots[k] k p=Wdk {w with now:=w.now+1} w.roots[k] k:=λh0=>by
  unfold W2;rw[if_neg (by omega),if_pos h0]
 refine⟨_,rfl,?_⟩;have aV:=WlE (m:=(W2 {w with now:=w.now+1} w.roots[k] k p).1.mem) (p:=p) (x:=(W2 {w with now:=w.now+1} w.roots[k] k p).2) (d:=p.2.length) (i:=0);have hle:=Wr0 hp hq.root yd hq.mem;have hne:=WcP (m:=(W2 {w with now:=w.now+1} w.roots[k] k p).1.mem) (p:=p) (x:=(W2 {w with now:=w.now+1} w.roots[k] k p).2) (d:=p.2.length) (i:=0);constructor
 .show(W2 {w with now:=w.now+1} w.roots[k] k p).1.token=w.token\/_;rcases tU.tok with e|⟨e1,e2,e3,e4⟩|⟨e1,e2,e3⟩
  .exact .inl e
  .exact .inr (.inl ⟨e1,e2,e3,by rw[aV.1];exact e4⟩)
  .exact .inr (.inr ⟨e1,e2,by rw[aV.1];exact e3⟩)
 .intro h5;rcases nM with e|e
  .exact e
  .exact absurd e.1 h5
 .intro h8;have e:=tU.done h8;rw[e];exact WcP (by show w.roots[k].phase≠2;omega)
 .intro h0;rw[bA h0];unfold Wdk;by_cases a1:w.token≠0/\w.token≠(k:Int)+1
  .rw[if_pos a1];exact .inl ⟨WcP (by show w.roots[k].phase≠2;omega),λh=>absurd h a1.1,λh=>absurd h a1.2⟩
  rw[if_neg a1];by_cases a2:w.roots[k].tries>=3/\w.token=0
  .rw[if_pos a2];exact .inl ⟨WcP (by show w.roots[k].phase≠2;omega),λ_=>rfl,λh=>by have:=a2.2;omega⟩
  rw[if_neg a2];by_cases a3:w.token=(k:Int)+1/\W4 k w.roots 0=false
  .rw[if_pos a3];exact .inl ⟨WcP (by show w.roots[k].phase≠2;omega),λh=>by have:=a3.1;omega,λ_=>a3.2⟩
  rw[if_neg a3];right;have e:∀m,Waj m p p.2.length 0 ({phase:=1,tries:=w.roots[k].tries,rv:=w.mem.1,began:=w.now+1,regs:=[0,0,0,0]}:Rt)={phase:=1,tries:=w.roots[k].tries,rv:=w.mem.1,began:=w.now+1,regs:=[0,0,0,0]}:=λm=>WcP (by show(1:Int)≠2;omega);have ti:Wi p ({phase:=1,tries:=w.roots[k].tries,rv:=w.mem.1,began:=w.now+1,regs:=[0,0,0,0]}:Rt)=785:=by
   rw[Wce rfl];have:Wed p 0=382:=by
    have e0:frk p.1 0=0:=rfl;unfold Wed;rw[show(0:Int).toNat=0 from rfl,e0];rfl
   have e1:WaY ({phase:=1,tries:=w.roots[k].tries,rv:=w.mem.1,began:=w.now+1,regs:=[0,0,0,0]}:Rt)=328:=rfl;rw[e1];show 75-3*0-0+Wed p 0+328=785;omega
  refine⟨?_,?_,?_,rfl,?_⟩
  .show(Waj w.mem p p.2.length 0 ({phase:=1,tries:=w.roots[k].tries,rv:=w.mem.1,began:=w.now+1,regs:=[0,0,0,0]}:Rt)).phase=1;rw[e]
  .show Wi p (Waj w.mem p p.2.length 0 ({phase:=1,tries:=w.roots[k].tries,rv:=w.mem.1,began:=w.now+1,regs:=[0,0,0,0]}:Rt))=785;rw[e];exact ti
  .show(Waj w.mem p p.2.length 0 ({phase:=1,tries:=w.roots[k].tries,rv:=w.mem.1,began:=w.now+1,regs:=[0,0,0,0]}:Rt)).tries=_;rw[e]
  .by_cases h0:w.token=0
   .exact .inl ⟨h0,by omega⟩
   .have kW:w.token=(k:Int)+1:=by omega
    have nT:W4 k w.roots 0=true:=by
     cases hc:W4 k w.roots 0 with
     |true=>rfl
     |false=>exact absurd ⟨kW,hc⟩ a3
    refine .inr ⟨kW,nT,?_,?_⟩
    .show RGd w.mem (Waj w.mem p p.2.length 0 ({phase:=1,tries:=w.roots[k].tries,rv:=w.mem.1,began:=w.now+1,regs:=[0,0,0,0]}:Rt));rw[e];exact Wqk h hk ‹_› nT
    .show WcR p (Waj w.mem p p.2.length 0 ({phase:=1,tries:=w.roots[k].tries,rv:=w.mem.1,began:=w.now+1,regs:=[0,0,0,0]}:Rt))=493;rw[e];unfold WcR;rw[if_pos (by show(1:Int)<=4;omega),ti];rfl
 .intro aw;show(Waj (W2 {w with now:=w.now+1} w.roots[k] k p).1.mem p p.2.length 0 (W2 {w with now:=w.now+1} w.roots[k] k p).2).phase=8\/_;rw[aV.1,aV.2];have zY:=hq.root.phase;by_cases pW:(W2 {w with now:=w.now+1} w.roots[k] k p).2.phase=0
  .exact .inr (.inl ⟨pW,hz (by omega) pW⟩)
  by_cases hz8:(W2 {w with now:=w.now+1} w.roots[k] k p).2.phase=8
  .exact .inl hz8
  refine .inr (.inr ⟨by omega,tU.try1 (by omega) (by omega) pW,?_⟩);rcases th aw with hl|⟨h2,hl,ho,e⟩
  .omega
  .rw[e];rcases nM with em|em
   .rw[em];have:=Wil hp hx ht h2 hl ho h.ok.mem;unfold Waj;rw[if_pos h2];exact this
   .omega
 .intro h0 h8 wi;simp only[aV.1]at wi;rw[aV.2];exact tU.try1 h0 h8 wi
 .intro h0 h8 hg hh;rcases uW hg hh with e8|⟨gq,kg⟩
  .exact .inl (by rw[aV.1];exact e8)
  right;generalize W2 {w with now:=w.now+1} w.roots[k] k p=q at*;show RGd q.1.mem (Waj q.1.mem p p.2.length 0 q.2)/\WcR p (Waj q.1.mem p p.2.length 0 q.2)<WcR p w.roots[k];refine⟨?_,?_⟩
  .by_cases h2:q.2.phase=2
   .unfold Waj;rw[if_pos h2];obtain⟨f1,f2,f3⟩:=(hq.root.live (by omega)).fork h2;have hT:=(yd.fam h2).resolve_left (by rw[(gq.fam h2).lost];simp);exact⟨gq.dm,gq.sp,gq.ph,gq.run,λ_=>Wl3 hq.mem hp.kids hp.k3 _ _ _ _ (by omega) f3 hT (gq.fam h2),λh5=>gq.cm h5,gq.ft⟩
   .rw[hne h2];exact gq
  .have zZ:WcR p (Waj q.1.mem p p.2.length 0 q.2)<=WcR p q.2:=by
    unfold WcR;rw[aV.1];split<;>omega
   rcases kg with hl|⟨h2,hl,ho,e⟩
   .omega
   .rw[e]at zZ⊢;rcases nM with em|em
    .rw[em];have:=Wil hp hx ht h2 hl ho h.ok.mem;have ek:Waj w.mem p p.2.length 0 w.roots[k]={w.roots[k]with fam:=Wb0 w.mem p.2 p.2.length 0 w.roots[k].fam}:=by unfold Waj;rw[if_pos h2]
     show WcR p (Waj w.mem p p.2.length 0 w.roots[k])<_;unfold WcR;rw[WlE.1,if_pos (by omega),if_pos (by omega),ek];exact Int.sub_lt_sub_right this 292
    .omega
end
section
variable{s:Sc}{w v:Wo}{n:Int}{x y:Rt}{k i:Nat}{p:Pg}
def WhN(s:Sc)(j:Nat):Pg:=s.2.1.getD j pg0
structure RJ(w:Wo)(p:Pg)(j:Nat)(x y:Rt):Prop where
 done:x.phase=8->y=x
 idle:x.phase=0->y=x\/(y.phase=1/\Wi p y=785/\y.tries=x.tries/\(x.tries<3\/w.token=(j:Int)+1))
 live:1<=x.phase/\x.phase<=7->y.phase=8\/(y.phase=0/\y.tries=x.tries+1)\/((1<=y.phase/\y.phase<=7)/\y.tries=x.tries/\Wi p y<Wi p x)
def Wwg(w v:Wo)(p:Pg)(k i:Nat)(x y:Rt):Prop:=
 (i<=k->x.phase≠0->RGd w.mem x->RGd v.mem x)/\
 (k<i->(x.phase=0->(y=x/\∃(j:Nat) (h:j<w.roots.length),j≠k/\1<=w.roots[j].phase/\w.roots[j].phase<=7)\/(y.phase=1/\RGd v.mem y/\WcR p y=493))/\(x.phase≠0->RGd w.mem x->RGd v.mem y/\WcR p y<WcR p x))
structure Rd(s:Sc)(w v:Wo)(i:Nat):Prop where
 len:v.roots.length=w.roots.length
 rest:∀(j:Nat) (h:j<w.roots.length) (h':j<v.roots.length),i<=j->v.roots[j]=w.roots[j]
 did:∀(j:Nat) (h:j<w.roots.length) (h':j<v.roots.length),j<i->RJ w (WhN s j) j w.roots[j] v.roots[j]
 tk0:w.token=0->(v.token=0/\∀(j:Nat) (h:j<w.roots.length) (h':j<v.roots.length),j<i->w.roots[j].phase=0->v.roots[j].phase=1)\/
  ∃(k:Nat) (h:k<w.roots.length) (h':k<v.roots.length),k<i/\v.token=(k:Int)+1/\w.roots[k].phase=0/\v.roots[k].phase=0
 tk1:∀(k:Nat) (h:k<w.roots.length) (h':k<v.roots.length),w.token=(k:Int)+1->
  (v.token=(k:Int)+1/\(∀(j:Nat) (h:j<w.roots.length) (h':j<v.roots.length),j≠k->w.roots[j].phase=0->v.roots[j]=w.roots[j])/\Wwg w v (WhN s k) k i w.roots[k] v.roots[k])\/
  (k<i/\w.roots[k].phase≠0/\v.roots[k].phase=8/\(v.token=0\/∃(j:Nat) (h:j<w.roots.length) (h':j<v.roots.length),j<i/\j≠k/\v.token=(j:Int)+1/\v.roots[j].phase=0/\w.roots[j].phase≠8))
theorem Rd.refl:Rd s w w 0:=
 ⟨rfl,λ_ _ _ _=>rfl,λj _ _ h=>absurd h (by omega),λh=>.inl ⟨h,λj _ _ h=>absurd h (by omega)⟩,λk h _ ht=>.inl ⟨ht,λ_ _ _ _ _=>rfl,λ_ _ h=>h,λh=>absurd h (by omega)⟩⟩
theorem Wen:∀{l:List Rt} {i:Nat},W4 k l i=false->∃(j:Nat) (h:j<l.length),i+j≠k/\l[j].phase≠0/\l[j].phase≠8
 | [],i,h=>by cases h
 |x::l,i,h=>by
  rw[W4]at h;by_cases hx:i≠k/\x.phase≠0/\x.phase≠8
  .exact⟨0,by simp,by simpa using hx.1,hx.2.1,hx.2.2⟩
  .have:(decide (i=k)||(decide (x.phase=0)||decide (x.phase=8)))=true:=by
    simp only[Xbs,decide_eq_true_eq];by_cases h1:i=k
    .exact .inl h1
    .by_cases h2:x.phase=0
     .exact .inr (.inl h2)
     .by_cases h3:x.phase=8
      .exact .inr (.inr h3)
      .exact absurd ⟨h1,h2,h3⟩ hx
   rw[this,Bool.true_and]at h;obtain⟨j,hj,a,b⟩:=Wen h;exact⟨j+1,by simpa using hj,by omega,by simpa using b⟩
theorem Wq6(h:LX w)(ho:∀(j:Nat) (hj:j<w.roots.length),j≠k->w.roots[j].phase=0\/w.roots[j].phase=8):∀e∈w.holds,e.1=(k:Int)+1:=λe he=>by
 obtain⟨j,hj,e1⟩:=h.hd e he;by_cases dp:j=k
 .subst dp;exact e1
 .have:=(h.root j hj).hd e he e1;rcases ho j hj dp with h0|h8
  .exact absurd h0 this.1
  .exact absurd h8 this.2
theorem Rd.step(h0:WI s n w)(hv:∃n',n'<=99999/\WI s n' v)(hR:Rd s w v i)(hi:i<w.roots.length):Rd s w (Wuy s i v) (i+1):=by
 obtain⟨n',wz,hV⟩:=hv;have aw:=hR.len;have tj:i<v.roots.length:=by omega
 obtain⟨y,hy,hB⟩:=WwA hV tj wz;change BK v (Wuy s i v) i (WhN s i) v.roots[i] y at hB;have wj:=hR.rest i hi tj (Xn _);have wh:=(hV.ok.root i tj).phase;have kp:=hV.lx.tk;have hUl:=(hV.blk (k:=i)).lx;generalize Wuy s i v=u at*;have hlu:u.roots.length=v.roots.length:=by rw[hy,Xaa]
 have hg:∀(j:Nat) (h:j<u.roots.length) (h':j<v.roots.length),u.roots[j]=if i=j then y else v.roots[j]:=λj h h'=>by
  simp only[hy,Xam]
 have ni:∀(h:i<u.roots.length),u.roots[i]=y:=λh=>by rw[hg i h tj,if_pos rfl]
 have gl:∀(j:Nat) (h:j<u.roots.length) (h':j<v.roots.length),j≠i->u.roots[j]=v.roots[j]:=λj h h' hne=>by rw[hg j h h',if_neg (λe=>hne e.symm)]
 rw[wj]at hB;have hRJ:RJ w (WhN s i) i w.roots[i] y:=by
  refine⟨hB.done,λtQ=>?_,hB.live⟩;rcases hB.idle tQ with⟨e,_⟩|⟨e1,e2,e3,e4,e5⟩
  .exact .inl e
  .refine .inr ⟨e1,e2,e3,?_⟩;rcases e5 with⟨_,e5⟩|⟨e5,_⟩
   .exact .inl e5
   .right;by_cases kQ:w.token=0
    .rcases hR.tk0 kQ with⟨a,_⟩|⟨k,a1,a2,a3,a4,a5,a6⟩
     .omega
     .omega
    .obtain⟨k,hk,ek⟩:=h0.lx.tk.resolve_left kQ;rcases hR.tk1 k hk (by omega) ek with⟨a,_⟩|⟨_,_,_,a|⟨j,_,_,a0,_,a,_⟩⟩
     .omega
     .omega
     .omega
 constructor
 .omega
 .intro j h h' hij;rw[gl j h' (by omega) (by omega)];exact hR.rest j h (by omega) (by omega)
 .intro j h h' hij;by_cases hj:j=i
  .subst hj;rw[ni h'];exact hRJ
  .rw[gl j h' (by omega) hj];exact hR.did j h (by omega) (by omega)
 .intro kQ;rcases hR.tk0 kQ with⟨a,b⟩|⟨k,a1,a2,a3,a4,a5,a6⟩
  .rcases hB.tok with e|⟨e1,e2,e3,e4⟩|⟨e1,_⟩
   .refine .inl ⟨by omega,λj h h' lH hz=>?_⟩;by_cases hj:j=i
    .subst hj;rw[ni h'];rcases hB.idle hz with⟨_,e2,_⟩|⟨e1,_⟩
     .have:=e2 a;omega
     .exact e1
    .rw[gl j h' (by omega) hj];exact b j h (by omega) (by omega) hz
   .exact .inr ⟨i,hi,by omega,by omega,e1,e3,by rw[ni];exact e4⟩
   .omega
  .right;have jw:k≠i:=by omega
   refine⟨k,a1,by omega,by omega,?_,a5,by rw[gl k _ a2 jw];exact a6⟩;rcases hB.tok with e|⟨e1,e2,e3,e4⟩|⟨e1,_⟩
   .omega
   .omega
   .omega
 .intro k hk ct nj;have kR:k<v.roots.length:=by omega
  rcases hR.tk1 k hk kR nj with⟨a,b,c1,c2⟩|⟨a1,a2,a3,a4⟩
  .by_cases kP:i=k
   .subst kP;rw[ni ct];rcases hB.tok with e|⟨_,e2,_⟩|⟨e1,e2,e3⟩
    .refine .inl ⟨by omega,λj h h' hne hz=>by rw[gl j h' (by omega) hne];exact b j h (by omega) hne hz,λh=>absurd h (by omega),λ_=>⟨λhz=>?_,λkb hg0=>?_⟩⟩
     .rcases hB.idle hz with⟨f1,_,f3⟩|⟨f1,f2,f3,f4,f5⟩
      .obtain⟨j,hj,j1,j2,j3⟩:=Wen (f3 a);have tm:j<w.roots.length:=by omega
       refine .inl ⟨f1,j,tm,by omega,?_⟩;have aV:=(h0.ok.root j tm).phase;have n0:w.roots[j].phase≠0:=λhz=>j2 (by rw[b j tm hj (by omega) hz];exact hz);have n8:w.roots[j].phase≠8:=λhz=>by
        by_cases lH:j<i
        .have:=(hR.did j tm hj lH).done hz;exact j3 (by rw[this];exact hz)
        .have:=hR.rest j tm hj (by omega);exact j3 (by rw[this];exact hz)
       omega
      .right;rcases f5 with⟨f5,_⟩|⟨_,_,f5,f6⟩
       .omega
       .exact⟨f1,f5,f6⟩
     .have n8:w.roots[i].phase≠8:=λh8=>by
       have:=(hUl.root i ct).tk (by omega);rw[ni ct,hB.done h8]at this;exact this.2 h8
      have tV:=Wq6 (k:=i) hV.lx (λj hj hne=>hV.tx.t2 i kR a (by rw[wj];exact kb) j hj hne);rcases hB.good kb n8 (c1 (Xn _) kb hg0) tV with h8|tv
      .have:=(hUl.root i ct).tk (by omega);rw[ni ct]at this;exact absurd h8 this.2
      .exact tv
    .omega
    .refine .inr ⟨by omega,λhz=>?_,e3,.inl e2⟩;rcases hB.idle hz with⟨f1,_⟩|⟨f1,_⟩
     .rw[f1]at e3;omega
     .omega
   .have jw:k≠i:=λe=>kP e.symm;have kp:u.token=(k:Int)+1:=by
     rcases hB.tok with e|⟨_,e2,_⟩|⟨e1,e2,e3⟩<;>omega
    have hmem:v.roots[k].phase≠0->u.mem=v.mem:=λkb=>by
     have:=hV.tx.t2 k kR a kb i tj kP;rw[wj]at this;exact hB.mem (by omega)
    rw[gl k ct kR jw];refine .inl ⟨kp,λj h h' hne hz=>?_,λhle kb hg0=>?_,λhlt=>?_⟩
    .by_cases hj:j=i
     .subst hj;rw[ni h'];rcases hB.idle hz with⟨f1,_⟩|⟨f1,f2,f3,f4,f5⟩
      .exact f1
      .omega
     .rw[gl j h' (by omega) hj];exact b j h (by omega) hne hz
    .have e:=hR.rest k hk kR (by omega);rw[hmem (by rw[e];exact kb)];exact c1 (by omega) kb hg0
    .obtain⟨d1,d2⟩:=c2 (by omega);refine⟨λhz=>?_,λkb hg0=>?_⟩
     .rcases d1 hz with d|⟨d3,d4,d5⟩
      .exact .inl d
      .exact .inr ⟨d3,by rw[hmem (by omega)];exact d4,d5⟩
     .obtain⟨d3,d4⟩:=d2 kb hg0;have:=d3.ph;exact⟨by rw[hmem (by omega)];exact d3,d4⟩
  .right;have jw:k≠i:=by omega
   refine⟨by omega,a2,by rw[gl k ct kR jw];exact a3,?_⟩;rcases a4 with a4|⟨j,j1,j2,j3,j4,j5,j6,j7⟩
   .rcases hB.tok with e|⟨e1,e2,e3,e4⟩|⟨e1,e2,e3⟩
    .exact .inl (by omega)
    .exact .inr ⟨i,hi,by omega,by omega,λe=>jw e.symm,e1,by rw[ni];exact e4,by omega⟩
    .omega
   .right;refine⟨j,j1,by omega,by omega,j4,?_,by rw[gl j _ j2 (by omega)];exact j6,j7⟩;rcases hB.tok with e|⟨e1,e2,e3,e4⟩|⟨e1,e2,e3⟩<;>omega
end
end Go.Sx
