/- Plain laws of the Lean functions. -/
import Derived.Test.YtnkbflecplbceaaGreatMW3
open List renaming mem_append→Xn,mem_singleton→Xac,getElem_mem→Xt,map_cons→Xaj,sum_cons→Xca,mem_cons_of_mem→Xe,mem_cons_self→Xi,length_cons→Xr,getElem_set→Xaq,length_set→Xad,getElem_of_mem→Xat,replicate→Xv,getElem_replicate→Xbq,getD→Xd,all_eq_true→Xae,all_cons→Xci,set_getElem_self→Xbe,getElem_set_self→Xep,set_set→Xdm
open Int renaming toNat_natCast→Xj,le_refl→Xw,le_trans→Xet,lt_of_le_of_lt→Xct,le_of_eq→Xfp,toNat→Xb
open Nat renaming add_zero→Xax,le_refl→Xm
open Bool renaming and_eq_true→Xh,or_eq_true→Xbw
open Option renaming bind_some→Xc
namespace Go.Sx
set_option linter.unusedVariables false
set_option linter.unusedSimpArgs false
section
def Wdd(x:Kd):Int:=if x.phase=0 then 75-3*x.pc-(if x.busy=true then x.pb.2.1 else 0)else 0
def Wdl(x:Kd):Int:=if x.phase=3 then 0 else if x.phase=2 then 25-x.pos else 26
structure KT(f:Fm)(k:Nat)(x:Kd):Prop where
 pb:x.busy=true→x.pb.2.1=1∨x.pb.2.1=2
 own:f.owner=(k:Int)+1↔x.phase=2
 seen:x.since=f.clock→∀e∈x.seen,entV f.buf e.1=e.2.2
inductive KO (f:Fm) (k:Nat) (x:Kd):Fm×Kd→Prop
 |lost {q:Fm×Kd}:q.1.lost=true→KO f k x q
 |run {y:Kd}:x.phase=0→y.since=x.since→(y.phase=0∨y.phase=1)→Wdd y<Wdd x→(y.busy=true→y.pb.2.1=1∨y.pb.2.1=2)→
   (x.since=f.clock→∀e∈y.seen,entV f.buf e.1=e.2.2)→KO f k x (f,y)
 |again:x.phase=0→x.since<f.clock→KO f k x (f,f.again x)
 |fail:x.phase=2→x.since<f.clock→KO f k x ({f with owner:=0},f.again x)
 |ask:x.phase=1→f.owner=0→KO f k x ({f with owner:=(k:Int)+1},{x with phase:=2})
 |wait:x.phase=1→f.owner≠0→KO f k x (f,x)
 |look:x.phase=2→x.pos<x.seen.length→KO f k x (f,{x with pos:=x.pos+1})
 |merge:x.phase=2→KO f k x (Whr f x k)
 |done:x.phase=3→KO f k x (f,x)
variable{code:List Opn}{codes:List (List Opn)}{n:Int}{f:Fm}{x:Kd}{m:Mm}{k:Nat}{o:Opn}
theorem pb_next{rv:Int}{p:Pb}(h:0≤p.2.1∧p.2.1≤2):(Was m rv p).2.1=4∨(Was m rv p).2.1=p.2.1+1:=by
 unfold Was
 simp only[Wn,Wbv]
 repeat' split
 all_goals first
  |exact .inl rfl
  |(refine .inr ?_;show(1:Int)=_;omega)
  |(refine .inr ?_;show(2:Int)=_;omega)
  |(refine .inr ?_;show(3:Int)=_;omega)
  |omega
theorem kRead_o(hF:FOk codes n f)(h:KOk code f.clock n x)(h0:x.phase=0)(ht:KT f k x)(hpc:x.pc+1≤24):KO f k x (Wkd m f x o):=by
 have hl:Wdd x=75-3*x.pc-(if x.busy=true then x.pb.2.1 else 0):=by unfold Wdd;rw[if_pos h0]
 have hpb:0≤(if x.busy=true then x.pb.2.1 else 0)∧(if x.busy=true then x.pb.2.1 else 0)≤2:=by
  split
  ·have:=ht.pb ‹_›;omega
  ·omega
 have hnext:∀y:Kd,y.phase=0→y.pc=x.pc+1→y.busy=x.busy→y.pb=x.pb→Wdd y<Wdd x:=λy a b c d=>by
  unfold Wdd;rw[if_pos a,if_pos h0,b,c,d];omega
 unfold Wkd
 cases Wdr x.writes o.2.2.1 with
 |some v=>exact .run h0 rfl (.inl h0) (hnext _ h0 rfl rfl rfl) ht.pb ht.seen
 |none=>
  simp only
  cases he:ent f.buf o.2.2.1 with
  |some r=>
   simp only
   have hr:=Whj he
   have hre:r.2∈f.buf:=List.mem_of_getElem? hr.2.2.2
   split
   ·exact .again h0 (by have:=(hF.bufE _ hre).2.2;omega)
   ·refine .run h0 rfl (.inl h0) (hnext _ h0 rfl rfl rfl) ht.pb λhs e hee=>?_
    rcases Xn.1 hee with hee|hee
    ·exact ht.seen hs e hee
    ·rw[Xac]at hee
     subst hee
     have hc:r.2.1=o.2.2.1:=eq_of_beq hr.1
     unfold entV
     rw[hc,he]
  |none=>
   simp only
   have hp:0≤(if x.busy=true then x.pb else(o.2.2.1,0,0,0)).2.1∧(if x.busy=true then x.pb else(o.2.2.1,0,0,0)).2.1≤2:=by
    split
    ·have:=ht.pb ‹_›;omega
    ·simp
   have hpe:(if x.busy=true then x.pb else(o.2.2.1,0,0,0)).2.1=(if x.busy=true then x.pb.2.1 else 0):=by split<;>rfl
   have hs:=pb_next (m:=m) (rv:=f.rv) hp
   rw[hpe]at hs
   generalize Was m f.rv (if x.busy=true then x.pb else(o.2.2.1,0,0,0))=p at*
   split
   ·exact .lost rfl
   ·split
    ·refine .run h0 rfl (.inl h0) ?_ (λh=>by cases h) λhsc e hee=>?_
     ·rw[hl]
      show(if x.phase=0 then 75-3*(x.pc+1) -0 else 0)<_
      rw[if_pos h0];omega
     ·rcases Xn.1 hee with hee|hee
      ·exact ht.seen hsc e hee
      ·rw[Xac]at hee
       subst hee
       unfold entV
       rw[he]
    ·refine .run h0 rfl (.inl h0) ?_ (λ_=>by show p.2.1=1∨p.2.1=2;omega) ht.seen
     rw[hl]
     show(if x.phase=0 then 75-3*x.pc-p.2.1 else 0)<_
     rw[if_pos h0];omega
theorem kRun_o(hkc:KC code)(hF:FOk codes n f)(h:KOk code f.clock n x)(h0:x.phase=0)(ht:KT f k x):KO f k x (kRun m f x code):=by
 have hcc:=hkc.toCC
 have hlen:=hcc.len
 have hl:Wdd x=75-3*x.pc-(if x.busy=true then x.pb.2.1 else 0):=by unfold Wdd;rw[if_pos h0]
 have hpb:0≤(if x.busy=true then x.pb.2.1 else 0)∧(if x.busy=true then x.pb.2.1 else 0)≤2:=by
  split
  ·have:=ht.pb ‹_›;omega
  ·omega
 have hpcs:=h.pc
 have hask:∀y:Kd,y.phase=1→Wdd y<Wdd x:=λy a=>by unfold Wdd at*;rw[if_neg (by omega),hl];omega
 have hnext:∀y:Kd,y.phase=0→x.pc+1≤y.pc→y.busy=x.busy→y.pb=x.pb→Wdd y<Wdd x:=λy a b c d=>by
  unfold Wdd;rw[if_pos a,if_pos h0,c,d];omega
 unfold kRun
 split
 ·exact .run h0 rfl (.inr rfl) (hask _ rfl) ht.pb ht.seen
 ·obtain⟨i,hi,hpc,ho⟩:=Wml (l:=code) h.pc.1 (by have:=h.pc;omega)
  simp only[ho]
  have hM:=h.marks h0
  rw[hpc,Xj]at hM
  split
  ·exact kRead_o hF h h0 ht (by omega)
  ·split
   ·unfold Wsx
    split
    ·exact .run h0 rfl (.inr rfl) (hask _ rfl) ht.pb ht.seen
    ·obtain⟨j,q,y,e1,e2,e3,⟨hj,h8⟩,hjp,hmate,hpe,e5,e6⟩:=Wrp (d:=((0,0,[]):KM)) hcc (show i≤code.length by omega) hM.pcs ‹_›
     refine .run h0 rfl (.inl h0) (hnext _ h0 ?_ rfl rfl) ht.pb ht.seen
     simp only[e2,e3,Xj]
     omega
   ·split
    ·exact .run h0 rfl (.inl h0) (hnext _ h0 (Xw _) rfl rfl) ht.pb ht.seen
    ·split
     ·have hk:=ok_7 (hkc.ok i hi).1 ‹_›
      refine .run h0 rfl (.inl h0) (hnext _ h0 ?_ rfl rfl) ht.pb ht.seen
      show x.pc+1≤(if getI x.regs code[i].2.1 0=0 then x.pc+code[i].2.2.1 else x.pc)+1
      split<;>omega
     ·split
      ·exact .run h0 rfl (.inl h0) (hnext _ h0 (Xw _) rfl rfl) ht.pb ht.seen
      ·split
       ·exact .run h0 rfl (.inl h0) (hnext _ h0 (Xw _) rfl rfl) ht.pb ht.seen
       ·exact .run h0 rfl (.inl h0) (hnext _ h0 (Xw _) rfl rfl) ht.pb ht.seen
theorem kStep_o(hkc:KC code)(hF:FOk codes n f)(h:KOk code f.clock n x)(ht:KT f k x):KO f k x (Wke m f x k code):=by
 have hph:=h.phase
 unfold Wke
 split
 ·exact kRun_o hkc hF h ‹_› ht
 ·split
  ·split
   ·exact .ask ‹_› ‹_›
   ·exact .wait ‹_› ‹_›
  ·split
   ·split
    ·exact .merge ‹_›
    ·have hp:=h.pos
     have hlt:x.pos<x.seen.length:=by omega
     simp only
     split
     ·exact .look ‹_› hlt
     ·rename_i hne
      refine .fail ‹_› ?_
      have hs:=h.since
      by_cases he:x.since=f.clock
      ·exfalso
       apply hne
       have hg:getI x.seen x.pos (0,0,0)=x.seen[x.pos.toNat]'(by omega):=Wc (by omega) _
       rw[hg]
       exact ht.seen he _ (Xt _)
      ·omega
   ·exact .done (by omega)
end
section
def Wbx(x:Kd):Int:=if x.phase=3 then 0 else 1
def Wdu(c:Int)(x:Kd):Int:=if x.phase≠3∧x.since<c then 1 else 0
def Wah(c:Int)(x:Kd):Int:=Wdl x+26*Wdu c x
def sumK(g:Kd→Int)(l:List Kd):Int:=(l.map g).sum
def tri(u:Int):Int:=if u≤1 then 0 else if u=2 then 1 else 3
def undn(f:Fm):Int:=sumK Wbx f.kids
def fQ(f:Fm):Int:=sumK (Wah f.clock) f.kids+26*tri (undn f)
def fP(f:Fm)(x:Kd):Int:=Wdd x+75*(Wdu f.clock x+(undn f-1))
theorem Weq{g:Kd→Int}{y:Kd}:∀{l:List Kd} {k:Nat} (h:k<l.length),sumK g (l.set k y)=sumK g l-g l[k]+g y
 |x::l,0,h=>by simp[sumK];omega
 |x::l,k+1,h=>by
  have:=Weq (g:=g) (y:=y) (l:=l) (k:=k) (by simpa using h)
  simp only[sumK,List.set_cons_succ,Xaj,Xca,List.getElem_cons_succ]at*
  omega
theorem Wun{g h:Kd→Int}:∀{l:List Kd},(∀x∈l,g x≤h x)→sumK g l≤sumK h l
 | [],_=>by simp[sumK]
 |x::l,hl=>by
  have:=Wun (l:=l) λy hy=>hl y (Xe _ hy)
  have:=hl x (Xi ..)
  simp only[sumK,Xaj,Xca]at*
  omega
theorem sumK_add{g h:Kd→Int}{a:Int}:∀{l:List Kd},sumK (λx=>g x+a*h x) l=sumK g l+a*sumK h l
 | []=>by simp[sumK]
 |x::l=>by
  have:=sumK_add (g:=g) (h:=h) (a:=a) (l:=l)
  simp only[sumK,Xaj,Xca,Int.mul_add]at*
  omega
theorem undo1_bd(x:Kd):0≤Wbx x∧Wbx x≤1:=by unfold Wbx;split<;>omega
theorem Wfw(c:Int)(x:Kd):0≤Wdu c x∧Wdu c x≤Wbx x:=by
 unfold Wdu Wbx
 by_cases h:x.phase=3
 ·rw[if_neg (by omega),if_pos h];omega
 ·rw[if_neg h];split<;>omega
theorem Wxu(f:Fm):0≤undn f∧undn f≤f.kids.length:=by
 unfold undn
 have:∀l:List Kd,0≤sumK Wbx l∧sumK Wbx l≤l.length:=λl=>by
  induction l with
  |nil=>simp[sumK]
  |cons x l ih=>
   have:=undo1_bd x
   simp only[sumK,Xaj,Xca,Xr]at*
   omega
 exact this f.kids
theorem Wlm{code:List Opn}{c n:Int}{x:Kd}(h:KOk code c n x)(hl:code.length≤24):0≤Wdl x∧Wdl x≤26∧(x.phase=2→1≤Wdl x∧Wdl x≤25)∧((x.phase=0∨x.phase=1)→Wdl x=26):=by
 have hp:=h.pos;have hs:=h.sl;have hpc:=h.pc;have hph:=h.phase
 unfold Wdl
 split
 ·omega
 ·split<;>omega
theorem Wzm{code:List Opn}{c n:Int}{x:Kd}(h:KOk code c n x)(hl:code.length≤24)(hb:x.busy=true→x.pb.2.1=1∨x.pb.2.1=2):0≤Wdd x∧Wdd x≤75∧(x.phase=0→1≤Wdd x):=by
 have hpc:=h.pc
 unfold Wdd
 split
 ·split
  ·have:=hb ‹_›;omega
  ·omega
 ·omega
structure KD(f:Fm)(k:Nat)(q:Fm×Kd):Prop where
 le:fQ (Fm.put q k)≤fQ f
 p:∀(j:Nat) (h:j<f.kids.length) (h':j<(Fm.put q k).kids.length),Wbx (Fm.put q k).kids[j]=1→fP (Fm.put q k) (Fm.put q k).kids[j]≤fP f f.kids[j]∧Wbx f.kids[j]=1
variable{codes:List (List Opn)}{n:Int}{f:Fm}{x y:Kd}{k:Nat}{q:Fm×Kd}{code:List Opn}
theorem Wqq(h:k<f.kids.length)(hk:q.1.kids=f.kids){j:Nat}(hj:j<f.kids.length)(h':j<(Fm.put q k).kids.length):(Fm.put q k).kids[j]=if k=j then q.2 else f.kids[j]:=by
 show(q.1.kids.set k q.2)[j]=_
 simp only[hk,Xaq]
theorem Wnd(hk:k<f.kids.length)(h1:q.1.kids=f.kids)(hc:q.1.clock=f.clock)(hu:Wbx q.2=Wbx f.kids[k])(hs:Wah f.clock q.2≤Wah f.clock f.kids[k])(hp:Wbx q.2=1→Wdd q.2+75*Wdu f.clock q.2≤Wdd f.kids[k]+75*Wdu f.clock f.kids[k]):
  KD f k q∧undn (Fm.put q k)=undn f∧fQ (Fm.put q k)=fQ f-Wah f.clock f.kids[k]+Wah f.clock q.2:=by
 have e1:(Fm.put q k).kids=f.kids.set k q.2:=by show q.1.kids.set k q.2=_;rw[h1]
 have e2:(Fm.put q k).clock=f.clock:=hc
 have e3:undn (Fm.put q k)=undn f:=by unfold undn;rw[e1,Weq hk,hu];omega
 have e4:fQ (Fm.put q k)=fQ f-Wah f.clock f.kids[k]+Wah f.clock q.2:=by unfold fQ;rw[e1,e2,e3,Weq hk];omega
 refine⟨⟨by rw[e4];omega,λj h h' hj=>?_⟩,e3,e4⟩
 have hg:=Wqq hk h1 h h'
 rw[hg]at hj⊢
 unfold fP
 rw[e2,e3]
 by_cases he:k=j
 ·subst he
  rw[if_pos rfl]at hj⊢
  have:=hp hj
  rw[hu]at hj
  exact⟨by omega,hj⟩
 ·rw[if_neg he]at hj⊢
  exact⟨Xw _,hj⟩
end
section
structure KE(f:Fm)(k:Nat)(x:Kd)(q:Fm×Kd):Prop where
 d:KD f k q
 s0:x.phase=0→Wbx q.2=1→fP (Fm.put q k) q.2<fP f x
 s2:x.phase=2→fQ (Fm.put q k)<fQ f
 s1:x.phase=1→f.owner=0→fQ (Fm.put q k)<fQ f
 own:q.1.owner=f.owner∨q.1.owner=0∨(q.1.owner=(k:Int)+1∧x.phase=1∧f.owner=0)
 kids:q.1.kids=f.kids
 kt:∀(j:Nat) (h:j<(Fm.put q k).kids.length),KT (Fm.put q k) j (Fm.put q k).kids[j]
variable{codes:List (List Opn)}{n:Int}{f:Fm}{x y:Kd}{k:Nat}{q:Fm×Kd}{code:List Opn}{m:Mm}
theorem Wyn(h:q.1.kids=f.kids):(Fm.put q k).kids.length=f.kids.length:=by show(q.1.kids.set k q.2).length=_;rw[h,Xad]
theorem Wnr(hk:k<f.kids.length)(hT:∀(j:Nat) (h:j<f.kids.length),KT f j f.kids[j])(h1:q.1.kids=f.kids)(hc:q.1.clock=f.clock)(hb:q.1.buf=f.buf)(ho:∀j:Nat,j≠k→(q.1.owner=(j:Int)+1↔f.owner=(j:Int)+1))(hy:KT q.1 k q.2):
  ∀(j:Nat) (h:j<(Fm.put q k).kids.length),KT (Fm.put q k) j (Fm.put q k).kids[j]:=λj h=>by
 have hj:j<f.kids.length:=by rw[Wyn h1]at h;exact h
 rw[Wqq hk h1 hj h]
 by_cases he:k=j
 ·subst he
  rw[if_pos rfl]
  exact⟨hy.pb,hy.own,hy.seen⟩
 ·rw[if_neg he]
  have ht:=hT j hj
  refine⟨ht.pb,?_,λhs e hee=>?_⟩
  ·show q.1.owner=(j:Int)+1↔_
   rw[ho j (λh=>he h.symm)]
   exact ht.own
  ·show entV q.1.buf e.1=e.2.2
   rw[hb]
   exact ht.seen (hs.trans hc) e hee
theorem Wfv(h:x.phase≠3):Wbx x=1:=by unfold Wbx;rw[if_neg h]
theorem Wyu(h:x.phase≠3)(hy:y.phase≠3)(hs:y.since=x.since)(c:Int):Wdu c y=Wdu c x:=by
 unfold Wdu
 rw[hs]
 by_cases hh:x.since<c
 ·rw[if_pos ⟨hy,hh⟩,if_pos ⟨h,hh⟩]
 ·rw[if_neg (λz=>hh z.2),if_neg (λz=>hh z.2)]
theorem Wfo:Wdu f.clock (f.again x)=0:=by unfold Wdu Fm.again;simp
theorem Wnu:Wdd (f.again x)=75:=by unfold Wdd Fm.again;simp
theorem Wku:Wdl (f.again x)=26:=by unfold Wdl Fm.again;simp
theorem stale_1(h:x.phase≠3)(hs:x.since<f.clock):Wdu f.clock x=1:=by unfold Wdu;rw[if_pos ⟨h,hs⟩]
theorem sumShare{c:Int}:∀{l:List Kd},sumK (Wah (c+1)) l≤sumK (Wah c) l+26*sumK Wbx l:=λ{l}=>by
 have h1:sumK (Wah (c+1)) l≤sumK (λx=>Wah c x+26*Wbx x) l:=Wun λx _=>by
  have a:=Wfw (c+1) x
  have b:=Wfw c x
  unfold Wah;omega
 rw[sumK_add]at h1
 exact h1
theorem tri_step{u:Int}(h:1≤u∧u≤3):tri u=tri (u-1)+(u-1):=by
 unfold tri
 have:u=1∨u=2∨u=3:=by omega
 rcases this with rfl|rfl|rfl<;>decide
theorem ke_of(hk:k<f.kids.length)(h3:f.kids.length≤3)(hl:∀c∈codes,c.length≤24)(hF:FOk codes n f)(hT:∀(j:Nat) (h:j<f.kids.length),KT f j f.kids[j])(hx:f.kids[k]=x)(ho:KO f k x q):
  q.1.lost=true∨KE f k x q:=by
 have hlen:(codes.getD k []).length≤24:=by
  have hk':k<codes.length:=by rw[←hF.len];exact hk
  rw[Wc hk']
  exact hl _ (Xt _)
 have hK:=hF.kid k hk
 rw[hx]at hK
 have ht:=hT k hk
 rw[hx]at ht
 obtain⟨c1,c2,c3,c4⟩:=Wlm hK hlen
 obtain⟨l1,l2,l3⟩:=Wzm hK hlen ht.pb
 have hsb:=Wfw f.clock x
 cases ho with
 |lost h=>exact .inl h
 |run h0 hs hp hlt hb hse=>
  rename_i y
  refine .inr ?_
  have hy3:y.phase≠3:=by omega
  have hx3:x.phase≠3:=by omega
  have hst:=Wyu hx3 hy3 hs f.clock
  have hch:Wdl y=26:=by unfold Wdl;rw[if_neg hy3,if_neg (by omega)]
  obtain⟨d1,d2,d3⟩:=Wnd (q:=(f,y)) hk rfl rfl (by rw[hx];rw[Wfv hx3];exact Wfv hy3) (by rw[hx];show Wah f.clock y≤_;unfold Wah;rw[hst];omega) (λ_=>by rw[hx];show Wdd y+75*Wdu f.clock y≤_;rw[hst];omega)
  refine⟨d1,λ_ _=>?_,λh=>by omega,λh=>by omega,.inl rfl,rfl,Wnr hk hT rfl rfl rfl (λ_ _=>Iff.rfl) ⟨hb,?_,λh=>hse (hs▸h)⟩⟩
  ·unfold fP
   rw[d2]
   show Wdd y+75*(Wdu f.clock y+_)<_
   rw[hst];omega
  ·show f.owner=(k:Int)+1↔y.phase=2
   rw[ht.own];omega
 |again h0 hs=>
  refine .inr ?_
  have hx3:x.phase≠3:=by omega
  have hs1:=stale_1 hx3 hs
  obtain⟨d1,d2,d3⟩:=Wnd (q:=(f,f.again x)) hk rfl rfl (by rw[hx];rw[Wfv hx3];exact Wfv (by show(0:Int)≠3;omega)) (by rw[hx];show Wah f.clock (f.again x)≤_;unfold Wah;rw[Wfo,Wku];omega) (λ_=>by rw[hx];show Wdd (f.again x)+75*Wdu f.clock (f.again x)≤_;rw[Wfo,Wnu];omega)
  refine⟨d1,λ_ _=>?_,λh=>by omega,λh=>by omega,.inl rfl,rfl,Wnr hk hT rfl rfl rfl (λ_ _=>Iff.rfl) ⟨(λh=>by cases h),?_,(λh e he=>by cases he)⟩⟩
  ·unfold fP
   rw[d2]
   show Wdd (f.again x)+75*(Wdu f.clock (f.again x)+_)<_
   rw[Wfo,Wnu];have:=l3 h0;omega
  ·show f.owner=(k:Int)+1↔(0:Int)=2
   rw[ht.own];omega
 |fail h2 hs=>
  refine .inr ?_
  have hx3:x.phase≠3:=by omega
  have hs1:=stale_1 hx3 hs
  have c:=c3 h2
  obtain⟨d1,d2,d3⟩:=Wnd (q:=({f with owner:=0},f.again x)) hk rfl rfl (by rw[hx];rw[Wfv hx3];exact Wfv (by show(0:Int)≠3;omega)) (by rw[hx];show Wah f.clock (f.again x)≤_;unfold Wah;rw[Wfo,Wku];omega) (λ_=>by rw[hx];show Wdd (f.again x)+75*Wdu f.clock (f.again x)≤_;rw[Wfo,Wnu];omega)
  have how:=ht.own.2 h2
  refine⟨d1,λh=>by omega,λ_=>?_,λh=>by omega,.inr (.inl rfl),rfl,Wnr hk hT rfl rfl rfl (λj hj=>?_) ⟨(λh=>by cases h),?_,(λh e he=>by cases he)⟩⟩
  ·rw[d3,hx]
   show fQ f-Wah f.clock x+Wah f.clock (f.again x)<fQ f
   unfold Wah
   rw[Wfo,Wku];omega
  ·show(0:Int)=(j:Int)+1↔f.owner=(j:Int)+1
   omega
  ·show(0:Int)=(k:Int)+1↔(0:Int)=2
   omega
 |ask h1 h0=>
  refine .inr ?_
  have hx3:x.phase≠3:=by omega
  have hst:Wdu f.clock ({x with phase:=2}:Kd)=Wdu f.clock x:=Wyu (x:=x) (y:={x with phase:=2}) hx3 (by show(2:Int)≠3;omega) rfl _
  have hp:=hK.pos
  have hch:Wdl ({x with phase:=2}:Kd)=25-x.pos:=rfl
  have hch0:=c4 (.inr h1)
  have hkl:Wdd ({x with phase:=2}:Kd)=0:=rfl
  obtain⟨d1,d2,d3⟩:=Wnd (q:=({f with owner:=(k:Int)+1},{x with phase:=2})) hk rfl rfl (by rw[hx];rw[Wfv hx3];rfl) (by rw[hx];show Wah f.clock ({x with phase:=2}:Kd)≤_;unfold Wah;rw[hst,hch];omega) (λ_=>by rw[hx];show Wdd ({x with phase:=2}:Kd)+75*Wdu f.clock ({x with phase:=2}:Kd)≤_;rw[hst,hkl];omega)
  refine⟨d1,λh=>by omega,λh=>by omega,λ_ _=>?_,.inr (.inr ⟨rfl,h1,h0⟩),rfl,Wnr hk hT rfl rfl rfl (λj hj=>?_) ⟨ht.pb,?_,ht.seen⟩⟩
  ·rw[d3,hx]
   show fQ f-Wah f.clock x+Wah f.clock ({x with phase:=2}:Kd)<fQ f
   unfold Wah
   rw[hst,hch];omega
  ·show(k:Int)+1=(j:Int)+1↔f.owner=(j:Int)+1
   omega
  ·show(k:Int)+1=(k:Int)+1↔(2:Int)=2
   simp
 |wait h1 h0=>
  refine .inr ?_
  have hx3:x.phase≠3:=by omega
  obtain⟨d1,d2,d3⟩:=Wnd (q:=(f,x)) hk rfl rfl (by rw[hx]) (by rw[hx];exact Xw _) (λ_=>by rw[hx];exact Xw _)
  exact⟨d1,λh=>by omega,λh=>by omega,λ_ h=>absurd h h0,.inl rfl,rfl,Wnr hk hT rfl rfl rfl (λ_ _=>Iff.rfl) ht⟩
 |done h3'=>
  refine .inr ?_
  obtain⟨d1,d2,d3⟩:=Wnd (q:=(f,x)) hk rfl rfl (by rw[hx]) (by rw[hx];exact Xw _) (λ_=>by rw[hx];exact Xw _)
  exact⟨d1,λh=>by omega,λh=>by omega,λh=>by omega,.inl rfl,rfl,Wnr hk hT rfl rfl rfl (λ_ _=>Iff.rfl) ht⟩
 |look h2 hlt=>
  refine .inr ?_
  have hx3:x.phase≠3:=by omega
  have hst:Wdu f.clock ({x with pos:=x.pos+1}:Kd)=Wdu f.clock x:=Wyu hx3 hx3 rfl _
  have hch:Wdl ({x with pos:=x.pos+1}:Kd)=Wdl x-1:=by
   unfold Wdl
   show(if x.phase=3 then 0 else if x.phase=2 then 25-(x.pos+1)else 26)=_
   rw[if_neg hx3,if_neg hx3,if_pos h2,if_pos h2];omega
  have hkl:Wdd ({x with pos:=x.pos+1}:Kd)=Wdd x:=rfl
  obtain⟨d1,d2,d3⟩:=Wnd (q:=(f,{x with pos:=x.pos+1})) hk rfl rfl (by rw[hx];rfl) (by rw[hx];show Wah f.clock ({x with pos:=x.pos+1}:Kd)≤_;unfold Wah;rw[hst,hch];omega) (λ_=>by rw[hx];show Wdd ({x with pos:=x.pos+1}:Kd)+75*Wdu f.clock ({x with pos:=x.pos+1}:Kd)≤_;rw[hst,hkl];omega)
  refine⟨d1,λh=>by omega,λ_=>?_,λh=>by omega,.inl rfl,rfl,Wnr hk hT rfl rfl rfl (λ_ _=>Iff.rfl) ⟨ht.pb,ht.own,ht.seen⟩⟩
  rw[d3,hx]
  show fQ f-Wah f.clock x+Wah f.clock ({x with pos:=x.pos+1}:Kd)<fQ f
  unfold Wah
  rw[hst,hch];omega
 |merge h2=>
  refine .inr ?_
  have hx3:x.phase≠3:=by omega
  have c:=c3 h2
  obtain⟨z,hz⟩:∃z,z=(Whr f x k).2:=⟨_,rfl⟩
  have z3:z.phase=3:=by rw[hz];rfl
  have hu0:Wbx z=0:=by unfold Wbx;rw[if_pos z3]
  have hux:Wbx x=1:=Wfv hx3
  have e1:(Fm.put (Whr f x k) k).kids=f.kids.set k z:=by rw[hz];rfl
  have e2:(Fm.put (Whr f x k) k).clock=f.clock+1:=rfl
  have e3:undn (Fm.put (Whr f x k) k)=undn f-1:=by unfold undn;rw[e1,Weq hk,hx,hu0,hux];omega
  have hs0:Wah (f.clock+1) z=0:=by unfold Wah Wdl Wdu;rw[if_pos z3,if_neg (by omega)];rfl
  have hub:=Wxu f
  have hub2:=Wxu (Fm.put (Whr f x k) k)
  rw[e3]at hub2
  have e4:fQ (Fm.put (Whr f x k) k)<fQ f:=by
   unfold fQ
   rw[e1,e2,e3,Weq hk,hs0,hx]
   have hsum:=sumShare (c:=f.clock) (l:=f.kids)
   have h1:=sumShare (c:=f.clock) (l:=f.kids.set k z)
   rw[Weq hk,Weq hk,Weq hk,hx,hs0,hu0,hux]at h1
   have hz0:Wah f.clock z=0:=by unfold Wah Wdl Wdu;rw[if_pos z3,if_neg (by omega)];rfl
   rw[hz0]at h1
   have htr:=tri_step (u:=undn f) (by omega)
   have hsh:1≤Wah f.clock x:=by unfold Wah;omega
   have hun:sumK Wbx f.kids=undn f:=rfl
   rw[hun]at h1
   omega
  refine⟨⟨Int.le_of_lt e4,λj h h' hj=>?_⟩,λh=>by omega,λ_=>e4,λh=>by omega,.inr (.inl rfl),rfl,λj h=>?_⟩
  ·have hg:=Wqq (q:=Whr f x k) hk rfl h h'
   rw[hg]at hj⊢
   by_cases he:k=j
   ·rw[if_pos he,←hz,hu0]at hj;omega
   ·rw[if_neg he]at hj⊢
    refine⟨?_,hj⟩
    unfold fP
    rw[e2,e3]
    have a:=Wfw (f.clock+1) f.kids[j]
    have b:=Wfw f.clock f.kids[j]
    have:=undo1_bd f.kids[j]
    omega
  ·have hj:j<f.kids.length:=by rw[Wyn (q:=Whr f x k) rfl]at h;exact h
   rw[Wqq (q:=Whr f x k) hk rfl hj h]
   have how:=ht.own.2 h2
   by_cases he:k=j
   ·subst he
    rw[if_pos rfl]
    refine⟨ht.pb,?_,λhs=>?_⟩
    ·show(0:Int)=(k:Int)+1↔(3:Int)=2
     omega
    ·have:=hK.since
     change x.since=f.clock+1 at hs
     omega
   ·rw[if_neg he]
    have htj:=hT j hj
    refine⟨htj.pb,?_,λhs=>?_⟩
    ·show(0:Int)=(j:Int)+1↔_
     rw[←htj.own];omega
    ·have:=(hF.kid j hj).since
     change f.kids[j].since=f.clock+1 at hs
     omega
end
section
def Wfb(m:Mm)(codes:List (List Opn)):Nat→Nat→Fm→Fm
 |0,_,f=>f
 |d+1,i,f=>Wfb m codes d (i+1) (Wgo m f i (codes.getD i []))
structure FmR(f:Fm)(i:Nat)(g:Fm):Prop where
 len:g.kids.length=f.kids.length
 le:fQ g≤fQ f
 kt:∀(j:Nat) (h:j<g.kids.length),KT g j g.kids[j]
 p:∀(j:Nat) (h:j<f.kids.length) (h':j<g.kids.length),Wbx g.kids[j]=1→Wbx f.kids[j]=1∧fP g g.kids[j]≤fP f f.kids[j]∧
  (i≤j→fP g g.kids[j]+fQ g<fP f f.kids[j]+fQ f∨(f.kids[j].phase=1∧∃k:Nat,k<i∧f.owner=(k:Int)+1))
 chk:∀(k:Nat) (h:k<f.kids.length),i≤k→f.kids[k].phase=2→fQ g<fQ f
variable{codes:List (List Opn)}{n:Int}{f g:Fm}{m:Mm}{k:Nat}
theorem Wpw{code:List Opn}(h:f.lost=true):Wgo m f k code=f:=by unfold Wgo;rw[if_pos h]
theorem Wjc:∀(d i:Nat) (f:Fm),f.lost=true→Wfb m codes d i f=f
 |0,_,_,_=>rfl
 |d+1,i,f,h=>by rw[Wfb,Wpw h];exact Wjc d (i+1) f h
theorem steps_m(hm:Waq m=true)(hkc:∀c∈codes,KC c)(h3:codes.length≤3):∀(d i:Nat) (n:Int) (f:Fm),i+d=codes.length→FOk codes n f→(∀(j:Nat) (h:j<f.kids.length),KT f j f.kids[j])→
  (Wfb m codes d i f).lost=true∨FmR f i (Wfb m codes d i f)
 |0,i,n,f,hi,hF,hT=>.inr ⟨rfl,Xw _,hT,λj h h' hj=>⟨hj,Xw _,λhij=>by have:=hF.len;simp only[Wfb]at h';omega⟩,λk h hik=>by have:=hF.len;omega⟩
 |d+1,i,n,f,hi,hF,hT=>by
  have hlen:=hF.len
  have hk:i<f.kids.length:=by omega
  have hkc':i<codes.length:=by omega
  by_cases hlost:f.lost=true
  ·exact .inl (by rw[Wjc _ _ _ hlost];exact hlost)
  rw[Wfb]
  have hcode:codes.getD i []=codes[i]:=Wc hkc' _
  have hKC:=hkc _ (Xt hkc')
  have hKO:=hF.kid i hk
  rw[hcode]at hKO
  have ho:=kStep_o (m:=m) hKC hF hKO (hT i hk)
  obtain hE:=ke_of hk (by omega) (λc hc=>(hkc c hc).toCC.len) hF hT rfl ho
  have hst:Wgo m f i (codes.getD i [])=Fm.put (Wke m f f.kids[i] i codes[i]) i:=by
   unfold Wgo
   rw[if_neg hlost,hcode,show f.kids.getD i {}=f.kids[i]from Wc hk _]
  have hF1:FOk codes (n+1) (Wgo m f i (codes.getD i [])):=by
   rw[hcode]
   exact Wxo hk hm hKC hF hcode
  rw[hst]at hF1⊢
  rcases hE with hE|hE
  ·left
   have:(Fm.put (Wke m f f.kids[i] i codes[i]) i).lost=true:=hE
   rw[Wjc _ _ _ this];exact this
  generalize Wke m f f.kids[i] i codes[i]=q at*
  have hl1:(Fm.put q i).kids.length=f.kids.length:=Wyn hE.kids
  have hget:=λ(j:Nat) (hj:j<f.kids.length)=>Wqq (q:=q) hk hE.kids hj (by rw[hl1];exact hj)
  have ho1:(Fm.put q i).owner=q.1.owner:=rfl
  rcases steps_m hm hkc h3 d (i+1) (n+1) (Fm.put q i) (by omega) hF1 hE.kt with hI|hI
  ·exact .inl hI
  right
  refine⟨hI.len.trans hl1,Xet hI.le hE.d.le,hI.kt,λj h h' hj=>?_,λk h hik h2=>?_⟩
  ·have hj1:j<(Fm.put q i).kids.length:=by rw[hl1];exact h
   obtain⟨a1,a2,a3⟩:=hI.p j hj1 h' hj
   obtain⟨b1,b2⟩:=hE.d.p j h hj1 a1
   refine⟨b2,Xet a2 b1,λhij=>?_⟩
   have hle:=hI.le
   have hle1:=hE.d.le
   by_cases he:i=j
   ·subst he
    have hg:=hget i h
    rw[if_pos rfl]at hg
    rw[hg]at a1 a2 b1
    have hph:=hKO.phase
    have hx3:f.kids[i].phase≠3:=λh3=>by unfold Wbx at b2;rw[if_pos h3]at b2;omega
    by_cases p0:f.kids[i].phase=0
    ·have:=hE.s0 p0 a1
     left;omega
    by_cases p2:f.kids[i].phase=2
    ·have:=hE.s2 p2
     left;omega
    have p1:f.kids[i].phase=1:=by omega
    by_cases o0:f.owner=0
    ·have:=hE.s1 p1 o0
     left;omega
    have how:=hF.owner
    obtain⟨k,hk2⟩:∃k:Nat,f.owner=(k:Int)+1:=⟨(f.owner-1).toNat,by omega⟩
    by_cases hki:k<i
    ·exact .inr ⟨p1,k,hki,hk2⟩
    have hkl:k<f.kids.length:=by omega
    have hp2:=(hT k hkl).own.1 hk2
    have hne:k≠i:=λe=>by subst e;omega
    have hg2:=hget k hkl
    rw[if_neg (λe=>hne e.symm)]at hg2
    have:=hI.chk k (by rw[hl1];exact hkl) (by omega) (by rw[hg2];exact hp2)
    left;omega
   ·have hg:=hget j h
    rw[if_neg he]at hg
    rcases a3 (by omega)with hlt|⟨p1,k,hk1,hk2⟩
    ·left;omega
    ·rw[hg]at p1
     rw[ho1]at hk2
     rcases hE.own with h0|h0|⟨h0,p,o⟩
     ·rw[h0]at hk2
      by_cases hki:k<i
      ·exact .inr ⟨p1,k,hki,hk2⟩
      ·have:k=i:=by omega
       subst this
       have:=hE.s2 ((hT k hk).own.1 hk2)
       left;omega
     ·omega
     ·have:=hE.s1 p o
      left;omega
  ·by_cases he:i=k
   ·subst he
    exact Xct hI.le (hE.s2 h2)
   ·have hg:=hget k h
    rw[if_neg he]at hg
    exact Int.lt_of_lt_of_le (hI.chk k (by rw[hl1];exact h) (by omega) (by rw[hg];exact h2)) hE.d.le
end
section
def Wax(c:Cm):Int:=
 if c.phase=1 then 3*c.puts.length-c.pos+1+c.reads.length else
 if c.phase=2 then 1+c.reads.length+2*c.puts.length else
 if c.phase=3 then c.reads.length-c.pos+2*c.puts.length else
 if c.phase=4 then 2*c.puts.length-c.pos else
 if c.phase=5 then c.puts.length-c.pos else
 if c.phase=7 then c.pos+1 else 0
section
variable{c:Cm}{m:Mm}{n ph:Int}
theorem Woj(h:CmOk c):0≤Wax c∧Wax c≤33∧(c.phase≠6→c.phase≠8→1≤Wax c):=by
 have hp:=h.phase;have h1:=h.plen;have h2:=h.rlen;have h3:=h.pos
 unfold Cm.steps at h3
 unfold Wax
 have:c.phase=1∨c.phase=2∨c.phase=3∨c.phase=4∨c.phase=5∨c.phase=6∨c.phase=7∨c.phase=8:=by omega
 rcases this with h|h|h|h|h|h|h|h<;>(rw[h]at h3⊢;simp at h3⊢;try omega)
theorem Wfn(h:0≤n):Wax (Wbn c n)=n:=by
 unfold Wbn
 split
 ·rename_i h0;rw[h0];rfl
 ·show(if(7:Int)=1 then _ else if(7:Int)=2 then _ else if(7:Int)=3 then _ else if(7:Int)=4 then _ else if(7:Int)=5 then _ else if(7:Int)=7 then n-1+1 else 0)=n
  simp
theorem Wvs(h:ph=2∨ph=3∨ph=4∨ph=5∨ph=6):Wax (Wif c ph)≤if ph=2 then 1+c.reads.length+2*c.puts.length else if ph=3 then c.reads.length+2*c.puts.length else if ph=4 then 2*c.puts.length else if ph=5 then c.puts.length else 0:=by
 obtain⟨a,ha⟩:∃a,Wdn c ph=a:=⟨_,rfl⟩
 have:a=ph∨a=6∨(ph=3∧a=4):=by
  unfold Wdn at ha
  split at ha
  ·omega
  ·split at ha<;>omega
 have e:Wax (Wif c ph)=Wax {c with phase:=a,pos:=0}:=by unfold Wif;rw[ha]
 rw[e]
 unfold Wax
 simp only
 rcases h with rfl|rfl|rfl|rfl|rfl<;>rcases this with rfl|rfl|⟨_,rfl⟩<;>simp<;>omega
theorem Wjq(h:CmOk c)(hp:c.phase=1∧ph=2∨c.phase=3∧ph=4∨c.phase=4∧ph=5∨c.phase=5∧ph=6):Wax (Wal c ph)<Wax c:=by
 have h3:=h.pos
 have hb:=Wvs (c:=c) (ph:=ph) (by omega)
 unfold Cm.steps at h3
 unfold Wal
 split
 ·rename_i hs
  refine Xct hb ?_
  unfold Cm.steps at hs
  unfold Wax
  rcases hp with⟨a,rfl⟩|⟨a,rfl⟩|⟨a,rfl⟩|⟨a,rfl⟩<;>(rw[a]at h3 hs⊢;simp at h3 hs⊢;omega)
 ·unfold Wax
  simp only
  rcases hp with⟨a,rfl⟩|⟨a,rfl⟩|⟨a,rfl⟩|⟨a,rfl⟩<;>(rw[a];simp;omega)
theorem cmStep_left(h:CmOk c)(h6:c.phase≠6)(h8:c.phase≠8):Wax (Waa m c).2<Wax c:=by
 have hp:=h.phase;have h1:=h.plen;have h2:=h.rlen;have h3:=h.pos
 unfold Cm.steps at h3
 unfold Waa
 simp only
 by_cases p1:c.phase=1
 ·rw[if_pos p1]
  split
  ·exact Wjq h (.inl ⟨p1,rfl⟩)
  ·show Wax (Wbn c c.pos)<_
   rw[Wfn h3.1]
   unfold Wax;rw[p1]at h3⊢;simp at h3⊢;omega
 rw[if_neg p1]
 by_cases p2:c.phase=2
 ·rw[if_pos p2]
  split
  ·show Wax (Wbn c c.puts.length)<_
   rw[Wfn (by omega)]
   unfold Wax;rw[p2]at h3⊢;simp at h3⊢;omega
  ·refine Xct (Wvs (c:={c with wv:=(tick m).2}) (.inr (.inl rfl))) ?_
   unfold Wax;rw[p2]at h3⊢;simp at h3⊢;omega
 rw[if_neg p2]
 by_cases p3:c.phase=3
 ·rw[if_pos p3]
  split
  ·show Wax (Wbn c c.puts.length)<_
   rw[Wfn (by omega)]
   unfold Wax;rw[p3]at h3⊢;simp at h3⊢;omega
  ·exact Wjq h (.inr (.inl ⟨p3,rfl⟩))
 rw[if_neg p3]
 by_cases p4:c.phase=4
 ·rw[if_pos p4];exact Wjq h (.inr (.inr (.inl ⟨p4,rfl⟩)))
 rw[if_neg p4]
 by_cases p5:c.phase=5
 ·rw[if_pos p5];exact Wjq h (.inr (.inr (.inr ⟨p5,rfl⟩)))
 rw[if_neg p5,if_pos (show c.phase=7 by omega)]
 show Wax (Wbn c c.pos)<_
 rw[Wfn h3.1]
 unfold Wax;rw[show c.phase=7 by omega];simp;omega
theorem cmBreak_left(h:CmOk c):Wax (Wbt c)≤Wax c∧(c.phase≤3→Wax (Wbt c)<Wax c):=by
 have hp:=h.phase;have h3:=h.pos
 unfold Cm.steps at h3
 unfold Wbt
 by_cases p1:c.phase=1
 ·rw[if_pos p1,Wfn h3.1]
  unfold Wax;rw[p1]at h3⊢;simp at h3⊢;omega
 rw[if_neg p1]
 split
 ·rename_i h23
  rw[Wfn (by omega)]
  rcases h23 with p|p<;>(unfold Wax;rw[p]at h3⊢;simp at h3⊢;omega)
 ·exact⟨Xw _,λh=>by omega⟩
end
end
section
def kMax(f:Fm):List Kd→Int
 | []=>0
 |x::l=>if Wbx x=1∧kMax f l≤fP f x+fQ f then fP f x+fQ f else kMax f l
def fMax(f:Fm):Int:=kMax f f.kids
theorem kMax_0(f:Fm):∀(l:List Kd),0≤kMax f l
 | []=>Xw _
 |x::l=>by have:=kMax_0 f l;rw[kMax];split<;>omega
theorem Wzf{f:Fm}{b:Int}:∀{l:List Kd},0≤b→(∀x∈l,Wbx x=1→fP f x+fQ f≤b)→kMax f l≤b
 | [],h,_=>h
 |x::l,h,hl=>by
  have ih:=Wzf (f:=f) h λy hy=>hl y (Xe _ hy)
  rw[kMax]
  split
  ·rename_i hc;exact hl x (Xi ..) hc.1
  ·exact ih
theorem le_kMax{f:Fm}:∀{l:List Kd},∀x∈l,Wbx x=1→fP f x+fQ f≤kMax f l
 | [],x,h,_=>by cases h
 |y::l,x,h,hu=>by
  rw[kMax]
  rcases List.mem_cons.1 h with rfl|h
  ·split
   ·exact Xw _
   ·rename_i hc
    by_cases h':kMax f l≤fP f x+fQ f
    ·exact absurd ⟨hu,h'⟩ hc
    ·omega
  ·have:=le_kMax (f:=f) x h hu
   split<;>omega
variable{codes:List (List Opn)}{n:Int}{f g:Fm}{m:Mm}
theorem fQ_0(hF:FOk codes n f)(hl:∀c∈codes,c.length≤24):0≤fQ f:=by
 have h1:sumK (λ_=>0) f.kids≤sumK (Wah f.clock) f.kids:=by
  refine Wun λx hx=>?_
  obtain⟨k,hk,rfl⟩:=Xat hx
  have hkc:k<codes.length:=by rw[←hF.len];exact hk
  have hK:=hF.kid k hk
  rw[Wc hkc]at hK
  have a:=(Wlm hK (hl _ (Xt hkc))).1
  have b:=Wfw f.clock f.kids[k]
  unfold Wah;omega
 have h2:∀l:List Kd,sumK (λ_=>0) l=0:=λl=>by induction l with
  |nil=>rfl
  |cons x l ih=>simp only[sumK,Xaj,Xca]at*;omega
 rw[h2]at h1
 have h3:0≤tri (undn f):=by
  unfold tri
  split
  ·omega
  ·split<;>omega
 unfold fQ;omega
theorem fP_1(hF:FOk codes n f)(hl:∀c∈codes,c.length≤24)(hT:∀(j:Nat) (h:j<f.kids.length),KT f j f.kids[j]){k:Nat}(hk:k<f.kids.length)(hu:Wbx f.kids[k]=1):1≤fP f f.kids[k]+fQ f:=by
 have hq:=fQ_0 hF hl
 have hkc:k<codes.length:=by rw[←hF.len];exact hk
 have hK:=hF.kid k hk
 rw[Wc hkc]at hK
 have hlen:=hl _ (Xt hkc)
 obtain⟨l1,l2,l3⟩:=Wzm hK hlen (hT k hk).pb
 have b:=Wfw f.clock f.kids[k]
 have hund:1≤undn f:=by
  unfold undn
  have:=Weq (g:=Wbx) (y:=f.kids[k]) hk
  have h0:0≤sumK Wbx (f.kids.set k {phase:=3}):=(Wxu {f with kids:=f.kids.set k {phase:=3}}).1
  rw[Weq hk,hu]at h0
  have:Wbx ({phase:=3}:Kd)=0:=rfl
  omega
 by_cases p0:f.kids[k].phase=0
 ·have:=l3 p0
  unfold fP;omega
 ·
  obtain⟨c1,c2,c3,c4⟩:=Wlm hK hlen
  have hph:=hK.phase
  have hx3:f.kids[k].phase≠3:=λh3=>by unfold Wbx at hu;rw[if_pos h3]at hu;omega
  have hc:1≤Wdl f.kids[k]:=by
   by_cases p2:f.kids[k].phase=2
   ·exact(c3 p2).1
   ·have:=c4 (.inr (by omega));omega
  have hs:Wah f.clock f.kids[k]≤sumK (Wah f.clock) f.kids:=by
   have h0:sumK (λ_=>0) (f.kids.set k {phase:=3})≤sumK (Wah f.clock) (f.kids.set k {phase:=3}):=by
    refine Wun λx hx=>?_
    rcases List.mem_or_eq_of_mem_set hx with hx|rfl
    ·obtain⟨j,hj,rfl⟩:=Xat hx
     have hjc:j<codes.length:=by rw[←hF.len];exact hj
     have hK:=hF.kid j hj
     rw[Wc hjc]at hK
     have a:=(Wlm hK (hl _ (Xt hjc))).1
     have b:=Wfw f.clock f.kids[j]
     unfold Wah;omega
    ·unfold Wah Wdl Wdu;simp
   have hz:∀l:List Kd,sumK (λ_=>0) l=0:=λl=>by induction l with
    |nil=>rfl
    |cons x l ih=>simp only[sumK,Xaj,Xca]at*;omega
   rw[hz,Weq hk]at h0
   have:Wah f.clock ({phase:=3}:Kd)=0:=by unfold Wah Wdl Wdu;simp
   omega
  have h3:0≤tri (undn f):=by
   unfold tri
   split
   ·omega
   ·split<;>omega
  unfold fP fQ
  unfold Wah at hs
  unfold Wah
  omega
end
section
theorem frk_open{l:List Opn}{j e:Nat}(hc:CC l)(hm:Mate l j e)(h8:∃h:j<l.length,l[j].1=8):∀i,j<i→i≤e→dep l j<dep l i∧frk l i=frk l (j+1):=λi hji hie=>by
 obtain⟨hj,h8⟩:=h8
 have hlen:=hm.len
 have key:∀d,j+1+d≤e→dep l j<dep l (j+1+d)∧frk l (j+1+d)=frk l (j+1):=λd=>by
  induction d with
  |zero=>intro _;rw[Xax,Wbz hj,opd_8 h8];exact⟨by omega,rfl⟩
  |succ d ih=>
   intro hd
   obtain⟨i1,i2⟩:=ih (by omega)
   have hlt:j+1+d<l.length:=by omega
   have hb:=Wrj l[j+1+d]
   have hds:=Wbz hlt
   have hne:=hm.ne (j+1+d) (by omega) (by omega)
   refine⟨by rw[show j+1+(d+1)=j+1+d+1 by omega];omega,?_⟩
   rw[show j+1+(d+1)=j+1+d+1 by omega,Wjr hlt,i2]
   have:¬l[j+1+d].1=11:=λh11=>by
    have h0:=(hc.fk _ hlt h11).1
    have:=hc.up.at (j:=j) (by omega)
    omega
   rw[show(l[j+1+d].1==11)=false by simpa using this];rfl
 have:=key (i-(j+1)) (by omega)
 rw[show j+1+(i-(j+1))=i by omega]at this
 exact this
def pbLk(x:Rt):Int:=if x.busy=true then x.pb.2.1 else 0
def fkAt(p:Pg)(pc:Int):Int:=382*(1-frk p.1 pc.toNat)
def Wcr(x:Rt):Int:=x.undos.length+146*(2-x.spare)+36
def Wg(p:Pg)(x:Rt):Int:=
 if x.phase=1 then 75-3*x.pc-pbLk x+fkAt p x.pc+Wcr x else
 if x.phase=2 then(if x.fam.lost=true then x.undos.length+3 else 73-3*x.pc+fMax x.fam+Wcr x)else
 if x.phase=3 then x.last.2.1+74-3*x.last.1+fkAt p x.pc+Wcr x else
 if x.phase=4 then x.last.2.1-x.pos+73-3*x.last.1+fkAt p x.pc+Wcr x else
 if x.phase=5 then Wax x.cm+x.undos.length+3 else
 if x.phase=6 then x.undos.length+2 else
 if x.phase=7 then 1 else 0
structure RT(x:Rt):Prop where
 pb:x.busy=true→x.pb.2.1=1∨x.pb.2.1=2
 fam:x.phase=2→x.fam.lost=true∨∀(j:Nat) (h:j<x.fam.kids.length),KT x.fam j x.fam.kids[j]
 cm:x.phase=5→x.cm.phase≠6∧x.cm.phase≠8
variable{w:Wo}{x y:Rt}{k:Nat}{p:Pg}{n:Int}{o:Opn}
theorem Wnw(h:RT x):0≤pbLk x∧pbLk x≤2:=by
 unfold pbLk
 split
 ·have:=h.pb ‹_›;omega
 ·omega
theorem fkAt_mono{a b:Int}(h:a≤b):fkAt p b≤fkAt p a:=by
 have:=Wsd p.1 (show a.toNat≤b.toNat by omega)
 unfold fkAt;omega
theorem fkAt_0(hc:CC p.1){a:Int}(h:a≤p.1.length):0≤fkAt p a:=by
 have:=Wnk hc a.toNat (by omega)
 unfold fkAt;omega
theorem Wfi(h:x.phase=1):Wg p x=75-3*x.pc-pbLk x+fkAt p x.pc+Wcr x:=by unfold Wg;rw[if_pos h]
theorem rLeft_6(h:x.phase=6):Wg p x=x.undos.length+2:=by unfold Wg;rw[h];simp
theorem Wmj:Wg p (Wid x)=x.undos.length+2:=rLeft_6 rfl
theorem Wsc(h1:x.phase=1)(hy:y.phase=1)(hpc:x.pc+1≤y.pc)(hb:y.busy=x.busy)(hp:y.pb=x.pb)(hs:y.spare=x.spare)(hu:(y.undos.length:Int)≤x.undos.length+1):Wg p y<Wg p x:=by
 rw[Wfi h1,Wfi hy]
 have:=fkAt_mono (p:=p) (show x.pc≤y.pc by omega)
 unfold pbLk Wcr
 rw[hb,hp,hs]
 omega
end
section
variable{w:Wo}{x y:Rt}{k:Nat}{p:Pg}{n:Int}{o:Opn}
theorem Wky(hcc:CC p.1)(hl:RLive p n x)(ht:RT x)(h1:x.phase=1):(x.undos.length:Int)+37+146*(2-x.spare)≤Wg p x:=by
 rw[Wfi h1]
 have hp:=Wnw ht
 have hpc:=hl.pc
 have hlen:=hcc.len
 have:=fkAt_0 hcc hpc.2
 unfold Wcr;omega
theorem Wtf(hcc:CC p.1)(hl:RLive p n x)(ht:RT x)(h1:x.phase=1){out:Int}(hrv:0≤x.rv∧x.rv≤1000000)(hk:k≤8):Wg p (Wcd w x k out).2<Wg p x:=by
 have hlow:=Wky hcc hl ht h1
 have hs:=hl.spare
 unfold Wcd
 simp only
 generalize (if out=2 then []else x.writes)=rows
 split
 ·show Wg p (rEnd w {x with fate:=out,stamp:=x.rv} k).2<_
  have:Wg p (rEnd w {x with fate:=out,stamp:=x.rv} k).2=0:=rfl
  omega
 ·have hc:CmOk (Wdm ((k:Int)+1) x.rv rows x.reads):=Wxp (by omega) hrv
  have:=(Woj hc).2.1
  have e:Wg p ({x with fate:=out,cm:=Wdm ((k:Int)+1) x.rv rows x.reads,phase:=5}:Rt)=Wax (Wdm ((k:Int)+1) x.rv rows x.reads)+x.undos.length+3:=rfl
  show Wg p ({x with fate:=out,cm:=Wdm ((k:Int)+1) x.rv rows x.reads,phase:=5}:Rt)<_
  rw[e];omega
theorem mark_bd(hcc:CC p.1)(hl:RLive p n x)(hz:x.marks.length≠0):0≤x.last.1∧x.last.1<x.pc∧0≤x.last.2.1∧x.last.2.1≤x.last.1+72∧fkAt p (x.last.1+1)=fkAt p x.pc:=by
 have hM:=hl.marks
 have hpc:=hl.pc
 obtain⟨j,q,y,e1,e2,e3,h8,hjp,hmate,hpe,e5,e6⟩:=Wrp (d:=zRM) hcc (show x.pc.toNat≤p.1.length by omega) hM.pcs hz
 have e4:x.last=y:=e2
 have hy:=(hM.each y (by rw[e1];simp)).2.1
 have hf:=(frk_open hcc hmate h8 x.pc.toNat hjp hpe).2
 have hfj:=Wnk hcc j (by omega)
 rw[e4]
 rw[e3]at hy⊢
 rw[Xj]at hy
 refine⟨by omega,by omega,hy.1,by omega,?_⟩
 unfold fkAt
 rw[hf,show((j:Int)+1).toNat=j+1 by omega]
theorem Wmp(hcc:CC p.1)(hl:RLive p n x)(ht:RT x)(h1:x.phase=1){b:Bool}{q:Pb}:Wg p (Wad {x with busy:=b,pb:=q})<Wg p x:=by
 have hlow:=Wky hcc hl ht h1
 have hs:=hl.spare
 unfold Wad
 split
 ·have e:Wg p (Wid ({x with busy:=b,pb:=q}:Rt))=x.undos.length+2:=rfl
  rw[e];omega
 ·rename_i hc
  have hz:x.marks.length≠0:=λh=>hc (.inl h)
  obtain⟨m1,m2,m3,m4,m5⟩:=mark_bd hcc hl hz
  have hp:=Wnw ht
  have hpc:=hl.pc
  have hlen:=hcc.len
  rw[Wfi h1]
  have e:Wg p ({x with busy:=false,pb:=(0,0,0,0),spare:=x.spare+1,phase:=3}:Rt)=x.last.2.1+74-3*x.last.1+fkAt p x.pc+(x.undos.length+146*(2-(x.spare+1))+36):=rfl
  show Wg p ({x with busy:=false,pb:=(0,0,0,0),spare:=x.spare+1,phase:=3}:Rt)<_
  rw[e]
  unfold Wcr
  omega
theorem rRead_left(hcc:CC p.1)(hl:RLive p n x)(ht:RT x)(h1:x.phase=1):Wg p (Whp w x o)<Wg p x:=by
 have hp:=Wnw ht
 unfold Whp
 cases Wdr x.writes o.2.2.1 with
 |some v=>exact Wsc h1 h1 (Xw _) rfl rfl rfl (by show(x.undos.length:Int)≤_;omega)
 |none=>
  simp only
  have hq:0≤(if x.busy=true then x.pb else(o.2.2.1,0,0,0)).2.1∧(if x.busy=true then x.pb else(o.2.2.1,0,0,0)).2.1≤2:=by
   split
   ·have:=ht.pb ‹_›;omega
   ·simp
  have hpe:(if x.busy=true then x.pb else(o.2.2.1,0,0,0)).2.1=pbLk x:=by unfold pbLk;split<;>rfl
  have hs:=pb_next (m:=w.mem) (rv:=x.rv) hq
  rw[hpe]at hs
  generalize Was w.mem x.rv (if x.busy=true then x.pb else(o.2.2.1,0,0,0))=q at*
  split
  ·exact Wmp hcc hl ht h1
  ·have hf:=fkAt_mono (p:=p) (show x.pc≤x.pc+1 by omega)
   split
   ·rw[Wfi h1]
    refine Xct (Xfp (Wfi h1)) ?_
    show 75-3*(x.pc+1) -0+fkAt p (x.pc+1)+Wcr x<_
    omega
   ·rw[Wfi h1]
    refine Xct (Xfp (Wfi h1)) ?_
    show 75-3*x.pc-q.2.1+fkAt p x.pc+Wcr x<_
    omega
theorem lastR_len{α:Type}(l:List α)(h:l.length≠0):(l.dropLast.length:Int)=l.length-1:=by rw[List.length_dropLast];omega
theorem Wqb(h:x.phase=1∨x.phase=3∨x.phase=6)(hz:x.undos.length≠0):Wg p (Wjo w x).2<Wg p x:=by
 have hd:=lastR_len x.undos hz
 have e:Wg p (Wjo w x).2=Wg p x-1:=by
  unfold Wjo Wg Wcr
  simp only
  rw[hd]
  rcases h with h|h|h
  ·rw[if_pos h,if_pos h];show 75-3*x.pc-pbLk x+fkAt p x.pc+_=_;omega
  ·rw[if_neg (by omega),if_neg (by omega),if_pos h,if_neg (by omega),if_neg (by omega),if_pos h];show x.last.2.1+74-3*x.last.1+fkAt p x.pc+_=_;omega
  ·rw[h];simp;omega
 omega
theorem rAbort_left(hcc:CC p.1)(hl:RLive p n x)(ht:RT x)(h1:x.phase=1)(hk:k≤8):Wg p (Wfc w x k p.1).2<Wg p x:=by
 unfold Wfc
 split
 ·exact Wtf hcc hl ht h1 hl.rv hk
 ·rename_i hz
  split
  ·have hM:=hl.marks
   have hul:0≤x.last.2.2.2.1:=by
    have hm:x.last∈x.marks:=Wnz hz _
    exact(hM.each _ hm).2.2.2.1
   exact Wqb (.inl h1) (by omega)
  ·have hM:=hl.marks
   have hpc:=hl.pc
   obtain⟨j,q,y,e1,e2,e3,h8,hjp,hmate,hpe,e5,e6⟩:=Wrp (d:=zRM) hcc (show x.pc.toNat≤p.1.length by omega) hM.pcs hz
   have e4:x.last=y:=e2
   refine Wsc h1 h1 ?_ rfl rfl rfl (by show(x.undos.length:Int)≤_;omega)
   show x.pc+1≤(Wsn p.1 x.last.1.toNat:Int)+1
   rw[e4,e3,Xj]
   omega
theorem rBoost_left(hcc:CC p.1)(hl:RLive p n x)(ht:RT x)(h1:x.phase=1):Wg p (Wer w x k o).2<Wg p x:=by
 unfold Wer
 cases Wcs w.holds ((k:Int)+1) (Wcf o).1 (Wcf o).2 with
 |none=>
  have:=Wmp hcc hl ht h1 (b:=x.busy) (q:=x.pb)
  exact this
 |some hs=>
  refine Wsc h1 h1 (Xw _) rfl rfl rfl ?_
  show((if(Wdo w.shelf o x.regs).2.2.1=0 then x.undos else x.undos++ [(Wdo w.shelf o x.regs).2.2]).length:Int)≤_
  split
  ·omega
  ·simp
theorem rRun_left(hcc:CC p.1)(h3:p.2.length≤3)(hl:RLive p n x)(ht:RT x)(h1:x.phase=1)(hk:k≤8)(hfam:∀regs writes rv,fMax (Wbw rv regs writes p.2.length)≤381):Wg p (rRun w x k p).2<Wg p x:=by
 unfold rRun
 split
 ·exact Wtf hcc hl ht h1 hl.rv hk
 ·obtain⟨i,hi,hpc,ho⟩:=Wml (l:=p.1) hl.pc.1 (by have:=hl.pc;omega)
  simp only[ho]
  have hon:∀y:Rt,y.phase=1→x.pc+1≤y.pc→y.busy=x.busy→y.pb=x.pb→y.spare=x.spare→y.undos=x.undos→Wg p y<Wg p x:=λy a b c d e f=>Wsc h1 a b c d e (by rw[f];omega)
  split
  ·exact rRead_left hcc hl ht h1
  ·split
   ·exact rAbort_left hcc hl ht h1 hk
   ·split
    ·rename_i h11
     rw[Wfi h1]
     have e:Wg p ({x with phase:=2,fam:=Wbw x.rv x.regs x.writes p.2.length}:Rt)=73-3*x.pc+fMax (Wbw x.rv x.regs x.writes p.2.length)+Wcr x:=rfl
     show Wg p ({x with phase:=2,fam:=Wbw x.rv x.regs x.writes p.2.length}:Rt)<_
     rw[e]
     have:=hfam x.regs x.writes x.rv
     have hp:=Wnw ht
     have hf:=Wnk hcc (i+1) (by omega)
     rw[Wjr hi,show(p.1[i].1==11)=true by simpa using h11]at hf
     have:fkAt p x.pc=382:=by
      unfold fkAt
      rw[hpc,Xj]
      have:frk p.1 i=0:=by have:Bool.toNat true=1:=rfl;omega
      rw[this];rfl
     omega
    ·split
     ·exact rBoost_left hcc hl ht h1
     ·split
      ·exact hon _ h1 (Xw _) rfl rfl rfl rfl
      ·split
       ·have hk:=ok_7 (hcc.ok i hi).1 ‹_›
        refine hon _ h1 ?_ rfl rfl rfl rfl
        show x.pc+1≤(if getI x.regs p.1[i].2.1 0=0 then x.pc+p.1[i].2.2.1 else x.pc)+1
        split<;>omega
       ·split
        ·exact hon _ h1 (Xw _) rfl rfl rfl rfl
        ·split
         ·exact hon _ h1 (Xw _) rfl rfl rfl rfl
         ·exact hon _ h1 (Xw _) rfl rfl rfl rfl
end
section
variable{w:Wo}{x y:Rt}{k:Nat}{p:Pg}{n:Int}{o:Opn}
theorem sumK_rep(g:Kd→Int)(x:Kd):∀u:Nat,sumK g (Xv u x)=u*g x
 |0=>by simp[sumK]
 |u+1=>by
  have:=sumK_rep g x u
  simp only[sumK,List.replicate_succ,Xaj,Xca]at*
  rw[this,Int.natCast_succ,Int.add_mul];omega
theorem famNew_max{rv:Int}{regs:List Int}{writes:List Rw}{u:Nat}(h:u≤3):fMax (Wbw rv regs writes u)≤381:=by
 have hk:(Wbw rv regs writes u).kids=Xv u {regs:=regs}:=rfl
 have hc:(Wbw rv regs writes u).clock=0:=rfl
 have h1:Wbx ({regs:=regs}:Kd)=1:=rfl
 have h2:Wdu 0 ({regs:=regs}:Kd)=0:=rfl
 have h3:Wah 0 ({regs:=regs}:Kd)=26:=rfl
 have h4:Wdd ({regs:=regs}:Kd)=75:=rfl
 have hu:undn (Wbw rv regs writes u)=u:=by unfold undn;rw[hk,sumK_rep,h1];omega
 have hq:fQ (Wbw rv regs writes u)=u*26+26*tri u:=by unfold fQ;rw[hu,hk,hc,sumK_rep,h3]
 refine Wzf (by omega) λy hy _=>?_
 rw[hk]at hy
 obtain⟨hu0,rfl⟩:=List.mem_replicate.1 hy
 unfold fP
 rw[hq,hu,hc,h2,h4]
 have:u=1∨u=2∨u=3:=by omega
 rcases this with rfl|rfl|rfl<;>decide
theorem rFork_left(hl:RLive p n x)(hcc:CC p.1)(ht:RT x)(h2:x.phase=2)(hq:x.fam.lost=true∨Wdh x.fam=true):Wg p (Wfa x)<Wg p x:=by
 have hs:=hl.spare
 have e:Wg p x=if x.fam.lost=true then(x.undos.length:Int)+3 else 73-3*x.pc+fMax x.fam+Wcr x:=by unfold Wg;rw[if_neg (by omega),if_pos h2]
 unfold Wfa
 split
 ·rename_i hlost
  rw[Wmj,e,if_pos hlost];omega
 ·rename_i hlost
  rw[if_pos (hq.resolve_left hlost),e,if_neg hlost]
  refine Xct (Xfp (Wfi rfl)) ?_
  have hp:=Wnw ht
  have h0:=kMax_0 x.fam x.fam.kids
  obtain⟨f1,f2,f3⟩:=hl.fork h2
  obtain⟨i,hi,hpc,ho⟩:=Wml (l:=p.1) hl.pc.1 f1
  have hf:=Wnk hcc (i+1) (by omega)
  have hf':=Wjr hi
  rw[←ho,f2]at hf'
  have hz:fkAt p (x.pc+1)=0:=by
   unfold fkAt
   have:frk p.1 (i+1)=1:=by rw[hf']at hf⊢;have:((11:Int)==11).toNat=1:=rfl;omega
   rw[show(x.pc+1).toNat=i+1 by omega,this];rfl
  show 75-3*(x.pc+1) -pbLk x+fkAt p (x.pc+1)+Wcr x<73-3*x.pc+kMax x.fam x.fam.kids+Wcr x
  rw[hz];omega
theorem rUnwind_left(hcc:CC p.1)(hl:RLive p n x)(h3:x.phase=3):Wg p (Wcv w x).2<Wg p x:=by
 have hz:=hl.back (.inl h3)
 have hM:=hl.marks
 unfold Wcv
 split
 ·have hul:0≤x.last.2.2.2.1:=(hM.each _ (Wnz hz _)).2.2.2.1
  exact Wqb (.inr (.inl h3)) (by omega)
 ·have e:Wg p x=x.last.2.1+74-3*x.last.1+fkAt p x.pc+Wcr x:=by unfold Wg;rw[if_neg (by omega),if_neg (by omega),if_pos h3]
  have e':Wg p ({x with newRv:=w.mem.1,pos:=0,phase:=4}:Rt)=x.last.2.1-0+73-3*x.last.1+fkAt p x.pc+Wcr x:=rfl
  show Wg p ({x with newRv:=w.mem.1,pos:=0,phase:=4}:Rt)<_
  rw[e,e'];omega
theorem rExtend_left(hcc:CC p.1)(hl:RLive p n x)(ht:RT x)(h4:x.phase=4):Wg p (Wcg w x)<Wg p x:=by
 have hz:=hl.back (.inr h4)
 have hs:=hl.spare
 have hps:=hl.pos h4
 obtain⟨m1,m2,m3,m4,m5⟩:=mark_bd hcc hl hz
 have hpc:=hl.pc
 have hlen:=hcc.len
 have hf0:=fkAt_0 hcc hpc.2
 have hp:=Wnw ht
 have e:Wg p x=x.last.2.1-x.pos+73-3*x.last.1+fkAt p x.pc+Wcr x:=by unfold Wg;rw[if_neg (by omega),if_neg (by omega),if_neg (by omega),if_pos h4]
 unfold Wcg
 split
 ·simp only
  split
  ·rw[Wmj,e];unfold Wcr;omega
  ·have e':Wg p ({x with pos:=x.pos+1}:Rt)=x.last.2.1-(x.pos+1)+73-3*x.last.1+fkAt p x.pc+Wcr x:=by
    unfold Wg;rw[if_neg (show¬x.phase=1 by omega),if_neg (show¬x.phase=2 by omega),if_neg (show¬x.phase=3 by omega),if_pos h4];rfl
   rw[e,e'];omega
 ·rw[e]
  refine Xct (Xfp (Wfi rfl)) ?_
  show 75-3*(x.last.1+1) -pbLk x+fkAt p (x.last.1+1)+Wcr x<_
  rw[m5];omega
theorem rCommit_left(hc:CmOk x.cm)(h5:x.phase=5)(hcp:x.cm.phase≠6∧x.cm.phase≠8)(hdm:x.doomed=true→x.cm.phase≤3):Wg p (Wbu w x k).2<Wg p x:=by
 have e:Wg p x=Wax x.cm+x.undos.length+3:=by unfold Wg;rw[h5];rfl
 have hb:=(Woj hc).2.2 hcp.1 hcp.2
 unfold Wbu
 split
 ·rename_i hd
  simp only
  split
  ·rw[Wmj,e];omega
  ·have e':Wg p ({x with cm:=Wbt x.cm,doomed:=false}:Rt)=Wax (Wbt x.cm)+x.undos.length+3:=by
    unfold Wg;show(if x.phase=1 then _ else _)=_;rw[h5];rfl
   rw[e',e]
   have:=(cmBreak_left hc).2 (hdm hd)
   omega
 ·have hs:=cmStep_left (m:=w.mem) hc hcp.1 hcp.2
  show Wg p (Wen {x with cm:=(Waa w.mem x.cm).2})<_
  generalize (Waa w.mem x.cm).2=c at*
  unfold Wen
  split
  ·have e':Wg p (Wid ({x with cm:=c}:Rt))=x.undos.length+2:=rfl
   rw[e',e];omega
  ·split
   ·rw[e]
    by_cases h2:x.fate=2
    ·have e':Wg p ({x with stamp:=c.wv,cm:={},phase:=if x.fate=2 then 6 else 7}:Rt)=x.undos.length+2:=by rw[if_pos h2];rfl
     show Wg p ({x with stamp:=c.wv,cm:={},phase:=if x.fate=2 then 6 else 7}:Rt)<_
     rw[e'];omega
    ·have e':Wg p ({x with stamp:=c.wv,cm:={},phase:=if x.fate=2 then 6 else 7}:Rt)=1:=by rw[if_neg h2];rfl
     show Wg p ({x with stamp:=c.wv,cm:={},phase:=if x.fate=2 then 6 else 7}:Rt)<_
     rw[e'];omega
   ·have e':Wg p ({x with cm:=c}:Rt)=Wax c+x.undos.length+3:=by
     unfold Wg;show(if x.phase=1 then _ else _)=_;rw[h5];rfl
    rw[e',e];omega
end
section
variable{w:Wo}{x y:Rt}{k:Nat}{p:Pg}{n:Int}{o:Opn}
theorem RT.of(h:RT x)(hb:y.busy=x.busy)(hp:y.pb=x.pb)(h2:y.phase≠2)(h5:y.phase≠5):RT y:=
 ⟨λhy=>by rw[hp];exact h.pb (hb▸hy),λhy=>absurd hy h2,λhy=>absurd hy h5⟩
theorem RT.no(hb:y.busy=false)(h2:y.phase≠2)(h5:y.phase≠5):RT y:=
 ⟨(λhy=>by rw[hb]at hy;cases hy),λhy=>absurd hy h2,λhy=>absurd hy h5⟩
theorem Wlt:RT (Wid x):=RT.no rfl (by show(6:Int)≠2;omega) (by show(6:Int)≠5;omega)
theorem Wrq:RT (Wad x):=by
 unfold Wad
 split
 ·exact Wlt
 ·exact RT.no rfl (by show(3:Int)≠2;omega) (by show(3:Int)≠5;omega)
theorem rClose_rt(h:RT x){out:Int}:RT (Wcd w x k out).2:=by
 unfold Wcd
 simp only
 generalize (if out=2 then []else x.writes)=rows
 split
 ·exact h.of rfl rfl (by show(8:Int)≠2;omega) (by show(8:Int)≠5;omega)
 ·refine⟨h.pb,λhy=>by(change (5:Int)=2 at hy;omega),λ_=>?_⟩
  have e:(Wdm ((k:Int)+1) x.rv rows x.reads).phase=if(netR rows).length=0 then 2 else 1:=rfl
  show(Wdm ((k:Int)+1) x.rv rows x.reads).phase≠6∧(Wdm ((k:Int)+1) x.rv rows x.reads).phase≠8
  rw[e]
  split<;>omega
theorem rRead_rt(h:RT x)(h1:x.phase=1):RT (Whp w x o):=by
 have hn:∀y:Rt,y.phase=1→y.phase≠2∧y.phase≠5:=λy hy=>by omega
 unfold Whp
 cases Wdr x.writes o.2.2.1 with
 |some v=>exact h.of rfl rfl (hn _ h1).1 (hn _ h1).2
 |none=>
  simp only
  have hq:0≤(if x.busy=true then x.pb else(o.2.2.1,0,0,0)).2.1∧(if x.busy=true then x.pb else(o.2.2.1,0,0,0)).2.1≤2:=by
   split
   ·have:=h.pb ‹_›;omega
   ·simp
  have hs:=pb_next (m:=w.mem) (rv:=x.rv) hq
  generalize (if x.busy=true then x.pb else(o.2.2.1,0,0,0))=q0 at*
  generalize Was w.mem x.rv q0=q at*
  split
  ·exact Wrq
  ·split
   ·exact RT.no rfl (hn _ h1).1 (hn _ h1).2
   ·exact⟨λ_=>by show q.2.1=1∨q.2.1=2;omega,λhy=>absurd hy (hn _ h1).1,λhy=>absurd hy (hn _ h1).2⟩
theorem famNew_kt{rv:Int}{regs:List Int}{writes:List Rw}{u:Nat}(j:Nat)(h:j<(Wbw rv regs writes u).kids.length):KT (Wbw rv regs writes u) j (Wbw rv regs writes u).kids[j]:=by
 have e:(Wbw rv regs writes u).kids[j]={regs:=regs}:=by simp only[Wbw,Xbq]
 rw[e]
 refine⟨(λh=>by cases h),?_,λ_ e he=>by cases he⟩
 show(0:Int)=(j:Int)+1↔(0:Int)=2
 omega
theorem rRun_rt(h:RT x)(h1:x.phase=1):RT (rRun w x k p).2:=by
 have hn:∀y:Rt,y.phase=1→y.phase≠2∧y.phase≠5:=λy hy=>by omega
 unfold rRun
 split
 ·exact rClose_rt h
 ·simp only
  generalize opN p.1 x.pc=o
  split
  ·exact rRead_rt h h1
  ·split
   ·unfold Wfc
    split
    ·exact rClose_rt h
    ·split
     ·exact h.of rfl rfl (hn _ h1).1 (hn _ h1).2
     ·exact h.of rfl rfl (hn _ h1).1 (hn _ h1).2
   ·split
    ·exact⟨h.pb,λ_=>.inr λj hj=>famNew_kt j hj,λhy=>by(change (2:Int)=5 at hy;omega)⟩
    ·split
     ·unfold Wer
      cases Wcs w.holds ((k:Int)+1) (Wcf o).1 (Wcf o).2 with
      |none=>exact Wrq
      |some hs=>exact h.of rfl rfl (hn _ h1).1 (hn _ h1).2
     ·repeat' split
      all_goals exact h.of rfl rfl (hn _ h1).1 (hn _ h1).2
theorem rCommit_rt(h:RT x)(h5:x.phase=5):RT (Wbu w x k).2:=by
 unfold Wbu
 split
 ·simp only
  split
  ·exact Wlt
  ·rename_i h8
   refine⟨h.pb,λhy=>by(change x.phase=2 at hy;omega),λ_=>⟨?_,h8⟩⟩
   have:=(h.cm h5).1
   show(Wbt x.cm).phase≠6
   unfold Wbt Wbn
   repeat' split
   all_goals first|(simp only;omega)|exact this
 ·show RT (Wen {x with cm:=(Waa w.mem x.cm).2})
  generalize (Waa w.mem x.cm).2=c
  unfold Wen
  split
  ·exact Wlt
  ·rename_i h8
   split
   ·have:(if x.fate=2 then(6:Int)else 7)≠2∧(if x.fate=2 then(6:Int)else 7)≠5:=by split<;>omega
    exact h.of rfl rfl this.1 this.2
   ·rename_i h6
    exact⟨h.pb,λhy=>by(change x.phase=2 at hy;omega),λ_=>⟨h6,h8⟩⟩
theorem rStep_rt(h:RT x):RT (Wav w x k p).2:=by
 unfold Wav
 by_cases hd:x.doomed=true∧1≤x.phase∧x.phase≤4
 ·rw[if_pos hd];exact Wlt
 rw[if_neg hd]
 by_cases h0:x.phase=0
 ·rw[if_pos h0]
  unfold Wik
  split
  ·exact h
  ·split
   ·exact h
   ·split
    ·exact h
    ·exact RT.no rfl (by show(1:Int)≠2;omega) (by show(1:Int)≠5;omega)
 rw[if_neg h0]
 by_cases h1:x.phase=1
 ·rw[if_pos h1];exact rRun_rt h h1
 rw[if_neg h1]
 by_cases h2:x.phase=2
 ·rw[if_pos h2]
  show RT (Wfa x)
  unfold Wfa
  split
  ·exact Wlt
  ·split
   ·exact h.of rfl rfl (by show(1:Int)≠2;omega) (by show(1:Int)≠5;omega)
   ·exact h
 rw[if_neg h2]
 by_cases h3:x.phase=3
 ·rw[if_pos h3]
  unfold Wcv
  split
  ·exact h.of rfl rfl (by show x.phase≠2;omega) (by show x.phase≠5;omega)
  ·exact h.of rfl rfl (by show(4:Int)≠2;omega) (by show(4:Int)≠5;omega)
 rw[if_neg h3]
 by_cases h4:x.phase=4
 ·rw[if_pos h4]
  show RT (Wcg w x)
  unfold Wcg
  simp only
  split
  ·split
   ·exact Wlt
   ·exact h.of rfl rfl (by show x.phase≠2;omega) (by show x.phase≠5;omega)
  ·exact h.of rfl rfl (by show(1:Int)≠2;omega) (by show(1:Int)≠5;omega)
 rw[if_neg h4]
 by_cases h5:x.phase=5
 ·rw[if_pos h5];exact rCommit_rt h h5
 rw[if_neg h5]
 by_cases h6:x.phase=6
 ·rw[if_pos h6]
  by_cases hz:x.undos.length>0
  ·rw[if_pos hz];exact h.of rfl rfl (by show x.phase≠2;omega) (by show x.phase≠5;omega)
  ·rw[if_neg hz];exact h.of rfl rfl (by show(7:Int)≠2;omega) (by show(7:Int)≠5;omega)
 rw[if_neg h6]
 by_cases h7:x.phase=7
 ·rw[if_pos h7]
  by_cases hf:x.fate=0
  ·rw[if_pos hf];exact RT.no rfl (by show(0:Int)≠2;omega) (by show(0:Int)≠5;omega)
  ·rw[if_neg hf];exact h.of rfl rfl (by show(8:Int)≠2;omega) (by show(8:Int)≠5;omega)
 ·rw[if_neg h7];exact h
end
section
variable{w:Wo}{x y:Rt}{k:Nat}{p:Pg}{n:Int}{o:Opn}{f:Fm}{codes:List (List Opn)}
theorem rLeft_hi(hp:POk p)(hx:ROk p n x)(ht:RT x)(h:1≤x.phase∧x.phase≤4):(x.undos.length:Int)+3≤Wg p x:=by
 have hl:=hx.live h
 have hs:=hl.spare
 have hlen:=hp.code.len
 by_cases h1:x.phase=1
 ·have:=Wky hp.code hl ht h1;omega
 by_cases h2:x.phase=2
 ·have hpc:=hl.pc
  obtain⟨f1,f2,f3⟩:=hl.fork h2
  have e:Wg p x=if x.fam.lost=true then(x.undos.length:Int)+3 else 73-3*x.pc+fMax x.fam+Wcr x:=by unfold Wg;rw[if_neg (by omega),if_pos h2]
  rw[e]
  split
  ·omega
  ·have:=kMax_0 x.fam x.fam.kids
   unfold fMax Wcr;omega
 have hz:=hl.back (by omega)
 obtain⟨m1,m2,m3,m4,m5⟩:=mark_bd hp.code hl hz
 have hpc:=hl.pc
 have hf0:=fkAt_0 hp.code hpc.2
 by_cases h3:x.phase=3
 ·have e:Wg p x=x.last.2.1+74-3*x.last.1+fkAt p x.pc+Wcr x:=by unfold Wg;rw[if_neg h1,if_neg h2,if_pos h3]
  rw[e];unfold Wcr;omega
 ·have h4:x.phase=4:=by omega
  have hps:=hl.pos h4
  have e:Wg p x=x.last.2.1-x.pos+73-3*x.last.1+fkAt p x.pc+Wcr x:=by unfold Wg;rw[if_neg h1,if_neg h2,if_neg h3,if_pos h4]
  rw[e];unfold Wcr;omega
theorem Wxd(hp:POk p)(hx:ROk p n x)(hxx:RX x)(ht:RT x)(hk:k≤8)(h:1≤x.phase∧x.phase≤7):
  Wg p (Wav w x k p).2<Wg p x∨(x.phase=2∧x.fam.lost≠true∧Wdh x.fam≠true∧(Wav w x k p).2=x):=by
 unfold Wav
 by_cases hd:x.doomed=true∧1≤x.phase∧x.phase≤4
 ·rw[if_pos hd]
  have:=rLeft_hi hp hx ht hd.2
  left
  show Wg p (Wid x)<_
  rw[Wmj];omega
 rw[if_neg hd,if_neg (by omega)]
 by_cases h1:x.phase=1
 ·rw[if_pos h1]
  exact .inl (rRun_left hp.code hp.k3 (hx.live (by omega)) ht h1 hk λregs writes rv=>famNew_max hp.k3)
 rw[if_neg h1]
 by_cases h2:x.phase=2
 ·rw[if_pos h2]
  by_cases hq:x.fam.lost=true∨Wdh x.fam=true
  ·exact .inl (rFork_left (hx.live (by omega)) hp.code ht h2 hq)
  ·refine .inr ⟨h2,λh=>hq (.inl h),λh=>hq (.inr h),?_⟩
   show Wfa x=x
   unfold Wfa
   rw[if_neg (λh=>hq (.inl h)),if_neg (λh=>hq (.inr h))]
 rw[if_neg h2]
 by_cases h3:x.phase=3
 ·rw[if_pos h3];exact .inl (rUnwind_left hp.code (hx.live (by omega)) h3)
 rw[if_neg h3]
 by_cases h4:x.phase=4
 ·rw[if_pos h4];exact .inl (rExtend_left hp.code (hx.live (by omega)) ht h4)
 rw[if_neg h4]
 by_cases h5:x.phase=5
 ·rw[if_pos h5]
  exact .inl (rCommit_left (hx.comm h5) h5 (ht.cm h5) λhdm=>by
   rcases hxx.doom hdm with h|h
   ·omega
   ·exact h.2)
 rw[if_neg h5]
 left
 by_cases h6:x.phase=6
 ·rw[if_pos h6]
  by_cases hz:x.undos.length>0
  ·rw[if_pos hz];exact Wqb (.inr (.inr h6)) (by omega)
  ·rw[if_neg hz,rLeft_6 h6]
   show(1:Int)<_
   omega
 ·rw[if_neg h6,if_pos (by omega)]
  have e:Wg p x=1:=by unfold Wg;rw[show x.phase=7 by omega];rfl
  rw[e]
  by_cases hf:x.fate=0
  ·rw[if_pos hf];show(0:Int)<1;omega
  ·rw[if_neg hf];show(0:Int)<1;omega
theorem undn_eq(f:Fm):undn f=(f.kids.length:Int) -f.kids.countP λx=>decide (x.phase=3):=by
 unfold undn
 have:∀l:List Kd,sumK Wbx l=(l.length:Int) -l.countP λx=>decide (x.phase=3):=λl=>by
  induction l with
  |nil=>rfl
  |cons x l ih=>
   have e:sumK Wbx (x::l)=Wbx x+sumK Wbx l:=by simp[sumK]
   rw[e,ih,List.countP_cons,Xr]
   unfold Wbx
   by_cases h:x.phase=3
   ·rw[if_pos h,decide_eq_true h];simp;omega
   ·rw[if_neg h,decide_eq_false h];simp;omega
 exact this f.kids
theorem fMax_381(hF:FOk codes n f)(h3:codes.length≤3)(hl:∀c∈codes,c.length≤24)(hT:∀(j:Nat) (h:j<f.kids.length),KT f j f.kids[j]):fMax f≤381:=by
 have hlen:=hF.len
 have hcl:=hF.clock
 have hdn:=hF.done
 have hun:=undn_eq f
 have hub:=Wxu f
 have hc0:f.clock≤0→∀x:Kd,∀k (h:k<f.kids.length),f.kids[k]=x→Wdu f.clock x=0:=λh0 x k hk he=>by
  have:=(hF.kid k hk).since
  rw[he]at this
  unfold Wdu
  rw[if_neg (by omega)]
 have hsh:sumK (Wah f.clock) f.kids≤(if f.clock≤0 then 26 else 52)*undn f:=by
  have e:∀a:Int,sumK (λx=>0+a*Wbx x) f.kids=a*undn f:=λa=>by
   rw[sumK_add (g:=λ_=>0)]
   have:∀l:List Kd,sumK (λ_=>0) l=0:=λl=>by induction l with
    |nil=>rfl
    |cons x l ih=>simp only[sumK,Xaj,Xca]at*;omega
   rw[this];unfold undn;omega
  rw[←e]
  refine Wun λx hx=>?_
  obtain⟨k,hk,he⟩:=Xat hx
  have hkc:k<codes.length:=by omega
  have hK:=hF.kid k hk
  rw[Wc hkc,he]at hK
  obtain⟨c1,c2,c3,c4⟩:=Wlm hK (hl _ (Xt hkc))
  have hb:=Wfw f.clock x
  have hph:=hK.phase
  unfold Wah
  by_cases p3:x.phase=3
  ·have:Wdl x=0:=by unfold Wdl;rw[if_pos p3]
   have hu:Wbx x=0:=by unfold Wbx;rw[if_pos p3]
   rw[hu]at hb⊢
   omega
  ·have hu:Wbx x=1:=Wfv p3
   rw[hu]at hb⊢
   split
   ·rw[hc0 ‹_› x k hk he];omega
   ·omega
 refine Wzf (by omega) λx hx hu1=>?_
 obtain⟨k,hk,he⟩:=Xat hx
 have hkc:k<codes.length:=by omega
 have hK:=hF.kid k hk
 rw[Wc hkc,he]at hK
 have htk:=hT k hk
 rw[he]at htk
 obtain⟨l1,l2,l3⟩:=Wzm hK (hl _ (Xt hkc)) htk.pb
 have hb:=Wfw f.clock x
 unfold fP fQ
 by_cases h0:f.clock≤0
 ·rw[if_pos h0]at hsh
  have hs:=hc0 h0 x k hk he
  rw[hs]
  have:undn f=0∨undn f=1∨undn f=2∨undn f=3:=by omega
  rcases this with hu|hu|hu|hu<;>(rw[hu]at hsh⊢;unfold tri;simp;omega)
 ·rw[if_neg h0]at hsh
  have:undn f=0∨undn f=1∨undn f=2:=by omega
  rcases this with hu|hu|hu<;>(rw[hu]at hsh⊢;unfold tri;simp;omega)
theorem Wep(hp:POk p)(hx:ROk p n x)(ht:RT x):0≤Wg p x∧Wg p x≤808∧(1≤x.phase∧x.phase≤7→1≤Wg p x):=by
 have hph:=hx.phase
 have hul:=hx.ul
 have hlen:=hp.code.len
 by_cases h:1≤x.phase∧x.phase≤4
 ·have hlow:=rLeft_hi hp hx ht h
  refine⟨by omega,?_,λ_=>by omega⟩
  have hl:=hx.live h
  have hs:=hl.spare
  have hpc:=hl.pc
  have hu:=hl.ul
  have hf1:fkAt p x.pc≤382:=by unfold fkAt;omega
  have hpb:=Wnw ht
  by_cases h1:x.phase=1
  ·rw[Wfi h1];unfold Wcr;omega
  by_cases h2:x.phase=2
  ·obtain⟨f1,f2,f3⟩:=hl.fork h2
   have e:Wg p x=if x.fam.lost=true then(x.undos.length:Int)+3 else 73-3*x.pc+fMax x.fam+Wcr x:=by unfold Wg;rw[if_neg (by omega),if_pos h2]
   rw[e]
   split
   ·omega
   ·rename_i hlost
    have:=fMax_381 f3 hp.k3 (λc hc=>(hp.kids c hc).toCC.len) ((ht.fam h2).resolve_left hlost)
    unfold Wcr;omega
  have hz:=hl.back (by omega)
  obtain⟨m1,m2,m3,m4,m5⟩:=mark_bd hp.code hl hz
  have hM:=(hl.marks.each _ (Wnz hz zRM)).2.1
  have hfm:=Wsd p.1 (show x.last.1.toNat≤x.pc.toNat by omega)
  have hf1':=Wnk hp.code x.pc.toNat (by omega)
  have hM':x.last.2.1≤x.last.1+72*frk p.1 x.last.1.toNat:=hM.2.1
  have hfe:fkAt p x.pc=382*(1-frk p.1 x.pc.toNat):=rfl
  by_cases h3:x.phase=3
  ·have e:Wg p x=x.last.2.1+74-3*x.last.1+fkAt p x.pc+Wcr x:=by unfold Wg;rw[if_neg h1,if_neg h2,if_pos h3]
   rw[e,hfe];unfold Wcr;omega
  ·have h4:x.phase=4:=by omega
   have hps:=hl.pos h4
   have e:Wg p x=x.last.2.1-x.pos+73-3*x.last.1+fkAt p x.pc+Wcr x:=by unfold Wg;rw[if_neg h1,if_neg h2,if_neg h3,if_pos h4]
   rw[e,hfe];unfold Wcr;omega
 ·have:x.phase=0∨x.phase=5∨x.phase=6∨x.phase=7∨x.phase=8:=by omega
  rcases this with h|h|h|h|h
  ·have e:Wg p x=0:=by unfold Wg;rw[h];rfl
   omega
  ·have hb:=Woj (hx.comm h)
   have e:Wg p x=Wax x.cm+x.undos.length+3:=by unfold Wg;rw[h];rfl
   omega
  ·rw[rLeft_6 h];omega
  ·have e:Wg p x=1:=by unfold Wg;rw[h];rfl
   omega
  ·have e:Wg p x=0:=by unfold Wg;rw[h];rfl
   omega
end
section
def Free(m:Mm)(rv:Int):Prop:=∀i,0≤i→i≤7→(Wak m i).2.2=0∧(Wak m i).2.1≤rv
def pbV(m:Mm)(b:Bool)(q:Pb):Prop:=b=true→(0≤q.1∧q.1≤7)∧q.2.2.1=(Wak m q.1).2.1
variable{m:Mm}{rv:Int}{q:Pb}{o:Opn}{x:Kd}{f:Fm}{k:Nat}{code:List Opn}{codes:List (List Opn)}{n:Int}
theorem pb_free(h:Free m rv)(hc:0≤q.1∧q.1≤7)(hp:0≤q.2.1∧q.2.1≤2)(hv:1≤q.2.1→q.2.2.1=(Wak m q.1).2.1):
  (Was m rv q).1=q.1∧(Was m rv q).2.1=q.2.1+1∧(Was m rv q).2.2.1=(Wak m q.1).2.1:=by
 obtain⟨f1,f2⟩:=h q.1 hc.1 hc.2
 have e:Xd m.2 (Xb q.1) (0,(0,0))=Wak m q.1:=rfl
 unfold Was
 simp only[e,Wn,Wbv]
 have:q.2.1=0∨q.2.1=1∨q.2.1=2:=by omega
 rcases this with h0|h0|h0
 ·rw[if_pos h0,if_pos f1,if_pos f2,h0];exact⟨rfl,rfl,rfl⟩
 ·have:=hv (by omega)
  rw[if_neg (by omega),if_pos h0,h0];exact⟨rfl,rfl,this⟩
 ·have:=hv (by omega)
  rw[if_neg (by omega),if_neg (by omega),if_pos h0,if_pos f1,if_pos this.symm,h0];exact⟨rfl,rfl,this⟩
theorem pb_first{b:Bool}{p:Pb}{c:Int}(hm:Free m rv)(hv:pbV m b p)(hb:b=true→p.2.1=1∨p.2.1=2)(hB:0≤c∧c≤7):
  (0≤(if b=true then p else(c,0,0,0)).1∧(if b=true then p else(c,0,0,0)).1≤7)∧(if b=true then p else(c,0,0,0)).2.1≤2∧
  (Was m rv (if b=true then p else(c,0,0,0))).1=(if b=true then p else(c,0,0,0)).1∧(Was m rv (if b=true then p else(c,0,0,0))).2.1=(if b=true then p else(c,0,0,0)).2.1+1∧
  (Was m rv (if b=true then p else(c,0,0,0))).2.2.1=(Wak m (if b=true then p else(c,0,0,0)).1).2.1:=by
 by_cases h:b=true
 ·rw[if_pos h]
  have h1:=hv h
  have h2:=hb h
  exact⟨h1.1,by omega,pb_free hm h1.1 (by omega) λ_=>h1.2⟩
 ·rw[if_neg h]
  exact⟨hB,by show(0:Int)≤2;omega,pb_free hm hB (by show(0:Int)≤0∧(0:Int)≤2;omega) λh=>by(change (1:Int)≤0 at h;omega)⟩
structure FGd(m:Mm)(f:Fm):Prop where
 lost:f.lost=false
 free:Free m f.rv
 kid:∀(k:Nat) (h:k<f.kids.length),pbV m f.kids[k].busy f.kids[k].pb
theorem kRead_gd(hm:Free m f.rv)(hl:f.lost=false)(hv:pbV m x.busy x.pb)(hb:x.busy=true→x.pb.2.1=1∨x.pb.2.1=2)(hB:0≤o.2.2.1∧o.2.2.1≤7):
  (Wkd m f x o).1=f∧pbV m (Wkd m f x o).2.busy (Wkd m f x o).2.pb:=by
 unfold Wkd
 cases Wdr x.writes o.2.2.1 with
 |some v=>exact⟨rfl,hv⟩
 |none=>
  simp only
  cases ent f.buf o.2.2.1 with
  |some r=>
   simp only
   split
   ·exact⟨rfl,(λh=>by cases h)⟩
   ·exact⟨rfl,hv⟩
  |none=>
   simp only
   obtain⟨hc,hq2,hs⟩:=pb_first (b:=x.busy) (p:=x.pb) (c:=o.2.2.1) hm hv hb hB
   generalize (if x.busy=true then x.pb else(o.2.2.1,0,0,0))=q0 at*
   generalize Was m f.rv q0=q at*
   obtain⟨s1,s2,s3⟩:=hs
   rw[if_neg (by omega)]
   split
   ·exact⟨rfl,(λh=>by cases h)⟩
   ·refine⟨rfl,λ_=>?_⟩
    show(0≤q.1∧q.1≤7)∧q.2.2.1=(Wak m q.1).2.1
    rw[s1];exact⟨hc,s3⟩
theorem kStep_gd(hm:Free m f.rv)(hl:f.lost=false)(hkc:KC code)(hK:KOk code f.clock n x)(hv:pbV m x.busy x.pb)(ht:KT f k x):
  (Wke m f x k code).1.lost=false∧(Wke m f x k code).1.rv=f.rv∧(Wke m f x k code).1.kids=f.kids∧pbV m (Wke m f x k code).2.busy (Wke m f x k code).2.pb:=by
 have hno:pbV m (f.again x).busy (f.again x).pb:=λh=>by cases h
 unfold Wke
 split
 ·rename_i h0
  unfold kRun
  split
  ·exact⟨hl,rfl,rfl,hv⟩
  ·obtain⟨i,hi,hpc,ho⟩:=Wml (l:=code) hK.pc.1 (by have:=hK.pc;omega)
   simp only[ho]
   split
   ·have hok:=ok_5 (hkc.ok i hi).1 ‹_›
    have hB:0≤code[i].2.2.1∧code[i].2.2.1≤7:=by have:=hok.2;unfold Waz at this;simpa using this
    obtain⟨a,b⟩:=kRead_gd (o:=code[i]) hm hl hv ht.pb hB
    rw[a]
    exact⟨hl,rfl,rfl,b⟩
   ·split
    ·refine⟨hl,rfl,rfl,?_⟩
     unfold Wsx
     split<;>exact hv
    ·repeat' split
     all_goals exact⟨hl,rfl,rfl,hv⟩
 ·split
  ·split
   ·exact⟨hl,rfl,rfl,hv⟩
   ·exact⟨hl,rfl,rfl,hv⟩
  ·split
   ·split
    ·exact⟨hl,rfl,rfl,hv⟩
    ·simp only
     split
     ·exact⟨hl,rfl,rfl,hv⟩
     ·exact⟨hl,rfl,rfl,hno⟩
   ·exact⟨hl,rfl,rfl,hv⟩
theorem fStep_gd(hF:FOk codes n f)(hT:∀(j:Nat) (h:j<f.kids.length),KT f j f.kids[j])(hg:FGd m f)(hk:k<f.kids.length)(hkc:KC (codes.getD k [])):FGd m (Wgo m f k (codes.getD k [])):=by
 have hg0:f.kids.getD k {}=f.kids[k]:=Wc hk _
 unfold Wgo
 rw[if_neg (by rw[hg.lost];simp),hg0]
 obtain⟨a,b,c,d⟩:=kStep_gd (k:=k) hg.free hg.lost hkc (hF.kid k hk) (hg.kid k hk) (hT k hk)
 refine⟨a,?_,λj hj=>?_⟩
 ·show Free m (Wke m f f.kids[k] k (codes.getD k [])).1.rv
  rw[b];exact hg.free
 ·have hj':j<f.kids.length:=by rw[Wyn c]at hj;exact hj
  rw[Wqq hk c hj' hj]
  split
  ·exact d
  ·exact hg.kid j hj'
end
section
structure CGd(m:Mm)(c:Cm):Prop where
 ph:1≤c.phase∧c.phase≤5
 sole:∀i,0≤i→i≤7→owner m i=0∨owner m i=c.who
 ver:c.phase≤3→∀i,0≤i→i≤7→(Wak m i).2.1≤c.rv
variable{m:Mm}{c:Cm}
theorem advTo_ph(ph:Int)(h:ph=2∨ph=3∨ph=4∨ph=5∨ph=6):2≤Wdn c ph∧Wdn c ph≤6∧ph≤Wdn c ph:=by
 unfold Wdn
 split
 ·omega
 ·split<;>omega
theorem Wpk{ph:Int}(h:ph=2∨ph=3∨ph=4∨ph=5∨ph=6)(hc:1≤c.phase∧c.phase≤5)(hle:c.phase≤ph):1≤(Wal c ph).phase∧(Wal c ph).phase≤6∧c.phase≤(Wal c ph).phase∧(Wal c ph).rv=c.rv∧(Wal c ph).who=c.who:=by
 unfold Wal
 split
 ·have:=advTo_ph (c:=c) ph h
  show 1≤Wdn c ph∧Wdn c ph≤6∧c.phase≤Wdn c ph∧_∧_
  exact⟨by omega,by omega,by omega,rfl,rfl⟩
 ·exact⟨by show 1≤c.phase;omega,by show c.phase≤6;omega,Xw _,rfl,rfl⟩
theorem cmStep_gd(hc:CmOk c)(hm:Waq m=true)(hk:CmLk m c)(hg:CGd m c)(hclk:m.1<1000000):1≤(Waa m c).2.phase∧(Waa m c).2.phase≤6∧(Waa m c).2.rv=c.rv∧
  ((Waa m c).2.phase≤3→∀i,0≤i→i≤7→(Wak (Waa m c).1 i).2.1≤c.rv):=by
 have hph:=hg.ph
 have hpos:=hc.pos
 unfold Cm.steps at hpos
 have hput:∀j:Nat,(h:j<c.puts.length)→0≤c.puts[j].1∧c.puts[j].1≤7:=λj h=>(hc.rows _ (Xt h)).1
 unfold Waa
 simp only
 by_cases p1:c.phase=1
 ·rw[if_pos p1]
  rw[p1]at hpos
  simp at hpos
  obtain⟨j,hj⟩:∃j:Nat,c.pos=j:=⟨c.pos.toNat,by omega⟩
  have hjl:j<c.puts.length:=by omega
  have hget:getI c.puts c.pos (0,0)=c.puts[j]:=by unfold getI;rw[hj,Xj];exact Wc hjl _
  have hb:=hput j hjl
  have hno:¬lkd c c.puts[j].1:=λ⟨i,hi,a,b⟩=>by
   have hij:i<j:=by unfold lkA at b;omega
   have:=List.pairwise_iff_getElem.1 hc.pup i j hi hjl hij
   omega
  have hown:(Wak m c.puts[j].1).2.2=0:=by
   rcases hg.sole _ hb.1 hb.2 with h|h
   ·exact h
   ·exact absurd ((hk.own _ hb.1 hb.2).1 h) hno
  rw[hget,if_pos hown]
  obtain⟨a,b,_,d,_⟩:=Wpk (c:=c) (ph:=2) (by omega) hph (by omega)
  refine⟨a,b,d,λ_ i h0 h7=>?_⟩
  show(Wak (mLock m c.puts[j].1 c.who) i).2.1≤c.rv
  unfold mLock
  rw[Wlx hm hb ⟨h0,h7⟩]
  split
  ·exact hg.ver (by omega) _ hb.1 hb.2
  ·exact hg.ver (by omega) i h0 h7
 rw[if_neg p1]
 by_cases p2:c.phase=2
 ·rw[if_pos p2]
  have htk:tick m=((m.1+1,m.2),m.1+1):=by unfold tick;rw[if_pos hclk]
  have h0:=(Wz hm).2.1
  rw[htk,if_neg (show¬m.1+1=0 by omega)]
  have:=advTo_ph (c:={c with wv:=m.1+1}) 3 (by omega)
  exact⟨by show 1≤Wdn {c with wv:=m.1+1} 3;omega,by show Wdn {c with wv:=m.1+1} 3≤6;omega,rfl,λ_ i h0 h7=>hg.ver (by omega) i h0 h7⟩
 rw[if_neg p2]
 by_cases p3:c.phase=3
 ·rw[if_pos p3]
  rw[p3]at hpos
  simp at hpos
  have hrd:0≤getI c.reads c.pos 0∧getI c.reads c.pos 0≤7:=by
   have:getI c.reads c.pos 0=c.reads[c.pos.toNat]'(by omega):=Wc (by omega) _
   rw[this];exact hc.rd _ (Xt _)
  have hs:=hg.sole _ hrd.1 hrd.2
  have hv:=hg.ver (by omega) _ hrd.1 hrd.2
  unfold owner at hs
  rw[if_neg (by omega)]
  obtain⟨a,b,_,d,_⟩:=Wpk (c:=c) (ph:=4) (by omega) hph (by omega)
  exact⟨a,b,d,λ_ i h0 h7=>hg.ver (by omega) i h0 h7⟩
 rw[if_neg p3]
 by_cases p4:c.phase=4
 ·rw[if_pos p4]
  obtain⟨a,b,e,d,_⟩:=Wpk (c:=c) (ph:=5) (by omega) hph (by omega)
  exact⟨a,b,d,λh=>by(change (Wal c 5).phase≤3 at h;omega)⟩
 rw[if_neg p4,if_pos (show c.phase=5 by omega)]
 obtain⟨a,b,e,d,_⟩:=Wpk (c:=c) (ph:=6) (by omega) hph (by omega)
 exact⟨a,b,d,λh=>by(change (Wal c 6).phase≤3 at h;omega)⟩
end
section
structure RGd(m:Mm)(x:Rt):Prop where
 dm:x.doomed=false
 sp:x.spare=0
 ph:x.phase=1∨x.phase=2∨x.phase=5∨x.phase=6∨x.phase=7
 run:x.phase=1∨x.phase=2→Free m x.rv∧pbV m x.busy x.pb
 fam:x.phase=2→FGd m x.fam
 cm:x.phase=5→CGd m x.cm
 ft:x.phase=5∨x.phase=6∨x.phase=7→x.fate≠0
variable{w:Wo}{x y:Rt}{k:Nat}{p:Pg}{n:Int}{o:Opn}
theorem RGd.on{m:Mm}(h:RGd m x)(h1:x.phase=1)(hy:y.phase=1)(hd:y.doomed=x.doomed)(hs:y.spare=x.spare)(hr:y.rv=x.rv)(hv:pbV m y.busy y.pb):RGd m y:=
 ⟨hd.trans h.dm,hs.trans h.sp,.inl hy,λ_=>⟨by rw[hr];exact(h.run (.inl h1)).1,hv⟩,λh2=>by omega,λh2=>by omega,λh2=>by omega⟩
theorem rClose_gd(h:RGd w.mem x)(h1:x.phase=1){out:Int}(ho:out≠0):(Wcd w x k out).2.phase=8∨RGd (Wcd w x k out).1.mem (Wcd w x k out).2:=by
 have hf:=(h.run (.inl h1)).1
 unfold Wcd
 simp only
 generalize (if out=2 then []else x.writes)=rows
 split
 ·exact .inl rfl
 ·have e:(Wdm ((k:Int)+1) x.rv rows x.reads).phase=if(netR rows).length=0 then 2 else 1:=rfl
  refine .inr ⟨h.dm,h.sp,.inr (.inr (.inl rfl)),λh2=>?_,λh2=>?_,λ_=>⟨?_,λi a b=>.inl (hf i a b).1,λ_ i a b=>(hf i a b).2⟩,λ_=>ho⟩
  ·change (5:Int)=1∨(5:Int)=2 at h2;omega
  ·change (5:Int)=2 at h2;omega
  ·show 1≤(Wdm ((k:Int)+1) x.rv rows x.reads).phase∧(Wdm ((k:Int)+1) x.rv rows x.reads).phase≤5
   rw[e]
   split<;>omega
theorem rRead_gd(h:RGd w.mem x)(h1:x.phase=1)(ht:RT x)(hB:0≤o.2.2.1∧o.2.2.1≤7):RGd w.mem (Whp w x o):=by
 obtain⟨hf,hv⟩:=h.run (.inl h1)
 unfold Whp
 cases Wdr x.writes o.2.2.1 with
 |some v=>exact h.on h1 h1 rfl rfl rfl hv
 |none=>
  simp only
  obtain⟨hc,hq2,hs⟩:=pb_first (b:=x.busy) (p:=x.pb) (c:=o.2.2.1) hf hv ht.pb hB
  generalize (if x.busy=true then x.pb else(o.2.2.1,0,0,0))=q0 at*
  generalize Was w.mem x.rv q0=q at*
  obtain⟨s1,s2,s3⟩:=hs
  rw[if_neg (by omega)]
  split
  ·exact h.on h1 h1 rfl rfl rfl (λh=>by cases h)
  ·refine h.on h1 h1 rfl rfl rfl λ_=>?_
   show(0≤q.1∧q.1≤7)∧q.2.2.1=(Wak w.mem q.1).2.1
   rw[s1];exact⟨hc,s3⟩
theorem rRun_gd(hcc:CC p.1)(hl:RLive p n x)(h:RGd w.mem x)(h1:x.phase=1)(ht:RT x)(hh:∀e∈w.holds,e.1=(k:Int)+1):(rRun w x k p).2.phase=8∨RGd (rRun w x k p).1.mem (rRun w x k p).2:=by
 obtain⟨hf,hv⟩:=h.run (.inl h1)
 unfold rRun
 split
 ·exact rClose_gd h h1 (by omega)
 ·obtain⟨i,hi,hpc,ho⟩:=Wml (l:=p.1) hl.pc.1 (by have:=hl.pc;omega)
  simp only[ho]
  split
  ·have hok:=ok_5 (hcc.ok i hi).1 ‹_›
   have hB:0≤p.1[i].2.2.1∧p.1[i].2.2.1≤7:=by have:=hok.2;unfold Waz at this;simpa using this
   exact .inr (rRead_gd h h1 ht hB)
  ·split
   ·unfold Wfc
    split
    ·exact rClose_gd h h1 (by omega)
    ·split
     ·exact .inr (h.on h1 h1 rfl rfl rfl hv)
     ·exact .inr (h.on h1 h1 rfl rfl rfl hv)
   ·split
    ·refine .inr ⟨h.dm,h.sp,.inr (.inl rfl),λ_=>⟨hf,hv⟩,λ_=>⟨rfl,hf,λj hj=>?_⟩,λh2=>?_,λh2=>?_⟩
     ·have e:(Wbw x.rv x.regs x.writes p.2.length).kids[j]={regs:=x.regs}:=by simp only[Wbw,Xbq]
      show pbV w.mem (Wbw x.rv x.regs x.writes p.2.length).kids[j].busy (Wbw x.rv x.regs x.writes p.2.length).kids[j].pb
      rw[e]
      exactλh=>by cases h
     ·change (2:Int)=5 at h2;omega
     ·change (2:Int)=5∨(2:Int)=6∨(2:Int)=7 at h2;omega
    ·split
     ·have hb:Wop w.holds ((k:Int)+1) (Wcf p.1[i]).1 (Wcf p.1[i]).2= []:=by
       unfold Wop
       rw[List.map_eq_nil_iff,List.filter_eq_nil_iff]
       intro e he
       have:=hh e he
       unfold blk
       simp[this]
      have e:Wcs w.holds ((k:Int)+1) (Wcf p.1[i]).1 (Wcf p.1[i]).2=some (Wqa w.holds ((k:Int)+1) (Wcf p.1[i]).1 (Wcf p.1[i]).2):=by unfold Wcs;rw[if_pos hb]
      unfold Wer
      rw[e]
      exact .inr (h.on h1 h1 rfl rfl rfl hv)
     ·repeat' split
      all_goals exact .inr (h.on h1 h1 rfl rfl rfl hv)
theorem rStep_gd(hp:POk p)(hx:ROk p n x)(h:RGd w.mem x)(ht:RT x)(hh:∀e∈w.holds,e.1=(k:Int)+1)(hm:Waq w.mem=true)(hb:LB w k x)(hclk:w.mem.1<1000000):
  (Wav w x k p).2.phase=8∨RGd (Wav w x k p).1.mem (Wav w x k p).2:=by
 unfold Wav
 rw[if_neg (by rw[h.dm];simp),if_neg (by have:=h.ph;omega)]
 by_cases h1:x.phase=1
 ·rw[if_pos h1];exact rRun_gd hp.code (hx.live (by omega)) h h1 ht hh
 rw[if_neg h1]
 by_cases h2:x.phase=2
 ·rw[if_pos h2]
  obtain⟨hf,hv⟩:=h.run (.inr h2)
  right
  show RGd w.mem (Wfa x)
  unfold Wfa
  rw[if_neg (by rw[(h.fam h2).lost];simp)]
  split
  ·exact⟨h.dm,h.sp,.inl rfl,λ_=>⟨hf,hv⟩,λh2=>by(change (1:Int)=2 at h2;omega),λh2=>by(change (1:Int)=5 at h2;omega),λh2=>by(change (1:Int)=5∨(1:Int)=6∨(1:Int)=7 at h2;omega)⟩
  ·exact h
 rw[if_neg h2,if_neg (by have:=h.ph;omega),if_neg (by have:=h.ph;omega)]
 have hft:=h.ft (by have:=h.ph;omega)
 by_cases h5:x.phase=5
 ·rw[if_pos h5]
  obtain⟨hw,hcl⟩:=hb.cm h5
  have hc:=hx.comm h5
  have hg:=h.cm h5
  obtain⟨a,b,d,e⟩:=cmStep_gd hc hm hcl hg hclk
  have hsw:=Wwx w.mem x.cm
  have hso:=λwho (a:who≠(k:Int)+1) (b:who≠0) (i:Int) (c:0≤i) (d:i≤7)=>Wwk (i:=i) hc hm (who:=who) (by rw[hw];exact a) b ⟨c,d⟩
  right
  unfold Wbu
  rw[if_neg (by rw[h.dm];simp)]
  simp only
  show RGd (Waa w.mem x.cm).1 (Wen {x with cm:=(Waa w.mem x.cm).2})
  generalize (Waa w.mem x.cm).1=m' at*
  generalize (Waa w.mem x.cm).2=c' at*
  unfold Wen
  simp only
  rw[if_neg (by omega)]
  split
  ·have hph:(if x.fate=2 then(6:Int)else 7)=6∨(if x.fate=2 then(6:Int)else 7)=7:=by split<;>simp
   generalize (if x.fate=2 then(6:Int)else 7)=ph at*
   exact⟨h.dm,h.sp,by show ph=1∨ph=2∨ph=5∨ph=6∨ph=7;omega,λh2=>by(change ph=1∨ph=2 at h2;omega),λh2=>by(change ph=2 at h2;omega),λh2=>by(change ph=5 at h2;omega),λ_=>hft⟩
  ·refine⟨h.dm,h.sp,.inr (.inr (.inl h5)),λh2=>by(change x.phase=1∨x.phase=2 at h2;omega),λh2=>by(change x.phase=2 at h2;omega),λ_=>⟨⟨a,by show c'.phase≤5;omega⟩,λi i0 i7=>?_,λh3 i i0 i7=>?_⟩,λ_=>hft⟩
   ·show owner m' i=0∨owner m' i=c'.who
    by_cases z0:owner m' i=0
    ·exact .inl z0
    ·by_cases zk:owner m' i=(k:Int)+1
     ·exact .inr (by rw[hsw,hw];exact zk)
     ·have:=(hso _ zk z0 i i0 i7).1.1 rfl
      rcases hg.sole i i0 i7 with hs|hs
      ·rw[hs]at this;exact absurd this.symm z0
      ·rw[hs,hw]at this;exact absurd this.symm zk
   ·show(Wak m' i).2.1≤c'.rv
    rw[d];exact e h3 i i0 i7
 rw[if_neg h5]
 by_cases h6:x.phase=6
 ·rw[if_pos h6]
  right
  by_cases hz:x.undos.length>0
  ·rw[if_pos hz]
   exact⟨h.dm,h.sp,.inr (.inr (.inr (.inl h6))),λh2=>by(change x.phase=1∨x.phase=2 at h2;omega),λh2=>by(change x.phase=2 at h2;omega),λh2=>by(change x.phase=5 at h2;omega),λ_=>hft⟩
  ·rw[if_neg hz]
   exact⟨h.dm,h.sp,.inr (.inr (.inr (.inr rfl))),λh2=>by(change (7:Int)=1∨(7:Int)=2 at h2;omega),λh2=>by(change (7:Int)=2 at h2;omega),λh2=>by(change (7:Int)=5 at h2;omega),λ_=>hft⟩
 ·rw[if_neg h6,if_pos (by have:=h.ph;omega),if_neg hft]
  exact .inl rfl
end
section
variable{s:Sc}{w v:Wo}{n:Int}{a:Ac}{x y:Rt}{k:Nat}{p:Pg}{f:Fm}{codes:List (List Opn)}{m:Mm}
theorem fStep_kt(hm:Waq m=true)(hkc:∀c∈codes,KC c)(h3:codes.length≤3)(hF:FOk codes n f)(hT:∀(j:Nat) (h:j<f.kids.length),KT f j f.kids[j])(hk:k<codes.length):
  (Wgo m f k (codes.getD k [])).lost=true∨∀(j:Nat) (h:j<(Wgo m f k (codes.getD k [])).kids.length),KT (Wgo m f k (codes.getD k [])) j (Wgo m f k (codes.getD k [])).kids[j]:=by
 have hlen:=hF.len
 have hk':k<f.kids.length:=by omega
 by_cases hlost:f.lost=true
 ·exact .inl (by rw[Wpw hlost];exact hlost)
 have hcode:codes.getD k []=codes[k]:=Wc hk _
 have hKO:=hF.kid k hk'
 rw[hcode]at hKO
 have ho:=kStep_o (m:=m) (hkc _ (Xt hk)) hF hKO (hT k hk')
 have hE:=ke_of hk' (by omega) (λc hc=>(hkc c hc).toCC.len) hF hT rfl ho
 have hst:Wgo m f k (codes.getD k [])=Fm.put (Wke m f f.kids[k] k codes[k]) k:=by
  unfold Wgo
  rw[if_neg hlost,hcode,show f.kids.getD k {}=f.kids[k]from Wc hk' _]
 rw[hst]
 rcases hE with hE|hE
 ·exact .inl hE
 ·exact .inr hE.kt
theorem cmStep_clk{c:Cm}(hm:Waq m=true):(Waa m c).1.1≤m.1+1:=by
 have ht:(tick m).1.1≤m.1+1:=by unfold tick;split<;>(simp only;omega)
 unfold Waa
 simp only
 by_cases p1:c.phase=1
 ·rw[if_pos p1];split<;>(show m.1≤m.1+1;omega)
 rw[if_neg p1]
 by_cases p2:c.phase=2
 ·rw[if_pos p2];split<;>exact ht
 rw[if_neg p2]
 by_cases p3:c.phase=3
 ·rw[if_pos p3];split<;>(show m.1≤m.1+1;omega)
 rw[if_neg p3]
 by_cases p4:c.phase=4
 ·rw[if_pos p4];unfold Wko;split<;>(show m.1≤m.1+1;omega)
 rw[if_neg p4]
 by_cases p5:c.phase=5
 ·rw[if_pos p5];unfold Wfh;split<;>(show m.1≤m.1+1;omega)
 rw[if_neg p5]
 by_cases p7:c.phase=7
 ·rw[if_pos p7];unfold Wfh;split<;>(show m.1≤m.1+1;omega)
 rw[if_neg p7]
 show m.1≤m.1+1;omega
theorem Wwn{out:Int}:(Wcd w x k out).1.mem=w.mem:=by
 unfold Wcd
 simp only
 generalize (if out=2 then []else x.writes)=rows
 split<;>rfl
theorem rStep_mem:(Wav w x k p).1.mem=w.mem∨(x.phase=5∧(Wav w x k p).1.mem=(Waa w.mem x.cm).1):=by
 unfold Wav
 by_cases hd:x.doomed=true∧1≤x.phase∧x.phase≤4
 ·rw[if_pos hd];exact .inl rfl
 rw[if_neg hd]
 by_cases h0:x.phase=0
 ·rw[if_pos h0];left;unfold Wik;repeat' split
  all_goals rfl
 rw[if_neg h0]
 by_cases h1:x.phase=1
 ·rw[if_pos h1]
  left
  unfold rRun
  split
  ·exact Wwn
  ·simp only
   generalize opN p.1 x.pc=o
   split
   ·rfl
   ·split
    ·unfold Wfc
     split
     ·exact Wwn
     ·split<;>rfl
    ·split
     ·rfl
     ·split
      ·unfold Wer
       cases Wcs w.holds ((k:Int)+1) (Wcf o).1 (Wcf o).2<;>rfl
      ·repeat' split
       all_goals rfl
 rw[if_neg h1]
 by_cases h2:x.phase=2
 ·rw[if_pos h2];exact .inl rfl
 rw[if_neg h2]
 by_cases h3:x.phase=3
 ·rw[if_pos h3];left;unfold Wcv;split<;>rfl
 rw[if_neg h3]
 by_cases h4:x.phase=4
 ·rw[if_pos h4];exact .inl rfl
 rw[if_neg h4]
 by_cases h5:x.phase=5
 ·rw[if_pos h5]
  unfold Wbu
  split
  ·exact .inl rfl
  ·exact .inr ⟨h5,rfl⟩
 rw[if_neg h5]
 left
 by_cases h6:x.phase=6
 ·rw[if_pos h6];split<;>rfl
 rw[if_neg h6]
 by_cases h7:x.phase=7
 ·rw[if_pos h7];split<;>rfl
 ·rw[if_neg h7]
structure WT(w:Wo):Prop where
 root:∀(k:Nat) (h:k<w.roots.length),RT w.roots[k]
 clk:w.mem.1≤w.now
theorem put_wt{w0:Wo}{q:Wo×Rt}(hx:WT w0)(hr:q.1.roots=w0.roots)(hq:RT q.2)(hc:q.1.mem.1≤q.1.now):WT (Wo.put q k):=by
 refine⟨λi hi=>?_,hc⟩
 change i<(q.1.roots.set k q.2).length at hi
 have hi0:i<w0.roots.length:=by rw[Xad,hr]at hi;exact hi
 show RT ((q.1.roots.set k q.2)[i]'hi)
 rw[Xaq]
 split
 ·exact hq
 ·simp only[hr];exact hx.root i hi0
theorem wAct_wt(h:WOk s.2.1 n w)(hx:WT w):WT (wAct s w a):=by
 have hx1:WT {w with now:=w.now+1}:=⟨hx.root,by have:=hx.clk;show w.mem.1≤w.now+1;omega⟩
 unfold wAct
 simp only
 split
 ·rename_i hb
  have hk:a.2.1.toNat<w.roots.length:=by omega
  have hR:=hx.root _ hk
  have hpk:a.2.1.toNat<s.2.1.length:=by rw[←h.len];exact hk
  rw[Wc hk]
  split
  ·unfold Wzd
   rw[Wc (show a.2.1.toNat<({w with now:=w.now+1}:Wo).roots.length from hk)]
   have hst:=Wsf (w:={w with now:=w.now+1}) (k:=a.2.1.toNat) (Wpb h.progs hpk) ⟨h.mem,h.shelf,h.holds⟩ (h.root _ hk) (by have:=h.l4;omega) h.n0
   refine put_wt hx1 (Wxe h hk) (rStep_rt hR) ?_
   have hnow:(Wav {w with now:=w.now+1} w.roots[a.2.1.toNat] a.2.1.toNat (s.2.1.getD a.2.1.toNat pg0)).1.now=w.now+1:=hst.now
   rw[hnow]
   have hclk:=hx.clk
   rcases rStep_mem (w:={w with now:=w.now+1}) (x:=w.roots[a.2.1.toNat]) (k:=a.2.1.toNat) (p:=s.2.1.getD a.2.1.toNat pg0)with e|⟨_,e⟩
   ·rw[e];show w.mem.1≤w.now+1;omega
   ·rw[e]
    have:=cmStep_clk (m:=w.mem) (c:=w.roots[a.2.1.toNat].cm) h.mem
    show(Waa w.mem w.roots[a.2.1.toNat].cm).1.1≤w.now+1
    omega
  ·split
   ·split
    ·rename_i hc
     unfold wKid
     refine put_wt (w0:={w with now:=w.now+1}) hx1 rfl ?_ hx1.clk
     refine⟨hR.pb,λ_=>?_,λh5=>by(change w.roots[a.2.1.toNat].phase=5 at h5;omega)⟩
     have hp:=Wpb h.progs hpk
     have hF:=((h.root _ hk).live (by omega)).fork hc.1
     rcases hR.fam hc.1 with hl|hT
     ·left
      show(Wgo w.mem w.roots[a.2.1.toNat].fam a.2.2.toNat _).lost=true
      rw[Wpw hl];exact hl
     ·exact fStep_kt h.mem hp.kids hp.k3 hF.2.2 hT (by omega)
    ·exact hx1
   ·split
    ·split
     ·exact put_wt (w0:={w with now:=w.now+1}) hx1 rfl ⟨hR.pb,hR.fam,hR.cm⟩ hx1.clk
     ·exact hx1
    ·exact hx1
 ·exact hx1
theorem acts_wt:∀(l:List Ac) (n:Int) (w:Wo),WOk s.2.1 n w→WT w→WT (l.foldl (wAct s) w)
 | [],n,w,h,hx=>hx
 |a::l,n,w,h,hx=>acts_wt l (n+1) _ (Wgl (a:=a) h) (wAct_wt (a:=a) h hx)
theorem wNew_wt:WT (wNew s):=⟨λi h=>by
 simp only[wNew,Xbq]
 exact RT.no rfl (by show(0:Int)≠2;omega) (by show(0:Int)≠5;omega),Xw _⟩
end
section
variable{s:Sc}{w v:Wo}{n:Int}{a:Ac}{x y:Rt}{k:Nat}{p:Pg}{q:Wo×Rt}
structure TQ(w:Wo)(k:Nat)(x:Rt)(q:Wo×Rt):Prop where
 tok:q.1.token=w.token∨(q.1.token=(k:Int)+1∧w.token=0∧x.phase=0∧q.2.phase=0)∨(w.token=(k:Int)+1∧q.1.token=0∧q.2.phase=8)
 try1:x.phase≠0→x.phase≠8→q.2.phase≠0→q.2.tries=x.tries
 idle:x.phase=0→q.2.phase=0∨(q.2.tries=x.tries∧(w.token=0∧x.tries<3∨w.token=(k:Int)+1∧Waw k w.roots 0=true)∧q.1.token=w.token)
 done:x.phase=8→q=(w,x)
theorem TQ.keep(ht:q.1.token=w.token)(hr:q.2.tries=x.tries)(h0:x.phase≠0)(h8:x.phase≠8):TQ w k x q:=
 ⟨.inl ht,λ_ _ _=>hr,λh=>absurd h h0,λh=>absurd h h8⟩
theorem rEnd_tq{w0:Wo}{x0:Rt}(hw:w0.token=w.token)(hr:x0.tries=x.tries)(h0:x.phase≠0)(h8:x.phase≠8):TQ w k x (rEnd w0 x0 k):=by
 refine⟨?_,λ_ _ _=>hr,λh=>absurd h h0,λh=>absurd h h8⟩
 show(if w0.token=(k:Int)+1 then 0 else w0.token)=w.token∨_
 split
 ·rename_i h
  right;right
  refine⟨by rw[←hw];exact h,?_,rfl⟩
  show(if w0.token=(k:Int)+1 then 0 else w0.token)=0
  rw[if_pos h]
 ·exact .inl hw
theorem rClose_tq{out:Int}(h0:x.phase≠0)(h8:x.phase≠8):TQ w k x (Wcd w x k out):=by
 unfold Wcd
 simp only
 generalize (if out=2 then []else x.writes)=rows
 split
 ·exact rEnd_tq rfl rfl h0 h8
 ·exact TQ.keep rfl rfl h0 h8
theorem Wlf:(Wad x).tries=x.tries:=by
 unfold Wad
 split<;>rfl
theorem rStep_tq:TQ w k x (Wav w x k p):=by
 unfold Wav
 by_cases hd:x.doomed=true∧1≤x.phase∧x.phase≤4
 ·rw[if_pos hd];exact TQ.keep rfl rfl (by omega) (by omega)
 rw[if_neg hd]
 by_cases h0:x.phase=0
 ·rw[if_pos h0]
  have h8:x.phase≠8:=by omega
  unfold Wik
  split
  ·exact⟨.inl rfl,λh=>absurd h0 h,λ_=>.inl h0,λh=>absurd h h8⟩
  ·split
   ·rename_i h
    exact⟨.inr (.inl ⟨rfl,h.2,h0,h0⟩),λh=>absurd h0 h,λ_=>.inl h0,λh=>absurd h h8⟩
   ·split
    ·exact⟨.inl rfl,λh=>absurd h0 h,λ_=>.inl h0,λh=>absurd h h8⟩
    ·rename_i a1 a2 a3
     refine⟨.inl rfl,λh=>absurd h0 h,λ_=>.inr ⟨rfl,?_,rfl⟩,λh=>absurd h h8⟩
     by_cases ht:w.token=0
     ·exact .inl ⟨ht,by omega⟩
     ·have hk:w.token=(k:Int)+1:=by omega
      refine .inr ⟨hk,?_⟩
      cases ho:Waw k w.roots 0 with
      |true=>rfl
      |false=>exact absurd ⟨hk,ho⟩ a3
 rw[if_neg h0]
 by_cases h8:x.phase=8
 ·rw[if_neg (by omega),if_neg (by omega),if_neg (by omega),if_neg (by omega),if_neg (by omega),if_neg (by omega),if_neg (by omega)]
  exact⟨.inl rfl,λ_ h=>absurd h8 h,λh=>absurd h h0,λ_=>rfl⟩
 have keep:∀q:Wo×Rt,q.1.token=w.token→q.2.tries=x.tries→TQ w k x q:=λq a b=>TQ.keep a b h0 h8
 by_cases h1:x.phase=1
 ·rw[if_pos h1]
  unfold rRun
  split
  ·exact rClose_tq h0 h8
  ·simp only
   generalize opN p.1 x.pc=o
   split
   ·refine keep _ rfl ?_
    unfold Whp
    cases Wdr x.writes o.2.2.1 with
    |some v=>rfl
    |none=>
     simp only
     generalize Was w.mem x.rv _=b
     split
     ·exact Wlf
     ·split<;>rfl
   ·split
    ·unfold Wfc
     split
     ·exact rClose_tq h0 h8
     ·split<;>exact keep _ rfl rfl
    ·split
     ·exact keep _ rfl rfl
     ·split
      ·unfold Wer
       cases Wcs w.holds ((k:Int)+1) (Wcf o).1 (Wcf o).2 with
       |none=>exact keep _ rfl Wlf
       |some hs=>exact keep _ rfl rfl
      ·repeat' split
       all_goals exact keep _ rfl rfl
 rw[if_neg h1]
 by_cases h2:x.phase=2
 ·rw[if_pos h2]
  refine keep _ rfl ?_
  show(Wfa x).tries=x.tries
  unfold Wfa
  split
  ·rfl
  ·split<;>rfl
 rw[if_neg h2]
 by_cases h3:x.phase=3
 ·rw[if_pos h3];unfold Wcv;split<;>exact keep _ rfl rfl
 rw[if_neg h3]
 by_cases h4:x.phase=4
 ·rw[if_pos h4]
  refine keep _ rfl ?_
  show(Wcg w x).tries=x.tries
  unfold Wcg
  simp only
  split
  ·split<;>rfl
  ·rfl
 rw[if_neg h4]
 by_cases h5:x.phase=5
 ·rw[if_pos h5]
  unfold Wbu
  split
  ·refine keep _ rfl ?_
   simp only
   split<;>rfl
  ·refine keep _ rfl ?_
   show(Wen {x with cm:=(Waa w.mem x.cm).2}).tries=x.tries
   unfold Wen
   split
   ·rfl
   ·split<;>rfl
 rw[if_neg h5]
 by_cases h6:x.phase=6
 ·rw[if_pos h6];split<;>exact keep _ rfl rfl
 rw[if_neg h6]
 by_cases h7:x.phase=7
 ·rw[if_pos h7]
  split
  ·exact⟨.inl rfl,λ_ _ h=>absurd rfl h,λh=>absurd h h0,λh=>absurd h h8⟩
  ·exact rEnd_tq rfl rfl h0 h8
 ·rw[if_neg h7];exact keep _ rfl rfl
end
section
variable{s:Sc}{w v:Wo}{n:Int}{a:Ac}{x y:Rt}{k:Nat}{p:Pg}{q:Wo×Rt}
theorem Wiw:∀{l:List Rt} {i:Nat},Waw k l i=true→∀(j:Nat) (h:j<l.length),i+j≠k→l[j].phase=0∨l[j].phase=8
 | [],i,_,j,h,_=>by simp at h
 |x::l,i,ho,j,h,hne=>by
  rw[Waw]at ho
  simp only[Xh,Xbw,decide_eq_true_eq]at ho
  cases j with
  |zero=>
   rcases ho.1 with h1|h1
   ·exact absurd h1 (by simpa using hne)
   ·exact h1
  |succ j=>exact Wiw ho.2 j (by simpa using h) (by omega)
structure TX(w:Wo):Prop where
 t1:∀(k:Nat) (h:k<w.roots.length),w.roots[k].phase≠0→w.roots[k].phase≠8→w.roots[k].tries≥3→w.token=(k:Int)+1
 t2:∀(k:Nat) (h:k<w.roots.length),w.token=(k:Int)+1→w.roots[k].phase≠0→∀(j:Nat) (h:j<w.roots.length),j≠k→w.roots[j].phase=0∨w.roots[j].phase=8
theorem put_tx{w0:Wo}(hx:TX w0)(hl:LX w0)(hk:k<w0.roots.length)(hr:q.1.roots=w0.roots)(hq:TQ w0 k w0.roots[k] q):TX (Wo.put q k):=by
 have hlen:(q.1.roots.set k q.2).length=w0.roots.length:=by rw[Xad,hr]
 have hget:∀(i:Nat) (hi:i<w0.roots.length),(q.1.roots.set k q.2)[i]'(by rw[hlen];exact hi)=if k=i then q.2 else w0.roots[i]:=λi hi=>by
  rw[Xaq];simp only[hr]
 have hd8:w0.roots[k].phase=8→q.2=w0.roots[k]:=λh=>by rw[hq.done h]
 refine⟨λi hi p0 p8 ht=>?_,λi hi ht p0 j hj hne=>?_⟩
 ·change i<(q.1.roots.set k q.2).length at hi
  have hi0:i<w0.roots.length:=by rw[←hlen];exact hi
  change ((q.1.roots.set k q.2)[i]'hi).phase≠0 at p0
  change ((q.1.roots.set k q.2)[i]'hi).phase≠8 at p8
  change ((q.1.roots.set k q.2)[i]'hi).tries≥3 at ht
  rw[hget i hi0]at p0 p8 ht
  show q.1.token=(i:Int)+1
  by_cases he:k=i
  ·subst he
   rw[if_pos rfl]at p0 p8 ht
   by_cases h0:w0.roots[k].phase=0
   ·rcases hq.idle h0 with h|⟨h1,h2,h3⟩
    ·exact absurd h p0
    ·rw[h3]
     rcases h2 with h2|h2
     ·omega
     ·exact h2.1
   ·by_cases h8:w0.roots[k].phase=8
    ·rw[hd8 h8]at p8;exact absurd h8 p8
    ·have htr:=hq.try1 h0 h8 p0
     have:=hx.t1 k hk h0 h8 (by omega)
     rcases hq.tok with h|⟨h,_⟩|⟨_,_,h⟩
     ·rw[h];exact this
     ·exact h
     ·exact absurd h p8
  ·rw[if_neg he]at p0 p8 ht
   have:=hx.t1 i hi0 p0 p8 ht
   rcases hq.tok with h|⟨_,h,_⟩|⟨h,_⟩
   ·rw[h];exact this
   ·omega
   ·omega
 ·change i<(q.1.roots.set k q.2).length at hi
  change j<(q.1.roots.set k q.2).length at hj
  have hi0:i<w0.roots.length:=by rw[←hlen];exact hi
  have hj0:j<w0.roots.length:=by rw[←hlen];exact hj
  change q.1.token=(i:Int)+1 at ht
  change ((q.1.roots.set k q.2)[i]'hi).phase≠0 at p0
  show((q.1.roots.set k q.2)[j]'hj).phase=0∨((q.1.roots.set k q.2)[j]'hj).phase=8
  rw[hget i hi0]at p0
  rw[hget j hj0]
  by_cases he:k=i
  ·subst he
   rw[if_pos rfl]at p0
   rw[if_neg (λh=>hne h.symm)]
   by_cases h0:w0.roots[k].phase=0
   ·rcases hq.idle h0 with h|⟨h1,h2,h3⟩
    ·exact absurd h p0
    ·rcases h2 with h2|h2
     ·rw[h3,h2.1]at ht;omega
     ·exact Wiw h2.2 j hj0 (by omega)
   ·rcases hq.tok with h|⟨_,_,h,_⟩|⟨_,h,_⟩
    ·exact hx.t2 k hk (by rw[←h];exact ht) h0 j hj0 hne
    ·exact absurd h h0
    ·omega
  ·rw[if_neg he]at p0
   have hti:w0.token=(i:Int)+1:=by
    rcases hq.tok with h|⟨h,_⟩|⟨_,h,_⟩
    ·rw[←h];exact ht
    ·omega
    ·omega
   by_cases hkj:k=j
   ·subst hkj
    rw[if_pos rfl]
    have hkid:=hx.t2 i hi0 hti p0 k hk (λh=>he h)
    rcases hkid with h0|h8
    ·rcases hq.idle h0 with h|⟨_,h2,_⟩
     ·exact .inl h
     ·rcases h2 with h2|h2<;>omega
    ·rw[hd8 h8];exact .inr h8
   ·rw[if_neg hkj]
    exact hx.t2 i hi0 hti p0 j hj0 hne
theorem wAct_tx(h:WOk s.2.1 n w)(hl:LX w)(hx:TX w):TX (wAct s w a):=by
 have hx1:TX {w with now:=w.now+1}:=⟨hx.t1,hx.t2⟩
 have hl1:LX {w with now:=w.now+1}:=⟨λk hk=>⟨(hl.root k hk).cm,(hl.root k hk).no,(hl.root k hk).hd,(hl.root k hk).tk⟩,hl.ow,hl.hd,hl.tk⟩
 unfold wAct
 simp only
 split
 ·rename_i hb
  have hk:a.2.1.toNat<w.roots.length:=by omega
  have same:∀y:Rt,y.phase=w.roots[a.2.1.toNat].phase→y.tries=w.roots[a.2.1.toNat].tries→w.roots[a.2.1.toNat].phase≠0→w.roots[a.2.1.toNat].phase≠8→TX (Wo.put ({w with now:=w.now+1},y) a.2.1.toNat):=λy e1 e2 h0 h8=>
   put_tx (w0:={w with now:=w.now+1}) hx1 hl1 hk rfl ⟨.inl rfl,λ_ _ _=>e2,λh=>absurd h h0,λh=>absurd h h8⟩
  rw[Wc hk]
  split
  ·unfold Wzd
   rw[Wc (show a.2.1.toNat<({w with now:=w.now+1}:Wo).roots.length from hk)]
   exact put_tx (w0:={w with now:=w.now+1}) hx1 hl1 hk (Wxe h hk) rStep_tq
  ·split
   ·split
    ·rename_i hc
     exact same _ rfl rfl (by omega) (by omega)
    ·exact hx1
   ·split
    ·split
     ·rename_i hc
      exact same _ rfl rfl (by omega) (by omega)
     ·exact hx1
    ·exact hx1
 ·exact hx1
theorem acts_tx:∀(l:List Ac) (n:Int) (w:Wo),WOk s.2.1 n w→WX w→LX w→TX w→TX (l.foldl (wAct s) w)
 | [],n,w,h,hx,hl,ht=>ht
 |a::l,n,w,h,hx,hl,ht=>acts_tx l (n+1) _ (Wgl (a:=a) h) (Woh (a:=a) h hx).1 (wAct_lx h hx hl) (wAct_tx h hl ht)
theorem wNew_tx:TX (wNew s):=by
 have e:∀(k:Nat) (h:k<(wNew s).roots.length),(wNew s).roots[k].phase=0:=λk h=>by simp only[wNew,Xbq]
 exact⟨λk h h0=>absurd (e k h) h0,λk h _ h0=>absurd (e k h) h0⟩
end
section
variable{w:Wo}{n:Int}{x y:Rt}{k:Nat}{p:Pg}{f g:Fm}{m:Mm}
theorem rLeft_2(h2:x.phase=2):Wg p x=if x.fam.lost=true then(x.undos.length:Int)+3 else 73-3*x.pc+fMax x.fam+Wcr x:=by unfold Wg;rw[if_neg (by omega),if_pos h2]
theorem fMax_lt{i:Nat}(hR:FmR f i g){b:Int}(hb:0≤b)(h:∀(j:Nat) (h:j<f.kids.length) (h':j<g.kids.length),Wbx g.kids[j]=1→fP g g.kids[j]+fQ g≤b):fMax g≤b:=by
 refine Wzf hb λz hz hu=>?_
 obtain⟨j,hj,he⟩:=Xat hz
 rw[←he]at hu⊢
 exact h j (by rw[←hR.len];exact hj) hj hu
theorem Wst(hp:POk p)(hx:ROk p n x)(ht:RT x)(h2:x.phase=2)(hl:x.fam.lost≠true)(ho:Wdh x.fam≠true)(hm:Waq m=true):
  Wg p {x with fam:=Wfb m p.2 p.2.length 0 x.fam}<Wg p x:=by
 have hL:=hx.live (by omega)
 have hs:=hL.spare
 have hlen:=hp.code.len
 obtain⟨f1,f2,f3⟩:=hL.fork h2
 have hT:=(ht.fam h2).resolve_left hl
 have hl24:∀c∈p.2,c.length≤24:=λc hc=>(hp.kids c hc).toCC.len
 have hR:=steps_m hm hp.kids hp.k3 p.2.length 0 n x.fam (by omega) f3 hT
 have h1:1≤fMax x.fam:=by
  have:∃z∈x.fam.kids,z.phase≠3:=by
   apply Classical.byContradiction
   intro hno
   apply ho
   unfold Wdh
   rw[Xae]
   intro z hz
   by_cases h3:z.phase=3
   ·simpa using h3
   ·exact absurd ⟨z,hz,h3⟩ hno
  obtain⟨z,hz,hz3⟩:=this
  obtain⟨j,hj,he⟩:=Xat hz
  have hu:Wbx x.fam.kids[j]=1:=Wfv (by rw[he];exact hz3)
  have a:=fP_1 f3 hl24 hT hj hu
  have b:=le_kMax (f:=x.fam) _ (Xt hj) hu
  unfold fMax;omega
 rw[rLeft_2 h2,if_neg hl,rLeft_2 (x:={x with fam:=Wfb m p.2 p.2.length 0 x.fam}) h2]
 show(if(Wfb m p.2 p.2.length 0 x.fam).lost=true then(x.undos.length:Int)+3 else 73-3*x.pc+fMax (Wfb m p.2 p.2.length 0 x.fam)+Wcr x)<_
 split
 ·unfold Wcr;omega
 ·rename_i hnl
  have hR:=hR.resolve_left hnl
  have:fMax (Wfb m p.2 p.2.length 0 x.fam)≤fMax x.fam-1:=fMax_lt hR (by omega) λj h h' hu=>by
   obtain⟨a1,a2,a3⟩:=hR.p j h h' hu
   have b:=le_kMax (f:=x.fam) _ (Xt h) a1
   rcases a3 (by omega)with c|⟨_,k,hk,_⟩
   ·unfold fMax;omega
   ·omega
  omega
end
section
def Wga(s:Sc)(k:Nat):Nat→Nat→Wo→Wo
 |0,_,w=>w
 |d+1,j,w=>Wga s k d (j+1) (wAct s w (2,(k:Int),(j:Int)))
def Wcl(s:Sc):Nat→Nat→Wo→Wo
 |0,_,w=>w
 |d+1,i,w=>Wcl s d (i+1) (Wga s i (s.2.1.getD i pg0).2.length 0 (wAct s w (1,(i:Int),0)))
def Wna(w:Wo):Bool:=w.roots.all λx=>decide (x.phase=8)
def Wch(s:Sc):Nat→Wo→Wo×Nat
 |0,w=>(w,0)
 |d+1,w=>if Wna w=true then(w,0)else((Wch s d (Wcl s s.2.1.length 0 w)).1,(Wch s d (Wcl s s.2.1.length 0 w)).2+1)
variable{s:Sc}{w v:Wo}{n:Int}{k:Nat}{N:Nat}
theorem Wxv:∀(d j:Nat) (n:Int) (w:Wo),WOk s.2.1 n w→WOk s.2.1 (n+d) (Wga s k d j w)
 |0,_,n,w,h=>by rw[Wga];simpa using h
 |d+1,j,n,w,h=>by
  have:=Wxv d (j+1) (n+1) _ (Wgl (a:=(2,(k:Int),(j:Int))) h)
  rw[Wga,show n+((d+1:Nat):Int)=n+1+(d:Int) by omega]
  exact this
theorem kids_lp{R:Type}{rounds:Int}{b1 b2 b3 b4:Int}{t42:Int}{K0:Int→Bool→Int→Int→Int→Int→List (Int×Int×Int)→List Int→List (Int×Int×Int)→List Y_Root→List (Int×Int×List (Int×Int))→Option R}(hN:1048576<N)(hk:k<s.2.1.length)(h3:s.2.1[k].2.length≤3):
  ∀(d j fuel:Nat) (n:Int) (w:Wo),j+d=s.2.1[k].2.length→d<fuel→WOk s.2.1 n w→n+d≤99999→
  Zcr N rounds (k:Int) s.2.1 t42 s b1 b2 b3 b4 K0 fuel (j:Int) w.now w.token w.mem.1 w.shelf.2 w.mem.2 w.shelf.1 w.holds (w.roots.map Rt.e) w.hist=
  K0 (s.2.1[k].2.length:Int) false (Wga s k d j w).now (Wga s k d j w).token (Wga s k d j w).mem.1 (Wga s k d j w).shelf.2 (Wga s k d j w).mem.2 (Wga s k d j w).shelf.1 (Wga s k d j w).holds ((Wga s k d j w).roots.map Rt.e) (Wga s k d j w).hist:=by
 intro d
 have hget:Xd s.2.1 (Xb (k:Int)) (([]:List (Int×Int×Int×Int)),([]:List (List (Int×Int×Int×Int))))=s.2.1[k]:=Wm hk _
 induction d with
 |zero=>
  intro j fuel n w hj hf hw hn
  obtain⟨f,rfl⟩:∃f,fuel=f+1:=⟨fuel-1,by omega⟩
  have:decide ((j:Int)<ilen s.2.1[k].2)=false:=decide_eq_false (by unfold ilen;omega)
  simp only[Zcr,Wq,hget,this,cond_false,Wga]
  rw[show(j:Int)=(s.2.1[k].2.length:Int) by omega]
 |succ d ih=>
  intro j fuel n w hj hf hw hn
  obtain⟨f,rfl⟩:∃f,fuel=f+1:=⟨fuel-1,by omega⟩
  have:decide ((j:Int)<ilen s.2.1[k].2)=true:=decide_eq_true (by unfold ilen;omega)
  have hr:=act_run (a:=(2,(k:Int),(j:Int))) hw (by omega) hN
  simp only[Zcr,Wq,hget,this,cond_true]
  rw[show((w.now,(w.token,((w.mem.1,w.mem.2),((w.shelf.1,w.shelf.2),(w.holds,(w.roots.map Rt.e,w.hist)))))):Y_World)=w.e from rfl,hr]
  simp only[Xc,We (show j<4611686018427387904 by omega)]
  rw[Wga]
  exact ih (j+1) f (n+1) _ (by omega) (by omega) (Wgl hw) (by omega)
theorem pk3(h:WOk s.2.1 n w){i:Nat}(hi:i<s.2.1.length):(s.2.1.getD i pg0).2.length≤3:=(Wpb h.progs hi).k3
theorem dRoots_ok:∀(d i:Nat) (n:Int) (w:Wo),i+d=s.2.1.length→WOk s.2.1 n w→∃n',n≤n'∧n'≤n+4*d∧WOk s.2.1 n' (Wcl s d i w)
 |0,_,n,w,hi,h=>⟨n,by omega,by omega,by rw[Wcl];exact h⟩
 |d+1,i,n,w,hi,h=>by
  have h1:=Wxv (k:=i) (s.2.1.getD i pg0).2.length 0 (n+1) _ (Wgl (a:=(1,(i:Int),0)) h)
  have h3:=pk3 h (i:=i) (by omega)
  obtain⟨n',a,b,c⟩:=dRoots_ok d (i+1) _ _ (by omega) h1
  exact⟨n',by omega,by omega,by rw[Wcl];exact c⟩
theorem roots_lp{R:Type}{rounds:Int}{b1 b2 b3 b4:Int}{K0:Int→Bool→Int→Int→Int→Int→List (Int×Int×Int)→List Int→List (Int×Int×Int)→List Y_Root→List (Int×Int×List (Int×Int))→Option R}(hN:1048576<N)(hl4:s.2.1.length≤4):
  ∀(d i fuel:Nat) (n:Int) (w:Wo),i+d=s.2.1.length→d<fuel→WOk s.2.1 n w→n+4*d≤99999→
  Zb4 N rounds s.2.1 s b1 b2 b3 b4 K0 fuel (i:Int) w.now w.token w.mem.1 w.shelf.2 w.mem.2 w.shelf.1 w.holds (w.roots.map Rt.e) w.hist=
  K0 (s.2.1.length:Int) false (Wcl s d i w).now (Wcl s d i w).token (Wcl s d i w).mem.1 (Wcl s d i w).shelf.2 (Wcl s d i w).mem.2 (Wcl s d i w).shelf.1 (Wcl s d i w).holds ((Wcl s d i w).roots.map Rt.e) (Wcl s d i w).hist:=by
 intro d
 induction d with
 |zero=>
  intro i fuel n w hi hf hw hn
  obtain⟨f,rfl⟩:∃f,fuel=f+1:=⟨fuel-1,by omega⟩
  have:i=s.2.1.length:=by omega
  subst this
  simp only[Zb4,Wbl (Xm _),cond_false,Wcl]
 |succ d ih=>
  intro i fuel n w hi hf hw hn
  obtain⟨f,rfl⟩:∃f,fuel=f+1:=⟨fuel-1,by omega⟩
  have hlt:i<s.2.1.length:=by omega
  have hr:=act_run (a:=(1,(i:Int),0)) hw (by omega) hN
  have hg:s.2.1.getD i pg0=s.2.1[i]:=Wc hlt _
  have h3:=pk3 hw hlt
  rw[hg]at h3
  have hw1:=Wgl (a:=(1,(i:Int),0)) hw
  have hk:=kids_lp (R:=R) (rounds:=rounds) (b1:=b1) (b2:=b2) (b3:=b3) (b4:=b4) (t42:=ilen s.2.1)
   (K0:=λt109 t110 b111 b112 b113 b114 l115 l116 l117 l118 l119=>(Zb4 N rounds s.2.1 s b1 b2 b3 b4 K0 f (iadd .i64 (i:Int) (1:Int)) b111 b112 b113 b114 l115 l116 l117 l118 l119)) hN hlt h3 s.2.1[i].2.length 0 N (n+1) _ (by omega) (by omega) hw1 (by omega)
  have hok:=Wxv (k:=i) s.2.1[i].2.length 0 (n+1) _ hw1
  simp only[Zb4,Wbb hlt,Wk hlt,cond_true]
  rw[show((w.now,(w.token,((w.mem.1,w.mem.2),((w.shelf.1,w.shelf.2),(w.holds,(w.roots.map Rt.e,w.hist)))))):Y_World)=w.e from rfl,hr]
  simp only[Xc]
  refine hk.trans ?_
  simp only[We (show i<4611686018427387904 by omega)]
  rw[Wcl,hg]
  exact ih (i+1) f _ _ (by omega) (by omega) hok (by omega)
theorem Wyz(hl:w.roots.length≤4)(hN:1048576<N):Zmx N w.e=ret (Wna w):=by
 unfold Zmx Za8 Z5
 have e1:w.e.2.2.2.2.2.1=w.roots.map Rt.e:=rfl
 rw[e1]
 have hb:(w.roots.map Rt.e).length≤4:=by simpa using hl
 have h1:=Wv (l:=w.roots.map Rt.e) (V:=Unit) (R:=Unit×(Int×Unit)) (lp:=λn j _=>Zm N (w.roots.map Rt.e) (λt11=>(some ((),(t11,())))) (λt12 t13=>(some ((),((-1:Int),())))) n j) (n:=N) (by omega)
  (body:=λj x v k=>bif (x.1 !=8)then some ((),(j,()))else k v) (K:=λ_ v=>some ((),((-1:Int),())))
  (λn i u hi=>by
   simp only[Zm,Zo4,Wbb hi,Wk hi,Wm hi,We (show i<4611686018427387904 by omega),cond_true,Xc])
  (λn u=>by simp only[Zm,Wbl (Xm _),cond_false]) ()
 have h2:∀(l:List Y_Root) (j:Nat),∃r:Int,Wfk (λ(j:Int) (x:Y_Root) (v:Unit) (k:Unit→Option (Unit×(Int×Unit)))=>bif (x.1 !=8)then some ((),(j,()))else k v) (λ_ v=>some ((),((-1:Int),()))) l j ()=some ((),(r,()))∧(decide (r≥0)= !(l.all λx=>x.1==8)):=λl=>by
  induction l with
  |nil=>intro j;exact⟨-1,rfl,rfl⟩
  |cons x l ih=>
   intro j
   rw[Wfk]
   cases hx:x.1==8 with
   |true=>
    have:(x.1 !=8)=false:=by rw[bne,hx];rfl
    simp only[this,cond_false]
    obtain⟨r,a,b⟩:=ih (j+1)
    exact⟨r,a,by rw[b,Xci,hx];rfl⟩
   |false=>
    have:(x.1 !=8)=true:=by rw[bne,hx];rfl
    simp only[this,cond_true]
    exact⟨j,rfl,by rw[Xci,hx];simp⟩
 obtain⟨r,a,b⟩:=h2 (w.roots.map Rt.e) 0
 rw[h1.trans a]
 simp only[Xc,b,Bool.not_not]
 have:((w.roots.map Rt.e).all λx=>x.1==8)=Wna w:=by
  unfold Wna
  rw[List.all_map]
  congr 1
 rw[this]
theorem drain_lp{R:Type}{K0:Int→Bool→Int→Int→Int→Int→List (Int×Int×Int)→List Int→List (Int×Int×Int)→List Y_Root→List (Int×Int×List (Int×Int))→Option R}(hN:1048576<N)(hl4:s.2.1.length≤4):
  ∀(d r fuel:Nat) (n:Int) (w:Wo),r+d=6000→d<fuel→WOk s.2.1 n w→n+16*d≤99999→
  Zb5 N s K0 fuel (r:Int) w.now w.token w.mem.1 w.shelf.2 w.mem.2 w.shelf.1 w.holds (w.roots.map Rt.e) w.hist=
  (λv:Wo×Nat=>K0 ((r+v.2:Nat):Int) false v.1.now v.1.token v.1.mem.1 v.1.shelf.2 v.1.mem.2 v.1.shelf.1 v.1.holds (v.1.roots.map Rt.e) v.1.hist) (Wch s d w):=by
 intro d
 induction d with
 |zero=>
  intro r fuel n w hr hf hw hn
  obtain⟨f,rfl⟩:∃f,fuel=f+1:=⟨fuel-1,by omega⟩
  have hl:w.roots.length≤4:=by rw[hw.len];exact hl4
  simp only[Zb5]
  rw[show((w.now,(w.token,((w.mem.1,w.mem.2),((w.shelf.1,w.shelf.2),(w.holds,(w.roots.map Rt.e,w.hist)))))):Y_World)=w.e from rfl,Wyz hl hN]
  have h6:decide ((r:Int)<6000)=false:=decide_eq_false (by omega)
  simp only[ret,Xc,h6,cond_false,Wch,Xax]
  cases Wna w<;>rfl
 |succ d ih=>
  intro r fuel n w hr hf hw hn
  obtain⟨f,rfl⟩:∃f,fuel=f+1:=⟨fuel-1,by omega⟩
  have hl:w.roots.length≤4:=by rw[hw.len];exact hl4
  simp only[Zb5]
  rw[show((w.now,(w.token,((w.mem.1,w.mem.2),((w.shelf.1,w.shelf.2),(w.holds,(w.roots.map Rt.e,w.hist)))))):Y_World)=w.e from rfl,Wyz hl hN]
  have h6:decide ((r:Int)<6000)=true:=decide_eq_true (by omega)
  simp only[ret,Xc,h6,cond_true,Wch]
  cases ho:Wna w with
  |true=>rfl
  |false=>
   simp only[Bool.not_false,cond_true,Bool.false_eq_true,if_false]
   obtain⟨n',a,b,c⟩:=dRoots_ok s.2.1.length 0 n w (by omega) hw
   have hlp:=roots_lp (s:=s) (R:=R) (rounds:=iadd .i64 (r:Int) 1) (b1:=0) (b2:=0) (b3:=0) (b4:=0)
    (K0:=λt155 t156 b157 b158 b159 b160 l161 l162 l163 l164 l165=>(Zb5 N s K0 f (iadd .i64 (r:Int) (1:Int)) b157 b158 b159 b160 l161 l162 l163 l164 l165)) hN hl4 s.2.1.length 0 N n w (by omega) (by omega) hw (by omega)
   refine hlp.trans ?_
   simp only[We (show r<4611686018427387904 by omega)]
   rw[ih (r+1) f n' _ (by omega) (by omega) c (by omega)]
   simp only[show r+1+(Wch s d (Wcl s s.2.1.length 0 w)).2=r+((Wch s d (Wcl s s.2.1.length 0 w)).2+1) by omega]
theorem drain_run(hb:SB s)(hN:1048576<N)(hok:scOk s=true):Zdm N s=some ((),((Wch s 6000 (Wkc s)).1.e,(((Wch s 6000 (Wkc s)).2:Int),()))):=by
 obtain⟨h1,h2,h3,h4⟩:=Wpr hok
 have hW:=wPlay_ok hok
 have hp:=playI_run hb hN
 unfold Zdm
 rw[Wia hb hN,hok]
 simp only[ret,Xc,Bool.not_true,cond_false]
 rw[hp,if_pos hok]
 simp only[ret,Xc]
 have hlen:(s.2.2.length:Int)≤400:=by omega
 have:=drain_lp (s:=s) (N:=N) (K0:=λrounds166 t167 b168 b169 b170 b171 l172 l173 l174 l175 l176=>(some ((),((b168,(b169,((b170,l172),((l173,b171),(l174,(l175,l176)))))),(rounds166,()))):Option (Unit×(Y_World×(Int×Unit))))) hN (by omega) 6000 0 N _ (Wkc s) (by omega) (by omega) hW (by omega)
 refine this.trans ?_
 simp only[Nat.zero_add]
 rfl
end
section
variable{s:Sc}{w v:Wo}{n:Int}{x y:Rt}{k:Nat}{p:Pg}{f g:Fm}{m:Mm}{o:Opn}
def Whg(p:Pg)(x:Rt):Int:=if x.phase≤4 then Wg p x-292 else Wg p x
def Out1(p:Pg)(x y:Rt):Prop:=y.phase=1∨y.phase=2∨y.phase=8∨y.phase=3∨(y.phase=6∧y.fate=0)∨(y.phase=5∧Wg p y≤x.undos.length+36)
theorem rConflict_out:(Wad x).phase=3∨((Wad x).phase=6∧(Wad x).fate=0):=by
 unfold Wad
 split
 ·exact .inr ⟨rfl,rfl⟩
 ·exact .inl rfl
theorem Wwu(hl:RLive p n x)(hk:k≤8){out:Int}:Out1 p x (Wcd w x k out).2:=by
 unfold Wcd
 simp only
 generalize (if out=2 then []else x.writes)=rows
 split
 ·exact .inr (.inr (.inl rfl))
 ·have hc:CmOk (Wdm ((k:Int)+1) x.rv rows x.reads):=Wxp (by omega) hl.rv
  have:=(Woj hc).2.1
  have e:Wg p ({x with fate:=out,cm:=Wdm ((k:Int)+1) x.rv rows x.reads,phase:=5}:Rt)=Wax (Wdm ((k:Int)+1) x.rv rows x.reads)+x.undos.length+3:=rfl
  refine .inr (.inr (.inr (.inr (.inr ⟨rfl,?_⟩))))
  show Wg p ({x with fate:=out,cm:=Wdm ((k:Int)+1) x.rv rows x.reads,phase:=5}:Rt)≤_
  rw[e];omega
theorem rRun_out(hl:RLive p n x)(h1:x.phase=1)(hk:k≤8):Out1 p x (rRun w x k p).2:=by
 have one:∀y:Rt,y.phase=1→Out1 p x y:=λy h=>.inl h
 have cf:∀z:Rt,Out1 p x (Wad z):=λz=>by
  rcases rConflict_out (x:=z)with h|h
  ·exact .inr (.inr (.inr (.inl h)))
  ·exact .inr (.inr (.inr (.inr (.inl h))))
 unfold rRun
 split
 ·exact Wwu hl hk
 ·simp only
  generalize opN p.1 x.pc=o
  split
  ·show Out1 p x (Whp w x o)
   unfold Whp
   cases Wdr x.writes o.2.2.1 with
   |some v=>exact one _ h1
   |none=>
    simp only
    generalize Was w.mem x.rv _=b
    split
    ·exact cf _
    ·split<;>exact one _ h1
  ·split
   ·unfold Wfc
    split
    ·exact Wwu hl hk
    ·split<;>exact one _ h1
   ·split
    ·exact .inr (.inl rfl)
    ·split
     ·unfold Wer
      cases Wcs w.holds ((k:Int)+1) (Wcf o).1 (Wcf o).2 with
      |none=>exact cf _
      |some hs=>exact one _ h1
     ·repeat' split
      all_goals exact one _ h1
theorem gLeft_0(hp:POk p)(hx:ROk p n x)(ht:RT x)(hg:RGd m x):1≤Whg p x:=by
 have h808:=(Wep hp hx ht).2.2
 have hph:=hg.ph
 have hs:=hg.sp
 unfold Whg
 by_cases h1:x.phase=1
 ·have:=Wky hp.code (hx.live (by omega)) ht h1
  rw[if_pos (by omega)];omega
 by_cases h2:x.phase=2
 ·have hl:=hx.live (by omega)
  have hpc:=hl.pc
  have hlen:=hp.code.len
  have h0:=kMax_0 x.fam x.fam.kids
  rw[if_pos (by omega),rLeft_2 h2,if_neg (by rw[(hg.fam h2).lost];simp)]
  unfold fMax Wcr;omega
 ·rw[if_neg (by omega)];exact h808 (by omega)
theorem gStep(hp:POk p)(hx:ROk p n x)(hxx:RX x)(ht:RT x)(hk:k≤8)(hg:RGd w.mem x)(hh:∀e∈w.holds,e.1=(k:Int)+1)(hm:Waq w.mem=true)(hb:LB w k x)(hclk:w.mem.1<1000000):
  (Wav w x k p).2.phase=8∨(RGd (Wav w x k p).1.mem (Wav w x k p).2∧(Whg p (Wav w x k p).2<Whg p x∨(x.phase=2∧x.fam.lost≠true∧Wdh x.fam≠true∧(Wav w x k p).2=x))):=by
 rcases rStep_gd hp hx hg ht hh hm hb hclk with h8|hy
 ·exact .inl h8
 refine .inr ⟨hy,?_⟩
 have hph:=hg.ph
 have hyph:=hy.ph
 rcases Wxd (w:=w) hp hx hxx ht hk (by omega)with hlt|hwt
 ·left
  have hs:=hg.sp
  by_cases h1:x.phase=1
  ·have hl:=hx.live (by omega)
   have ho:=rRun_out (w:=w) hl h1 hk
   have hlow:=Wky hp.code hl ht h1
   have e:Wav w x k p=rRun w x k p:=by
    unfold Wav
    rw[if_neg (by rw[hg.dm];simp),if_neg (by omega),if_pos h1]
   rw[e]at hy hyph hlt⊢
   have hft:=hy.ft
   unfold Whg
   rw[if_pos (show x.phase≤4 by omega)]
   rcases ho with h|h|h|h|h|h
   ·rw[if_pos (by omega)];omega
   ·rw[if_pos (by omega)];omega
   ·omega
   ·omega
   ·exact absurd h.2 (hft (by omega))
   ·rw[if_neg (by omega)];omega
  by_cases h2:x.phase=2
  ·have e:(Wav w x k p).2=Wfa x:=by
    unfold Wav
    rw[if_neg (by rw[hg.dm];simp),if_neg (by omega),if_neg h1,if_pos h2]
   rw[e]at hlt⊢
   have e2:(Wfa x).phase≤4:=by
    unfold Wfa
    rw[if_neg (by rw[(hg.fam h2).lost];simp)]
    split
    ·show(1:Int)≤4;omega
    ·omega
   unfold Whg
   rw[if_pos e2,if_pos (by omega)];omega
  ·unfold Whg
   rw[if_neg (show¬x.phase≤4 by omega)]
   split<;>omega
 ·exact .inr hwt
theorem kStep_3{z:Kd}{j:Nat}{c:List Opn}(h:z.phase=3):Wke m f z j c=(f,z):=by
 unfold Wke
 rw[if_neg (by omega),if_neg (by omega),if_neg (by omega)]
theorem fStep_over(h:Wdh f=true){j:Nat}(hj:j<f.kids.length){c:List Opn}:Wgo m f j c=f:=by
 unfold Wgo
 split
 ·rfl
 ·have h3:f.kids[j].phase=3:=by
   unfold Wdh at h
   rw[Xae]at h
   simpa using h _ (Xt hj)
  rw[show f.kids.getD j {}=f.kids[j]from Wc hj _,kStep_3 h3]
  unfold Fm.put
  simp only
  rw[Xbe]
variable{codes:List (List Opn)}
theorem Wtg(h:Wdh f=true):∀(d i:Nat),i+d=f.kids.length→Wfb m codes d i f=f
 |0,_,_=>rfl
 |d+1,i,hi=>by rw[Wfb,fStep_over h (by omega)];exact Wtg h d (i+1) (by omega)
theorem fSteps_gd(hm:Waq m=true)(hkc:∀c∈codes,KC c)(h3:codes.length≤3):∀(d i:Nat) (n:Int) (f:Fm),i+d=codes.length→FOk codes n f→(∀(j:Nat) (h:j<f.kids.length),KT f j f.kids[j])→FGd m f→FGd m (Wfb m codes d i f)
 |0,_,_,_,_,_,_,hg=>hg
 |d+1,i,n,f,hi,hF,hT,hg=>by
  have hlen:=hF.len
  have hc:KC (codes.getD i []):=by rw[Wc (show i<codes.length by omega) _];exact hkc _ (Xt _)
  have hg':=fStep_gd (k:=i) hF hT hg (by omega) hc
  rw[Wfb]
  refine fSteps_gd hm hkc h3 d (i+1) (n+1) _ (by omega) (Wxo (by omega) hm hc hF rfl) ?_ hg'
  rcases fStep_kt hm hkc h3 hF hT (k:=i) (by omega)with h|h
  ·rw[hg'.lost]at h;cases h
  ·exact h
def Wbh(m:Mm)(p:Pg)(d i:Nat)(x:Rt):Rt:=if x.phase=2 then{x with fam:=Wfb m p.2 d i x.fam}else x
theorem dKids_eq:∀(d j:Nat) (w:Wo) (hk:k<w.roots.length),j+d=(s.2.1.getD k pg0).2.length→
  Wga s k d j w={w with now:=w.now+d,roots:=w.roots.set k (Wbh w.mem (s.2.1.getD k pg0) d j w.roots[k])}
 |0,j,w,hk,hj=>by
  have:Wbh w.mem (s.2.1.getD k pg0) 0 j w.roots[k]=w.roots[k]:=by
   unfold Wbh
   split<;>rfl
  rw[Wga,this,Xbe]
  simp
 |d+1,j,w,hk,hj=>by
  rw[Wga]
  have hb:0≤(k:Int)∧(k:Int)<w.roots.length:=by omega
  have hg:w.roots.getD k rt0=w.roots[k]:=Wc hk _
  have e:wAct s w (2,(k:Int),(j:Int))={w with now:=w.now+1,roots:=w.roots.set k (Wbh w.mem (s.2.1.getD k pg0) 1 j w.roots[k])}:=by
   unfold wAct
   simp only[Xj]
   rw[if_pos hb,if_neg (by omega),if_pos trivial,hg]
   unfold Wbh
   by_cases h2:w.roots[k].phase=2
   ·rw[if_pos ⟨h2,by omega,by omega⟩,if_pos h2]
    rfl
   ·rw[if_neg (λh=>h2 h.1),if_neg h2,Xbe]
  have hk':k<(wAct s w (2,(k:Int),(j:Int))).roots.length:=by rw[e];show k<(w.roots.set k _).length;rw[Xad];exact hk
  rw[dKids_eq d (j+1) _ hk' (by omega)]
  have e1:(wAct s w (2,(k:Int),(j:Int))).roots[k]=Wbh w.mem (s.2.1.getD k pg0) 1 j w.roots[k]:=by
   simp only[e,Xep]
  rw[e1,e]
  simp only[Xdm]
  have e2:Wbh w.mem (s.2.1.getD k pg0) d (j+1) (Wbh w.mem (s.2.1.getD k pg0) 1 j w.roots[k])=Wbh w.mem (s.2.1.getD k pg0) (d+1) j w.roots[k]:=by
   unfold Wbh
   by_cases h2:w.roots[k].phase=2
   ·rw[if_pos h2,if_pos h2,if_pos h2];rfl
   ·rw[if_neg h2,if_neg h2,if_neg h2]
  rw[e2]
  congr 1
  omega
end
section
variable{s:Sc}{w v:Wo}{n:Int}{x y:Rt}{k:Nat}{p:Pg}{f g:Fm}{m:Mm}{o:Opn}
theorem rStep_zero(h0:x.phase≠0)(hz:(Wav w x k p).2.phase=0):(Wav w x k p).2.tries=x.tries+1:=by
 unfold Wav at hz⊢
 by_cases hd:x.doomed=true∧1≤x.phase∧x.phase≤4
 ·rw[if_pos hd]at hz;exact absurd (show(6:Int)=0 from hz) (by omega)
 rw[if_neg hd,if_neg h0]at hz⊢
 by_cases h1:x.phase=1
 ·rw[if_pos h1]at hz
  have cl:∀out,(Wcd w x k out).2.phase≠0:=λout=>by
   unfold Wcd
   simp only
   generalize (if out=2 then []else x.writes)=rows
   split
   ·show(8:Int)≠0;omega
   ·show(5:Int)≠0;omega
  have:(rRun w x k p).2.phase≠0:=by
   unfold rRun
   split
   ·exact cl _
   ·simp only
    generalize opN p.1 x.pc=o
    split
    ·exact(rRead_k h1).1
    ·split
     ·unfold Wfc
      split
      ·exact cl _
      ·split<;>(show x.phase≠0;omega)
     ·split
      ·show(2:Int)≠0;omega
      ·split
       ·unfold Wer
        cases Wcs w.holds ((k:Int)+1) (Wcf o).1 (Wcf o).2 with
        |none=>exact Wjk.1
        |some hs=>exact h0
       ·repeat' split
        all_goals exact h0
  exact absurd hz this
 rw[if_neg h1]at hz⊢
 by_cases h2:x.phase=2
 ·rw[if_pos h2]at hz
  have:(Wfa x).phase≠0:=by
   unfold Wfa
   split
   ·show(6:Int)≠0;omega
   ·split
    ·show(1:Int)≠0;omega
    ·exact h0
  exact absurd hz this
 rw[if_neg h2]at hz⊢
 by_cases h3:x.phase=3
 ·rw[if_pos h3]at hz
  have:(Wcv w x).2.phase≠0:=by
   unfold Wcv
   split
   ·exact h0
   ·show(4:Int)≠0;omega
  exact absurd hz this
 rw[if_neg h3]at hz⊢
 by_cases h4:x.phase=4
 ·rw[if_pos h4]at hz
  have:(Wcg w x).phase≠0:=by
   unfold Wcg
   simp only
   split
   ·split
    ·show(6:Int)≠0;omega
    ·exact h0
   ·show(1:Int)≠0;omega
  exact absurd hz this
 rw[if_neg h4]at hz⊢
 by_cases h5:x.phase=5
 ·rw[if_pos h5]at hz
  have:(Wbu w x k).2.phase≠0:=by
   unfold Wbu
   split
   ·simp only
    split
    ·show(6:Int)≠0;omega
    ·exact h0
   ·show(Wen {x with cm:=(Waa w.mem x.cm).2}).phase≠0
    unfold Wen
    split
    ·show(6:Int)≠0;omega
    ·split
     ·show(if x.fate=2 then(6:Int)else 7)≠0
      split<;>omega
     ·exact h0
  exact absurd hz this
 rw[if_neg h5]at hz⊢
 by_cases h6:x.phase=6
 ·rw[if_pos h6]at hz
  split at hz
  ·exact absurd hz h0
  ·exact absurd (show(7:Int)=0 from hz) (by omega)
 rw[if_neg h6]at hz⊢
 by_cases h7:x.phase=7
 ·rw[if_pos h7]at hz⊢
  split at hz
  ·rw[if_pos ‹_›]
  ·exact absurd (show(8:Int)=0 from hz) (by omega)
 ·rw[if_neg h7]at hz;exact absurd hz h0
structure WI(s:Sc)(n:Int)(w:Wo):Prop where
 ok:WOk s.2.1 n w
 wx:WX w
 lx:LX w
 wt:WT w
 tx:TX w
theorem WI.act(h:WI s n w)(a:Ac):WI s (n+1) (wAct s w a):=
 ⟨Wgl h.ok,(Woh h.ok h.wx).1,wAct_lx h.ok h.wx h.lx,wAct_wt h.ok h.wt,wAct_tx h.ok h.lx h.tx⟩
theorem WI.kids:∀(d j:Nat) (n:Int) (w:Wo),WI s n w→WI s (n+d) (Wga s k d j w)
 |0,_,n,w,h=>by rw[Wga];simpa using h
 |d+1,j,n,w,h=>by
  have:=WI.kids d (j+1) (n+1) _ (h.act (2,(k:Int),(j:Int)))
  rw[Wga,show n+((d+1:Nat):Int)=n+1+(d:Int) by omega]
  exact this
def wBlk(s:Sc)(k:Nat)(w:Wo):Wo:=Wga s k (s.2.1.getD k pg0).2.length 0 (wAct s w (1,(k:Int),0))
theorem WI.blk(h:WI s n w):WI s (n+1+(s.2.1.getD k pg0).2.length) (wBlk s k w):=WI.kids _ _ _ _ (h.act _)
theorem blk_eq(h:WOk s.2.1 n w)(hk:k<w.roots.length):wBlk s k w=
  (λq:Wo×Rt=>{q.1 with now:=q.1.now+(s.2.1.getD k pg0).2.length,roots:=w.roots.set k (Wbh q.1.mem (s.2.1.getD k pg0) (s.2.1.getD k pg0).2.length 0 q.2)}) (Wav {w with now:=w.now+1} w.roots[k] k (s.2.1.getD k pg0)):=by
 have hr:=Wxe h hk
 have hb:0≤(k:Int)∧(k:Int)<w.roots.length:=by omega
 have e:wAct s w (1,(k:Int),0)=Wo.put (Wav {w with now:=w.now+1} w.roots[k] k (s.2.1.getD k pg0)) k:=by
  unfold wAct
  simp only[Xj]
  rw[if_pos hb,if_pos trivial]
  unfold Wzd
  rw[Wc (show k<({w with now:=w.now+1}:Wo).roots.length from hk)]
 unfold wBlk
 rw[e]
 generalize Wav {w with now:=w.now+1} w.roots[k] k (s.2.1.getD k pg0)=q at*
 have hk':k<(Wo.put q k).roots.length:=by show k<(q.1.roots.set k q.2).length;rw[Xad,hr];exact hk
 rw[dKids_eq _ _ _ hk' (by omega)]
 have e1:(Wo.put q k).roots[k]=q.2:=Xep ..
 rw[e1]
 unfold Wo.put
 simp only[Xdm,hr]
theorem kRound_ph{d i:Nat}:(Wbh m p d i x).phase=x.phase∧(Wbh m p d i x).tries=x.tries:=by
 unfold Wbh
 split<;>exact⟨rfl,rfl⟩
theorem Wha{d i:Nat}(h:x.phase≠2):Wbh m p d i x=x:=by unfold Wbh;rw[if_neg h]
theorem kRound_le(hp:POk p)(hx:ROk p n x)(ht:RT x)(hm:Waq m=true):Wg p (Wbh m p p.2.length 0 x)≤Wg p x:=by
 by_cases h2:x.phase=2
 ·obtain⟨f1,f2,f3⟩:=(hx.live (by omega)).fork h2
  unfold Wbh
  rw[if_pos h2]
  by_cases hl:x.fam.lost=true
  ·rw[Wjc _ _ _ hl];exact Xw _
  by_cases ho:Wdh x.fam=true
  ·rw[Wtg ho _ _ (by rw[f3.len];omega)];exact Xw _
  ·have:=Wst hp hx ht h2 hl ho hm;omega
 ·rw[Wha h2];exact Xw _
structure BK(w v:Wo)(k:Nat)(p:Pg)(x y:Rt):Prop where
 tok:v.token=w.token∨(v.token=(k:Int)+1∧w.token=0∧x.phase=0∧y.phase=0)∨(w.token=(k:Int)+1∧v.token=0∧y.phase=8)
 mem:x.phase≠5→v.mem=w.mem
 done:x.phase=8→y=x
 idle:x.phase=0→(y=x∧(w.token=0→v.token=(k:Int)+1)∧(w.token=(k:Int)+1→Waw k w.roots 0=false))∨
  (y.phase=1∧Wg p y=785∧y.tries=x.tries∧v.token=w.token∧(w.token=0∧x.tries<3∨w.token=(k:Int)+1∧Waw k w.roots 0=true∧RGd v.mem y∧Whg p y=493))
 live:1≤x.phase∧x.phase≤7→y.phase=8∨(y.phase=0∧y.tries=x.tries+1)∨((1≤y.phase∧y.phase≤7)∧y.tries=x.tries∧Wg p y<Wg p x)
 keep:x.phase≠0→x.phase≠8→y.phase≠0→y.tries=x.tries
 good:x.phase≠0→x.phase≠8→RGd w.mem x→(∀e∈w.holds,e.1=(k:Int)+1)→y.phase=8∨(RGd v.mem y∧Whg p y<Whg p x)
theorem start_good(h:WI s n w)(hk:k<w.roots.length)(h0:w.roots[k].phase=0)(ho:Waw k w.roots 0=true){t b:Int}{r:List Int}:
  RGd w.mem {phase:=1,tries:=t,rv:=w.mem.1,began:=b,regs:=r}:=by
 refine⟨rfl,rfl,.inl rfl,λ_=>⟨λi a c=>⟨?_,?_⟩,λh=>by cases h⟩,λh=>by(change (1:Int)=2 at h;omega),λh=>by(change (1:Int)=5 at h;omega),λh=>by(change (1:Int)=5∨(1:Int)=6∨(1:Int)=7 at h;omega)⟩
 ·rcases h.lx.ow i a c with e|⟨j,hj,e⟩
  ·exact e
  ·have h5:w.roots[j].phase≠5:=by
    by_cases hjk:j=k
    ·subst hjk;omega
    ·rcases Wiw ho j hj (by omega)with e|e<;>omega
   exact absurd e ((h.lx.root j hj).no h5 i a c)
 ·have:=Wlo h.ok.mem ⟨a,c⟩
  unfold isWd at this
  simp only[Xh,decide_eq_true_eq]at this
  exact this.2.1.2
theorem blk_bk(h:WI s n w)(hk:k<w.roots.length)(hn:n≤99999):∃y,(wBlk s k w).roots=w.roots.set k y∧BK w (wBlk s k w) k (s.2.1.getD k pg0) w.roots[k] y:=by
 have hl4:=h.ok.l4
 have hlen:=h.ok.len
 have hp:POk (s.2.1.getD k pg0):=Wpb h.ok.progs (by omega)
 have hx:=h.ok.root k hk
 have hxx:=h.wx k hk
 have ht:=h.wt.root k hk
 have hclk:=h.wt.clk
 have hnow:=h.ok.now
 have hxph:=hx.phase
 have hcc:0≤(s.2.1.getD k pg0).2.length:=Nat.zero_le _
 rw[blk_eq h.ok hk]
 generalize hp':s.2.1.getD k pg0=p at*
 have hq:=Wsf (w:={w with now:=w.now+1}) (k:=k) hp ⟨h.ok.mem,h.ok.shelf,h.ok.holds⟩ hx (by omega) h.ok.n0
 have hqt:=rStep_rt (w:={w with now:=w.now+1}) (k:=k) (p:=p) ht
 have hqm:=rStep_mem (w:={w with now:=w.now+1}) (x:=w.roots[k]) (k:=k) (p:=p)
 have htq:=rStep_tq (w:={w with now:=w.now+1}) (x:=w.roots[k]) (k:=k) (p:=p)
 have hz:=rStep_zero (w:={w with now:=w.now+1}) (x:=w.roots[k]) (k:=k) (p:=p)
 have hleft:=Wxd (w:={w with now:=w.now+1}) (k:=k) hp hx hxx ht (by omega)
 have hlb:LB {w with now:=w.now+1} k w.roots[k]:=⟨(h.lx.root k hk).cm,(h.lx.root k hk).no,(h.lx.root k hk).hd,(h.lx.root k hk).tk⟩
 have hgs:=λhg hh=>gStep (w:={w with now:=w.now+1}) (k:=k) hp hx hxx ht (by omega) hg hh h.ok.mem hlb (show w.mem.1<1000000 by omega)
 have hid:w.roots[k].phase=0→Wav {w with now:=w.now+1} w.roots[k] k p=Wik {w with now:=w.now+1} w.roots[k] k:=λh0=>by
  unfold Wav
  rw[if_neg (by omega),if_pos h0]
 refine⟨_,rfl,?_⟩
 have hph:=kRound_ph (m:=(Wav {w with now:=w.now+1} w.roots[k] k p).1.mem) (p:=p) (x:=(Wav {w with now:=w.now+1} w.roots[k] k p).2) (d:=p.2.length) (i:=0)
 have hle:=kRound_le hp hq.root hqt hq.mem
 have hne:=Wha (m:=(Wav {w with now:=w.now+1} w.roots[k] k p).1.mem) (p:=p) (x:=(Wav {w with now:=w.now+1} w.roots[k] k p).2) (d:=p.2.length) (i:=0)
 constructor
 ·show(Wav {w with now:=w.now+1} w.roots[k] k p).1.token=w.token∨_
  rcases htq.tok with e|⟨e1,e2,e3,e4⟩|⟨e1,e2,e3⟩
  ·exact .inl e
  ·exact .inr (.inl ⟨e1,e2,e3,by rw[hph.1];exact e4⟩)
  ·exact .inr (.inr ⟨e1,e2,by rw[hph.1];exact e3⟩)
 ·intro h5
  rcases hqm with e|e
  ·exact e
  ·exact absurd e.1 h5
 ·intro h8
  have e:=htq.done h8
  rw[e]
  exact Wha (by show w.roots[k].phase≠2;omega)
 ·intro h0
  rw[hid h0]
  unfold Wik
  by_cases a1:w.token≠0∧w.token≠(k:Int)+1
  ·rw[if_pos a1]
   exact .inl ⟨Wha (by show w.roots[k].phase≠2;omega),λh=>absurd h a1.1,λh=>absurd h a1.2⟩
  rw[if_neg a1]
  by_cases a2:w.roots[k].tries≥3∧w.token=0
  ·rw[if_pos a2]
   exact .inl ⟨Wha (by show w.roots[k].phase≠2;omega),λ_=>rfl,λh=>by have:=a2.2;omega⟩
  rw[if_neg a2]
  by_cases a3:w.token=(k:Int)+1∧Waw k w.roots 0=false
  ·rw[if_pos a3]
   exact .inl ⟨Wha (by show w.roots[k].phase≠2;omega),λh=>by have:=a3.1;omega,λ_=>a3.2⟩
  rw[if_neg a3]
  right
  have e:∀m,Wbh m p p.2.length 0 ({phase:=1,tries:=w.roots[k].tries,rv:=w.mem.1,began:=w.now+1,regs:=[0,0,0,0]}:Rt)={phase:=1,tries:=w.roots[k].tries,rv:=w.mem.1,began:=w.now+1,regs:=[0,0,0,0]}:=λm=>Wha (by show(1:Int)≠2;omega)
  have e785:Wg p ({phase:=1,tries:=w.roots[k].tries,rv:=w.mem.1,began:=w.now+1,regs:=[0,0,0,0]}:Rt)=785:=by
   rw[Wfi rfl]
   have:fkAt p 0=382:=by
    have e0:frk p.1 0=0:=rfl
    unfold fkAt;rw[show(0:Int).toNat=0 from rfl,e0];rfl
   have e1:Wcr ({phase:=1,tries:=w.roots[k].tries,rv:=w.mem.1,began:=w.now+1,regs:=[0,0,0,0]}:Rt)=328:=rfl
   rw[e1]
   show 75-3*0-0+fkAt p 0+328=785
   omega
  refine⟨?_,?_,?_,rfl,?_⟩
  ·show(Wbh w.mem p p.2.length 0 ({phase:=1,tries:=w.roots[k].tries,rv:=w.mem.1,began:=w.now+1,regs:=[0,0,0,0]}:Rt)).phase=1
   rw[e]
  ·show Wg p (Wbh w.mem p p.2.length 0 ({phase:=1,tries:=w.roots[k].tries,rv:=w.mem.1,began:=w.now+1,regs:=[0,0,0,0]}:Rt))=785
   rw[e];exact e785
  ·show(Wbh w.mem p p.2.length 0 ({phase:=1,tries:=w.roots[k].tries,rv:=w.mem.1,began:=w.now+1,regs:=[0,0,0,0]}:Rt)).tries=_
   rw[e]
  ·by_cases h0:w.token=0
   ·exact .inl ⟨h0,by omega⟩
   ·have hk1:w.token=(k:Int)+1:=by omega
    have hoi:Waw k w.roots 0=true:=by
     cases hc:Waw k w.roots 0 with
     |true=>rfl
     |false=>exact absurd ⟨hk1,hc⟩ a3
    refine .inr ⟨hk1,hoi,?_,?_⟩
    ·show RGd w.mem (Wbh w.mem p p.2.length 0 ({phase:=1,tries:=w.roots[k].tries,rv:=w.mem.1,began:=w.now+1,regs:=[0,0,0,0]}:Rt))
     rw[e]
     exact start_good h hk ‹_› hoi
    ·show Whg p (Wbh w.mem p p.2.length 0 ({phase:=1,tries:=w.roots[k].tries,rv:=w.mem.1,began:=w.now+1,regs:=[0,0,0,0]}:Rt))=493
     rw[e]
     unfold Whg
     rw[if_pos (by show(1:Int)≤4;omega),e785];rfl
 ·intro hlv
  show(Wbh (Wav {w with now:=w.now+1} w.roots[k] k p).1.mem p p.2.length 0 (Wav {w with now:=w.now+1} w.roots[k] k p).2).phase=8∨_
  rw[hph.1,hph.2]
  have hqph:=hq.root.phase
  by_cases hz0:(Wav {w with now:=w.now+1} w.roots[k] k p).2.phase=0
  ·exact .inr (.inl ⟨hz0,hz (by omega) hz0⟩)
  by_cases hz8:(Wav {w with now:=w.now+1} w.roots[k] k p).2.phase=8
  ·exact .inl hz8
  refine .inr (.inr ⟨by omega,htq.try1 (by omega) (by omega) hz0,?_⟩)
  rcases hleft hlv with hl|⟨h2,hl,ho,e⟩
  ·omega
  ·rw[e]
   rcases hqm with em|em
   ·rw[em]
    have:=Wst hp hx ht h2 hl ho h.ok.mem
    unfold Wbh
    rw[if_pos h2];exact this
   ·omega
 ·intro h0 h8 hy0
  simp only[hph.1]at hy0
  rw[hph.2]
  exact htq.try1 h0 h8 hy0
 ·intro h0 h8 hg hh
  rcases hgs hg hh with e8|⟨gq,hdrop⟩
  ·exact .inl (by rw[hph.1];exact e8)
  right
  generalize Wav {w with now:=w.now+1} w.roots[k] k p=q at*
  show RGd q.1.mem (Wbh q.1.mem p p.2.length 0 q.2)∧Whg p (Wbh q.1.mem p p.2.length 0 q.2)<Whg p w.roots[k]
  refine⟨?_,?_⟩
  ·by_cases h2:q.2.phase=2
   ·unfold Wbh
    rw[if_pos h2]
    obtain⟨f1,f2,f3⟩:=(hq.root.live (by omega)).fork h2
    have hT:=(hqt.fam h2).resolve_left (by rw[(gq.fam h2).lost];simp)
    exact⟨gq.dm,gq.sp,gq.ph,gq.run,λ_=>fSteps_gd hq.mem hp.kids hp.k3 _ _ _ _ (by omega) f3 hT (gq.fam h2),λh5=>gq.cm h5,gq.ft⟩
   ·rw[hne h2];exact gq
  ·have hgl:Whg p (Wbh q.1.mem p p.2.length 0 q.2)≤Whg p q.2:=by
    unfold Whg
    rw[hph.1]
    split<;>omega
   rcases hdrop with hl|⟨h2,hl,ho,e⟩
   ·omega
   ·rw[e]at hgl⊢
    rcases hqm with em|em
    ·rw[em]
     have:=Wst hp hx ht h2 hl ho h.ok.mem
     have ek:Wbh w.mem p p.2.length 0 w.roots[k]={w.roots[k]with fam:=Wfb w.mem p.2 p.2.length 0 w.roots[k].fam}:=by unfold Wbh;rw[if_pos h2]
     show Whg p (Wbh w.mem p p.2.length 0 w.roots[k])<_
     unfold Whg
     rw[kRound_ph.1,if_pos (by omega),if_pos (by omega),ek]
     exact Int.sub_lt_sub_right this 292
    ·omega
end
section
variable{s:Sc}{w v:Wo}{n:Int}{x y:Rt}{k i:Nat}{p:Pg}
def pgOf(s:Sc)(j:Nat):Pg:=s.2.1.getD j pg0
structure RJ(w:Wo)(p:Pg)(j:Nat)(x y:Rt):Prop where
 done:x.phase=8→y=x
 idle:x.phase=0→y=x∨(y.phase=1∧Wg p y=785∧y.tries=x.tries∧(x.tries<3∨w.token=(j:Int)+1))
 live:1≤x.phase∧x.phase≤7→y.phase=8∨(y.phase=0∧y.tries=x.tries+1)∨((1≤y.phase∧y.phase≤7)∧y.tries=x.tries∧Wg p y<Wg p x)
def ownNow(w v:Wo)(p:Pg)(k i:Nat)(x y:Rt):Prop:=
 (i≤k→x.phase≠0→RGd w.mem x→RGd v.mem x)∧
 (k<i→(x.phase=0→(y=x∧∃(j:Nat) (h:j<w.roots.length),j≠k∧1≤w.roots[j].phase∧w.roots[j].phase≤7)∨(y.phase=1∧RGd v.mem y∧Whg p y=493))∧(x.phase≠0→RGd w.mem x→RGd v.mem y∧Whg p y<Whg p x))
structure Rd(s:Sc)(w v:Wo)(i:Nat):Prop where
 len:v.roots.length=w.roots.length
 rest:∀(j:Nat) (h:j<w.roots.length) (h':j<v.roots.length),i≤j→v.roots[j]=w.roots[j]
 did:∀(j:Nat) (h:j<w.roots.length) (h':j<v.roots.length),j<i→RJ w (pgOf s j) j w.roots[j] v.roots[j]
 tk0:w.token=0→(v.token=0∧∀(j:Nat) (h:j<w.roots.length) (h':j<v.roots.length),j<i→w.roots[j].phase=0→v.roots[j].phase=1)∨
  ∃(k:Nat) (h:k<w.roots.length) (h':k<v.roots.length),k<i∧v.token=(k:Int)+1∧w.roots[k].phase=0∧v.roots[k].phase=0
 tk1:∀(k:Nat) (h:k<w.roots.length) (h':k<v.roots.length),w.token=(k:Int)+1→
  (v.token=(k:Int)+1∧(∀(j:Nat) (h:j<w.roots.length) (h':j<v.roots.length),j≠k→w.roots[j].phase=0→v.roots[j]=w.roots[j])∧ownNow w v (pgOf s k) k i w.roots[k] v.roots[k])∨
  (k<i∧w.roots[k].phase≠0∧v.roots[k].phase=8∧(v.token=0∨∃(j:Nat) (h:j<w.roots.length) (h':j<v.roots.length),j<i∧j≠k∧v.token=(j:Int)+1∧v.roots[j].phase=0∧w.roots[j].phase≠8))
theorem Rd.refl:Rd s w w 0:=
 ⟨rfl,λ_ _ _ _=>rfl,λj _ _ h=>absurd h (by omega),λh=>.inl ⟨h,λj _ _ h=>absurd h (by omega)⟩,λk h _ ht=>.inl ⟨ht,λ_ _ _ _ _=>rfl,λ_ _ h=>h,λh=>absurd h (by omega)⟩⟩
theorem Wkz:∀{l:List Rt} {i:Nat},Waw k l i=false→∃(j:Nat) (h:j<l.length),i+j≠k∧l[j].phase≠0∧l[j].phase≠8
 | [],i,h=>by cases h
 |x::l,i,h=>by
  rw[Waw]at h
  by_cases hx:i≠k∧x.phase≠0∧x.phase≠8
  ·exact⟨0,by simp,by simpa using hx.1,hx.2.1,hx.2.2⟩
  ·have:(decide (i=k)||(decide (x.phase=0)||decide (x.phase=8)))=true:=by
    simp only[Xbw,decide_eq_true_eq]
    by_cases h1:i=k
    ·exact .inl h1
    ·by_cases h2:x.phase=0
     ·exact .inr (.inl h2)
     ·by_cases h3:x.phase=8
      ·exact .inr (.inr h3)
      ·exact absurd ⟨h1,h2,h3⟩ hx
   rw[this,Bool.true_and]at h
   obtain⟨j,hj,a,b⟩:=Wkz h
   exact⟨j+1,by simpa using hj,by omega,by simpa using b⟩
theorem holds_one(h:LX w)(ho:∀(j:Nat) (hj:j<w.roots.length),j≠k→w.roots[j].phase=0∨w.roots[j].phase=8):∀e∈w.holds,e.1=(k:Int)+1:=λe he=>by
 obtain⟨j,hj,e1⟩:=h.hd e he
 by_cases hjk:j=k
 ·subst hjk;exact e1
 ·have:=(h.root j hj).hd e he e1
  rcases ho j hj hjk with h0|h8
  ·exact absurd h0 this.1
  ·exact absurd h8 this.2
theorem Rd.step(h0:WI s n w)(hv:∃n',n'≤99999∧WI s n' v)(hR:Rd s w v i)(hi:i<w.roots.length):Rd s w (wBlk s i v) (i+1):=by
 obtain⟨n',hn',hV⟩:=hv
 have hlv:=hR.len
 have hiv:i<v.roots.length:=by omega
 obtain⟨y,hy,hB⟩:=blk_bk hV hiv hn'
 change BK v (wBlk s i v) i (pgOf s i) v.roots[i] y at hB
 have hxi:=hR.rest i hi hiv (Xm _)
 have hxph:=(hV.ok.root i hiv).phase
 have htk:=hV.lx.tk
 have hUl:=(hV.blk (k:=i)).lx
 generalize wBlk s i v=u at*
 have hlu:u.roots.length=v.roots.length:=by rw[hy,Xad]
 have hg:∀(j:Nat) (h:j<u.roots.length) (h':j<v.roots.length),u.roots[j]=if i=j then y else v.roots[j]:=λj h h'=>by
  simp only[hy,Xaq]
 have hgi:∀(h:i<u.roots.length),u.roots[i]=y:=λh=>by rw[hg i h hiv,if_pos rfl]
 have hgn:∀(j:Nat) (h:j<u.roots.length) (h':j<v.roots.length),j≠i→u.roots[j]=v.roots[j]:=λj h h' hne=>by rw[hg j h h',if_neg (λe=>hne e.symm)]
 rw[hxi]at hB
 have hRJ:RJ w (pgOf s i) i w.roots[i] y:=by
  refine⟨hB.done,λhx0=>?_,hB.live⟩
  rcases hB.idle hx0 with⟨e,_⟩|⟨e1,e2,e3,e4,e5⟩
  ·exact .inl e
  ·refine .inr ⟨e1,e2,e3,?_⟩
   rcases e5 with⟨_,e5⟩|⟨e5,_⟩
   ·exact .inl e5
   ·right
    by_cases hw0:w.token=0
    ·rcases hR.tk0 hw0 with⟨a,_⟩|⟨k,a1,a2,a3,a4,a5,a6⟩
     ·omega
     ·omega
    ·obtain⟨k,hk,ek⟩:=h0.lx.tk.resolve_left hw0
     rcases hR.tk1 k hk (by omega) ek with⟨a,_⟩|⟨_,_,_,a|⟨j,_,_,a0,_,a,_⟩⟩
     ·omega
     ·omega
     ·omega
 constructor
 ·omega
 ·intro j h h' hij
  rw[hgn j h' (by omega) (by omega)]
  exact hR.rest j h (by omega) (by omega)
 ·intro j h h' hij
  by_cases hj:j=i
  ·subst hj;rw[hgi h'];exact hRJ
  ·rw[hgn j h' (by omega) hj];exact hR.did j h (by omega) (by omega)
 ·intro hw0
  rcases hR.tk0 hw0 with⟨a,b⟩|⟨k,a1,a2,a3,a4,a5,a6⟩
  ·rcases hB.tok with e|⟨e1,e2,e3,e4⟩|⟨e1,_⟩
   ·refine .inl ⟨by omega,λj h h' hji hz=>?_⟩
    by_cases hj:j=i
    ·subst hj
     rw[hgi h']
     rcases hB.idle hz with⟨_,e2,_⟩|⟨e1,_⟩
     ·have:=e2 a;omega
     ·exact e1
    ·rw[hgn j h' (by omega) hj];exact b j h (by omega) (by omega) hz
   ·exact .inr ⟨i,hi,by omega,by omega,e1,e3,by rw[hgi];exact e4⟩
   ·omega
  ·right
   have hki:k≠i:=by omega
   refine⟨k,a1,by omega,by omega,?_,a5,by rw[hgn k _ a2 hki];exact a6⟩
   rcases hB.tok with e|⟨e1,e2,e3,e4⟩|⟨e1,_⟩
   ·omega
   ·omega
   ·omega
 ·intro k hk hk' hwk
  have hkv:k<v.roots.length:=by omega
  rcases hR.tk1 k hk hkv hwk with⟨a,b,c1,c2⟩|⟨a1,a2,a3,a4⟩
  ·by_cases hik:i=k
   ·subst hik
    rw[hgi hk']
    rcases hB.tok with e|⟨_,e2,_⟩|⟨e1,e2,e3⟩
    ·refine .inl ⟨by omega,λj h h' hne hz=>by rw[hgn j h' (by omega) hne];exact b j h (by omega) hne hz,λh=>absurd h (by omega),λ_=>⟨λhz=>?_,λhnz hg0=>?_⟩⟩
     ·rcases hB.idle hz with⟨f1,_,f3⟩|⟨f1,f2,f3,f4,f5⟩
      ·obtain⟨j,hj,j1,j2,j3⟩:=Wkz (f3 a)
       have hjw:j<w.roots.length:=by omega
       refine .inl ⟨f1,j,hjw,by omega,?_⟩
       have hph:=(h0.ok.root j hjw).phase
       have n0:w.roots[j].phase≠0:=λhz=>j2 (by rw[b j hjw hj (by omega) hz];exact hz)
       have n8:w.roots[j].phase≠8:=λhz=>by
        by_cases hji:j<i
        ·have:=(hR.did j hjw hj hji).done hz
         exact j3 (by rw[this];exact hz)
        ·have:=hR.rest j hjw hj (by omega)
         exact j3 (by rw[this];exact hz)
       omega
      ·right
       rcases f5 with⟨f5,_⟩|⟨_,_,f5,f6⟩
       ·omega
       ·exact⟨f1,f5,f6⟩
     ·have n8:w.roots[i].phase≠8:=λh8=>by
       have:=(hUl.root i hk').tk (by omega)
       rw[hgi hk',hB.done h8]at this
       exact this.2 h8
      have hot:=holds_one (k:=i) hV.lx (λj hj hne=>hV.tx.t2 i hkv a (by rw[hxi];exact hnz) j hj hne)
      rcases hB.good hnz n8 (c1 (Xm _) hnz hg0) hot with h8|hgd
      ·have:=(hUl.root i hk').tk (by omega)
       rw[hgi hk']at this
       exact absurd h8 this.2
      ·exact hgd
    ·omega
    ·refine .inr ⟨by omega,λhz=>?_,e3,.inl e2⟩
     rcases hB.idle hz with⟨f1,_⟩|⟨f1,_⟩
     ·rw[f1]at e3;omega
     ·omega
   ·have hki:k≠i:=λe=>hik e.symm
    have htk:u.token=(k:Int)+1:=by
     rcases hB.tok with e|⟨_,e2,_⟩|⟨e1,e2,e3⟩<;>omega
    have hmem:v.roots[k].phase≠0→u.mem=v.mem:=λhnz=>by
     have:=hV.tx.t2 k hkv a hnz i hiv hik
     rw[hxi]at this
     exact hB.mem (by omega)
    rw[hgn k hk' hkv hki]
    refine .inl ⟨htk,λj h h' hne hz=>?_,λhle hnz hg0=>?_,λhlt=>?_⟩
    ·by_cases hj:j=i
     ·subst hj
      rw[hgi h']
      rcases hB.idle hz with⟨f1,_⟩|⟨f1,f2,f3,f4,f5⟩
      ·exact f1
      ·omega
     ·rw[hgn j h' (by omega) hj];exact b j h (by omega) hne hz
    ·have e:=hR.rest k hk hkv (by omega)
     rw[hmem (by rw[e];exact hnz)]
     exact c1 (by omega) hnz hg0
    ·obtain⟨d1,d2⟩:=c2 (by omega)
     refine⟨λhz=>?_,λhnz hg0=>?_⟩
     ·rcases d1 hz with d|⟨d3,d4,d5⟩
      ·exact .inl d
      ·exact .inr ⟨d3,by rw[hmem (by omega)];exact d4,d5⟩
     ·obtain⟨d3,d4⟩:=d2 hnz hg0
      have:=d3.ph
      exact⟨by rw[hmem (by omega)];exact d3,d4⟩
  ·right
   have hki:k≠i:=by omega
   refine⟨by omega,a2,by rw[hgn k hk' hkv hki];exact a3,?_⟩
   rcases a4 with a4|⟨j,j1,j2,j3,j4,j5,j6,j7⟩
   ·rcases hB.tok with e|⟨e1,e2,e3,e4⟩|⟨e1,e2,e3⟩
    ·exact .inl (by omega)
    ·exact .inr ⟨i,hi,by omega,by omega,λe=>hki e.symm,e1,by rw[hgi];exact e4,by omega⟩
    ·omega
   ·right
    refine⟨j,j1,by omega,by omega,j4,?_,by rw[hgn j _ j2 (by omega)];exact j6,j7⟩
    rcases hB.tok with e|⟨e1,e2,e3,e4⟩|⟨e1,e2,e3⟩<;>omega
end
end Go.Sx
