/- Plain laws of the Lean functions. -/
import Derived.Test.YtnkbflecplbceaaGreatMW3
open List renaming mem_append→Xm,mem_singleton→Xz,getElem_mem→Xq,map_cons→Xaj,sum_cons→Xca,mem_cons_of_mem→Xe,mem_cons_self→Xi,length_cons→Xu,getElem_set→Xao,length_set→Xad,getElem_of_mem→Xam,replicate→Xw,getElem_replicate→Xbj,getD→Xc,all_eq_true→Xae,all_cons→Xcj,set_getElem_self→Xbf,getElem_set_self→Xeo,set_set→Xdp
open Int renaming toNat_natCast→Xj,le_refl→Xp,le_trans→Xey,lt_of_le_of_lt→Xct,le_of_eq→Xfq,toNat→Xb
open Nat renaming add_zero→Xau,le_refl→Xn
open Bool renaming and_eq_true→Xh,or_eq_true→Xbw
open Option renaming bind_some→Xd
namespace Go.Sx
set_option linter.unusedVariables false
set_option linter.unusedSimpArgs false
section
def Wbf(x:Kd):Int:=if x.phase=0 then 75-3*x.pc-(if x.busy=true then x.pb.2.1 else 0)else 0
def Wbm(x:Kd):Int:=if x.phase=3 then 0 else if x.phase=2 then 25-x.pos else 26
structure KT(f:Fm)(k:Nat)(x:Kd):Prop where
 pb:x.busy=true->x.pb.2.1=1\/x.pb.2.1=2
 own:f.owner=(k:Int)+1↔x.phase=2
 seen:x.since=f.clock->∀e∈x.seen,WvZ f.buf e.1=e.2.2
inductive KO (f:Fm) (k:Nat) (x:Kd):Fm×Kd->Prop
 |lost {q:Fm×Kd}:q.1.lost=true->KO f k x q
 |run {y:Kd}:x.phase=0->y.since=x.since->(y.phase=0\/y.phase=1)->Wbf y<Wbf x->(y.busy=true->y.pb.2.1=1\/y.pb.2.1=2)->
   (x.since=f.clock->∀e∈y.seen,WvZ f.buf e.1=e.2.2)->KO f k x (f,y)
 |again:x.phase=0->x.since<f.clock->KO f k x (f,f.again x)
 |fail:x.phase=2->x.since<f.clock->KO f k x ({f with owner:=0},f.again x)
 |ask:x.phase=1->f.owner=0->KO f k x ({f with owner:=(k:Int)+1},{x with phase:=2})
 |wait:x.phase=1->f.owner≠0->KO f k x (f,x)
 |look:x.phase=2->x.pos<x.seen.length->KO f k x (f,{x with pos:=x.pos+1})
 |merge:x.phase=2->KO f k x (Wdb f x k)
 |done:x.phase=3->KO f k x (f,x)
variable{code:List Opn}{codes:List (List Opn)}{n:Int}{f:Fm}{x:Kd}{m:Mm}{k:Nat}{o:Opn}
theorem WnU{rv:Int}{p:Pb}(h:0<=p.2.1/\p.2.1<=2):(WV m rv p).2.1=4\/(WV m rv p).2.1=p.2.1+1:=by
 unfold WV;simp only[Wu,War]
 repeat' split
 all_goals first
  |exact .inl rfl
  |(refine .inr ?_;show(1:Int)=_;omega)
  |(refine .inr ?_;show(2:Int)=_;omega)
  |(refine .inr ?_;show(3:Int)=_;omega)
  |omega
theorem Wu8(hF:FOk codes n f)(h:KOk code f.clock n x)(h0:x.phase=0)(ht:KT f k x)(aF:x.pc+1<=24):KO f k x (Wej m f x o):=by
 have hl:Wbf x=75-3*x.pc-(if x.busy=true then x.pb.2.1 else 0):=by unfold Wbf;rw[if_pos h0]
 have hQ:0<=(if x.busy=true then x.pb.2.1 else 0)/\(if x.busy=true then x.pb.2.1 else 0)<=2:=by
  split
  .have:=ht.pb ‹_›;omega
  .omega
 have cM:∀y:Kd,y.phase=0->y.pc=x.pc+1->y.busy=x.busy->y.pb=x.pb->Wbf y<Wbf x:=λy a b c d=>by
  unfold Wbf;rw[if_pos a,if_pos h0,b,c,d];omega
 unfold Wej;cases Wbc x.writes o.2.2.1 with
 |some v=>exact .run h0 rfl (.inl h0) (cM _ h0 rfl rfl rfl) ht.pb ht.seen
 |none=>
  simp only;cases he:ent f.buf o.2.2.1 with
  |some r=>
   simp only;have hr:=WcZ he;have mZ:r.2∈f.buf:=List.mem_of_getElem? hr.2.2.2;split
   .exact .again h0 (by have:=(hF.bufE _ mZ).2.2;omega)
   .refine .run h0 rfl (.inl h0) (cM _ h0 rfl rfl rfl) ht.pb λhs e c7=>?_;rcases Xm.1 c7 with c7|c7
    .exact ht.seen hs e c7
    .rw[Xz]at c7;subst c7;have hc:r.2.1=o.2.2.1:=eq_of_beq hr.1;unfold WvZ;rw[hc,he]
  |none=>
   simp only;have hp:0<=(if x.busy=true then x.pb else(o.2.2.1,0,0,0)).2.1/\(if x.busy=true then x.pb else(o.2.2.1,0,0,0)).2.1<=2:=by
    split
    .have:=ht.pb ‹_›;omega
    .simp
   have ge:(if x.busy=true then x.pb else(o.2.2.1,0,0,0)).2.1=(if x.busy=true then x.pb.2.1 else 0):=by split<;>rfl
   have hs:=WnU (m:=m) (rv:=f.rv) hp;rw[ge]at hs;generalize WV m f.rv (if x.busy=true then x.pb else(o.2.2.1,0,0,0))=p at*;split
   .exact .lost rfl
   .split
    .refine .run h0 rfl (.inl h0) ?_ (λh=>by cases h) λAa e c7=>?_
     .rw[hl];show(if x.phase=0 then 75-3*(x.pc+1) -0 else 0)<_;rw[if_pos h0];omega
     .rcases Xm.1 c7 with c7|c7
      .exact ht.seen Aa e c7
      .rw[Xz]at c7;subst c7;unfold WvZ;rw[he]
    .refine .run h0 rfl (.inl h0) ?_ (λ_=>by show p.2.1=1\/p.2.1=2;omega) ht.seen;rw[hl];show(if x.phase=0 then 75-3*x.pc-p.2.1 else 0)<_;rw[if_pos h0];omega
theorem Wwy(bb:KC code)(hF:FOk codes n f)(h:KOk code f.clock n x)(h0:x.phase=0)(ht:KT f k x):KO f k x (WqK m f x code):=by
 have aG:=bb.toCC;have hlen:=aG.len;have hl:Wbf x=75-3*x.pc-(if x.busy=true then x.pb.2.1 else 0):=by unfold Wbf;rw[if_pos h0]
 have hQ:0<=(if x.busy=true then x.pb.2.1 else 0)/\(if x.busy=true then x.pb.2.1 else 0)<=2:=by
  split
  .have:=ht.pb ‹_›;omega
  .omega
 have Ab:=h.pc;have tu:∀y:Kd,y.phase=1->Wbf y<Wbf x:=λy a=>by unfold Wbf at*;rw[if_neg (by omega),hl];omega
 have cM:∀y:Kd,y.phase=0->x.pc+1<=y.pc->y.busy=x.busy->y.pb=x.pb->Wbf y<Wbf x:=λy a b c d=>by
  unfold Wbf;rw[if_pos a,if_pos h0,c,d];omega
 unfold WqK;split
 .exact .run h0 rfl (.inr rfl) (tu _ rfl) ht.pb ht.seen
 .obtain⟨i,hi,aF,ho⟩:=Wfk (l:=code) h.pc.1 (by have:=h.pc;omega);simp only[ho];have hM:=h.marks h0;rw[aF,Xj]at hM;split
  .exact Wu8 hF h h0 ht (by omega)
  .split
   .unfold Wh9;split
    .exact .run h0 rfl (.inr rfl) (tu _ rfl) ht.pb ht.seen
    .obtain⟨j,q,y,e1,e2,e3,⟨hj,h8⟩,qo,cL,ge,e5,e6⟩:=Who (d:=((0,0,[]):KM)) aG (show i<=code.length by omega) hM.pcs ‹_›;refine .run h0 rfl (.inl h0) (cM _ h0 ?_ rfl rfl) ht.pb ht.seen;simp only[e2,e3,Xj];omega
   .split
    .exact .run h0 rfl (.inl h0) (cM _ h0 (Xp _) rfl rfl) ht.pb ht.seen
    .split
     .have hk:=Wv8 (bb.ok i hi).1 ‹_›;refine .run h0 rfl (.inl h0) (cM _ h0 ?_ rfl rfl) ht.pb ht.seen;show x.pc+1<=(if Wbi x.regs code[i].2.1 0=0 then x.pc+code[i].2.2.1 else x.pc)+1;split<;>omega
     .split
      .exact .run h0 rfl (.inl h0) (cM _ h0 (Xp _) rfl rfl) ht.pb ht.seen
      .split
       .exact .run h0 rfl (.inl h0) (cM _ h0 (Xp _) rfl rfl) ht.pb ht.seen
       .exact .run h0 rfl (.inl h0) (cM _ h0 (Xp _) rfl rfl) ht.pb ht.seen
theorem Wrr(bb:KC code)(hF:FOk codes n f)(h:KOk code f.clock n x)(ht:KT f k x):KO f k x (Wei m f x k code):=by
 have aR:=h.phase;unfold Wei;split
 .exact Wwy bb hF h ‹_› ht
 .split
  .split
   .exact .ask ‹_› ‹_›
   .exact .wait ‹_› ‹_›
  .split
   .split
    .exact .merge ‹_›
    .have hp:=h.pos;have hlt:x.pos<x.seen.length:=by omega
     simp only;split
     .exact .look ‹_› hlt
     .rename_i hne;refine .fail ‹_› ?_;have hs:=h.since;by_cases he:x.since=f.clock
      .exfalso;apply hne;have hg:Wbi x.seen x.pos (0,0,0)=x.seen[x.pos.toNat]'(by omega):=Wf (by omega) _;rw[hg];exact ht.seen he _ (Xq _)
      .omega
   .exact .done (by omega)
end
section
def WaD(x:Kd):Int:=if x.phase=3 then 0 else 1
def Wby(c:Int)(x:Kd):Int:=if x.phase≠3/\x.since<c then 1 else 0
def WN(c:Int)(x:Kd):Int:=Wbm x+26*Wby c x
def Wc5(g:Kd->Int)(l:List Kd):Int:=(l.map g).sum
def tri(u:Int):Int:=if u<=1 then 0 else if u=2 then 1 else 3
def Wff(f:Fm):Int:=Wc5 WaD f.kids
def fQ(f:Fm):Int:=Wc5 (WN f.clock) f.kids+26*tri (Wff f)
def fP(f:Fm)(x:Kd):Int:=Wbf x+75*(Wby f.clock x+(Wff f-1))
theorem WbO{g:Kd->Int}{y:Kd}:∀{l:List Kd} {k:Nat} (h:k<l.length),Wc5 g (l.set k y)=Wc5 g l-g l[k]+g y
 |x::l,0,h=>by simp[Wc5];omega
 |x::l,k+1,h=>by
  have:=WbO (g:=g) (y:=y) (l:=l) (k:=k) (by simpa using h);simp only[Wc5,List.set_cons_succ,Xaj,Xca,List.getElem_cons_succ]at*;omega
theorem Wit{g h:Kd->Int}:∀{l:List Kd},(∀x∈l,g x<=h x)->Wc5 g l<=Wc5 h l
 | [],_=>by simp[Wc5]
 |x::l,hl=>by
  have:=Wit (l:=l) λy hy=>hl y (Xe _ hy);have:=hl x (Xi ..);simp only[Wc5,Xaj,Xca]at*;omega
theorem Wkj{g h:Kd->Int}{a:Int}:∀{l:List Kd},Wc5 (λx=>g x+a*h x) l=Wc5 g l+a*Wc5 h l
 | []=>by simp[Wc5]
 |x::l=>by
  have:=Wkj (g:=g) (h:=h) (a:=a) (l:=l);simp only[Wc5,Xaj,Xca,Int.mul_add]at*;omega
theorem Wph(x:Kd):0<=WaD x/\WaD x<=1:=by unfold WaD;split<;>omega
theorem Wcm(c:Int)(x:Kd):0<=Wby c x/\Wby c x<=WaD x:=by
 unfold Wby WaD;by_cases h:x.phase=3
 .rw[if_neg (by omega),if_pos h];omega
 .rw[if_neg h];split<;>omega
theorem Wln(f:Fm):0<=Wff f/\Wff f<=f.kids.length:=by
 unfold Wff;have:∀l:List Kd,0<=Wc5 WaD l/\Wc5 WaD l<=l.length:=λl=>by
  induction l with
  |nil=>simp[Wc5]
  |cons x l ih=>
   have:=Wph x;simp only[Wc5,Xaj,Xca,Xu]at*;omega
 exact this f.kids
theorem WeG{code:List Opn}{c n:Int}{x:Kd}(h:KOk code c n x)(hl:code.length<=24):0<=Wbm x/\Wbm x<=26/\(x.phase=2->1<=Wbm x/\Wbm x<=25)/\((x.phase=0\/x.phase=1)->Wbm x=26):=by
 have hp:=h.pos;have hs:=h.sl;have aF:=h.pc;have aR:=h.phase;unfold Wbm;split
 .omega
 .split<;>omega
theorem WkW{code:List Opn}{c n:Int}{x:Kd}(h:KOk code c n x)(hl:code.length<=24)(hb:x.busy=true->x.pb.2.1=1\/x.pb.2.1=2):0<=Wbf x/\Wbf x<=75/\(x.phase=0->1<=Wbf x):=by
 have aF:=h.pc;unfold Wbf;split
 .split
  .have:=hb ‹_›;omega
  .omega
 .omega
structure KD(f:Fm)(k:Nat)(q:Fm×Kd):Prop where
 le:fQ (Fm.put q k)<=fQ f
 p:∀(j:Nat) (h:j<f.kids.length) (h':j<(Fm.put q k).kids.length),WaD (Fm.put q k).kids[j]=1->fP (Fm.put q k) (Fm.put q k).kids[j]<=fP f f.kids[j]/\WaD f.kids[j]=1
variable{codes:List (List Opn)}{n:Int}{f:Fm}{x y:Kd}{k:Nat}{q:Fm×Kd}{code:List Opn}
theorem WgR(h:k<f.kids.length)(hk:q.1.kids=f.kids){j:Nat}(hj:j<f.kids.length)(h':j<(Fm.put q k).kids.length):(Fm.put q k).kids[j]=if k=j then q.2 else f.kids[j]:=by
 show(q.1.kids.set k q.2)[j]=_;simp only[hk,Xao]
theorem WfI(hk:k<f.kids.length)(h1:q.1.kids=f.kids)(hc:q.1.clock=f.clock)(hu:WaD q.2=WaD f.kids[k])(hs:WN f.clock q.2<=WN f.clock f.kids[k])(hp:WaD q.2=1->Wbf q.2+75*Wby f.clock q.2<=Wbf f.kids[k]+75*Wby f.clock f.kids[k]):
  KD f k q/\Wff (Fm.put q k)=Wff f/\fQ (Fm.put q k)=fQ f-WN f.clock f.kids[k]+WN f.clock q.2:=by
 have e1:(Fm.put q k).kids=f.kids.set k q.2:=by show q.1.kids.set k q.2=_;rw[h1]
 have e2:(Fm.put q k).clock=f.clock:=hc;have e3:Wff (Fm.put q k)=Wff f:=by unfold Wff;rw[e1,WbO hk,hu];omega
 have e4:fQ (Fm.put q k)=fQ f-WN f.clock f.kids[k]+WN f.clock q.2:=by unfold fQ;rw[e1,e2,e3,WbO hk];omega
 refine⟨⟨by rw[e4];omega,λj h h' hj=>?_⟩,e3,e4⟩;have hg:=WgR hk h1 h h';rw[hg]at hj⊢;unfold fP;rw[e2,e3];by_cases he:k=j
 .subst he;rw[if_pos rfl]at hj⊢;have:=hp hj;rw[hu]at hj;exact⟨by omega,hj⟩
 .rw[if_neg he]at hj⊢;exact⟨Xp _,hj⟩
end
section
structure KE(f:Fm)(k:Nat)(x:Kd)(q:Fm×Kd):Prop where
 d:KD f k q
 s0:x.phase=0->WaD q.2=1->fP (Fm.put q k) q.2<fP f x
 s2:x.phase=2->fQ (Fm.put q k)<fQ f
 s1:x.phase=1->f.owner=0->fQ (Fm.put q k)<fQ f
 own:q.1.owner=f.owner\/q.1.owner=0\/(q.1.owner=(k:Int)+1/\x.phase=1/\f.owner=0)
 kids:q.1.kids=f.kids
 kt:∀(j:Nat) (h:j<(Fm.put q k).kids.length),KT (Fm.put q k) j (Fm.put q k).kids[j]
variable{codes:List (List Opn)}{n:Int}{f:Fm}{x y:Kd}{k:Nat}{q:Fm×Kd}{code:List Opn}{m:Mm}
theorem Wlh(h:q.1.kids=f.kids):(Fm.put q k).kids.length=f.kids.length:=by show(q.1.kids.set k q.2).length=_;rw[h,Xad]
theorem Wfx(hk:k<f.kids.length)(hT:∀(j:Nat) (h:j<f.kids.length),KT f j f.kids[j])(h1:q.1.kids=f.kids)(hc:q.1.clock=f.clock)(hb:q.1.buf=f.buf)(ho:∀j:Nat,j≠k->(q.1.owner=(j:Int)+1↔f.owner=(j:Int)+1))(hy:KT q.1 k q.2):
  ∀(j:Nat) (h:j<(Fm.put q k).kids.length),KT (Fm.put q k) j (Fm.put q k).kids[j]:=λj h=>by
 have hj:j<f.kids.length:=by rw[Wlh h1]at h;exact h
 rw[WgR hk h1 hj h];by_cases he:k=j
 .subst he;rw[if_pos rfl];exact⟨hy.pb,hy.own,hy.seen⟩
 .rw[if_neg he];have ht:=hT j hj;refine⟨ht.pb,?_,λhs e c7=>?_⟩
  .show q.1.owner=(j:Int)+1↔_;rw[ho j (λh=>he h.symm)];exact ht.own
  .show WvZ q.1.buf e.1=e.2.2;rw[hb];exact ht.seen (hs.trans hc) e c7
theorem Wcj(h:x.phase≠3):WaD x=1:=by unfold WaD;rw[if_neg h]
theorem Wkq(h:x.phase≠3)(hy:y.phase≠3)(hs:y.since=x.since)(c:Int):Wby c y=Wby c x:=by
 unfold Wby;rw[hs];by_cases hh:x.since<c
 .rw[if_pos ⟨hy,hh⟩,if_pos ⟨h,hh⟩]
 .rw[if_neg (λz=>hh z.2),if_neg (λz=>hh z.2)]
theorem Wch:Wby f.clock (f.again x)=0:=by unfold Wby Fm.again;simp
theorem WfV:Wbf (f.again x)=75:=by unfold Wbf Fm.again;simp
theorem Wes:Wbm (f.again x)=26:=by unfold Wbm Fm.again;simp
theorem WqV(h:x.phase≠3)(hs:x.since<f.clock):Wby f.clock x=1:=by unfold Wby;rw[if_pos ⟨h,hs⟩]
theorem Wpe{c:Int}:∀{l:List Kd},Wc5 (WN (c+1)) l<=Wc5 (WN c) l+26*Wc5 WaD l:=λ{l}=>by
 have h1:Wc5 (WN (c+1)) l<=Wc5 (λx=>WN c x+26*WaD x) l:=Wit λx _=>by
  have a:=Wcm (c+1) x;have b:=Wcm c x;unfold WN;omega
 rw[Wkj]at h1;exact h1
theorem WtI{u:Int}(h:1<=u/\u<=3):tri u=tri (u-1)+(u-1):=by
 unfold tri;have:u=1\/u=2\/u=3:=by omega
 rcases this with rfl|rfl|rfl<;>decide
theorem WwR(hk:k<f.kids.length)(h3:f.kids.length<=3)(hl:∀c∈codes,c.length<=24)(hF:FOk codes n f)(hT:∀(j:Nat) (h:j<f.kids.length),KT f j f.kids[j])(hx:f.kids[k]=x)(ho:KO f k x q):
  q.1.lost=true\/KE f k x q:=by
 have hlen:(codes.getD k []).length<=24:=by
  have cy:k<codes.length:=by rw[←hF.len];exact hk
  rw[Wf cy];exact hl _ (Xq _)
 have hK:=hF.kid k hk;rw[hx]at hK;have ht:=hT k hk;rw[hx]at ht;obtain⟨c1,c2,c3,c4⟩:=WeG hK hlen;obtain⟨l1,l2,l3⟩:=WkW hK hlen ht.pb;have uw:=Wcm f.clock x;cases ho with
 |lost h=>exact .inl h
 |run h0 hs hp hlt hb hse=>
  rename_i y;refine .inr ?_;have wK:y.phase≠3:=by omega
  have dV:x.phase≠3:=by omega
  have ay:=Wkq dV wK hs f.clock;have hch:Wbm y=26:=by unfold Wbm;rw[if_neg wK,if_neg (by omega)]
  obtain⟨d1,d2,d3⟩:=WfI (q:=(f,y)) hk rfl rfl (by rw[hx];rw[Wcj dV];exact Wcj wK) (by rw[hx];show WN f.clock y<=_;unfold WN;rw[ay];omega) (λ_=>by rw[hx];show Wbf y+75*Wby f.clock y<=_;rw[ay];omega);refine⟨d1,λ_ _=>?_,λh=>by omega,λh=>by omega,.inl rfl,rfl,Wfx hk hT rfl rfl rfl (λ_ _=>Iff.rfl) ⟨hb,?_,λh=>hse (hs▸h)⟩⟩
  .unfold fP;rw[d2];show Wbf y+75*(Wby f.clock y+_)<_;rw[ay];omega
  .show f.owner=(k:Int)+1↔y.phase=2;rw[ht.own];omega
 |again h0 hs=>
  refine .inr ?_;have dV:x.phase≠3:=by omega
  have mJ:=WqV dV hs;obtain⟨d1,d2,d3⟩:=WfI (q:=(f,f.again x)) hk rfl rfl (by rw[hx];rw[Wcj dV];exact Wcj (by show(0:Int)≠3;omega)) (by rw[hx];show WN f.clock (f.again x)<=_;unfold WN;rw[Wch,Wes];omega) (λ_=>by rw[hx];show Wbf (f.again x)+75*Wby f.clock (f.again x)<=_;rw[Wch,WfV];omega);refine⟨d1,λ_ _=>?_,λh=>by omega,λh=>by omega,.inl rfl,rfl,Wfx hk hT rfl rfl rfl (λ_ _=>Iff.rfl) ⟨(λh=>by cases h),?_,(λh e he=>by cases he)⟩⟩
  .unfold fP;rw[d2];show Wbf (f.again x)+75*(Wby f.clock (f.again x)+_)<_;rw[Wch,WfV];have:=l3 h0;omega
  .show f.owner=(k:Int)+1↔(0:Int)=2;rw[ht.own];omega
 |fail h2 hs=>
  refine .inr ?_;have dV:x.phase≠3:=by omega
  have mJ:=WqV dV hs;have c:=c3 h2;obtain⟨d1,d2,d3⟩:=WfI (q:=({f with owner:=0},f.again x)) hk rfl rfl (by rw[hx];rw[Wcj dV];exact Wcj (by show(0:Int)≠3;omega)) (by rw[hx];show WN f.clock (f.again x)<=_;unfold WN;rw[Wch,Wes];omega) (λ_=>by rw[hx];show Wbf (f.again x)+75*Wby f.clock (f.again x)<=_;rw[Wch,WfV];omega);have qx:=ht.own.2 h2;refine⟨d1,λh=>by omega,λ_=>?_,λh=>by omega,.inr (.inl rfl),rfl,Wfx hk hT rfl rfl rfl (λj hj=>?_) ⟨(λh=>by cases h),?_,(λh e he=>by cases he)⟩⟩
  .rw[d3,hx];show fQ f-WN f.clock x+WN f.clock (f.again x)<fQ f;unfold WN;rw[Wch,Wes];omega
  .show(0:Int)=(j:Int)+1↔f.owner=(j:Int)+1;omega
  .show(0:Int)=(k:Int)+1↔(0:Int)=2;omega
 |ask h1 h0=>
  refine .inr ?_;have dV:x.phase≠3:=by omega
  have ay:Wby f.clock ({x with phase:=2}:Kd)=Wby f.clock x:=Wkq (x:=x) (y:={x with phase:=2}) dV (by show(2:Int)≠3;omega) rfl _;have hp:=hK.pos;have hch:Wbm ({x with phase:=2}:Kd)=25-x.pos:=rfl;have Ad:=c4 (.inr h1);have jH:Wbf ({x with phase:=2}:Kd)=0:=rfl;obtain⟨d1,d2,d3⟩:=WfI (q:=({f with owner:=(k:Int)+1},{x with phase:=2})) hk rfl rfl (by rw[hx];rw[Wcj dV];rfl) (by rw[hx];show WN f.clock ({x with phase:=2}:Kd)<=_;unfold WN;rw[ay,hch];omega) (λ_=>by rw[hx];show Wbf ({x with phase:=2}:Kd)+75*Wby f.clock ({x with phase:=2}:Kd)<=_;rw[ay,jH];omega);refine⟨d1,λh=>by omega,λh=>by omega,λ_ _=>?_,.inr (.inr ⟨rfl,h1,h0⟩),rfl,Wfx hk hT rfl rfl rfl (λj hj=>?_) ⟨ht.pb,?_,ht.seen⟩⟩
  .rw[d3,hx];show fQ f-WN f.clock x+WN f.clock ({x with phase:=2}:Kd)<fQ f;unfold WN;rw[ay,hch];omega
  .show(k:Int)+1=(j:Int)+1↔f.owner=(j:Int)+1;omega
  .show(k:Int)+1=(k:Int)+1↔(2:Int)=2;simp
 |wait h1 h0=>
  refine .inr ?_;have dV:x.phase≠3:=by omega
  obtain⟨d1,d2,d3⟩:=WfI (q:=(f,x)) hk rfl rfl (by rw[hx]) (by rw[hx];exact Xp _) (λ_=>by rw[hx];exact Xp _);exact⟨d1,λh=>by omega,λh=>by omega,λ_ h=>absurd h h0,.inl rfl,rfl,Wfx hk hT rfl rfl rfl (λ_ _=>Iff.rfl) ht⟩
 |done cS=>
  refine .inr ?_;obtain⟨d1,d2,d3⟩:=WfI (q:=(f,x)) hk rfl rfl (by rw[hx]) (by rw[hx];exact Xp _) (λ_=>by rw[hx];exact Xp _);exact⟨d1,λh=>by omega,λh=>by omega,λh=>by omega,.inl rfl,rfl,Wfx hk hT rfl rfl rfl (λ_ _=>Iff.rfl) ht⟩
 |look h2 hlt=>
  refine .inr ?_;have dV:x.phase≠3:=by omega
  have ay:Wby f.clock ({x with pos:=x.pos+1}:Kd)=Wby f.clock x:=Wkq dV dV rfl _;have hch:Wbm ({x with pos:=x.pos+1}:Kd)=Wbm x-1:=by
   unfold Wbm;show(if x.phase=3 then 0 else if x.phase=2 then 25-(x.pos+1)else 26)=_;rw[if_neg dV,if_neg dV,if_pos h2,if_pos h2];omega
  have jH:Wbf ({x with pos:=x.pos+1}:Kd)=Wbf x:=rfl;obtain⟨d1,d2,d3⟩:=WfI (q:=(f,{x with pos:=x.pos+1})) hk rfl rfl (by rw[hx];rfl) (by rw[hx];show WN f.clock ({x with pos:=x.pos+1}:Kd)<=_;unfold WN;rw[ay,hch];omega) (λ_=>by rw[hx];show Wbf ({x with pos:=x.pos+1}:Kd)+75*Wby f.clock ({x with pos:=x.pos+1}:Kd)<=_;rw[ay,jH];omega);refine⟨d1,λh=>by omega,λ_=>?_,λh=>by omega,.inl rfl,rfl,Wfx hk hT rfl rfl rfl (λ_ _=>Iff.rfl) ⟨ht.pb,ht.own,ht.seen⟩⟩;rw[d3,hx];show fQ f-WN f.clock x+WN f.clock ({x with pos:=x.pos+1}:Kd)<fQ f;unfold WN;rw[ay,hch];omega
 |merge h2=>
  refine .inr ?_;have dV:x.phase≠3:=by omega
  have c:=c3 h2;obtain⟨z,hz⟩:∃z,z=(Wdb f x k).2:=⟨_,rfl⟩;have z3:z.phase=3:=by rw[hz];rfl
  have uB:WaD z=0:=by unfold WaD;rw[if_pos z3]
  have tZ:WaD x=1:=Wcj dV;have e1:(Fm.put (Wdb f x k) k).kids=f.kids.set k z:=by rw[hz];rfl
  have e2:(Fm.put (Wdb f x k) k).clock=f.clock+1:=rfl;have e3:Wff (Fm.put (Wdb f x k) k)=Wff f-1:=by unfold Wff;rw[e1,WbO hk,hx,uB,tZ];omega
  have hs0:WN (f.clock+1) z=0:=by unfold WN Wbm Wby;rw[if_pos z3,if_neg (by omega)];rfl
  have Ae:=Wln f;have wL:=Wln (Fm.put (Wdb f x k) k);rw[e3]at wL;have e4:fQ (Fm.put (Wdb f x k) k)<fQ f:=by
   unfold fQ;rw[e1,e2,e3,WbO hk,hs0,hx];have Af:=Wpe (c:=f.clock) (l:=f.kids);have h1:=Wpe (c:=f.clock) (l:=f.kids.set k z);rw[WbO hk,WbO hk,WbO hk,hx,hs0,uB,tZ]at h1;have qs:WN f.clock z=0:=by unfold WN Wbm Wby;rw[if_pos z3,if_neg (by omega)];rfl
   rw[qs]at h1;have lK:=WtI (u:=Wff f) (by omega);have tv:1<=WN f.clock x:=by unfold WN;omega
   have kq:Wc5 WaD f.kids=Wff f:=rfl;rw[kq]at h1;omega
  refine⟨⟨Int.le_of_lt e4,λj h h' hj=>?_⟩,λh=>by omega,λ_=>e4,λh=>by omega,.inr (.inl rfl),rfl,λj h=>?_⟩
  .have hg:=WgR (q:=Wdb f x k) hk rfl h h';rw[hg]at hj⊢;by_cases he:k=j
   .rw[if_pos he,←hz,uB]at hj;omega
   .rw[if_neg he]at hj⊢;refine⟨?_,hj⟩;unfold fP;rw[e2,e3];have a:=Wcm (f.clock+1) f.kids[j];have b:=Wcm f.clock f.kids[j];have:=Wph f.kids[j];omega
  .have hj:j<f.kids.length:=by rw[Wlh (q:=Wdb f x k) rfl]at h;exact h
   rw[WgR (q:=Wdb f x k) hk rfl hj h];have qx:=ht.own.2 h2;by_cases he:k=j
   .subst he;rw[if_pos rfl];refine⟨ht.pb,?_,λhs=>?_⟩
    .show(0:Int)=(k:Int)+1↔(3:Int)=2;omega
    .have:=hK.since;change x.since=f.clock+1 at hs;omega
   .rw[if_neg he];have yl:=hT j hj;refine⟨yl.pb,?_,λhs=>?_⟩
    .show(0:Int)=(j:Int)+1↔_;rw[←yl.own];omega
    .have:=(hF.kid j hj).since;change f.kids[j].since=f.clock+1 at hs;omega
end
section
def Wb2(m:Mm)(codes:List (List Opn)):Nat->Nat->Fm->Fm
 |0,_,f=>f
 |d+1,i,f=>Wb2 m codes d (i+1) (WcD m f i (codes.getD i []))
structure FmR(f:Fm)(i:Nat)(g:Fm):Prop where
 len:g.kids.length=f.kids.length
 le:fQ g<=fQ f
 kt:∀(j:Nat) (h:j<g.kids.length),KT g j g.kids[j]
 p:∀(j:Nat) (h:j<f.kids.length) (h':j<g.kids.length),WaD g.kids[j]=1->WaD f.kids[j]=1/\fP g g.kids[j]<=fP f f.kids[j]/\
  (i<=j->fP g g.kids[j]+fQ g<fP f f.kids[j]+fQ f\/(f.kids[j].phase=1/\∃k:Nat,k<i/\f.owner=(k:Int)+1))
 chk:∀(k:Nat) (h:k<f.kids.length),i<=k->f.kids[k].phase=2->fQ g<fQ f
variable{codes:List (List Opn)}{n:Int}{f g:Fm}{m:Mm}{k:Nat}
theorem Wg3{code:List Opn}(h:f.lost=true):WcD m f k code=f:=by unfold WcD;rw[if_pos h]
theorem WdX:∀(d i:Nat) (f:Fm),f.lost=true->Wb2 m codes d i f=f
 |0,_,_,_=>rfl
 |d+1,i,f,h=>by rw[Wb2,Wg3 h];exact WdX d (i+1) f h
theorem Wsh(hm:WY m=true)(bb:∀c∈codes,KC c)(h3:codes.length<=3):∀(d i:Nat) (n:Int) (f:Fm),i+d=codes.length->FOk codes n f->(∀(j:Nat) (h:j<f.kids.length),KT f j f.kids[j])->
  (Wb2 m codes d i f).lost=true\/FmR f i (Wb2 m codes d i f)
 |0,i,n,f,hi,hF,hT=>.inr ⟨rfl,Xp _,hT,λj h h' hj=>⟨hj,Xp _,λhij=>by have:=hF.len;simp only[Wb2]at h';omega⟩,λk h lj=>by have:=hF.len;omega⟩
 |d+1,i,n,f,hi,hF,hT=>by
  have hlen:=hF.len;have hk:i<f.kids.length:=by omega
  have tw:i<codes.length:=by omega
  by_cases bz:f.lost=true
  .exact .inl (by rw[WdX _ _ _ bz];exact bz)
  rw[Wb2];have aK:codes.getD i []=codes[i]:=Wf tw _;have hKC:=bb _ (Xq tw);have hKO:=hF.kid i hk;rw[aK]at hKO;have ho:=Wrr (m:=m) hKC hF hKO (hT i hk);obtain hE:=WwR hk (by omega) (λc hc=>(bb c hc).toCC.len) hF hT rfl ho;have ay:WcD m f i (codes.getD i [])=Fm.put (Wei m f f.kids[i] i codes[i]) i:=by
   unfold WcD;rw[if_neg bz,aK,show f.kids.getD i {}=f.kids[i]from Wf hk _]
  have hF1:FOk codes (n+1) (WcD m f i (codes.getD i [])):=by
   rw[aK];exact Wlx hk hm hKC hF aK
  rw[ay]at hF1⊢;rcases hE with hE|hE
  .left;have:(Fm.put (Wei m f f.kids[i] i codes[i]) i).lost=true:=hE;rw[WdX _ _ _ this];exact this
  generalize Wei m f f.kids[i] i codes[i]=q at*;have aT:(Fm.put q i).kids.length=f.kids.length:=Wlh hE.kids;have ca:=λ(j:Nat) (hj:j<f.kids.length)=>WgR (q:=q) hk hE.kids hj (by rw[aT];exact hj);have tU:(Fm.put q i).owner=q.1.owner:=rfl;rcases Wsh hm bb h3 d (i+1) (n+1) (Fm.put q i) (by omega) hF1 hE.kt with hI|hI
  .exact .inl hI
  right;refine⟨hI.len.trans aT,Xey hI.le hE.d.le,hI.kt,λj h h' hj=>?_,λk h lj h2=>?_⟩
  .have ym:j<(Fm.put q i).kids.length:=by rw[aT];exact h
   obtain⟨a1,a2,a3⟩:=hI.p j ym h' hj;obtain⟨b1,b2⟩:=hE.d.p j h ym a1;refine⟨b2,Xey a2 b1,λhij=>?_⟩;have hle:=hI.le;have rJ:=hE.d.le;by_cases he:i=j
   .subst he;have hg:=ca i h;rw[if_pos rfl]at hg;rw[hg]at a1 a2 b1;have aR:=hKO.phase;have dV:f.kids[i].phase≠3:=λh3=>by unfold WaD at b2;rw[if_pos h3]at b2;omega
    by_cases p0:f.kids[i].phase=0
    .have:=hE.s0 p0 a1;left;omega
    by_cases p2:f.kids[i].phase=2
    .have:=hE.s2 p2;left;omega
    have p1:f.kids[i].phase=1:=by omega
    by_cases o0:f.owner=0
    .have:=hE.s1 p1 o0;left;omega
    have qx:=hF.owner;obtain⟨k,fv⟩:∃k:Nat,f.owner=(k:Int)+1:=⟨(f.owner-1).toNat,by omega⟩;by_cases jz:k<i
    .exact .inr ⟨p1,k,jz,fv⟩
    have jH:k<f.kids.length:=by omega
    have oe:=(hT k jH).own.1 fv;have hne:k≠i:=λe=>by subst e;omega
    have ud:=ca k jH;rw[if_neg (λe=>hne e.symm)]at ud;have:=hI.chk k (by rw[aT];exact jH) (by omega) (by rw[ud];exact oe);left;omega
   .have hg:=ca j h;rw[if_neg he]at hg;rcases a3 (by omega)with hlt|⟨p1,k,jg,fv⟩
    .left;omega
    .rw[hg]at p1;rw[tU]at fv;rcases hE.own with h0|h0|⟨h0,p,o⟩
     .rw[h0]at fv;by_cases jz:k<i
      .exact .inr ⟨p1,k,jz,fv⟩
      .have:k=i:=by omega
       subst this;have:=hE.s2 ((hT k hk).own.1 fv);left;omega
     .omega
     .have:=hE.s1 p o;left;omega
  .by_cases he:i=k
   .subst he;exact Xct hI.le (hE.s2 h2)
   .have hg:=ca k h;rw[if_neg he]at hg;exact Int.lt_of_lt_of_le (hI.chk k (by rw[aT];exact h) (by omega) (by rw[hg];exact h2)) hE.d.le
end
section
def W9(c:Cm):Int:=
 if c.phase=1 then 3*c.puts.length-c.pos+1+c.reads.length else
 if c.phase=2 then 1+c.reads.length+2*c.puts.length else
 if c.phase=3 then c.reads.length-c.pos+2*c.puts.length else
 if c.phase=4 then 2*c.puts.length-c.pos else
 if c.phase=5 then c.puts.length-c.pos else
 if c.phase=7 then c.pos+1 else 0
section
variable{c:Cm}{m:Mm}{n ph:Int}
theorem Wgz(h:CmOk c):0<=W9 c/\W9 c<=33/\(c.phase≠6->c.phase≠8->1<=W9 c):=by
 have hp:=h.phase;have h1:=h.plen;have h2:=h.rlen;have h3:=h.pos;unfold Cm.steps at h3;unfold W9;have:c.phase=1\/c.phase=2\/c.phase=3\/c.phase=4\/c.phase=5\/c.phase=6\/c.phase=7\/c.phase=8:=by omega
 rcases this with h|h|h|h|h|h|h|h<;>(rw[h]at h3⊢;simp at h3⊢;try omega)
theorem Wb5(h:0<=n):W9 (WS c n)=n:=by
 unfold WS;split
 .rename_i h0;rw[h0];rfl
 .show(if(7:Int)=1 then _ else if(7:Int)=2 then _ else if(7:Int)=3 then _ else if(7:Int)=4 then _ else if(7:Int)=5 then _ else if(7:Int)=7 then n-1+1 else 0)=n;simp
theorem Wj1(h:ph=2\/ph=3\/ph=4\/ph=5\/ph=6):W9 (Wco c ph)<=if ph=2 then 1+c.reads.length+2*c.puts.length else if ph=3 then c.reads.length+2*c.puts.length else if ph=4 then 2*c.puts.length else if ph=5 then c.puts.length else 0:=by
 obtain⟨a,ha⟩:∃a,Wal c ph=a:=⟨_,rfl⟩;have:a=ph\/a=6\/(ph=3/\a=4):=by
  unfold Wal at ha;split at ha
  .omega
  .split at ha<;>omega
 have e:W9 (Wco c ph)=W9 {c with phase:=a,pos:=0}:=by unfold Wco;rw[ha]
 rw[e];unfold W9;simp only;rcases h with rfl|rfl|rfl|rfl|rfl<;>rcases this with rfl|rfl|⟨_,rfl⟩<;>simp<;>omega
theorem WdP(h:CmOk c)(hp:c.phase=1/\ph=2\/c.phase=3/\ph=4\/c.phase=4/\ph=5\/c.phase=5/\ph=6):W9 (Wh c ph)<W9 c:=by
 have h3:=h.pos;have hb:=Wj1 (c:=c) (ph:=ph) (by omega);unfold Cm.steps at h3;unfold Wh;split
 .rename_i hs;refine Xct hb ?_;unfold Cm.steps at hs;unfold W9;rcases hp with⟨a,rfl⟩|⟨a,rfl⟩|⟨a,rfl⟩|⟨a,rfl⟩<;>(rw[a]at h3 hs⊢;simp at h3 hs⊢;omega)
 .unfold W9;simp only;rcases hp with⟨a,rfl⟩|⟨a,rfl⟩|⟨a,rfl⟩|⟨a,rfl⟩<;>(rw[a];simp;omega)
theorem WnR(h:CmOk c)(h6:c.phase≠6)(h8:c.phase≠8):W9 (Wi m c).2<W9 c:=by
 have hp:=h.phase;have h1:=h.plen;have h2:=h.rlen;have h3:=h.pos;unfold Cm.steps at h3;unfold Wi;simp only;by_cases p1:c.phase=1
 .rw[if_pos p1];split
  .exact WdP h (.inl ⟨p1,rfl⟩)
  .show W9 (WS c c.pos)<_;rw[Wb5 h3.1];unfold W9;rw[p1]at h3⊢;simp at h3⊢;omega
 rw[if_neg p1];by_cases p2:c.phase=2
 .rw[if_pos p2];split
  .show W9 (WS c c.puts.length)<_;rw[Wb5 (by omega)];unfold W9;rw[p2]at h3⊢;simp at h3⊢;omega
  .refine Xct (Wj1 (c:={c with wv:=(tick m).2}) (.inr (.inl rfl))) ?_;unfold W9;rw[p2]at h3⊢;simp at h3⊢;omega
 rw[if_neg p2];by_cases p3:c.phase=3
 .rw[if_pos p3];split
  .show W9 (WS c c.puts.length)<_;rw[Wb5 (by omega)];unfold W9;rw[p3]at h3⊢;simp at h3⊢;omega
  .exact WdP h (.inr (.inl ⟨p3,rfl⟩))
 rw[if_neg p3];by_cases p4:c.phase=4
 .rw[if_pos p4];exact WdP h (.inr (.inr (.inl ⟨p4,rfl⟩)))
 rw[if_neg p4];by_cases p5:c.phase=5
 .rw[if_pos p5];exact WdP h (.inr (.inr (.inr ⟨p5,rfl⟩)))
 rw[if_neg p5,if_pos (show c.phase=7 by omega)];show W9 (WS c c.pos)<_;rw[Wb5 h3.1];unfold W9;rw[show c.phase=7 by omega];simp;omega
theorem Wm1(h:CmOk c):W9 (Wx c)<=W9 c/\(c.phase<=3->W9 (Wx c)<W9 c):=by
 have hp:=h.phase;have h3:=h.pos;unfold Cm.steps at h3;unfold Wx;by_cases p1:c.phase=1
 .rw[if_pos p1,Wb5 h3.1];unfold W9;rw[p1]at h3⊢;simp at h3⊢;omega
 rw[if_neg p1];split
 .rename_i wH;rw[Wb5 (by omega)];rcases wH with p|p<;>(unfold W9;rw[p]at h3⊢;simp at h3⊢;omega)
 .exact⟨Xp _,λh=>by omega⟩
end
end
section
def WqU(f:Fm):List Kd->Int
 | []=>0
 |x::l=>if WaD x=1/\WqU f l<=fP f x+fQ f then fP f x+fQ f else WqU f l
def WlJ(f:Fm):Int:=WqU f f.kids
theorem WoX(f:Fm):∀(l:List Kd),0<=WqU f l
 | []=>Xp _
 |x::l=>by have:=WoX f l;rw[WqU];split<;>omega
theorem WlH{f:Fm}{b:Int}:∀{l:List Kd},0<=b->(∀x∈l,WaD x=1->fP f x+fQ f<=b)->WqU f l<=b
 | [],h,_=>h
 |x::l,h,hl=>by
  have ih:=WlH (f:=f) h λy hy=>hl y (Xe _ hy);rw[WqU];split
  .rename_i hc;exact hl x (Xi ..) hc.1
  .exact ih
theorem Won{f:Fm}:∀{l:List Kd},∀x∈l,WaD x=1->fP f x+fQ f<=WqU f l
 | [],x,h,_=>by cases h
 |y::l,x,h,hu=>by
  rw[WqU];rcases List.mem_cons.1 h with rfl|h
  .split
   .exact Xp _
   .rename_i hc;by_cases h':WqU f l<=fP f x+fQ f
    .exact absurd ⟨hu,h'⟩ hc
    .omega
  .have:=Won (f:=f) x h hu;split<;>omega
variable{codes:List (List Opn)}{n:Int}{f g:Fm}{m:Mm}
theorem Wxy(hF:FOk codes n f)(hl:∀c∈codes,c.length<=24):0<=fQ f:=by
 have h1:Wc5 (λ_=>0) f.kids<=Wc5 (WN f.clock) f.kids:=by
  refine Wit λx hx=>?_;obtain⟨k,hk,rfl⟩:=Xam hx;have bb:k<codes.length:=by rw[←hF.len];exact hk
  have hK:=hF.kid k hk;rw[Wf bb]at hK;have a:=(WeG hK (hl _ (Xq bb))).1;have b:=Wcm f.clock f.kids[k];unfold WN;omega
 have h2:∀l:List Kd,Wc5 (λ_=>0) l=0:=λl=>by induction l with
  |nil=>rfl
  |cons x l ih=>simp only[Wc5,Xaj,Xca]at*;omega
 rw[h2]at h1;have h3:0<=tri (Wff f):=by
  unfold tri;split
  .omega
  .split<;>omega
 unfold fQ;omega
theorem Wxt(hF:FOk codes n f)(hl:∀c∈codes,c.length<=24)(hT:∀(j:Nat) (h:j<f.kids.length),KT f j f.kids[j]){k:Nat}(hk:k<f.kids.length)(hu:WaD f.kids[k]=1):1<=fP f f.kids[k]+fQ f:=by
 have hq:=Wxy hF hl;have bb:k<codes.length:=by rw[←hF.len];exact hk
 have hK:=hF.kid k hk;rw[Wf bb]at hK;have hlen:=hl _ (Xq bb);obtain⟨l1,l2,l3⟩:=WkW hK hlen (hT k hk).pb;have b:=Wcm f.clock f.kids[k];have eF:1<=Wff f:=by
  unfold Wff;have:=WbO (g:=WaD) (y:=f.kids[k]) hk;have h0:0<=Wc5 WaD (f.kids.set k {phase:=3}):=(Wln {f with kids:=f.kids.set k {phase:=3}}).1;rw[WbO hk,hu]at h0;have:WaD ({phase:=3}:Kd)=0:=rfl;omega
 by_cases p0:f.kids[k].phase=0
 .have:=l3 p0;unfold fP;omega
 .
  obtain⟨c1,c2,c3,c4⟩:=WeG hK hlen;have aR:=hK.phase;have dV:f.kids[k].phase≠3:=λh3=>by unfold WaD at hu;rw[if_pos h3]at hu;omega
  have hc:1<=Wbm f.kids[k]:=by
   by_cases p2:f.kids[k].phase=2
   .exact(c3 p2).1
   .have:=c4 (.inr (by omega));omega
  have hs:WN f.clock f.kids[k]<=Wc5 (WN f.clock) f.kids:=by
   have h0:Wc5 (λ_=>0) (f.kids.set k {phase:=3})<=Wc5 (WN f.clock) (f.kids.set k {phase:=3}):=by
    refine Wit λx hx=>?_;rcases List.mem_or_eq_of_mem_set hx with hx|rfl
    .obtain⟨j,hj,rfl⟩:=Xam hx;have yn:j<codes.length:=by rw[←hF.len];exact hj
     have hK:=hF.kid j hj;rw[Wf yn]at hK;have a:=(WeG hK (hl _ (Xq yn))).1;have b:=Wcm f.clock f.kids[j];unfold WN;omega
    .unfold WN Wbm Wby;simp
   have hz:∀l:List Kd,Wc5 (λ_=>0) l=0:=λl=>by induction l with
    |nil=>rfl
    |cons x l ih=>simp only[Wc5,Xaj,Xca]at*;omega
   rw[hz,WbO hk]at h0;have:WN f.clock ({phase:=3}:Kd)=0:=by unfold WN Wbm Wby;simp
   omega
  have h3:0<=tri (Wff f):=by
   unfold tri;split
   .omega
   .split<;>omega
  unfold fP fQ;unfold WN at hs;unfold WN;omega
end
section
theorem WtW{l:List Opn}{j e:Nat}(hc:CC l)(hm:Mate l j e)(h8:∃h:j<l.length,l[j].1=8):∀i,j<i->i<=e->dep l j<dep l i/\frk l i=frk l (j+1):=λi l0 w7=>by
 obtain⟨hj,h8⟩:=h8;have hlen:=hm.len;have key:∀d,j+1+d<=e->dep l j<dep l (j+1+d)/\frk l (j+1+d)=frk l (j+1):=λd=>by
  induction d with
  |zero=>intro _;rw[Xau,WaG hj,Wui h8];exact⟨by omega,rfl⟩
  |succ d ih=>
   intro hd;obtain⟨i1,i2⟩:=ih (by omega);have hlt:j+1+d<l.length:=by omega
   have hb:=Whx l[j+1+d];have gm:=WaG hlt;have hne:=hm.ne (j+1+d) (by omega) (by omega);refine⟨by rw[show j+1+(d+1)=j+1+d+1 by omega];omega,?_⟩;rw[show j+1+(d+1)=j+1+d+1 by omega,Wd2 hlt,i2];have:¬l[j+1+d].1=11:=λdg=>by
    have h0:=(hc.fk _ hlt dg).1;have:=hc.up.at (j:=j) (by omega);omega
   rw[show(l[j+1+d].1==11)=false by simpa using this];rfl
 have:=key (i-(j+1)) (by omega);rw[show j+1+(i-(j+1))=i by omega]at this;exact this
def WrX(x:Rt):Int:=if x.busy=true then x.pb.2.1 else 0
def Wem(p:Pg)(pc:Int):Int:=382*(1-frk p.1 pc.toNat)
def WaY(x:Rt):Int:=x.undos.length+146*(2-x.spare)+36
def Wl(p:Pg)(x:Rt):Int:=
 if x.phase=1 then 75-3*x.pc-WrX x+Wem p x.pc+WaY x else
 if x.phase=2 then(if x.fam.lost=true then x.undos.length+3 else 73-3*x.pc+WlJ x.fam+WaY x)else
 if x.phase=3 then x.last.2.1+74-3*x.last.1+Wem p x.pc+WaY x else
 if x.phase=4 then x.last.2.1-x.pos+73-3*x.last.1+Wem p x.pc+WaY x else
 if x.phase=5 then W9 x.cm+x.undos.length+3 else
 if x.phase=6 then x.undos.length+2 else
 if x.phase=7 then 1 else 0
structure RT(x:Rt):Prop where
 pb:x.busy=true->x.pb.2.1=1\/x.pb.2.1=2
 fam:x.phase=2->x.fam.lost=true\/∀(j:Nat) (h:j<x.fam.kids.length),KT x.fam j x.fam.kids[j]
 cm:x.phase=5->x.cm.phase≠6/\x.cm.phase≠8
variable{w:Wo}{x y:Rt}{k:Nat}{p:Pg}{n:Int}{o:Opn}
theorem WfM(h:RT x):0<=WrX x/\WrX x<=2:=by
 unfold WrX;split
 .have:=h.pb ‹_›;omega
 .omega
theorem Wmp{a b:Int}(h:a<=b):Wem p b<=Wem p a:=by
 have:=WhW p.1 (show a.toNat<=b.toNat by omega);unfold Wem;omega
theorem WsG(hc:CC p.1){a:Int}(h:a<=p.1.length):0<=Wem p a:=by
 have:=WfU hc a.toNat (by omega);unfold Wem;omega
theorem Wce(h:x.phase=1):Wl p x=75-3*x.pc-WrX x+Wem p x.pc+WaY x:=by unfold Wl;rw[if_pos h]
theorem WnV(h:x.phase=6):Wl p x=x.undos.length+2:=by unfold Wl;rw[h];simp
theorem We9:Wl p (WbZ x)=x.undos.length+2:=WnV rfl
theorem WhZ(h1:x.phase=1)(hy:y.phase=1)(aF:x.pc+1<=y.pc)(hb:y.busy=x.busy)(hp:y.pb=x.pb)(hs:y.spare=x.spare)(hu:(y.undos.length:Int)<=x.undos.length+1):Wl p y<Wl p x:=by
 rw[Wce h1,Wce hy];have:=Wmp (p:=p) (show x.pc<=y.pc by omega);unfold WrX WaY;rw[hb,hp,hs];omega
end
section
variable{w:Wo}{x y:Rt}{k:Nat}{p:Pg}{n:Int}{o:Opn}
theorem Weq(aG:CC p.1)(hl:RLive p n x)(ht:RT x)(h1:x.phase=1):(x.undos.length:Int)+37+146*(2-x.spare)<=Wl p x:=by
 rw[Wce h1];have hp:=WfM ht;have aF:=hl.pc;have hlen:=aG.len;have:=WsG aG aF.2;unfold WaY;omega
theorem WiC(aG:CC p.1)(hl:RLive p n x)(ht:RT x)(h1:x.phase=1){out:Int}(jM:0<=x.rv/\x.rv<=1000000)(hk:k<=8):Wl p (W6 w x k out).2<Wl p x:=by
 have qy:=Weq aG hl ht h1;have hs:=hl.spare;unfold W6;simp only;generalize (if out=2 then []else x.writes)=rows;split
 .show Wl p (Wjh w {x with fate:=out,stamp:=x.rv} k).2<_;have:Wl p (Wjh w {x with fate:=out,stamp:=x.rv} k).2=0:=rfl;omega
 .have hc:CmOk (Wa5 ((k:Int)+1) x.rv rows x.reads):=Wke (by omega) jM;have:=(Wgz hc).2.1;have e:Wl p ({x with fate:=out,cm:=Wa5 ((k:Int)+1) x.rv rows x.reads,phase:=5}:Rt)=W9 (Wa5 ((k:Int)+1) x.rv rows x.reads)+x.undos.length+3:=rfl;show Wl p ({x with fate:=out,cm:=Wa5 ((k:Int)+1) x.rv rows x.reads,phase:=5}:Rt)<_;rw[e];omega
theorem WkJ(aG:CC p.1)(hl:RLive p n x)(hz:x.marks.length≠0):0<=x.last.1/\x.last.1<x.pc/\0<=x.last.2.1/\x.last.2.1<=x.last.1+72/\Wem p (x.last.1+1)=Wem p x.pc:=by
 have hM:=hl.marks;have aF:=hl.pc;obtain⟨j,q,y,e1,e2,e3,h8,qo,cL,ge,e5,e6⟩:=Who (d:=zRM) aG (show x.pc.toNat<=p.1.length by omega) hM.pcs hz;have e4:x.last=y:=e2;have hy:=(hM.each y (by rw[e1];simp)).2.1;have hf:=(WtW aG cL h8 x.pc.toNat qo ge).2;have hfj:=WfU aG j (by omega);rw[e4];rw[e3]at hy⊢;rw[Xj]at hy;refine⟨by omega,by omega,hy.1,by omega,?_⟩;unfold Wem;rw[hf,show((j:Int)+1).toNat=j+1 by omega]
theorem Wfu(aG:CC p.1)(hl:RLive p n x)(ht:RT x)(h1:x.phase=1){b:Bool}{q:Pb}:Wl p (Wy {x with busy:=b,pb:=q})<Wl p x:=by
 have qy:=Weq aG hl ht h1;have hs:=hl.spare;unfold Wy;split
 .have e:Wl p (WbZ ({x with busy:=b,pb:=q}:Rt))=x.undos.length+2:=rfl;rw[e];omega
 .rename_i hc;have hz:x.marks.length≠0:=λh=>hc (.inl h);obtain⟨m1,m2,m3,m4,m5⟩:=WkJ aG hl hz;have hp:=WfM ht;have aF:=hl.pc;have hlen:=aG.len;rw[Wce h1];have e:Wl p ({x with busy:=false,pb:=(0,0,0,0),spare:=x.spare+1,phase:=3}:Rt)=x.last.2.1+74-3*x.last.1+Wem p x.pc+(x.undos.length+146*(2-(x.spare+1))+36):=rfl;show Wl p ({x with busy:=false,pb:=(0,0,0,0),spare:=x.spare+1,phase:=3}:Rt)<_;rw[e];unfold WaY;omega
theorem WpN(aG:CC p.1)(hl:RLive p n x)(ht:RT x)(h1:x.phase=1):Wl p (Wci w x o)<Wl p x:=by
 have hp:=WfM ht;unfold Wci;cases Wbc x.writes o.2.2.1 with
 |some v=>exact WhZ h1 h1 (Xp _) rfl rfl rfl (by show(x.undos.length:Int)<=_;omega)
 |none=>
  simp only;have hq:0<=(if x.busy=true then x.pb else(o.2.2.1,0,0,0)).2.1/\(if x.busy=true then x.pb else(o.2.2.1,0,0,0)).2.1<=2:=by
   split
   .have:=ht.pb ‹_›;omega
   .simp
  have ge:(if x.busy=true then x.pb else(o.2.2.1,0,0,0)).2.1=WrX x:=by unfold WrX;split<;>rfl
  have hs:=WnU (m:=w.mem) (rv:=x.rv) hq;rw[ge]at hs;generalize WV w.mem x.rv (if x.busy=true then x.pb else(o.2.2.1,0,0,0))=q at*;split
  .exact Wfu aG hl ht h1
  .have hf:=Wmp (p:=p) (show x.pc<=x.pc+1 by omega);split
   .rw[Wce h1];refine Xct (Xfq (Wce h1)) ?_;show 75-3*(x.pc+1) -0+Wem p (x.pc+1)+WaY x<_;omega
   .rw[Wce h1];refine Xct (Xfq (Wce h1)) ?_;show 75-3*x.pc-q.2.1+Wem p x.pc+WaY x<_;omega
theorem Wsc{α:Type}(l:List α)(h:l.length≠0):(l.dropLast.length:Int)=l.length-1:=by rw[List.length_dropLast];omega
theorem Wg0(h:x.phase=1\/x.phase=3\/x.phase=6)(hz:x.undos.length≠0):Wl p (Wd1 w x).2<Wl p x:=by
 have hd:=Wsc x.undos hz;have e:Wl p (Wd1 w x).2=Wl p x-1:=by
  unfold Wd1 Wl WaY;simp only;rw[hd];rcases h with h|h|h
  .rw[if_pos h,if_pos h];show 75-3*x.pc-WrX x+Wem p x.pc+_=_;omega
  .rw[if_neg (by omega),if_neg (by omega),if_pos h,if_neg (by omega),if_neg (by omega),if_pos h];show x.last.2.1+74-3*x.last.1+Wem p x.pc+_=_;omega
  .rw[h];simp;omega
 omega
theorem Wnt(aG:CC p.1)(hl:RLive p n x)(ht:RT x)(h1:x.phase=1)(hk:k<=8):Wl p (WbL w x k p.1).2<Wl p x:=by
 unfold WbL;split
 .exact WiC aG hl ht h1 hl.rv hk
 .rename_i hz;split
  .have hM:=hl.marks;have cG:0<=x.last.2.2.2.1:=by
    have hm:x.last∈x.marks:=Wf6 hz _;exact(hM.each _ hm).2.2.2.1
   exact Wg0 (.inl h1) (by omega)
  .have hM:=hl.marks;have aF:=hl.pc;obtain⟨j,q,y,e1,e2,e3,h8,qo,cL,ge,e5,e6⟩:=Who (d:=zRM) aG (show x.pc.toNat<=p.1.length by omega) hM.pcs hz;have e4:x.last=y:=e2;refine WhZ h1 h1 ?_ rfl rfl rfl (by show(x.undos.length:Int)<=_;omega);show x.pc+1<=(WiA p.1 x.last.1.toNat:Int)+1;rw[e4,e3,Xj];omega
theorem WnK(aG:CC p.1)(hl:RLive p n x)(ht:RT x)(h1:x.phase=1):Wl p (Wbs w x k o).2<Wl p x:=by
 unfold Wbs;cases WaT w.holds ((k:Int)+1) (WaC o).1 (WaC o).2 with
 |none=>
  have:=Wfu aG hl ht h1 (b:=x.busy) (q:=x.pb);exact this
 |some hs=>
  refine WhZ h1 h1 (Xp _) rfl rfl rfl ?_;show((if(Wbo w.shelf o x.regs).2.2.1=0 then x.undos else x.undos++ [(Wbo w.shelf o x.regs).2.2]).length:Int)<=_;split
  .omega
  .simp
theorem Wq9(aG:CC p.1)(h3:p.2.length<=3)(hl:RLive p n x)(ht:RT x)(h1:x.phase=1)(hk:k<=8)(wM:∀regs writes rv,WlJ (WaA rv regs writes p.2.length)<=381):Wl p (Wdx w x k p).2<Wl p x:=by
 unfold Wdx;split
 .exact WiC aG hl ht h1 hl.rv hk
 .obtain⟨i,hi,aF,ho⟩:=Wfk (l:=p.1) hl.pc.1 (by have:=hl.pc;omega);simp only[ho];have tz:∀y:Rt,y.phase=1->x.pc+1<=y.pc->y.busy=x.busy->y.pb=x.pb->y.spare=x.spare->y.undos=x.undos->Wl p y<Wl p x:=λy a b c d e f=>WhZ h1 a b c d e (by rw[f];omega);split
  .exact WpN aG hl ht h1
  .split
   .exact Wnt aG hl ht h1 hk
   .split
    .rename_i dg;rw[Wce h1];have e:Wl p ({x with phase:=2,fam:=WaA x.rv x.regs x.writes p.2.length}:Rt)=73-3*x.pc+WlJ (WaA x.rv x.regs x.writes p.2.length)+WaY x:=rfl;show Wl p ({x with phase:=2,fam:=WaA x.rv x.regs x.writes p.2.length}:Rt)<_;rw[e];have:=wM x.regs x.writes x.rv;have hp:=WfM ht;have hf:=WfU aG (i+1) (by omega);rw[Wd2 hi,show(p.1[i].1==11)=true by simpa using dg]at hf;have:Wem p x.pc=382:=by
      unfold Wem;rw[aF,Xj];have:frk p.1 i=0:=by have:Bool.toNat true=1:=rfl;omega
      rw[this];rfl
     omega
    .split
     .exact WnK aG hl ht h1
     .split
      .exact tz _ h1 (Xp _) rfl rfl rfl rfl
      .split
       .have hk:=Wv8 (aG.ok i hi).1 ‹_›;refine tz _ h1 ?_ rfl rfl rfl rfl;show x.pc+1<=(if Wbi x.regs p.1[i].2.1 0=0 then x.pc+p.1[i].2.2.1 else x.pc)+1;split<;>omega
       .split
        .exact tz _ h1 (Xp _) rfl rfl rfl rfl
        .split
         .exact tz _ h1 (Xp _) rfl rfl rfl rfl
         .exact tz _ h1 (Xp _) rfl rfl rfl rfl
end
section
variable{w:Wo}{x y:Rt}{k:Nat}{p:Pg}{n:Int}{o:Opn}
theorem WkU(g:Kd->Int)(x:Kd):∀u:Nat,Wc5 g (Xw u x)=u*g x
 |0=>by simp[Wc5]
 |u+1=>by
  have:=WkU g x u;simp only[Wc5,List.replicate_succ,Xaj,Xca]at*;rw[this,Int.natCast_succ,Int.add_mul];omega
theorem WpL{rv:Int}{regs:List Int}{writes:List Rw}{u:Nat}(h:u<=3):WlJ (WaA rv regs writes u)<=381:=by
 have hk:(WaA rv regs writes u).kids=Xw u {regs:=regs}:=rfl;have hc:(WaA rv regs writes u).clock=0:=rfl;have h1:WaD ({regs:=regs}:Kd)=1:=rfl;have h2:Wby 0 ({regs:=regs}:Kd)=0:=rfl;have h3:WN 0 ({regs:=regs}:Kd)=26:=rfl;have h4:Wbf ({regs:=regs}:Kd)=75:=rfl;have hu:Wff (WaA rv regs writes u)=u:=by unfold Wff;rw[hk,WkU,h1];omega
 have hq:fQ (WaA rv regs writes u)=u*26+26*tri u:=by unfold fQ;rw[hu,hk,hc,WkU,h3]
 refine WlH (by omega) λy hy _=>?_;rw[hk]at hy;obtain⟨uB,rfl⟩:=List.mem_replicate.1 hy;unfold fP;rw[hq,hu,hc,h2,h4];have:u=1\/u=2\/u=3:=by omega
 rcases this with rfl|rfl|rfl<;>decide
theorem WqG(hl:RLive p n x)(aG:CC p.1)(ht:RT x)(h2:x.phase=2)(hq:x.fam.lost=true\/Wbd x.fam=true):Wl p (WbN x)<Wl p x:=by
 have hs:=hl.spare;have e:Wl p x=if x.fam.lost=true then(x.undos.length:Int)+3 else 73-3*x.pc+WlJ x.fam+WaY x:=by unfold Wl;rw[if_neg (by omega),if_pos h2]
 unfold WbN;split
 .rename_i bz;rw[We9,e,if_pos bz];omega
 .rename_i bz;rw[if_pos (hq.resolve_left bz),e,if_neg bz];refine Xct (Xfq (Wce rfl)) ?_;have hp:=WfM ht;have h0:=WoX x.fam x.fam.kids;obtain⟨f1,f2,f3⟩:=hl.fork h2;obtain⟨i,hi,aF,ho⟩:=Wfk (l:=p.1) hl.pc.1 f1;have hf:=WfU aG (i+1) (by omega);have yo:=Wd2 hi;rw[←ho,f2]at yo;have hz:Wem p (x.pc+1)=0:=by
   unfold Wem;have:frk p.1 (i+1)=1:=by rw[yo]at hf⊢;have:((11:Int)==11).toNat=1:=rfl;omega
   rw[show(x.pc+1).toNat=i+1 by omega,this];rfl
  show 75-3*(x.pc+1) -WrX x+Wem p (x.pc+1)+WaY x<73-3*x.pc+WqU x.fam x.fam.kids+WaY x;rw[hz];omega
theorem WmJ(aG:CC p.1)(hl:RLive p n x)(h3:x.phase=3):Wl p (WaR w x).2<Wl p x:=by
 have hz:=hl.back (.inl h3);have hM:=hl.marks;unfold WaR;split
 .have cG:0<=x.last.2.2.2.1:=(hM.each _ (Wf6 hz _)).2.2.2.1;exact Wg0 (.inr (.inl h3)) (by omega)
 .have e:Wl p x=x.last.2.1+74-3*x.last.1+Wem p x.pc+WaY x:=by unfold Wl;rw[if_neg (by omega),if_neg (by omega),if_pos h3]
  have e':Wl p ({x with newRv:=w.mem.1,pos:=0,phase:=4}:Rt)=x.last.2.1-0+73-3*x.last.1+Wem p x.pc+WaY x:=rfl;show Wl p ({x with newRv:=w.mem.1,pos:=0,phase:=4}:Rt)<_;rw[e,e'];omega
theorem Wnf(aG:CC p.1)(hl:RLive p n x)(ht:RT x)(h4:x.phase=4):Wl p (Waz w x)<Wl p x:=by
 have hz:=hl.back (.inr h4);have hs:=hl.spare;have bK:=hl.pos h4;obtain⟨m1,m2,m3,m4,m5⟩:=WkJ aG hl hz;have aF:=hl.pc;have hlen:=aG.len;have xd:=WsG aG aF.2;have hp:=WfM ht;have e:Wl p x=x.last.2.1-x.pos+73-3*x.last.1+Wem p x.pc+WaY x:=by unfold Wl;rw[if_neg (by omega),if_neg (by omega),if_neg (by omega),if_pos h4]
 unfold Waz;split
 .simp only;split
  .rw[We9,e];unfold WaY;omega
  .have e':Wl p ({x with pos:=x.pos+1}:Rt)=x.last.2.1-(x.pos+1)+73-3*x.last.1+Wem p x.pc+WaY x:=by
    unfold Wl;rw[if_neg (show¬x.phase=1 by omega),if_neg (show¬x.phase=2 by omega),if_neg (show¬x.phase=3 by omega),if_pos h4];rfl
   rw[e,e'];omega
 .rw[e];refine Xct (Xfq (Wce rfl)) ?_;show 75-3*(x.last.1+1) -WrX x+Wem p (x.last.1+1)+WaY x<_;rw[m5];omega
theorem Wmh(hc:CmOk x.cm)(h5:x.phase=5)(jx:x.cm.phase≠6/\x.cm.phase≠8)(hdm:x.doomed=true->x.cm.phase<=3):Wl p (W4 w x k).2<Wl p x:=by
 have e:Wl p x=W9 x.cm+x.undos.length+3:=by unfold Wl;rw[h5];rfl
 have hb:=(Wgz hc).2.2 jx.1 jx.2;unfold W4;split
 .rename_i hd;simp only;split
  .rw[We9,e];omega
  .have e':Wl p ({x with cm:=Wx x.cm,doomed:=false}:Rt)=W9 (Wx x.cm)+x.undos.length+3:=by
    unfold Wl;show(if x.phase=1 then _ else _)=_;rw[h5];rfl
   rw[e',e];have:=(Wm1 hc).2 (hdm hd);omega
 .have hs:=WnR (m:=w.mem) hc jx.1 jx.2;show Wl p (Wab {x with cm:=(Wi w.mem x.cm).2})<_;generalize (Wi w.mem x.cm).2=c at*;unfold Wab;split
  .have e':Wl p (WbZ ({x with cm:=c}:Rt))=x.undos.length+2:=rfl;rw[e',e];omega
  .split
   .rw[e];by_cases h2:x.fate=2
    .have e':Wl p ({x with stamp:=c.wv,cm:={},phase:=if x.fate=2 then 6 else 7}:Rt)=x.undos.length+2:=by rw[if_pos h2];rfl
     show Wl p ({x with stamp:=c.wv,cm:={},phase:=if x.fate=2 then 6 else 7}:Rt)<_;rw[e'];omega
    .have e':Wl p ({x with stamp:=c.wv,cm:={},phase:=if x.fate=2 then 6 else 7}:Rt)=1:=by rw[if_neg h2];rfl
     show Wl p ({x with stamp:=c.wv,cm:={},phase:=if x.fate=2 then 6 else 7}:Rt)<_;rw[e'];omega
   .have e':Wl p ({x with cm:=c}:Rt)=W9 c+x.undos.length+3:=by
     unfold Wl;show(if x.phase=1 then _ else _)=_;rw[h5];rfl
    rw[e',e];omega
end
section
variable{w:Wo}{x y:Rt}{k:Nat}{p:Pg}{n:Int}{o:Opn}
theorem RT.of(h:RT x)(hb:y.busy=x.busy)(hp:y.pb=x.pb)(h2:y.phase≠2)(h5:y.phase≠5):RT y:=
 ⟨λhy=>by rw[hp];exact h.pb (hb▸hy),λhy=>absurd hy h2,λhy=>absurd hy h5⟩
theorem RT.no(hb:y.busy=false)(h2:y.phase≠2)(h5:y.phase≠5):RT y:=
 ⟨(λhy=>by rw[hb]at hy;cases hy),λhy=>absurd hy h2,λhy=>absurd hy h5⟩
theorem Wfe:RT (WbZ x):=RT.no rfl (by show(6:Int)≠2;omega) (by show(6:Int)≠5;omega)
theorem Wha:RT (Wy x):=by
 unfold Wy;split
 .exact Wfe
 .exact RT.no rfl (by show(3:Int)≠2;omega) (by show(3:Int)≠5;omega)
theorem WmU(h:RT x){out:Int}:RT (W6 w x k out).2:=by
 unfold W6;simp only;generalize (if out=2 then []else x.writes)=rows;split
 .exact h.of rfl rfl (by show(8:Int)≠2;omega) (by show(8:Int)≠5;omega)
 .refine⟨h.pb,λhy=>by(change (5:Int)=2 at hy;omega),λ_=>?_⟩;have e:(Wa5 ((k:Int)+1) x.rv rows x.reads).phase=if(WcN rows).length=0 then 2 else 1:=rfl;show(Wa5 ((k:Int)+1) x.rv rows x.reads).phase≠6/\(Wa5 ((k:Int)+1) x.rv rows x.reads).phase≠8;rw[e];split<;>omega
theorem WtD(h:RT x)(h1:x.phase=1):RT (Wci w x o):=by
 have hn:∀y:Rt,y.phase=1->y.phase≠2/\y.phase≠5:=λy hy=>by omega
 unfold Wci;cases Wbc x.writes o.2.2.1 with
 |some v=>exact h.of rfl rfl (hn _ h1).1 (hn _ h1).2
 |none=>
  simp only;have hq:0<=(if x.busy=true then x.pb else(o.2.2.1,0,0,0)).2.1/\(if x.busy=true then x.pb else(o.2.2.1,0,0,0)).2.1<=2:=by
   split
   .have:=h.pb ‹_›;omega
   .simp
  have hs:=WnU (m:=w.mem) (rv:=x.rv) hq;generalize (if x.busy=true then x.pb else(o.2.2.1,0,0,0))=q0 at*;generalize WV w.mem x.rv q0=q at*;split
  .exact Wha
  .split
   .exact RT.no rfl (hn _ h1).1 (hn _ h1).2
   .exact⟨λ_=>by show q.2.1=1\/q.2.1=2;omega,λhy=>absurd hy (hn _ h1).1,λhy=>absurd hy (hn _ h1).2⟩
theorem WrS{rv:Int}{regs:List Int}{writes:List Rw}{u:Nat}(j:Nat)(h:j<(WaA rv regs writes u).kids.length):KT (WaA rv regs writes u) j (WaA rv regs writes u).kids[j]:=by
 have e:(WaA rv regs writes u).kids[j]={regs:=regs}:=by simp only[WaA,Xbj]
 rw[e];refine⟨(λh=>by cases h),?_,λ_ e he=>by cases he⟩;show(0:Int)=(j:Int)+1↔(0:Int)=2;omega
theorem Wvc(h:RT x)(h1:x.phase=1):RT (Wdx w x k p).2:=by
 have hn:∀y:Rt,y.phase=1->y.phase≠2/\y.phase≠5:=λy hy=>by omega
 unfold Wdx;split
 .exact WmU h
 .simp only;generalize opN p.1 x.pc=o;split
  .exact WtD h h1
  .split
   .unfold WbL;split
    .exact WmU h
    .split
     .exact h.of rfl rfl (hn _ h1).1 (hn _ h1).2
     .exact h.of rfl rfl (hn _ h1).1 (hn _ h1).2
   .split
    .exact⟨h.pb,λ_=>.inr λj hj=>WrS j hj,λhy=>by(change (2:Int)=5 at hy;omega)⟩
    .split
     .unfold Wbs;cases WaT w.holds ((k:Int)+1) (WaC o).1 (WaC o).2 with
      |none=>exact Wha
      |some hs=>exact h.of rfl rfl (hn _ h1).1 (hn _ h1).2
     .repeat' split
      all_goals exact h.of rfl rfl (hn _ h1).1 (hn _ h1).2
theorem Wqq(h:RT x)(h5:x.phase=5):RT (W4 w x k).2:=by
 unfold W4;split
 .simp only;split
  .exact Wfe
  .rename_i h8;refine⟨h.pb,λhy=>by(change x.phase=2 at hy;omega),λ_=>⟨?_,h8⟩⟩;have:=(h.cm h5).1;show(Wx x.cm).phase≠6;unfold Wx WS
   repeat' split
   all_goals first|(simp only;omega)|exact this
 .show RT (Wab {x with cm:=(Wi w.mem x.cm).2});generalize (Wi w.mem x.cm).2=c;unfold Wab;split
  .exact Wfe
  .rename_i h8;split
   .have:(if x.fate=2 then(6:Int)else 7)≠2/\(if x.fate=2 then(6:Int)else 7)≠5:=by split<;>omega
    exact h.of rfl rfl this.1 this.2
   .rename_i h6;exact⟨h.pb,λhy=>by(change x.phase=2 at hy;omega),λ_=>⟨h6,h8⟩⟩
theorem WpB(h:RT x):RT (Wq w x k p).2:=by
 unfold Wq;by_cases hd:x.doomed=true/\1<=x.phase/\x.phase<=4
 .rw[if_pos hd];exact Wfe
 rw[if_neg hd];by_cases h0:x.phase=0
 .rw[if_pos h0];unfold Wc9;split
  .exact h
  .split
   .exact h
   .split
    .exact h
    .exact RT.no rfl (by show(1:Int)≠2;omega) (by show(1:Int)≠5;omega)
 rw[if_neg h0];by_cases h1:x.phase=1
 .rw[if_pos h1];exact Wvc h h1
 rw[if_neg h1];by_cases h2:x.phase=2
 .rw[if_pos h2];show RT (WbN x);unfold WbN;split
  .exact Wfe
  .split
   .exact h.of rfl rfl (by show(1:Int)≠2;omega) (by show(1:Int)≠5;omega)
   .exact h
 rw[if_neg h2];by_cases h3:x.phase=3
 .rw[if_pos h3];unfold WaR;split
  .exact h.of rfl rfl (by show x.phase≠2;omega) (by show x.phase≠5;omega)
  .exact h.of rfl rfl (by show(4:Int)≠2;omega) (by show(4:Int)≠5;omega)
 rw[if_neg h3];by_cases h4:x.phase=4
 .rw[if_pos h4];show RT (Waz w x);unfold Waz;simp only;split
  .split
   .exact Wfe
   .exact h.of rfl rfl (by show x.phase≠2;omega) (by show x.phase≠5;omega)
  .exact h.of rfl rfl (by show(1:Int)≠2;omega) (by show(1:Int)≠5;omega)
 rw[if_neg h4];by_cases h5:x.phase=5
 .rw[if_pos h5];exact Wqq h h5
 rw[if_neg h5];by_cases h6:x.phase=6
 .rw[if_pos h6];by_cases hz:x.undos.length>0
  .rw[if_pos hz];exact h.of rfl rfl (by show x.phase≠2;omega) (by show x.phase≠5;omega)
  .rw[if_neg hz];exact h.of rfl rfl (by show(7:Int)≠2;omega) (by show(7:Int)≠5;omega)
 rw[if_neg h6];by_cases h7:x.phase=7
 .rw[if_pos h7];by_cases hf:x.fate=0
  .rw[if_pos hf];exact RT.no rfl (by show(0:Int)≠2;omega) (by show(0:Int)≠5;omega)
  .rw[if_neg hf];exact h.of rfl rfl (by show(8:Int)≠2;omega) (by show(8:Int)≠5;omega)
 .rw[if_neg h7];exact h
end
section
variable{w:Wo}{x y:Rt}{k:Nat}{p:Pg}{n:Int}{o:Opn}{f:Fm}{codes:List (List Opn)}
theorem Wpc(hp:POk p)(hx:ROk p n x)(ht:RT x)(h:1<=x.phase/\x.phase<=4):(x.undos.length:Int)+3<=Wl p x:=by
 have hl:=hx.live h;have hs:=hl.spare;have hlen:=hp.code.len;by_cases h1:x.phase=1
 .have:=Weq hp.code hl ht h1;omega
 by_cases h2:x.phase=2
 .have aF:=hl.pc;obtain⟨f1,f2,f3⟩:=hl.fork h2;have e:Wl p x=if x.fam.lost=true then(x.undos.length:Int)+3 else 73-3*x.pc+WlJ x.fam+WaY x:=by unfold Wl;rw[if_neg (by omega),if_pos h2]
  rw[e];split
  .omega
  .have:=WoX x.fam x.fam.kids;unfold WlJ WaY;omega
 have hz:=hl.back (by omega);obtain⟨m1,m2,m3,m4,m5⟩:=WkJ hp.code hl hz;have aF:=hl.pc;have xd:=WsG hp.code aF.2;by_cases h3:x.phase=3
 .have e:Wl p x=x.last.2.1+74-3*x.last.1+Wem p x.pc+WaY x:=by unfold Wl;rw[if_neg h1,if_neg h2,if_pos h3]
  rw[e];unfold WaY;omega
 .have h4:x.phase=4:=by omega
  have bK:=hl.pos h4;have e:Wl p x=x.last.2.1-x.pos+73-3*x.last.1+Wem p x.pc+WaY x:=by unfold Wl;rw[if_neg h1,if_neg h2,if_neg h3,if_pos h4]
  rw[e];unfold WaY;omega
theorem WjY(hp:POk p)(hx:ROk p n x)(lM:RX x)(ht:RT x)(hk:k<=8)(h:1<=x.phase/\x.phase<=7):
  Wl p (Wq w x k p).2<Wl p x\/(x.phase=2/\x.fam.lost≠true/\Wbd x.fam≠true/\(Wq w x k p).2=x):=by
 unfold Wq;by_cases hd:x.doomed=true/\1<=x.phase/\x.phase<=4
 .rw[if_pos hd];have:=Wpc hp hx ht hd.2;left;show Wl p (WbZ x)<_;rw[We9];omega
 rw[if_neg hd,if_neg (by omega)];by_cases h1:x.phase=1
 .rw[if_pos h1];exact .inl (Wq9 hp.code hp.k3 (hx.live (by omega)) ht h1 hk λregs writes rv=>WpL hp.k3)
 rw[if_neg h1];by_cases h2:x.phase=2
 .rw[if_pos h2];by_cases hq:x.fam.lost=true\/Wbd x.fam=true
  .exact .inl (WqG (hx.live (by omega)) hp.code ht h2 hq)
  .refine .inr ⟨h2,λh=>hq (.inl h),λh=>hq (.inr h),?_⟩;show WbN x=x;unfold WbN;rw[if_neg (λh=>hq (.inl h)),if_neg (λh=>hq (.inr h))]
 rw[if_neg h2];by_cases h3:x.phase=3
 .rw[if_pos h3];exact .inl (WmJ hp.code (hx.live (by omega)) h3)
 rw[if_neg h3];by_cases h4:x.phase=4
 .rw[if_pos h4];exact .inl (Wnf hp.code (hx.live (by omega)) ht h4)
 rw[if_neg h4];by_cases h5:x.phase=5
 .rw[if_pos h5];exact .inl (Wmh (hx.comm h5) h5 (ht.cm h5) λhdm=>by
   rcases lM.doom hdm with h|h
   .omega
   .exact h.2)
 rw[if_neg h5];left;by_cases h6:x.phase=6
 .rw[if_pos h6];by_cases hz:x.undos.length>0
  .rw[if_pos hz];exact Wg0 (.inr (.inr h6)) (by omega)
  .rw[if_neg hz,WnV h6];show(1:Int)<_;omega
 .rw[if_neg h6,if_pos (by omega)];have e:Wl p x=1:=by unfold Wl;rw[show x.phase=7 by omega];rfl
  rw[e];by_cases hf:x.fate=0
  .rw[if_pos hf];show(0:Int)<1;omega
  .rw[if_neg hf];show(0:Int)<1;omega
theorem Wv7(f:Fm):Wff f=(f.kids.length:Int) -f.kids.countP λx=>decide (x.phase=3):=by
 unfold Wff;have:∀l:List Kd,Wc5 WaD l=(l.length:Int) -l.countP λx=>decide (x.phase=3):=λl=>by
  induction l with
  |nil=>rfl
  |cons x l ih=>
   have e:Wc5 WaD (x::l)=WaD x+Wc5 WaD l:=by simp[Wc5]
   rw[e,ih,List.countP_cons,Xu];unfold WaD;by_cases h:x.phase=3
   .rw[if_pos h,decide_eq_true h];simp;omega
   .rw[if_neg h,decide_eq_false h];simp;omega
 exact this f.kids
theorem Wuh(hF:FOk codes n f)(h3:codes.length<=3)(hl:∀c∈codes,c.length<=24)(hT:∀(j:Nat) (h:j<f.kids.length),KT f j f.kids[j]):WlJ f<=381:=by
 have hlen:=hF.len;have hcl:=hF.clock;have hdn:=hF.done;have kq:=Wv7 f;have Ae:=Wln f;have nX:f.clock<=0->∀x:Kd,∀k (h:k<f.kids.length),f.kids[k]=x->Wby f.clock x=0:=λh0 x k hk he=>by
  have:=(hF.kid k hk).since;rw[he]at this;unfold Wby;rw[if_neg (by omega)]
 have tv:Wc5 (WN f.clock) f.kids<=(if f.clock<=0 then 26 else 52)*Wff f:=by
  have e:∀a:Int,Wc5 (λx=>0+a*WaD x) f.kids=a*Wff f:=λa=>by
   rw[Wkj (g:=λ_=>0)];have:∀l:List Kd,Wc5 (λ_=>0) l=0:=λl=>by induction l with
    |nil=>rfl
    |cons x l ih=>simp only[Wc5,Xaj,Xca]at*;omega
   rw[this];unfold Wff;omega
  rw[←e];refine Wit λx hx=>?_;obtain⟨k,hk,he⟩:=Xam hx;have bb:k<codes.length:=by omega
  have hK:=hF.kid k hk;rw[Wf bb,he]at hK;obtain⟨c1,c2,c3,c4⟩:=WeG hK (hl _ (Xq bb));have hb:=Wcm f.clock x;have aR:=hK.phase;unfold WN;by_cases p3:x.phase=3
  .have:Wbm x=0:=by unfold Wbm;rw[if_pos p3]
   have hu:WaD x=0:=by unfold WaD;rw[if_pos p3]
   rw[hu]at hb⊢;omega
  .have hu:WaD x=1:=Wcj p3;rw[hu]at hb⊢;split
   .rw[nX ‹_› x k hk he];omega
   .omega
 refine WlH (by omega) λx hx qR=>?_;obtain⟨k,hk,he⟩:=Xam hx;have bb:k<codes.length:=by omega
 have hK:=hF.kid k hk;rw[Wf bb,he]at hK;have kG:=hT k hk;rw[he]at kG;obtain⟨l1,l2,l3⟩:=WkW hK (hl _ (Xq bb)) kG.pb;have hb:=Wcm f.clock x;unfold fP fQ;by_cases h0:f.clock<=0
 .rw[if_pos h0]at tv;have hs:=nX h0 x k hk he;rw[hs];have:Wff f=0\/Wff f=1\/Wff f=2\/Wff f=3:=by omega
  rcases this with hu|hu|hu|hu<;>(rw[hu]at tv⊢;unfold tri;simp;omega)
 .rw[if_neg h0]at tv;have:Wff f=0\/Wff f=1\/Wff f=2:=by omega
  rcases this with hu|hu|hu<;>(rw[hu]at tv⊢;unfold tri;simp;omega)
theorem WbV(hp:POk p)(hx:ROk p n x)(ht:RT x):0<=Wl p x/\Wl p x<=808/\(1<=x.phase/\x.phase<=7->1<=Wl p x):=by
 have aR:=hx.phase;have cG:=hx.ul;have hlen:=hp.code.len;by_cases h:1<=x.phase/\x.phase<=4
 .have qy:=Wpc hp hx ht h;refine⟨by omega,?_,λ_=>by omega⟩;have hl:=hx.live h;have hs:=hl.spare;have aF:=hl.pc;have hu:=hl.ul;have hf1:Wem p x.pc<=382:=by unfold Wem;omega
  have hQ:=WfM ht;by_cases h1:x.phase=1
  .rw[Wce h1];unfold WaY;omega
  by_cases h2:x.phase=2
  .obtain⟨f1,f2,f3⟩:=hl.fork h2;have e:Wl p x=if x.fam.lost=true then(x.undos.length:Int)+3 else 73-3*x.pc+WlJ x.fam+WaY x:=by unfold Wl;rw[if_neg (by omega),if_pos h2]
   rw[e];split
   .omega
   .rename_i bz;have:=Wuh f3 hp.k3 (λc hc=>(hp.kids c hc).toCC.len) ((ht.fam h2).resolve_left bz);unfold WaY;omega
  have hz:=hl.back (by omega);obtain⟨m1,m2,m3,m4,m5⟩:=WkJ hp.code hl hz;have hM:=(hl.marks.each _ (Wf6 hz zRM)).2.1;have vq:=WhW p.1 (show x.last.1.toNat<=x.pc.toNat by omega);have Ag:=WfU hp.code x.pc.toNat (by omega);have hM':x.last.2.1<=x.last.1+72*frk p.1 x.last.1.toNat:=hM.2.1;have mN:Wem p x.pc=382*(1-frk p.1 x.pc.toNat):=rfl;by_cases h3:x.phase=3
  .have e:Wl p x=x.last.2.1+74-3*x.last.1+Wem p x.pc+WaY x:=by unfold Wl;rw[if_neg h1,if_neg h2,if_pos h3]
   rw[e,mN];unfold WaY;omega
  .have h4:x.phase=4:=by omega
   have bK:=hl.pos h4;have e:Wl p x=x.last.2.1-x.pos+73-3*x.last.1+Wem p x.pc+WaY x:=by unfold Wl;rw[if_neg h1,if_neg h2,if_neg h3,if_pos h4]
   rw[e,mN];unfold WaY;omega
 .have:x.phase=0\/x.phase=5\/x.phase=6\/x.phase=7\/x.phase=8:=by omega
  rcases this with h|h|h|h|h
  .have e:Wl p x=0:=by unfold Wl;rw[h];rfl
   omega
  .have hb:=Wgz (hx.comm h);have e:Wl p x=W9 x.cm+x.undos.length+3:=by unfold Wl;rw[h];rfl
   omega
  .rw[WnV h];omega
  .have e:Wl p x=1:=by unfold Wl;rw[h];rfl
   omega
  .have e:Wl p x=0:=by unfold Wl;rw[h];rfl
   omega
end
section
def WvK(m:Mm)(rv:Int):Prop:=∀i,0<=i->i<=7->(Wg m i).2.2=0/\(Wg m i).2.1<=rv
def pbV(m:Mm)(b:Bool)(q:Pb):Prop:=b=true->(0<=q.1/\q.1<=7)/\q.2.2.1=(Wg m q.1).2.1
variable{m:Mm}{rv:Int}{q:Pb}{o:Opn}{x:Kd}{f:Fm}{k:Nat}{code:List Opn}{codes:List (List Opn)}{n:Int}
theorem Wrj(h:WvK m rv)(hc:0<=q.1/\q.1<=7)(hp:0<=q.2.1/\q.2.1<=2)(hv:1<=q.2.1->q.2.2.1=(Wg m q.1).2.1):
  (WV m rv q).1=q.1/\(WV m rv q).2.1=q.2.1+1/\(WV m rv q).2.2.1=(Wg m q.1).2.1:=by
 obtain⟨f1,f2⟩:=h q.1 hc.1 hc.2;have e:Xc m.2 (Xb q.1) (0,(0,0))=Wg m q.1:=rfl;unfold WV;simp only[e,Wu,War];have:q.2.1=0\/q.2.1=1\/q.2.1=2:=by omega
 rcases this with h0|h0|h0
 .rw[if_pos h0,if_pos f1,if_pos f2,h0];exact⟨rfl,rfl,rfl⟩
 .have:=hv (by omega);rw[if_neg (by omega),if_pos h0,h0];exact⟨rfl,rfl,this⟩
 .have:=hv (by omega);rw[if_neg (by omega),if_neg (by omega),if_pos h0,if_pos f1,if_pos this.symm,h0];exact⟨rfl,rfl,this⟩
theorem WoL{b:Bool}{p:Pb}{c:Int}(hm:WvK m rv)(hv:pbV m b p)(hb:b=true->p.2.1=1\/p.2.1=2)(hB:0<=c/\c<=7):
  (0<=(if b=true then p else(c,0,0,0)).1/\(if b=true then p else(c,0,0,0)).1<=7)/\(if b=true then p else(c,0,0,0)).2.1<=2/\
  (WV m rv (if b=true then p else(c,0,0,0))).1=(if b=true then p else(c,0,0,0)).1/\(WV m rv (if b=true then p else(c,0,0,0))).2.1=(if b=true then p else(c,0,0,0)).2.1+1/\
  (WV m rv (if b=true then p else(c,0,0,0))).2.2.1=(Wg m (if b=true then p else(c,0,0,0)).1).2.1:=by
 by_cases h:b=true
 .rw[if_pos h];have h1:=hv h;have h2:=hb h;exact⟨h1.1,by omega,Wrj hm h1.1 (by omega) λ_=>h1.2⟩
 .rw[if_neg h];exact⟨hB,by show(0:Int)<=2;omega,Wrj hm hB (by show(0:Int)<=0/\(0:Int)<=2;omega) λh=>by(change (1:Int)<=0 at h;omega)⟩
structure FGd(m:Mm)(f:Fm):Prop where
 lost:f.lost=false
 free:WvK m f.rv
 kid:∀(k:Nat) (h:k<f.kids.length),pbV m f.kids[k].busy f.kids[k].pb
theorem Wtm(hm:WvK m f.rv)(hl:f.lost=false)(hv:pbV m x.busy x.pb)(hb:x.busy=true->x.pb.2.1=1\/x.pb.2.1=2)(hB:0<=o.2.2.1/\o.2.2.1<=7):
  (Wej m f x o).1=f/\pbV m (Wej m f x o).2.busy (Wej m f x o).2.pb:=by
 unfold Wej;cases Wbc x.writes o.2.2.1 with
 |some v=>exact⟨rfl,hv⟩
 |none=>
  simp only;cases ent f.buf o.2.2.1 with
  |some r=>
   simp only;split
   .exact⟨rfl,(λh=>by cases h)⟩
   .exact⟨rfl,hv⟩
  |none=>
   simp only;obtain⟨hc,u5,hs⟩:=WoL (b:=x.busy) (p:=x.pb) (c:=o.2.2.1) hm hv hb hB;generalize (if x.busy=true then x.pb else(o.2.2.1,0,0,0))=q0 at*;generalize WV m f.rv q0=q at*;obtain⟨s1,s2,s3⟩:=hs;rw[if_neg (by omega)];split
   .exact⟨rfl,(λh=>by cases h)⟩
   .refine⟨rfl,λ_=>?_⟩;show(0<=q.1/\q.1<=7)/\q.2.2.1=(Wg m q.1).2.1;rw[s1];exact⟨hc,s3⟩
theorem Wub(hm:WvK m f.rv)(hl:f.lost=false)(bb:KC code)(hK:KOk code f.clock n x)(hv:pbV m x.busy x.pb)(ht:KT f k x):
  (Wei m f x k code).1.lost=false/\(Wei m f x k code).1.rv=f.rv/\(Wei m f x k code).1.kids=f.kids/\pbV m (Wei m f x k code).2.busy (Wei m f x k code).2.pb:=by
 have bZ:pbV m (f.again x).busy (f.again x).pb:=λh=>by cases h
 unfold Wei;split
 .rename_i h0;unfold WqK;split
  .exact⟨hl,rfl,rfl,hv⟩
  .obtain⟨i,hi,aF,ho⟩:=Wfk (l:=code) hK.pc.1 (by have:=hK.pc;omega);simp only[ho];split
   .have aI:=Wwb (bb.ok i hi).1 ‹_›;have hB:0<=code[i].2.2.1/\code[i].2.2.1<=7:=by have:=aI.2;unfold W7 at this;simpa using this
    obtain⟨a,b⟩:=Wtm (o:=code[i]) hm hl hv ht.pb hB;rw[a];exact⟨hl,rfl,rfl,b⟩
   .split
    .refine⟨hl,rfl,rfl,?_⟩;unfold Wh9;split<;>exact hv
    .repeat' split
     all_goals exact⟨hl,rfl,rfl,hv⟩
 .split
  .split
   .exact⟨hl,rfl,rfl,hv⟩
   .exact⟨hl,rfl,rfl,hv⟩
  .split
   .split
    .exact⟨hl,rfl,rfl,hv⟩
    .simp only;split
     .exact⟨hl,rfl,rfl,hv⟩
     .exact⟨hl,rfl,rfl,bZ⟩
   .exact⟨hl,rfl,rfl,hv⟩
theorem Wuy(hF:FOk codes n f)(hT:∀(j:Nat) (h:j<f.kids.length),KT f j f.kids[j])(hg:FGd m f)(hk:k<f.kids.length)(bb:KC (codes.getD k [])):FGd m (WcD m f k (codes.getD k [])):=by
 have hg0:f.kids.getD k {}=f.kids[k]:=Wf hk _;unfold WcD;rw[if_neg (by rw[hg.lost];simp),hg0];obtain⟨a,b,c,d⟩:=Wub (k:=k) hg.free hg.lost bb (hF.kid k hk) (hg.kid k hk) (hT k hk);refine⟨a,?_,λj hj=>?_⟩
 .show WvK m (Wei m f f.kids[k] k (codes.getD k [])).1.rv;rw[b];exact hg.free
 .have hj':j<f.kids.length:=by rw[Wlh c]at hj;exact hj
  rw[WgR hk c hj' hj];split
  .exact d
  .exact hg.kid j hj'
end
section
structure CGd(m:Mm)(c:Cm):Prop where
 ph:1<=c.phase/\c.phase<=5
 sole:∀i,0<=i->i<=7->owner m i=0\/owner m i=c.who
 ver:c.phase<=3->∀i,0<=i->i<=7->(Wg m i).2.1<=c.rv
variable{m:Mm}{c:Cm}
theorem Wpj(ph:Int)(h:ph=2\/ph=3\/ph=4\/ph=5\/ph=6):2<=Wal c ph/\Wal c ph<=6/\ph<=Wal c ph:=by
 unfold Wal;split
 .omega
 .split<;>omega
theorem Wgn{ph:Int}(h:ph=2\/ph=3\/ph=4\/ph=5\/ph=6)(hc:1<=c.phase/\c.phase<=5)(hle:c.phase<=ph):1<=(Wh c ph).phase/\(Wh c ph).phase<=6/\c.phase<=(Wh c ph).phase/\(Wh c ph).rv=c.rv/\(Wh c ph).who=c.who:=by
 unfold Wh;split
 .have:=Wpj (c:=c) ph h;show 1<=Wal c ph/\Wal c ph<=6/\c.phase<=Wal c ph/\_/\_;exact⟨by omega,by omega,by omega,rfl,rfl⟩
 .exact⟨by show 1<=c.phase;omega,by show c.phase<=6;omega,Xp _,rfl,rfl⟩
theorem Wrq(hc:CmOk c)(hm:WY m=true)(hk:CmLk m c)(hg:CGd m c)(cn:m.1<1000000):1<=(Wi m c).2.phase/\(Wi m c).2.phase<=6/\(Wi m c).2.rv=c.rv/\
  ((Wi m c).2.phase<=3->∀i,0<=i->i<=7->(Wg (Wi m c).1 i).2.1<=c.rv):=by
 have aR:=hg.ph;have hpos:=hc.pos;unfold Cm.steps at hpos;have ll:∀j:Nat,(h:j<c.puts.length)->0<=c.puts[j].1/\c.puts[j].1<=7:=λj h=>(hc.rows _ (Xq h)).1;unfold Wi;simp only;by_cases p1:c.phase=1
 .rw[if_pos p1];rw[p1]at hpos;simp at hpos;obtain⟨j,hj⟩:∃j:Nat,c.pos=j:=⟨c.pos.toNat,by omega⟩;have hjl:j<c.puts.length:=by omega
  have ca:Wbi c.puts c.pos (0,0)=c.puts[j]:=by unfold Wbi;rw[hj,Xj];exact Wf hjl _
  have hb:=ll j hjl;have bZ:¬lkd c c.puts[j].1:=λ⟨i,hi,a,b⟩=>by
   have hij:i<j:=by unfold lkA at b;omega
   have:=List.pairwise_iff_getElem.1 hc.pup i j hi hjl hij;omega
  have hown:(Wg m c.puts[j].1).2.2=0:=by
   rcases hg.sole _ hb.1 hb.2 with h|h
   .exact h
   .exact absurd ((hk.own _ hb.1 hb.2).1 h) bZ
  rw[ca,if_pos hown];obtain⟨a,b,_,d,_⟩:=Wgn (c:=c) (ph:=2) (by omega) aR (by omega);refine⟨a,b,d,λ_ i h0 h7=>?_⟩;show(Wg (Wiu m c.puts[j].1 c.who) i).2.1<=c.rv;unfold Wiu;rw[Wbl hm hb ⟨h0,h7⟩];split
  .exact hg.ver (by omega) _ hb.1 hb.2
  .exact hg.ver (by omega) i h0 h7
 rw[if_neg p1];by_cases p2:c.phase=2
 .rw[if_pos p2];have kG:tick m=((m.1+1,m.2),m.1+1):=by unfold tick;rw[if_pos cn]
  have h0:=(Wt hm).2.1;rw[kG,if_neg (show¬m.1+1=0 by omega)];have:=Wpj (c:={c with wv:=m.1+1}) 3 (by omega);exact⟨by show 1<=Wal {c with wv:=m.1+1} 3;omega,by show Wal {c with wv:=m.1+1} 3<=6;omega,rfl,λ_ i h0 h7=>hg.ver (by omega) i h0 h7⟩
 rw[if_neg p2];by_cases p3:c.phase=3
 .rw[if_pos p3];rw[p3]at hpos;simp at hpos;have nF:0<=Wbi c.reads c.pos 0/\Wbi c.reads c.pos 0<=7:=by
   have:Wbi c.reads c.pos 0=c.reads[c.pos.toNat]'(by omega):=Wf (by omega) _;rw[this];exact hc.rd _ (Xq _)
  have hs:=hg.sole _ nF.1 nF.2;have hv:=hg.ver (by omega) _ nF.1 nF.2;unfold owner at hs;rw[if_neg (by omega)];obtain⟨a,b,_,d,_⟩:=Wgn (c:=c) (ph:=4) (by omega) aR (by omega);exact⟨a,b,d,λ_ i h0 h7=>hg.ver (by omega) i h0 h7⟩
 rw[if_neg p3];by_cases p4:c.phase=4
 .rw[if_pos p4];obtain⟨a,b,e,d,_⟩:=Wgn (c:=c) (ph:=5) (by omega) aR (by omega);exact⟨a,b,d,λh=>by(change (Wh c 5).phase<=3 at h;omega)⟩
 rw[if_neg p4,if_pos (show c.phase=5 by omega)];obtain⟨a,b,e,d,_⟩:=Wgn (c:=c) (ph:=6) (by omega) aR (by omega);exact⟨a,b,d,λh=>by(change (Wh c 6).phase<=3 at h;omega)⟩
end
section
structure RGd(m:Mm)(x:Rt):Prop where
 dm:x.doomed=false
 sp:x.spare=0
 ph:x.phase=1\/x.phase=2\/x.phase=5\/x.phase=6\/x.phase=7
 run:x.phase=1\/x.phase=2->WvK m x.rv/\pbV m x.busy x.pb
 fam:x.phase=2->FGd m x.fam
 cm:x.phase=5->CGd m x.cm
 ft:x.phase=5\/x.phase=6\/x.phase=7->x.fate≠0
variable{w:Wo}{x y:Rt}{k:Nat}{p:Pg}{n:Int}{o:Opn}
theorem RGd.on{m:Mm}(h:RGd m x)(h1:x.phase=1)(hy:y.phase=1)(hd:y.doomed=x.doomed)(hs:y.spare=x.spare)(hr:y.rv=x.rv)(hv:pbV m y.busy y.pb):RGd m y:=
 ⟨hd.trans h.dm,hs.trans h.sp,.inl hy,λ_=>⟨by rw[hr];exact(h.run (.inl h1)).1,hv⟩,λh2=>by omega,λh2=>by omega,λh2=>by omega⟩
theorem Wnc(h:RGd w.mem x)(h1:x.phase=1){out:Int}(ho:out≠0):(W6 w x k out).2.phase=8\/RGd (W6 w x k out).1.mem (W6 w x k out).2:=by
 have hf:=(h.run (.inl h1)).1;unfold W6;simp only;generalize (if out=2 then []else x.writes)=rows;split
 .exact .inl rfl
 .have e:(Wa5 ((k:Int)+1) x.rv rows x.reads).phase=if(WcN rows).length=0 then 2 else 1:=rfl;refine .inr ⟨h.dm,h.sp,.inr (.inr (.inl rfl)),λh2=>?_,λh2=>?_,λ_=>⟨?_,λi a b=>.inl (hf i a b).1,λ_ i a b=>(hf i a b).2⟩,λ_=>ho⟩
  .change (5:Int)=1\/(5:Int)=2 at h2;omega
  .change (5:Int)=2 at h2;omega
  .show 1<=(Wa5 ((k:Int)+1) x.rv rows x.reads).phase/\(Wa5 ((k:Int)+1) x.rv rows x.reads).phase<=5;rw[e];split<;>omega
theorem Wtd(h:RGd w.mem x)(h1:x.phase=1)(ht:RT x)(hB:0<=o.2.2.1/\o.2.2.1<=7):RGd w.mem (Wci w x o):=by
 obtain⟨hf,hv⟩:=h.run (.inl h1);unfold Wci;cases Wbc x.writes o.2.2.1 with
 |some v=>exact h.on h1 h1 rfl rfl rfl hv
 |none=>
  simp only;obtain⟨hc,u5,hs⟩:=WoL (b:=x.busy) (p:=x.pb) (c:=o.2.2.1) hf hv ht.pb hB;generalize (if x.busy=true then x.pb else(o.2.2.1,0,0,0))=q0 at*;generalize WV w.mem x.rv q0=q at*;obtain⟨s1,s2,s3⟩:=hs;rw[if_neg (by omega)];split
  .exact h.on h1 h1 rfl rfl rfl (λh=>by cases h)
  .refine h.on h1 h1 rfl rfl rfl λ_=>?_;show(0<=q.1/\q.1<=7)/\q.2.2.1=(Wg w.mem q.1).2.1;rw[s1];exact⟨hc,s3⟩
theorem WvS(aG:CC p.1)(hl:RLive p n x)(h:RGd w.mem x)(h1:x.phase=1)(ht:RT x)(hh:∀e∈w.holds,e.1=(k:Int)+1):(Wdx w x k p).2.phase=8\/RGd (Wdx w x k p).1.mem (Wdx w x k p).2:=by
 obtain⟨hf,hv⟩:=h.run (.inl h1);unfold Wdx;split
 .exact Wnc h h1 (by omega)
 .obtain⟨i,hi,aF,ho⟩:=Wfk (l:=p.1) hl.pc.1 (by have:=hl.pc;omega);simp only[ho];split
  .have aI:=Wwb (aG.ok i hi).1 ‹_›;have hB:0<=p.1[i].2.2.1/\p.1[i].2.2.1<=7:=by have:=aI.2;unfold W7 at this;simpa using this
   exact .inr (Wtd h h1 ht hB)
  .split
   .unfold WbL;split
    .exact Wnc h h1 (by omega)
    .split
     .exact .inr (h.on h1 h1 rfl rfl rfl hv)
     .exact .inr (h.on h1 h1 rfl rfl rfl hv)
   .split
    .refine .inr ⟨h.dm,h.sp,.inr (.inl rfl),λ_=>⟨hf,hv⟩,λ_=>⟨rfl,hf,λj hj=>?_⟩,λh2=>?_,λh2=>?_⟩
     .have e:(WaA x.rv x.regs x.writes p.2.length).kids[j]={regs:=x.regs}:=by simp only[WaA,Xbj]
      show pbV w.mem (WaA x.rv x.regs x.writes p.2.length).kids[j].busy (WaA x.rv x.regs x.writes p.2.length).kids[j].pb;rw[e]
      exactλh=>by cases h
     .change (2:Int)=5 at h2;omega
     .change (2:Int)=5\/(2:Int)=6\/(2:Int)=7 at h2;omega
    .split
     .have hb:Wgf w.holds ((k:Int)+1) (WaC p.1[i]).1 (WaC p.1[i]).2= []:=by
       unfold Wgf;rw[List.map_eq_nil_iff,List.filter_eq_nil_iff];intro e he;have:=hh e he;unfold blk;simp[this]
      have e:WaT w.holds ((k:Int)+1) (WaC p.1[i]).1 (WaC p.1[i]).2=some (WgN w.holds ((k:Int)+1) (WaC p.1[i]).1 (WaC p.1[i]).2):=by unfold WaT;rw[if_pos hb]
      unfold Wbs;rw[e];exact .inr (h.on h1 h1 rfl rfl rfl hv)
     .repeat' split
      all_goals exact .inr (h.on h1 h1 rfl rfl rfl hv)
theorem Wtz(hp:POk p)(hx:ROk p n x)(h:RGd w.mem x)(ht:RT x)(hh:∀e∈w.holds,e.1=(k:Int)+1)(hm:WY w.mem=true)(hb:LB w k x)(cn:w.mem.1<1000000):
  (Wq w x k p).2.phase=8\/RGd (Wq w x k p).1.mem (Wq w x k p).2:=by
 unfold Wq;rw[if_neg (by rw[h.dm];simp),if_neg (by have:=h.ph;omega)];by_cases h1:x.phase=1
 .rw[if_pos h1];exact WvS hp.code (hx.live (by omega)) h h1 ht hh
 rw[if_neg h1];by_cases h2:x.phase=2
 .rw[if_pos h2];obtain⟨hf,hv⟩:=h.run (.inr h2);right;show RGd w.mem (WbN x);unfold WbN;rw[if_neg (by rw[(h.fam h2).lost];simp)];split
  .exact⟨h.dm,h.sp,.inl rfl,λ_=>⟨hf,hv⟩,λh2=>by(change (1:Int)=2 at h2;omega),λh2=>by(change (1:Int)=5 at h2;omega),λh2=>by(change (1:Int)=5\/(1:Int)=6\/(1:Int)=7 at h2;omega)⟩
  .exact h
 rw[if_neg h2,if_neg (by have:=h.ph;omega),if_neg (by have:=h.ph;omega)];have mf:=h.ft (by have:=h.ph;omega);by_cases h5:x.phase=5
 .rw[if_pos h5];obtain⟨hw,hcl⟩:=hb.cm h5;have hc:=hx.comm h5;have hg:=h.cm h5;obtain⟨a,b,d,e⟩:=Wrq hc hm hcl hg cn;have uA:=Wju w.mem x.cm;have gd:=λwho (a:who≠(k:Int)+1) (b:who≠0) (i:Int) (c:0<=i) (d:i<=7)=>WjE (i:=i) hc hm (who:=who) (by rw[hw];exact a) b ⟨c,d⟩;right;unfold W4;rw[if_neg (by rw[h.dm];simp)];simp only;show RGd (Wi w.mem x.cm).1 (Wab {x with cm:=(Wi w.mem x.cm).2});generalize (Wi w.mem x.cm).1=m' at*;generalize (Wi w.mem x.cm).2=c' at*;unfold Wab;simp only;rw[if_neg (by omega)];split
  .have aR:(if x.fate=2 then(6:Int)else 7)=6\/(if x.fate=2 then(6:Int)else 7)=7:=by split<;>simp
   generalize (if x.fate=2 then(6:Int)else 7)=ph at*;exact⟨h.dm,h.sp,by show ph=1\/ph=2\/ph=5\/ph=6\/ph=7;omega,λh2=>by(change ph=1\/ph=2 at h2;omega),λh2=>by(change ph=2 at h2;omega),λh2=>by(change ph=5 at h2;omega),λ_=>mf⟩
  .refine⟨h.dm,h.sp,.inr (.inr (.inl h5)),λh2=>by(change x.phase=1\/x.phase=2 at h2;omega),λh2=>by(change x.phase=2 at h2;omega),λ_=>⟨⟨a,by show c'.phase<=5;omega⟩,λi i0 i7=>?_,λh3 i i0 i7=>?_⟩,λ_=>mf⟩
   .show owner m' i=0\/owner m' i=c'.who;by_cases z0:owner m' i=0
    .exact .inl z0
    .by_cases zk:owner m' i=(k:Int)+1
     .exact .inr (by rw[uA,hw];exact zk)
     .have:=(gd _ zk z0 i i0 i7).1.1 rfl;rcases hg.sole i i0 i7 with hs|hs
      .rw[hs]at this;exact absurd this.symm z0
      .rw[hs,hw]at this;exact absurd this.symm zk
   .show(Wg m' i).2.1<=c'.rv;rw[d];exact e h3 i i0 i7
 rw[if_neg h5];by_cases h6:x.phase=6
 .rw[if_pos h6];right;by_cases hz:x.undos.length>0
  .rw[if_pos hz];exact⟨h.dm,h.sp,.inr (.inr (.inr (.inl h6))),λh2=>by(change x.phase=1\/x.phase=2 at h2;omega),λh2=>by(change x.phase=2 at h2;omega),λh2=>by(change x.phase=5 at h2;omega),λ_=>mf⟩
  .rw[if_neg hz];exact⟨h.dm,h.sp,.inr (.inr (.inr (.inr rfl))),λh2=>by(change (7:Int)=1\/(7:Int)=2 at h2;omega),λh2=>by(change (7:Int)=2 at h2;omega),λh2=>by(change (7:Int)=5 at h2;omega),λ_=>mf⟩
 .rw[if_neg h6,if_pos (by have:=h.ph;omega),if_neg mf];exact .inl rfl
end
section
variable{s:Sc}{w v:Wo}{n:Int}{a:Ac}{x y:Rt}{k:Nat}{p:Pg}{f:Fm}{codes:List (List Opn)}{m:Mm}
theorem WoF(hm:WY m=true)(bb:∀c∈codes,KC c)(h3:codes.length<=3)(hF:FOk codes n f)(hT:∀(j:Nat) (h:j<f.kids.length),KT f j f.kids[j])(hk:k<codes.length):
  (WcD m f k (codes.getD k [])).lost=true\/∀(j:Nat) (h:j<(WcD m f k (codes.getD k [])).kids.length),KT (WcD m f k (codes.getD k [])) j (WcD m f k (codes.getD k [])).kids[j]:=by
 have hlen:=hF.len;have cy:k<f.kids.length:=by omega
 by_cases bz:f.lost=true
 .exact .inl (by rw[Wg3 bz];exact bz)
 have aK:codes.getD k []=codes[k]:=Wf hk _;have hKO:=hF.kid k cy;rw[aK]at hKO;have ho:=Wrr (m:=m) (bb _ (Xq hk)) hF hKO (hT k cy);have hE:=WwR cy (by omega) (λc hc=>(bb c hc).toCC.len) hF hT rfl ho;have ay:WcD m f k (codes.getD k [])=Fm.put (Wei m f f.kids[k] k codes[k]) k:=by
  unfold WcD;rw[if_neg bz,aK,show f.kids.getD k {}=f.kids[k]from Wf cy _]
 rw[ay];rcases hE with hE|hE
 .exact .inl hE
 .exact .inr hE.kt
theorem Wqn{c:Cm}(hm:WY m=true):(Wi m c).1.1<=m.1+1:=by
 have ht:(tick m).1.1<=m.1+1:=by unfold tick;split<;>(simp only;omega)
 unfold Wi;simp only;by_cases p1:c.phase=1
 .rw[if_pos p1];split<;>(show m.1<=m.1+1;omega)
 rw[if_neg p1];by_cases p2:c.phase=2
 .rw[if_pos p2];split<;>exact ht
 rw[if_neg p2];by_cases p3:c.phase=3
 .rw[if_pos p3];split<;>(show m.1<=m.1+1;omega)
 rw[if_neg p3];by_cases p4:c.phase=4
 .rw[if_pos p4];unfold Wb1;split<;>(show m.1<=m.1+1;omega)
 rw[if_neg p4];by_cases p5:c.phase=5
 .rw[if_pos p5];unfold Way;split<;>(show m.1<=m.1+1;omega)
 rw[if_neg p5];by_cases p7:c.phase=7
 .rw[if_pos p7];unfold Way;split<;>(show m.1<=m.1+1;omega)
 rw[if_neg p7];show m.1<=m.1+1;omega
theorem WgK{out:Int}:(W6 w x k out).1.mem=w.mem:=by
 unfold W6;simp only;generalize (if out=2 then []else x.writes)=rows;split<;>rfl
theorem Wm9:(Wq w x k p).1.mem=w.mem\/(x.phase=5/\(Wq w x k p).1.mem=(Wi w.mem x.cm).1):=by
 unfold Wq;by_cases hd:x.doomed=true/\1<=x.phase/\x.phase<=4
 .rw[if_pos hd];exact .inl rfl
 rw[if_neg hd];by_cases h0:x.phase=0
 .rw[if_pos h0];left;unfold Wc9;repeat' split
  all_goals rfl
 rw[if_neg h0];by_cases h1:x.phase=1
 .rw[if_pos h1];left;unfold Wdx;split
  .exact WgK
  .simp only;generalize opN p.1 x.pc=o;split
   .rfl
   .split
    .unfold WbL;split
     .exact WgK
     .split<;>rfl
    .split
     .rfl
     .split
      .unfold Wbs;cases WaT w.holds ((k:Int)+1) (WaC o).1 (WaC o).2<;>rfl
      .repeat' split
       all_goals rfl
 rw[if_neg h1];by_cases h2:x.phase=2
 .rw[if_pos h2];exact .inl rfl
 rw[if_neg h2];by_cases h3:x.phase=3
 .rw[if_pos h3];left;unfold WaR;split<;>rfl
 rw[if_neg h3];by_cases h4:x.phase=4
 .rw[if_pos h4];exact .inl rfl
 rw[if_neg h4];by_cases h5:x.phase=5
 .rw[if_pos h5];unfold W4;split
  .exact .inl rfl
  .exact .inr ⟨h5,rfl⟩
 rw[if_neg h5];left;by_cases h6:x.phase=6
 .rw[if_pos h6];split<;>rfl
 rw[if_neg h6];by_cases h7:x.phase=7
 .rw[if_pos h7];split<;>rfl
 .rw[if_neg h7]
structure WT(w:Wo):Prop where
 root:∀(k:Nat) (h:k<w.roots.length),RT w.roots[k]
 clk:w.mem.1<=w.now
theorem Wrn{w0:Wo}{q:Wo×Rt}(hx:WT w0)(hr:q.1.roots=w0.roots)(hq:RT q.2)(hc:q.1.mem.1<=q.1.now):WT (Wo.put q k):=by
 refine⟨λi hi=>?_,hc⟩;change i<(q.1.roots.set k q.2).length at hi;have d9:i<w0.roots.length:=by rw[Xad,hr]at hi;exact hi
 show RT ((q.1.roots.set k q.2)[i]'hi);rw[Xao];split
 .exact hq
 .simp only[hr];exact hx.root i d9
theorem WrA(h:WOk s.2.1 n w)(hx:WT w):WT (Wc4 s w a):=by
 have cA:WT {w with now:=w.now+1}:=⟨hx.root,by have:=hx.clk;show w.mem.1<=w.now+1;omega⟩;unfold Wc4;simp only;split
 .rename_i hb;have hk:a.2.1.toNat<w.roots.length:=by omega
  have hR:=hx.root _ hk;have uC:a.2.1.toNat<s.2.1.length:=by rw[←h.len];exact hk
  rw[Wf hk];split
  .unfold Wh6;rw[Wf (show a.2.1.toNat<({w with now:=w.now+1}:Wo).roots.length from hk)];have ay:=WhM (w:={w with now:=w.now+1}) (k:=a.2.1.toNat) (Wf2 h.progs uC) ⟨h.mem,h.shelf,h.holds⟩ (h.root _ hk) (by have:=h.l4;omega) h.n0;refine Wrn cA (Whg h hk) (WpB hR) ?_;have qv:(Wq {w with now:=w.now+1} w.roots[a.2.1.toNat] a.2.1.toNat (s.2.1.getD a.2.1.toNat pg0)).1.now=w.now+1:=ay.now;rw[qv];have cn:=hx.clk;rcases Wm9 (w:={w with now:=w.now+1}) (x:=w.roots[a.2.1.toNat]) (k:=a.2.1.toNat) (p:=s.2.1.getD a.2.1.toNat pg0)with e|⟨_,e⟩
   .rw[e];show w.mem.1<=w.now+1;omega
   .rw[e];have:=Wqn (m:=w.mem) (c:=w.roots[a.2.1.toNat].cm) h.mem;show(Wi w.mem w.roots[a.2.1.toNat].cm).1.1<=w.now+1;omega
  .split
   .split
    .rename_i hc;unfold Wxn;refine Wrn (w0:={w with now:=w.now+1}) cA rfl ?_ cA.clk;refine⟨hR.pb,λ_=>?_,λh5=>by(change w.roots[a.2.1.toNat].phase=5 at h5;omega)⟩;have hp:=Wf2 h.progs uC;have hF:=((h.root _ hk).live (by omega)).fork hc.1;rcases hR.fam hc.1 with hl|hT
     .left;show(WcD w.mem w.roots[a.2.1.toNat].fam a.2.2.toNat _).lost=true;rw[Wg3 hl];exact hl
     .exact WoF h.mem hp.kids hp.k3 hF.2.2 hT (by omega)
    .exact cA
   .split
    .split
     .exact Wrn (w0:={w with now:=w.now+1}) cA rfl ⟨hR.pb,hR.fam,hR.cm⟩ cA.clk
     .exact cA
    .exact cA
 .exact cA
theorem Wsk:∀(l:List Ac) (n:Int) (w:Wo),WOk s.2.1 n w->WT w->WT (l.foldl (Wc4 s) w)
 | [],n,w,h,hx=>hx
 |a::l,n,w,h,hx=>Wsk l (n+1) _ (Wcy (a:=a) h) (WrA (a:=a) h hx)
theorem Wsn:WT (Wee s):=⟨λi h=>by
 simp only[Wee,Xbj];exact RT.no rfl (by show(0:Int)≠2;omega) (by show(0:Int)≠5;omega),Xp _⟩
end
section
variable{s:Sc}{w v:Wo}{n:Int}{a:Ac}{x y:Rt}{k:Nat}{p:Pg}{q:Wo×Rt}
structure TQ(w:Wo)(k:Nat)(x:Rt)(q:Wo×Rt):Prop where
 tok:q.1.token=w.token\/(q.1.token=(k:Int)+1/\w.token=0/\x.phase=0/\q.2.phase=0)\/(w.token=(k:Int)+1/\q.1.token=0/\q.2.phase=8)
 try1:x.phase≠0->x.phase≠8->q.2.phase≠0->q.2.tries=x.tries
 idle:x.phase=0->q.2.phase=0\/(q.2.tries=x.tries/\(w.token=0/\x.tries<3\/w.token=(k:Int)+1/\Waa k w.roots 0=true)/\q.1.token=w.token)
 done:x.phase=8->q=(w,x)
theorem TQ.keep(ht:q.1.token=w.token)(hr:q.2.tries=x.tries)(h0:x.phase≠0)(h8:x.phase≠8):TQ w k x q:=
 ⟨.inl ht,λ_ _ _=>hr,λh=>absurd h h0,λh=>absurd h h8⟩
theorem Wr1{w0:Wo}{x0:Rt}(hw:w0.token=w.token)(hr:x0.tries=x.tries)(h0:x.phase≠0)(h8:x.phase≠8):TQ w k x (Wjh w0 x0 k):=by
 refine⟨?_,λ_ _ _=>hr,λh=>absurd h h0,λh=>absurd h h8⟩;show(if w0.token=(k:Int)+1 then 0 else w0.token)=w.token\/_;split
 .rename_i h;right;right;refine⟨by rw[←hw];exact h,?_,rfl⟩;show(if w0.token=(k:Int)+1 then 0 else w0.token)=0;rw[if_pos h]
 .exact .inl hw
theorem Wne{out:Int}(h0:x.phase≠0)(h8:x.phase≠8):TQ w k x (W6 w x k out):=by
 unfold W6;simp only;generalize (if out=2 then []else x.writes)=rows;split
 .exact Wr1 rfl rfl h0 h8
 .exact TQ.keep rfl rfl h0 h8
theorem WeP:(Wy x).tries=x.tries:=by
 unfold Wy;split<;>rfl
theorem WkB:TQ w k x (Wq w x k p):=by
 unfold Wq;by_cases hd:x.doomed=true/\1<=x.phase/\x.phase<=4
 .rw[if_pos hd];exact TQ.keep rfl rfl (by omega) (by omega)
 rw[if_neg hd];by_cases h0:x.phase=0
 .rw[if_pos h0];have h8:x.phase≠8:=by omega
  unfold Wc9;split
  .exact⟨.inl rfl,λh=>absurd h0 h,λ_=>.inl h0,λh=>absurd h h8⟩
  .split
   .rename_i h;exact⟨.inr (.inl ⟨rfl,h.2,h0,h0⟩),λh=>absurd h0 h,λ_=>.inl h0,λh=>absurd h h8⟩
   .split
    .exact⟨.inl rfl,λh=>absurd h0 h,λ_=>.inl h0,λh=>absurd h h8⟩
    .rename_i a1 a2 a3;refine⟨.inl rfl,λh=>absurd h0 h,λ_=>.inr ⟨rfl,?_,rfl⟩,λh=>absurd h h8⟩;by_cases ht:w.token=0
     .exact .inl ⟨ht,by omega⟩
     .have hk:w.token=(k:Int)+1:=by omega
      refine .inr ⟨hk,?_⟩;cases ho:Waa k w.roots 0 with
      |true=>rfl
      |false=>exact absurd ⟨hk,ho⟩ a3
 rw[if_neg h0];by_cases h8:x.phase=8
 .rw[if_neg (by omega),if_neg (by omega),if_neg (by omega),if_neg (by omega),if_neg (by omega),if_neg (by omega),if_neg (by omega)];exact⟨.inl rfl,λ_ h=>absurd h8 h,λh=>absurd h h0,λ_=>rfl⟩
 have keep:∀q:Wo×Rt,q.1.token=w.token->q.2.tries=x.tries->TQ w k x q:=λq a b=>TQ.keep a b h0 h8;by_cases h1:x.phase=1
 .rw[if_pos h1];unfold Wdx;split
  .exact Wne h0 h8
  .simp only;generalize opN p.1 x.pc=o;split
   .refine keep _ rfl ?_;unfold Wci;cases Wbc x.writes o.2.2.1 with
    |some v=>rfl
    |none=>
     simp only;generalize WV w.mem x.rv _=b;split
     .exact WeP
     .split<;>rfl
   .split
    .unfold WbL;split
     .exact Wne h0 h8
     .split<;>exact keep _ rfl rfl
    .split
     .exact keep _ rfl rfl
     .split
      .unfold Wbs;cases WaT w.holds ((k:Int)+1) (WaC o).1 (WaC o).2 with
       |none=>exact keep _ rfl WeP
       |some hs=>exact keep _ rfl rfl
      .repeat' split
       all_goals exact keep _ rfl rfl
 rw[if_neg h1];by_cases h2:x.phase=2
 .rw[if_pos h2];refine keep _ rfl ?_;show(WbN x).tries=x.tries;unfold WbN;split
  .rfl
  .split<;>rfl
 rw[if_neg h2];by_cases h3:x.phase=3
 .rw[if_pos h3];unfold WaR;split<;>exact keep _ rfl rfl
 rw[if_neg h3];by_cases h4:x.phase=4
 .rw[if_pos h4];refine keep _ rfl ?_;show(Waz w x).tries=x.tries;unfold Waz;simp only;split
  .split<;>rfl
  .rfl
 rw[if_neg h4];by_cases h5:x.phase=5
 .rw[if_pos h5];unfold W4;split
  .refine keep _ rfl ?_;simp only;split<;>rfl
  .refine keep _ rfl ?_;show(Wab {x with cm:=(Wi w.mem x.cm).2}).tries=x.tries;unfold Wab;split
   .rfl
   .split<;>rfl
 rw[if_neg h5];by_cases h6:x.phase=6
 .rw[if_pos h6];split<;>exact keep _ rfl rfl
 rw[if_neg h6];by_cases h7:x.phase=7
 .rw[if_pos h7];split
  .exact⟨.inl rfl,λ_ _ h=>absurd rfl h,λh=>absurd h h0,λh=>absurd h h8⟩
  .exact Wr1 rfl rfl h0 h8
 .rw[if_neg h7];exact keep _ rfl rfl
end
section
variable{s:Sc}{w v:Wo}{n:Int}{a:Ac}{x y:Rt}{k:Nat}{p:Pg}{q:Wo×Rt}
theorem WdL:∀{l:List Rt} {i:Nat},Waa k l i=true->∀(j:Nat) (h:j<l.length),i+j≠k->l[j].phase=0\/l[j].phase=8
 | [],i,_,j,h,_=>by simp at h
 |x::l,i,ho,j,h,hne=>by
  rw[Waa]at ho;simp only[Xh,Xbw,decide_eq_true_eq]at ho;cases j with
  |zero=>
   rcases ho.1 with h1|h1
   .exact absurd h1 (by simpa using hne)
   .exact h1
  |succ j=>exact WdL ho.2 j (by simpa using h) (by omega)
structure TX(w:Wo):Prop where
 t1:∀(k:Nat) (h:k<w.roots.length),w.roots[k].phase≠0->w.roots[k].phase≠8->w.roots[k].tries>=3->w.token=(k:Int)+1
 t2:∀(k:Nat) (h:k<w.roots.length),w.token=(k:Int)+1->w.roots[k].phase≠0->∀(j:Nat) (h:j<w.roots.length),j≠k->w.roots[j].phase=0\/w.roots[j].phase=8
theorem WuV{w0:Wo}(hx:TX w0)(hl:LX w0)(hk:k<w0.roots.length)(hr:q.1.roots=w0.roots)(hq:TQ w0 k w0.roots[k] q):TX (Wo.put q k):=by
 have hlen:(q.1.roots.set k q.2).length=w0.roots.length:=by rw[Xad,hr]
 have ca:∀(i:Nat) (hi:i<w0.roots.length),(q.1.roots.set k q.2)[i]'(by rw[hlen];exact hi)=if k=i then q.2 else w0.roots[i]:=λi hi=>by
  rw[Xao];simp only[hr]
 have yp:w0.roots[k].phase=8->q.2=w0.roots[k]:=λh=>by rw[hq.done h]
 refine⟨λi hi p0 p8 ht=>?_,λi hi ht p0 j hj hne=>?_⟩
 .change i<(q.1.roots.set k q.2).length at hi;have d9:i<w0.roots.length:=by rw[←hlen];exact hi
  change ((q.1.roots.set k q.2)[i]'hi).phase≠0 at p0;change ((q.1.roots.set k q.2)[i]'hi).phase≠8 at p8;change ((q.1.roots.set k q.2)[i]'hi).tries>=3 at ht;rw[ca i d9]at p0 p8 ht;show q.1.token=(i:Int)+1;by_cases he:k=i
  .subst he;rw[if_pos rfl]at p0 p8 ht;by_cases h0:w0.roots[k].phase=0
   .rcases hq.idle h0 with h|⟨h1,h2,h3⟩
    .exact absurd h p0
    .rw[h3];rcases h2 with h2|h2
     .omega
     .exact h2.1
   .by_cases h8:w0.roots[k].phase=8
    .rw[yp h8]at p8;exact absurd h8 p8
    .have lK:=hq.try1 h0 h8 p0;have:=hx.t1 k hk h0 h8 (by omega);rcases hq.tok with h|⟨h,_⟩|⟨_,_,h⟩
     .rw[h];exact this
     .exact h
     .exact absurd h p8
  .rw[if_neg he]at p0 p8 ht;have:=hx.t1 i d9 p0 p8 ht;rcases hq.tok with h|⟨_,h,_⟩|⟨h,_⟩
   .rw[h];exact this
   .omega
   .omega
 .change i<(q.1.roots.set k q.2).length at hi;change j<(q.1.roots.set k q.2).length at hj;have d9:i<w0.roots.length:=by rw[←hlen];exact hi
  have uD:j<w0.roots.length:=by rw[←hlen];exact hj
  change q.1.token=(i:Int)+1 at ht;change ((q.1.roots.set k q.2)[i]'hi).phase≠0 at p0;show((q.1.roots.set k q.2)[j]'hj).phase=0\/((q.1.roots.set k q.2)[j]'hj).phase=8;rw[ca i d9]at p0;rw[ca j uD];by_cases he:k=i
  .subst he;rw[if_pos rfl]at p0;rw[if_neg (λh=>hne h.symm)];by_cases h0:w0.roots[k].phase=0
   .rcases hq.idle h0 with h|⟨h1,h2,h3⟩
    .exact absurd h p0
    .rcases h2 with h2|h2
     .rw[h3,h2.1]at ht;omega
     .exact WdL h2.2 j uD (by omega)
   .rcases hq.tok with h|⟨_,_,h,_⟩|⟨_,h,_⟩
    .exact hx.t2 k hk (by rw[←h];exact ht) h0 j uD hne
    .exact absurd h h0
    .omega
  .rw[if_neg he]at p0;have yq:w0.token=(i:Int)+1:=by
    rcases hq.tok with h|⟨h,_⟩|⟨_,h,_⟩
    .rw[←h];exact ht
    .omega
    .omega
   by_cases hkj:k=j
   .subst hkj;rw[if_pos rfl];have ji:=hx.t2 i d9 yq p0 k hk (λh=>he h);rcases ji with h0|h8
    .rcases hq.idle h0 with h|⟨_,h2,_⟩
     .exact .inl h
     .rcases h2 with h2|h2<;>omega
    .rw[yp h8];exact .inr h8
   .rw[if_neg hkj];exact hx.t2 i d9 yq p0 j uD hne
theorem Ws6(h:WOk s.2.1 n w)(hl:LX w)(hx:TX w):TX (Wc4 s w a):=by
 have cA:TX {w with now:=w.now+1}:=⟨hx.t1,hx.t2⟩;have aT:LX {w with now:=w.now+1}:=⟨λk hk=>⟨(hl.root k hk).cm,(hl.root k hk).no,(hl.root k hk).hd,(hl.root k hk).tk⟩,hl.ow,hl.hd,hl.tk⟩;unfold Wc4;simp only;split
 .rename_i hb;have hk:a.2.1.toNat<w.roots.length:=by omega
  have same:∀y:Rt,y.phase=w.roots[a.2.1.toNat].phase->y.tries=w.roots[a.2.1.toNat].tries->w.roots[a.2.1.toNat].phase≠0->w.roots[a.2.1.toNat].phase≠8->TX (Wo.put ({w with now:=w.now+1},y) a.2.1.toNat):=λy e1 e2 h0 h8=>
   WuV (w0:={w with now:=w.now+1}) cA aT hk rfl ⟨.inl rfl,λ_ _ _=>e2,λh=>absurd h h0,λh=>absurd h h8⟩
  rw[Wf hk];split
  .unfold Wh6;rw[Wf (show a.2.1.toNat<({w with now:=w.now+1}:Wo).roots.length from hk)];exact WuV (w0:={w with now:=w.now+1}) cA aT hk (Whg h hk) WkB
  .split
   .split
    .rename_i hc;exact same _ rfl rfl (by omega) (by omega)
    .exact cA
   .split
    .split
     .rename_i hc;exact same _ rfl rfl (by omega) (by omega)
     .exact cA
    .exact cA
 .exact cA
theorem Wrz:∀(l:List Ac) (n:Int) (w:Wo),WOk s.2.1 n w->WX w->LX w->TX w->TX (l.foldl (Wc4 s) w)
 | [],n,w,h,hx,hl,ht=>ht
 |a::l,n,w,h,hx,hl,ht=>Wrz l (n+1) _ (Wcy (a:=a) h) (Wgl (a:=a) h hx).1 (Wn6 h hx hl) (Ws6 h hl ht)
theorem Wsd:TX (Wee s):=by
 have e:∀(k:Nat) (h:k<(Wee s).roots.length),(Wee s).roots[k].phase=0:=λk h=>by simp only[Wee,Xbj]
 exact⟨λk h h0=>absurd (e k h) h0,λk h _ h0=>absurd (e k h) h0⟩
end
section
variable{w:Wo}{n:Int}{x y:Rt}{k:Nat}{p:Pg}{f g:Fm}{m:Mm}
theorem WnZ(h2:x.phase=2):Wl p x=if x.fam.lost=true then(x.undos.length:Int)+3 else 73-3*x.pc+WlJ x.fam+WaY x:=by unfold Wl;rw[if_neg (by omega),if_pos h2]
theorem WvO{i:Nat}(hR:FmR f i g){b:Int}(hb:0<=b)(h:∀(j:Nat) (h:j<f.kids.length) (h':j<g.kids.length),WaD g.kids[j]=1->fP g g.kids[j]+fQ g<=b):WlJ g<=b:=by
 refine WlH hb λz hz hu=>?_;obtain⟨j,hj,he⟩:=Xam hz;rw[←he]at hu⊢;exact h j (by rw[←hR.len];exact hj) hj hu
theorem Wii(hp:POk p)(hx:ROk p n x)(ht:RT x)(h2:x.phase=2)(hl:x.fam.lost≠true)(ho:Wbd x.fam≠true)(hm:WY m=true):
  Wl p {x with fam:=Wb2 m p.2 p.2.length 0 x.fam}<Wl p x:=by
 have hL:=hx.live (by omega);have hs:=hL.spare;have hlen:=hp.code.len;obtain⟨f1,f2,f3⟩:=hL.fork h2;have hT:=(ht.fam h2).resolve_left hl;have mG:∀c∈p.2,c.length<=24:=λc hc=>(hp.kids c hc).toCC.len;have hR:=Wsh hm hp.kids hp.k3 p.2.length 0 n x.fam (by omega) f3 hT;have h1:1<=WlJ x.fam:=by
  have:∃z∈x.fam.kids,z.phase≠3:=by
   apply Classical.byContradiction;intro bZ;apply ho;unfold Wbd;rw[Xae];intro z hz;by_cases h3:z.phase=3
   .simpa using h3
   .exact absurd ⟨z,hz,h3⟩ bZ
  obtain⟨z,hz,Ah⟩:=this;obtain⟨j,hj,he⟩:=Xam hz;have hu:WaD x.fam.kids[j]=1:=Wcj (by rw[he];exact Ah);have a:=Wxt f3 mG hT hj hu;have b:=Won (f:=x.fam) _ (Xq hj) hu;unfold WlJ;omega
 rw[WnZ h2,if_neg hl,WnZ (x:={x with fam:=Wb2 m p.2 p.2.length 0 x.fam}) h2];show(if(Wb2 m p.2 p.2.length 0 x.fam).lost=true then(x.undos.length:Int)+3 else 73-3*x.pc+WlJ (Wb2 m p.2 p.2.length 0 x.fam)+WaY x)<_;split
 .unfold WaY;omega
 .rename_i iJ;have hR:=hR.resolve_left iJ;have:WlJ (Wb2 m p.2 p.2.length 0 x.fam)<=WlJ x.fam-1:=WvO hR (by omega) λj h h' hu=>by
   obtain⟨a1,a2,a3⟩:=hR.p j h h' hu;have b:=Won (f:=x.fam) _ (Xq h) a1;rcases a3 (by omega)with c|⟨_,k,hk,_⟩
   .unfold WlJ;omega
   .omega
  omega
end
section
def Wcv(s:Sc)(k:Nat):Nat->Nat->Wo->Wo
 |0,_,w=>w
 |d+1,j,w=>Wcv s k d (j+1) (Wc4 s w (2,(k:Int),(j:Int)))
def WaP(s:Sc):Nat->Nat->Wo->Wo
 |0,_,w=>w
 |d+1,i,w=>WaP s d (i+1) (Wcv s i (s.2.1.getD i pg0).2.length 0 (Wc4 s w (1,(i:Int),0)))
def WfO(w:Wo):Bool:=w.roots.all λx=>decide (x.phase=8)
def WaM(s:Sc):Nat->Wo->Wo×Nat
 |0,w=>(w,0)
 |d+1,w=>if WfO w=true then(w,0)else((WaM s d (WaP s s.2.1.length 0 w)).1,(WaM s d (WaP s s.2.1.length 0 w)).2+1)
variable{s:Sc}{w v:Wo}{n:Int}{k:Nat}{N:Nat}
theorem WkY:∀(d j:Nat) (n:Int) (w:Wo),WOk s.2.1 n w->WOk s.2.1 (n+d) (Wcv s k d j w)
 |0,_,n,w,h=>by rw[Wcv];simpa using h
 |d+1,j,n,w,h=>by
  have:=WkY d (j+1) (n+1) _ (Wcy (a:=(2,(k:Int),(j:Int))) h);rw[Wcv,show n+((d+1:Nat):Int)=n+1+(d:Int) by omega];exact this
theorem Wvp{R:Type}{rounds:Int}{b1 b2 b3 b4:Int}{ke:Int}{K0:Int->Bool->Int->Int->Int->Int->List Kb->List Int->List Kb->List Y_Root->List Kn->Option R}(hN:1048576<N)(hk:k<s.2.1.length)(h3:s.2.1[k].2.length<=3):
  ∀(d j fuel:Nat) (n:Int) (w:Wo),j+d=s.2.1[k].2.length->d<fuel->WOk s.2.1 n w->n+d<=99999->
  Zch N rounds (k:Int) s.2.1 ke s b1 b2 b3 b4 K0 fuel (j:Int) w.now w.token w.mem.1 w.shelf.2 w.mem.2 w.shelf.1 w.holds (w.roots.map Rt.e) w.hist=
  K0 (s.2.1[k].2.length:Int) false (Wcv s k d j w).now (Wcv s k d j w).token (Wcv s k d j w).mem.1 (Wcv s k d j w).shelf.2 (Wcv s k d j w).mem.2 (Wcv s k d j w).shelf.1 (Wcv s k d j w).holds ((Wcv s k d j w).roots.map Rt.e) (Wcv s k d j w).hist:=by
 intro d;have ca:Xc s.2.1 (Xb (k:Int)) (([]:List Ka),([]:List Kx))=s.2.1[k]:=WB hk _
 induction d with
 |zero=>
  intro j fuel n w hj hf hw hn;obtain⟨f,rfl⟩:∃f,fuel=f+1:=⟨fuel-1,by omega⟩;have:decide ((j:Int)<Wb s.2.1[k].2)=false:=decide_eq_false (by unfold Wb;omega);simp only[Zch,Wz,ca,this,cond_false,Wcv];rw[show(j:Int)=(s.2.1[k].2.length:Int) by omega]
 |succ d ih=>
  intro j fuel n w hj hf hw hn;obtain⟨f,rfl⟩:∃f,fuel=f+1:=⟨fuel-1,by omega⟩;have:decide ((j:Int)<Wb s.2.1[k].2)=true:=decide_eq_true (by unfold Wb;omega);have hr:=Woj (a:=(2,(k:Int),(j:Int))) hw (by omega) hN;simp only[Zch,Wz,ca,this,cond_true];rw[show((w.now,(w.token,((w.mem.1,w.mem.2),((w.shelf.1,w.shelf.2),(w.holds,(w.roots.map Rt.e,w.hist)))))):Y_World)=w.e from rfl,hr];simp only[Xd,Wk (show j<4611686018427387904 by omega)];rw[Wcv];exact ih (j+1) f (n+1) _ (by omega) (by omega) (Wcy hw) (by omega)
theorem pk3(h:WOk s.2.1 n w){i:Nat}(hi:i<s.2.1.length):(s.2.1.getD i pg0).2.length<=3:=(Wf2 h.progs hi).k3
theorem Wms:∀(d i:Nat) (n:Int) (w:Wo),i+d=s.2.1.length->WOk s.2.1 n w->∃n',n<=n'/\n'<=n+4*d/\WOk s.2.1 n' (WaP s d i w)
 |0,_,n,w,hi,h=>⟨n,by omega,by omega,by rw[WaP];exact h⟩
 |d+1,i,n,w,hi,h=>by
  have h1:=WkY (k:=i) (s.2.1.getD i pg0).2.length 0 (n+1) _ (Wcy (a:=(1,(i:Int),0)) h);have h3:=pk3 h (i:=i) (by omega);obtain⟨n',a,b,c⟩:=Wms d (i+1) _ _ (by omega) h1;exact⟨n',by omega,by omega,by rw[WaP];exact c⟩
theorem WtH{R:Type}{rounds:Int}{b1 b2 b3 b4:Int}{K0:Int->Bool->Int->Int->Int->Int->List Kb->List Int->List Kb->List Y_Root->List Kn->Option R}(hN:1048576<N)(kp:s.2.1.length<=4):
  ∀(d i fuel:Nat) (n:Int) (w:Wo),i+d=s.2.1.length->d<fuel->WOk s.2.1 n w->n+4*d<=99999->
  Zbv N rounds s.2.1 s b1 b2 b3 b4 K0 fuel (i:Int) w.now w.token w.mem.1 w.shelf.2 w.mem.2 w.shelf.1 w.holds (w.roots.map Rt.e) w.hist=
  K0 (s.2.1.length:Int) false (WaP s d i w).now (WaP s d i w).token (WaP s d i w).mem.1 (WaP s d i w).shelf.2 (WaP s d i w).mem.2 (WaP s d i w).shelf.1 (WaP s d i w).holds ((WaP s d i w).roots.map Rt.e) (WaP s d i w).hist:=by
 intro d
 induction d with
 |zero=>
  intro i fuel n w hi hf hw hn;obtain⟨f,rfl⟩:∃f,fuel=f+1:=⟨fuel-1,by omega⟩;have:i=s.2.1.length:=by omega
  subst this;simp only[Zbv,WaH (Xn _),cond_false,WaP]
 |succ d ih=>
  intro i fuel n w hi hf hw hn;obtain⟨f,rfl⟩:∃f,fuel=f+1:=⟨fuel-1,by omega⟩;have hlt:i<s.2.1.length:=by omega
  have hr:=Woj (a:=(1,(i:Int),0)) hw (by omega) hN;have hg:s.2.1.getD i pg0=s.2.1[i]:=Wf hlt _;have h3:=pk3 hw hlt;rw[hg]at h3;have yr:=Wcy (a:=(1,(i:Int),0)) hw;have hk:=Wvp (R:=R) (rounds:=rounds) (b1:=b1) (b2:=b2) (b3:=b3) (b4:=b4) (ke:=Wb s.2.1)
   (K0:=λvR vS po pq pt pu px py pz pA pB=>(Zbv N rounds s.2.1 s b1 b2 b3 b4 K0 f (We .i64 (i:Int) (1:Int)) po pq pt pu px py pz pA pB)) hN hlt h3 s.2.1[i].2.length 0 N (n+1) _ (by omega) (by omega) yr (by omega)
  have aI:=WkY (k:=i) s.2.1[i].2.length 0 (n+1) _ yr;simp only[Zbv,Wao hlt,Wv hlt,cond_true];rw[show((w.now,(w.token,((w.mem.1,w.mem.2),((w.shelf.1,w.shelf.2),(w.holds,(w.roots.map Rt.e,w.hist)))))):Y_World)=w.e from rfl,hr];simp only[Xd];refine hk.trans ?_;simp only[Wk (show i<4611686018427387904 by omega)];rw[WaP,hg];exact ih (i+1) f _ _ (by omega) (by omega) aI (by omega)
theorem Wo0(hl:w.roots.length<=4)(hN:1048576<N):Znt N w.e=ret (WfO w):=by
 unfold Znt Zax Z1;have e1:w.e.2.2.2.2.2.1=w.roots.map Rt.e:=rfl;rw[e1];have hb:(w.roots.map Rt.e).length<=4:=by simpa using hl
 have h1:=WO (l:=w.roots.map Rt.e) (V:=Unit) (R:=Unit×Kh) (lp:=λn j _=>Zk N (w.roots.map Rt.e) (λaL=>(some ((),(aL,())))) (λaM be=>(some ((),((-1:Int),())))) n j) (n:=N) (by omega)
  (body:=λj x v k=>bif (x.1 !=8)then some ((),(j,()))else k v) (K:=λ_ v=>some ((),((-1:Int),())))
  (λn i u hi=>by
   simp only[Zk,Zn0,Wao hi,Wv hi,WB hi,Wk (show i<4611686018427387904 by omega),cond_true,Xd])
  (λn u=>by simp only[Zk,WaH (Xn _),cond_false]) ()
 have h2:∀(l:List Y_Root) (j:Nat),∃r:Int,Wcg (λ(j:Int) (x:Y_Root) (v:Unit) (k:Unit->Option Kt)=>bif (x.1 !=8)then some ((),(j,()))else k v) (λ_ v=>some ((),((-1:Int),()))) l j ()=some ((),(r,()))/\(decide (r>=0)= !(l.all λx=>x.1==8)):=λl=>by
  induction l with
  |nil=>intro j;exact⟨-1,rfl,rfl⟩
  |cons x l ih=>
   intro j;rw[Wcg];cases hx:x.1==8 with
   |true=>
    have:(x.1 !=8)=false:=by rw[bne,hx];rfl
    simp only[this,cond_false];obtain⟨r,a,b⟩:=ih (j+1);exact⟨r,a,by rw[b,Xcj,hx];rfl⟩
   |false=>
    have:(x.1 !=8)=true:=by rw[bne,hx];rfl
    simp only[this,cond_true];exact⟨j,rfl,by rw[Xcj,hx];simp⟩
 obtain⟨r,a,b⟩:=h2 (w.roots.map Rt.e) 0;rw[h1.trans a];simp only[Xd,b,Bool.not_not];have:((w.roots.map Rt.e).all λx=>x.1==8)=WfO w:=by
  unfold WfO;rw[List.all_map];congr 1
 rw[this]
theorem WtM{R:Type}{K0:Int->Bool->Int->Int->Int->Int->List Kb->List Int->List Kb->List Y_Root->List Kn->Option R}(hN:1048576<N)(kp:s.2.1.length<=4):
  ∀(d r fuel:Nat) (n:Int) (w:Wo),r+d=6000->d<fuel->WOk s.2.1 n w->n+16*d<=99999->
  Zbw N s K0 fuel (r:Int) w.now w.token w.mem.1 w.shelf.2 w.mem.2 w.shelf.1 w.holds (w.roots.map Rt.e) w.hist=
  (λv:Wo×Nat=>K0 ((r+v.2:Nat):Int) false v.1.now v.1.token v.1.mem.1 v.1.shelf.2 v.1.mem.2 v.1.shelf.1 v.1.holds (v.1.roots.map Rt.e) v.1.hist) (WaM s d w):=by
 intro d
 induction d with
 |zero=>
  intro r fuel n w hr hf hw hn;obtain⟨f,rfl⟩:∃f,fuel=f+1:=⟨fuel-1,by omega⟩;have hl:w.roots.length<=4:=by rw[hw.len];exact kp
  simp only[Zbw];rw[show((w.now,(w.token,((w.mem.1,w.mem.2),((w.shelf.1,w.shelf.2),(w.holds,(w.roots.map Rt.e,w.hist)))))):Y_World)=w.e from rfl,Wo0 hl hN];have h6:decide ((r:Int)<6000)=false:=decide_eq_false (by omega);simp only[ret,Xd,h6,cond_false,WaM,Xau];cases WfO w<;>rfl
 |succ d ih=>
  intro r fuel n w hr hf hw hn;obtain⟨f,rfl⟩:∃f,fuel=f+1:=⟨fuel-1,by omega⟩;have hl:w.roots.length<=4:=by rw[hw.len];exact kp
  simp only[Zbw];rw[show((w.now,(w.token,((w.mem.1,w.mem.2),((w.shelf.1,w.shelf.2),(w.holds,(w.roots.map Rt.e,w.hist)))))):Y_World)=w.e from rfl,Wo0 hl hN];have h6:decide ((r:Int)<6000)=true:=decide_eq_true (by omega);simp only[ret,Xd,h6,cond_true,WaM];cases ho:WfO w with
  |true=>rfl
  |false=>
   simp only[Bool.not_false,cond_true,Bool.false_eq_true,if_false];obtain⟨n',a,b,c⟩:=Wms s.2.1.length 0 n w (by omega) hw;have eI:=WtH (s:=s) (R:=R) (rounds:=We .i64 (r:Int) 1) (b1:=0) (b2:=0) (b3:=0) (b4:=0)
    (K0:=λvU vW pC pD pE pF pG pH pI pJ pK=>(Zbw N s K0 f (We .i64 (r:Int) (1:Int)) pC pD pE pF pG pH pI pJ pK)) hN kp s.2.1.length 0 N n w (by omega) (by omega) hw (by omega)
   refine eI.trans ?_;simp only[Wk (show r<4611686018427387904 by omega)];rw[ih (r+1) f n' _ (by omega) (by omega) c (by omega)];simp only[show r+1+(WaM s d (WaP s s.2.1.length 0 w)).2=r+((WaM s d (WaP s s.2.1.length 0 w)).2+1) by omega]
theorem WrJ(hb:SB s)(hN:1048576<N)(aI:WjV s=true):Zbo N s=some ((),((WaM s 6000 (Wek s)).1.e,(((WaM s 6000 (Wek s)).2:Int),()))):=by
 obtain⟨h1,h2,h3,h4⟩:=WeH aI;have hW:=Wli aI;have hp:=Wst hb hN;unfold Zbo;rw[Wfp hb hN,aI];simp only[ret,Xd,Bool.not_true,cond_false];rw[hp,if_pos aI];simp only[ret,Xd];have hlen:(s.2.2.length:Int)<=400:=by omega
 have:=WtM (s:=s) (N:=N) (K0:=λdI vX pL pM pN pO pP pQ pR pS pT=>(some ((),((pL,(pM,((pN,pP),((pQ,pO),(pR,(pS,pT)))))),(dI,()))):Option (Unit×(Y_World×Kh)))) hN (by omega) 6000 0 N _ (Wek s) (by omega) (by omega) hW (by omega);refine this.trans ?_;simp only[Nat.zero_add];rfl
end
section
variable{s:Sc}{w v:Wo}{n:Int}{x y:Rt}{k:Nat}{p:Pg}{f g:Fm}{m:Mm}{o:Opn}
def WcT(p:Pg)(x:Rt):Int:=if x.phase<=4 then Wl p x-292 else Wl p x
def Wwq(p:Pg)(x y:Rt):Prop:=y.phase=1\/y.phase=2\/y.phase=8\/y.phase=3\/(y.phase=6/\y.fate=0)\/(y.phase=5/\Wl p y<=x.undos.length+36)
theorem Wlc:(Wy x).phase=3\/((Wy x).phase=6/\(Wy x).fate=0):=by
 unfold Wy;split
 .exact .inr ⟨rfl,rfl⟩
 .exact .inl rfl
theorem WjJ(hl:RLive p n x)(hk:k<=8){out:Int}:Wwq p x (W6 w x k out).2:=by
 unfold W6;simp only;generalize (if out=2 then []else x.writes)=rows;split
 .exact .inr (.inr (.inl rfl))
 .have hc:CmOk (Wa5 ((k:Int)+1) x.rv rows x.reads):=Wke (by omega) hl.rv;have:=(Wgz hc).2.1;have e:Wl p ({x with fate:=out,cm:=Wa5 ((k:Int)+1) x.rv rows x.reads,phase:=5}:Rt)=W9 (Wa5 ((k:Int)+1) x.rv rows x.reads)+x.undos.length+3:=rfl;refine .inr (.inr (.inr (.inr (.inr ⟨rfl,?_⟩))));show Wl p ({x with fate:=out,cm:=Wa5 ((k:Int)+1) x.rv rows x.reads,phase:=5}:Rt)<=_;rw[e];omega
theorem Wto(hl:RLive p n x)(h1:x.phase=1)(hk:k<=8):Wwq p x (Wdx w x k p).2:=by
 have one:∀y:Rt,y.phase=1->Wwq p x y:=λy h=>.inl h;have cf:∀z:Rt,Wwq p x (Wy z):=λz=>by
  rcases Wlc (x:=z)with h|h
  .exact .inr (.inr (.inr (.inl h)))
  .exact .inr (.inr (.inr (.inr (.inl h))))
 unfold Wdx;split
 .exact WjJ hl hk
 .simp only;generalize opN p.1 x.pc=o;split
  .show Wwq p x (Wci w x o);unfold Wci;cases Wbc x.writes o.2.2.1 with
   |some v=>exact one _ h1
   |none=>
    simp only;generalize WV w.mem x.rv _=b;split
    .exact cf _
    .split<;>exact one _ h1
  .split
   .unfold WbL;split
    .exact WjJ hl hk
    .split<;>exact one _ h1
   .split
    .exact .inr (.inl rfl)
    .split
     .unfold Wbs;cases WaT w.holds ((k:Int)+1) (WaC o).1 (WaC o).2 with
      |none=>exact cf _
      |some hs=>exact one _ h1
     .repeat' split
      all_goals exact one _ h1
theorem Wrv(hp:POk p)(hx:ROk p n x)(ht:RT x)(hg:RGd m x):1<=WcT p x:=by
 have iH:=(WbV hp hx ht).2.2;have aR:=hg.ph;have hs:=hg.sp;unfold WcT;by_cases h1:x.phase=1
 .have:=Weq hp.code (hx.live (by omega)) ht h1;rw[if_pos (by omega)];omega
 by_cases h2:x.phase=2
 .have hl:=hx.live (by omega);have aF:=hl.pc;have hlen:=hp.code.len;have h0:=WoX x.fam x.fam.kids;rw[if_pos (by omega),WnZ h2,if_neg (by rw[(hg.fam h2).lost];simp)];unfold WlJ WaY;omega
 .rw[if_neg (by omega)];exact iH (by omega)
theorem Wxd(hp:POk p)(hx:ROk p n x)(lM:RX x)(ht:RT x)(hk:k<=8)(hg:RGd w.mem x)(hh:∀e∈w.holds,e.1=(k:Int)+1)(hm:WY w.mem=true)(hb:LB w k x)(cn:w.mem.1<1000000):
  (Wq w x k p).2.phase=8\/(RGd (Wq w x k p).1.mem (Wq w x k p).2/\(WcT p (Wq w x k p).2<WcT p x\/(x.phase=2/\x.fam.lost≠true/\Wbd x.fam≠true/\(Wq w x k p).2=x))):=by
 rcases Wtz hp hx hg ht hh hm hb cn with h8|hy
 .exact .inl h8
 refine .inr ⟨hy,?_⟩;have aR:=hg.ph;have wN:=hy.ph;rcases WjY (w:=w) hp hx lM ht hk (by omega)with hlt|hwt
 .left;have hs:=hg.sp;by_cases h1:x.phase=1
  .have hl:=hx.live (by omega);have ho:=Wto (w:=w) hl h1 hk;have qy:=Weq hp.code hl ht h1;have e:Wq w x k p=Wdx w x k p:=by
    unfold Wq;rw[if_neg (by rw[hg.dm];simp),if_neg (by omega),if_pos h1]
   rw[e]at hy wN hlt⊢;have mf:=hy.ft;unfold WcT;rw[if_pos (show x.phase<=4 by omega)];rcases ho with h|h|h|h|h|h
   .rw[if_pos (by omega)];omega
   .rw[if_pos (by omega)];omega
   .omega
   .omega
   .exact absurd h.2 (mf (by omega))
   .rw[if_neg (by omega)];omega
  by_cases h2:x.phase=2
  .have e:(Wq w x k p).2=WbN x:=by
    unfold Wq;rw[if_neg (by rw[hg.dm];simp),if_neg (by omega),if_neg h1,if_pos h2]
   rw[e]at hlt⊢;have e2:(WbN x).phase<=4:=by
    unfold WbN;rw[if_neg (by rw[(hg.fam h2).lost];simp)];split
    .show(1:Int)<=4;omega
    .omega
   unfold WcT;rw[if_pos e2,if_pos (by omega)];omega
  .unfold WcT;rw[if_neg (show¬x.phase<=4 by omega)];split<;>omega
 .exact .inr hwt
theorem WvQ{z:Kd}{j:Nat}{c:List Opn}(h:z.phase=3):Wei m f z j c=(f,z):=by
 unfold Wei;rw[if_neg (by omega),if_neg (by omega),if_neg (by omega)]
theorem WqB(h:Wbd f=true){j:Nat}(hj:j<f.kids.length){c:List Opn}:WcD m f j c=f:=by
 unfold WcD;split
 .rfl
 .have h3:f.kids[j].phase=3:=by
   unfold Wbd at h;rw[Xae]at h;simpa using h _ (Xq hj)
  rw[show f.kids.getD j {}=f.kids[j]from Wf hj _,WvQ h3];unfold Fm.put;simp only;rw[Xbf]
variable{codes:List (List Opn)}
theorem WiL(h:Wbd f=true):∀(d i:Nat),i+d=f.kids.length->Wb2 m codes d i f=f
 |0,_,_=>rfl
 |d+1,i,hi=>by rw[Wb2,WqB h (by omega)];exact WiL h d (i+1) (by omega)
theorem WmC(hm:WY m=true)(bb:∀c∈codes,KC c)(h3:codes.length<=3):∀(d i:Nat) (n:Int) (f:Fm),i+d=codes.length->FOk codes n f->(∀(j:Nat) (h:j<f.kids.length),KT f j f.kids[j])->FGd m f->FGd m (Wb2 m codes d i f)
 |0,_,_,_,_,_,_,hg=>hg
 |d+1,i,n,f,hi,hF,hT,hg=>by
  have hlen:=hF.len;have hc:KC (codes.getD i []):=by rw[Wf (show i<codes.length by omega) _];exact bb _ (Xq _)
  have yt:=Wuy (k:=i) hF hT hg (by omega) hc;rw[Wb2];refine WmC hm bb h3 d (i+1) (n+1) _ (by omega) (Wlx (by omega) hm hc hF rfl) ?_ yt;rcases WoF hm bb h3 hF hT (k:=i) (by omega)with h|h
  .rw[yt.lost]at h;cases h
  .exact h
def Wam(m:Mm)(p:Pg)(d i:Nat)(x:Rt):Rt:=if x.phase=2 then{x with fam:=Wb2 m p.2 d i x.fam}else x
theorem WoO:∀(d j:Nat) (w:Wo) (hk:k<w.roots.length),j+d=(s.2.1.getD k pg0).2.length->
  Wcv s k d j w={w with now:=w.now+d,roots:=w.roots.set k (Wam w.mem (s.2.1.getD k pg0) d j w.roots[k])}
 |0,j,w,hk,hj=>by
  have:Wam w.mem (s.2.1.getD k pg0) 0 j w.roots[k]=w.roots[k]:=by
   unfold Wam;split<;>rfl
  rw[Wcv,this,Xbf];simp
 |d+1,j,w,hk,hj=>by
  rw[Wcv];have hb:0<=(k:Int)/\(k:Int)<w.roots.length:=by omega
  have hg:w.roots.getD k rt0=w.roots[k]:=Wf hk _;have e:Wc4 s w (2,(k:Int),(j:Int))={w with now:=w.now+1,roots:=w.roots.set k (Wam w.mem (s.2.1.getD k pg0) 1 j w.roots[k])}:=by
   unfold Wc4;simp only[Xj];rw[if_pos hb,if_neg (by omega),if_pos trivial,hg];unfold Wam;by_cases h2:w.roots[k].phase=2
   .rw[if_pos ⟨h2,by omega,by omega⟩,if_pos h2];rfl
   .rw[if_neg (λh=>h2 h.1),if_neg h2,Xbf]
  have cy:k<(Wc4 s w (2,(k:Int),(j:Int))).roots.length:=by rw[e];show k<(w.roots.set k _).length;rw[Xad];exact hk
  rw[WoO d (j+1) _ cy (by omega)];have e1:(Wc4 s w (2,(k:Int),(j:Int))).roots[k]=Wam w.mem (s.2.1.getD k pg0) 1 j w.roots[k]:=by
   simp only[e,Xeo]
  rw[e1,e];simp only[Xdp];have e2:Wam w.mem (s.2.1.getD k pg0) d (j+1) (Wam w.mem (s.2.1.getD k pg0) 1 j w.roots[k])=Wam w.mem (s.2.1.getD k pg0) (d+1) j w.roots[k]:=by
   unfold Wam;by_cases h2:w.roots[k].phase=2
   .rw[if_pos h2,if_pos h2,if_pos h2];rfl
   .rw[if_neg h2,if_neg h2,if_neg h2]
  rw[e2];congr 1;omega
end
section
variable{s:Sc}{w v:Wo}{n:Int}{x y:Rt}{k:Nat}{p:Pg}{f g:Fm}{m:Mm}{o:Opn}
theorem Wp5(h0:x.phase≠0)(hz:(Wq w x k p).2.phase=0):(Wq w x k p).2.tries=x.tries+1:=by
 unfold Wq at hz⊢;by_cases hd:x.doomed=true/\1<=x.phase/\x.phase<=4
 .rw[if_pos hd]at hz;exact absurd (show(6:Int)=0 from hz) (by omega)
 rw[if_neg hd,if_neg h0]at hz⊢;by_cases h1:x.phase=1
 .rw[if_pos h1]at hz;have cl:∀out,(W6 w x k out).2.phase≠0:=λout=>by
   unfold W6;simp only;generalize (if out=2 then []else x.writes)=rows;split
   .show(8:Int)≠0;omega
   .show(5:Int)≠0;omega
  have:(Wdx w x k p).2.phase≠0:=by
   unfold Wdx;split
   .exact cl _
   .simp only;generalize opN p.1 x.pc=o;split
    .exact(WlE h1).1
    .split
     .unfold WbL;split
      .exact cl _
      .split<;>(show x.phase≠0;omega)
     .split
      .show(2:Int)≠0;omega
      .split
       .unfold Wbs;cases WaT w.holds ((k:Int)+1) (WaC o).1 (WaC o).2 with
        |none=>exact WcW.1
        |some hs=>exact h0
       .repeat' split
        all_goals exact h0
  exact absurd hz this
 rw[if_neg h1]at hz⊢;by_cases h2:x.phase=2
 .rw[if_pos h2]at hz;have:(WbN x).phase≠0:=by
   unfold WbN;split
   .show(6:Int)≠0;omega
   .split
    .show(1:Int)≠0;omega
    .exact h0
  exact absurd hz this
 rw[if_neg h2]at hz⊢;by_cases h3:x.phase=3
 .rw[if_pos h3]at hz;have:(WaR w x).2.phase≠0:=by
   unfold WaR;split
   .exact h0
   .show(4:Int)≠0;omega
  exact absurd hz this
 rw[if_neg h3]at hz⊢;by_cases h4:x.phase=4
 .rw[if_pos h4]at hz;have:(Waz w x).phase≠0:=by
   unfold Waz;simp only;split
   .split
    .show(6:Int)≠0;omega
    .exact h0
   .show(1:Int)≠0;omega
  exact absurd hz this
 rw[if_neg h4]at hz⊢;by_cases h5:x.phase=5
 .rw[if_pos h5]at hz;have:(W4 w x k).2.phase≠0:=by
   unfold W4;split
   .simp only;split
    .show(6:Int)≠0;omega
    .exact h0
   .show(Wab {x with cm:=(Wi w.mem x.cm).2}).phase≠0;unfold Wab;split
    .show(6:Int)≠0;omega
    .split
     .show(if x.fate=2 then(6:Int)else 7)≠0;split<;>omega
     .exact h0
  exact absurd hz this
 rw[if_neg h5]at hz⊢;by_cases h6:x.phase=6
 .rw[if_pos h6]at hz;split at hz
  .exact absurd hz h0
  .exact absurd (show(7:Int)=0 from hz) (by omega)
 rw[if_neg h6]at hz⊢;by_cases h7:x.phase=7
 .rw[if_pos h7]at hz⊢;split at hz
  .rw[if_pos ‹_›]
  .exact absurd (show(8:Int)=0 from hz) (by omega)
 .rw[if_neg h7]at hz;exact absurd hz h0
structure WI(s:Sc)(n:Int)(w:Wo):Prop where
 ok:WOk s.2.1 n w
 wx:WX w
 lx:LX w
 wt:WT w
 tx:TX w
theorem WI.act(h:WI s n w)(a:Ac):WI s (n+1) (Wc4 s w a):=
 ⟨Wcy h.ok,(Wgl h.ok h.wx).1,Wn6 h.ok h.wx h.lx,WrA h.ok h.wt,Ws6 h.ok h.lx h.tx⟩
theorem WI.kids:∀(d j:Nat) (n:Int) (w:Wo),WI s n w->WI s (n+d) (Wcv s k d j w)
 |0,_,n,w,h=>by rw[Wcv];simpa using h
 |d+1,j,n,w,h=>by
  have:=WI.kids d (j+1) (n+1) _ (h.act (2,(k:Int),(j:Int)));rw[Wcv,show n+((d+1:Nat):Int)=n+1+(d:Int) by omega];exact this
def WuE(s:Sc)(k:Nat)(w:Wo):Wo:=Wcv s k (s.2.1.getD k pg0).2.length 0 (Wc4 s w (1,(k:Int),0))
theorem WI.blk(h:WI s n w):WI s (n+1+(s.2.1.getD k pg0).2.length) (WuE s k w):=WI.kids _ _ _ _ (h.act _)
theorem WwL(h:WOk s.2.1 n w)(hk:k<w.roots.length):WuE s k w=
  (λq:Wo×Rt=>{q.1 with now:=q.1.now+(s.2.1.getD k pg0).2.length,roots:=w.roots.set k (Wam q.1.mem (s.2.1.getD k pg0) (s.2.1.getD k pg0).2.length 0 q.2)}) (Wq {w with now:=w.now+1} w.roots[k] k (s.2.1.getD k pg0)):=by
 have hr:=Whg h hk;have hb:0<=(k:Int)/\(k:Int)<w.roots.length:=by omega
 have e:Wc4 s w (1,(k:Int),0)=Wo.put (Wq {w with now:=w.now+1} w.roots[k] k (s.2.1.getD k pg0)) k:=by
  unfold Wc4;simp only[Xj];rw[if_pos hb,if_pos trivial];unfold Wh6;rw[Wf (show k<({w with now:=w.now+1}:Wo).roots.length from hk)]
 unfold WuE;rw[e];generalize Wq {w with now:=w.now+1} w.roots[k] k (s.2.1.getD k pg0)=q at*;have cy:k<(Wo.put q k).roots.length:=by show k<(q.1.roots.set k q.2).length;rw[Xad,hr];exact hk
 rw[WoO _ _ _ cy (by omega)];have e1:(Wo.put q k).roots[k]=q.2:=Xeo ..;rw[e1];unfold Wo.put;simp only[Xdp,hr]
theorem Wmd{d i:Nat}:(Wam m p d i x).phase=x.phase/\(Wam m p d i x).tries=x.tries:=by
 unfold Wam;split<;>exact⟨rfl,rfl⟩
theorem WcU{d i:Nat}(h:x.phase≠2):Wam m p d i x=x:=by unfold Wam;rw[if_neg h]
theorem WrR(hp:POk p)(hx:ROk p n x)(ht:RT x)(hm:WY m=true):Wl p (Wam m p p.2.length 0 x)<=Wl p x:=by
 by_cases h2:x.phase=2
 .obtain⟨f1,f2,f3⟩:=(hx.live (by omega)).fork h2;unfold Wam;rw[if_pos h2];by_cases hl:x.fam.lost=true
  .rw[WdX _ _ _ hl];exact Xp _
  by_cases ho:Wbd x.fam=true
  .rw[WiL ho _ _ (by rw[f3.len];omega)];exact Xp _
  .have:=Wii hp hx ht h2 hl ho hm;omega
 .rw[WcU h2];exact Xp _
structure BK(w v:Wo)(k:Nat)(p:Pg)(x y:Rt):Prop where
 tok:v.token=w.token\/(v.token=(k:Int)+1/\w.token=0/\x.phase=0/\y.phase=0)\/(w.token=(k:Int)+1/\v.token=0/\y.phase=8)
 mem:x.phase≠5->v.mem=w.mem
 done:x.phase=8->y=x
 idle:x.phase=0->(y=x/\(w.token=0->v.token=(k:Int)+1)/\(w.token=(k:Int)+1->Waa k w.roots 0=false))\/
  (y.phase=1/\Wl p y=785/\y.tries=x.tries/\v.token=w.token/\(w.token=0/\x.tries<3\/w.token=(k:Int)+1/\Waa k w.roots 0=true/\RGd v.mem y/\WcT p y=493))
 live:1<=x.phase/\x.phase<=7->y.phase=8\/(y.phase=0/\y.tries=x.tries+1)\/((1<=y.phase/\y.phase<=7)/\y.tries=x.tries/\Wl p y<Wl p x)
 keep:x.phase≠0->x.phase≠8->y.phase≠0->y.tries=x.tries
 good:x.phase≠0->x.phase≠8->RGd w.mem x->(∀e∈w.holds,e.1=(k:Int)+1)->y.phase=8\/(RGd v.mem y/\WcT p y<WcT p x)
theorem Wp6(h:WI s n w)(hk:k<w.roots.length)(h0:w.roots[k].phase=0)(ho:Waa k w.roots 0=true){t b:Int}{r:List Int}:
  RGd w.mem {phase:=1,tries:=t,rv:=w.mem.1,began:=b,regs:=r}:=by
 refine⟨rfl,rfl,.inl rfl,λ_=>⟨λi a c=>⟨?_,?_⟩,λh=>by cases h⟩,λh=>by(change (1:Int)=2 at h;omega),λh=>by(change (1:Int)=5 at h;omega),λh=>by(change (1:Int)=5\/(1:Int)=6\/(1:Int)=7 at h;omega)⟩
 .rcases h.lx.ow i a c with e|⟨j,hj,e⟩
  .exact e
  .have h5:w.roots[j].phase≠5:=by
    by_cases ee:j=k
    .subst ee;omega
    .rcases WdL ho j hj (by omega)with e|e<;>omega
   exact absurd e ((h.lx.root j hj).no h5 i a c)
 .have:=WdT h.ok.mem ⟨a,c⟩;unfold Wqs at this;simp only[Xh,decide_eq_true_eq]at this;exact this.2.1.2
theorem Wwk(h:WI s n w)(hk:k<w.roots.length)(hn:n<=99999):∃y,(WuE s k w).roots=w.roots.set k y/\BK w (WuE s k w) k (s.2.1.getD k pg0) w.roots[k] y:=by
 have kp:=h.ok.l4;have hlen:=h.ok.len;have hp:POk (s.2.1.getD k pg0):=Wf2 h.ok.progs (by omega);have hx:=h.ok.root k hk;have lM:=h.wx k hk;have ht:=h.wt.root k hk;have cn:=h.wt.clk;have qv:=h.ok.now;have wO:=hx.phase;have aG:0<=(s.2.1.getD k pg0).2.length:=Nat.zero_le _;rw[WwL h.ok hk];generalize cR:s.2.1.getD k pg0=p at*;have hq:=WhM (w:={w with now:=w.now+1}) (k:=k) hp ⟨h.ok.mem,h.ok.shelf,h.ok.holds⟩ hx (by omega) h.ok.n0;have yu:=WpB (w:={w with now:=w.now+1}) (k:=k) (p:=p) ht;have oj:=Wm9 (w:={w with now:=w.now+1}) (x:=w.roots[k]) (k:=k) (p:=p);have uE:=WkB (w:={w with now:=w.now+1}) (x:=w.roots[k]) (k:=k) (p:=p);have hz:=Wp5 (w:={w with now:=w.now+1}) (x:=w.roots[k]) (k:=k) (p:=p);have tA:=WjY (w:={w with now:=w.now+1}) (k:=k) hp hx lM ht (by omega);have ja:LB {w with now:=w.now+1} k w.roots[k]:=⟨(h.lx.root k hk).cm,(h.lx.root k hk).no,(h.lx.root k hk).hd,(h.lx.root k hk).tk⟩;have vC:=λhg hh=>Wxd (w:={w with now:=w.now+1}) (k:=k) hp hx lM ht (by omega) hg hh h.ok.mem ja (show w.mem.1<1000000 by omega);have bA:w.roots[k].phase=0->Wq {w with now:=w.now+1} w.roots[k] k p=Wc9 {w with now:=w.now+1} w.roots[k] k:=λh0=>by
  unfold Wq;rw[if_neg (by omega),if_pos h0]
 refine⟨_,rfl,?_⟩;have aR:=Wmd (m:=(Wq {w with now:=w.now+1} w.roots[k] k p).1.mem) (p:=p) (x:=(Wq {w with now:=w.now+1} w.roots[k] k p).2) (d:=p.2.length) (i:=0);have hle:=WrR hp hq.root yu hq.mem;have hne:=WcU (m:=(Wq {w with now:=w.now+1} w.roots[k] k p).1.mem) (p:=p) (x:=(Wq {w with now:=w.now+1} w.roots[k] k p).2) (d:=p.2.length) (i:=0);constructor
 .show(Wq {w with now:=w.now+1} w.roots[k] k p).1.token=w.token\/_;rcases uE.tok with e|⟨e1,e2,e3,e4⟩|⟨e1,e2,e3⟩
  .exact .inl e
  .exact .inr (.inl ⟨e1,e2,e3,by rw[aR.1];exact e4⟩)
  .exact .inr (.inr ⟨e1,e2,by rw[aR.1];exact e3⟩)
 .intro h5;rcases oj with e|e
  .exact e
  .exact absurd e.1 h5
 .intro h8;have e:=uE.done h8;rw[e];exact WcU (by show w.roots[k].phase≠2;omega)
 .intro h0;rw[bA h0];unfold Wc9;by_cases a1:w.token≠0/\w.token≠(k:Int)+1
  .rw[if_pos a1];exact .inl ⟨WcU (by show w.roots[k].phase≠2;omega),λh=>absurd h a1.1,λh=>absurd h a1.2⟩
  rw[if_neg a1];by_cases a2:w.roots[k].tries>=3/\w.token=0
  .rw[if_pos a2];exact .inl ⟨WcU (by show w.roots[k].phase≠2;omega),λ_=>rfl,λh=>by have:=a2.2;omega⟩
  rw[if_neg a2];by_cases a3:w.token=(k:Int)+1/\Waa k w.roots 0=false
  .rw[if_pos a3];exact .inl ⟨WcU (by show w.roots[k].phase≠2;omega),λh=>by have:=a3.1;omega,λ_=>a3.2⟩
  rw[if_neg a3];right;have e:∀m,Wam m p p.2.length 0 ({phase:=1,tries:=w.roots[k].tries,rv:=w.mem.1,began:=w.now+1,regs:=[0,0,0,0]}:Rt)={phase:=1,tries:=w.roots[k].tries,rv:=w.mem.1,began:=w.now+1,regs:=[0,0,0,0]}:=λm=>WcU (by show(1:Int)≠2;omega);have tB:Wl p ({phase:=1,tries:=w.roots[k].tries,rv:=w.mem.1,began:=w.now+1,regs:=[0,0,0,0]}:Rt)=785:=by
   rw[Wce rfl];have:Wem p 0=382:=by
    have e0:frk p.1 0=0:=rfl;unfold Wem;rw[show(0:Int).toNat=0 from rfl,e0];rfl
   have e1:WaY ({phase:=1,tries:=w.roots[k].tries,rv:=w.mem.1,began:=w.now+1,regs:=[0,0,0,0]}:Rt)=328:=rfl;rw[e1];show 75-3*0-0+Wem p 0+328=785;omega
  refine⟨?_,?_,?_,rfl,?_⟩
  .show(Wam w.mem p p.2.length 0 ({phase:=1,tries:=w.roots[k].tries,rv:=w.mem.1,began:=w.now+1,regs:=[0,0,0,0]}:Rt)).phase=1;rw[e]
  .show Wl p (Wam w.mem p p.2.length 0 ({phase:=1,tries:=w.roots[k].tries,rv:=w.mem.1,began:=w.now+1,regs:=[0,0,0,0]}:Rt))=785;rw[e];exact tB
  .show(Wam w.mem p p.2.length 0 ({phase:=1,tries:=w.roots[k].tries,rv:=w.mem.1,began:=w.now+1,regs:=[0,0,0,0]}:Rt)).tries=_;rw[e]
  .by_cases h0:w.token=0
   .exact .inl ⟨h0,by omega⟩
   .have jg:w.token=(k:Int)+1:=by omega
    have ov:Waa k w.roots 0=true:=by
     cases hc:Waa k w.roots 0 with
     |true=>rfl
     |false=>exact absurd ⟨jg,hc⟩ a3
    refine .inr ⟨jg,ov,?_,?_⟩
    .show RGd w.mem (Wam w.mem p p.2.length 0 ({phase:=1,tries:=w.roots[k].tries,rv:=w.mem.1,began:=w.now+1,regs:=[0,0,0,0]}:Rt));rw[e];exact Wp6 h hk ‹_› ov
    .show WcT p (Wam w.mem p p.2.length 0 ({phase:=1,tries:=w.roots[k].tries,rv:=w.mem.1,began:=w.now+1,regs:=[0,0,0,0]}:Rt))=493;rw[e];unfold WcT;rw[if_pos (by show(1:Int)<=4;omega),tB];rfl
 .intro aw;show(Wam (Wq {w with now:=w.now+1} w.roots[k] k p).1.mem p p.2.length 0 (Wq {w with now:=w.now+1} w.roots[k] k p).2).phase=8\/_;rw[aR.1,aR.2];have Ai:=hq.root.phase;by_cases qs:(Wq {w with now:=w.now+1} w.roots[k] k p).2.phase=0
  .exact .inr (.inl ⟨qs,hz (by omega) qs⟩)
  by_cases hz8:(Wq {w with now:=w.now+1} w.roots[k] k p).2.phase=8
  .exact .inl hz8
  refine .inr (.inr ⟨by omega,uE.try1 (by omega) (by omega) qs,?_⟩);rcases tA aw with hl|⟨h2,hl,ho,e⟩
  .omega
  .rw[e];rcases oj with em|em
   .rw[em];have:=Wii hp hx ht h2 hl ho h.ok.mem;unfold Wam;rw[if_pos h2];exact this
   .omega
 .intro h0 h8 wP;simp only[aR.1]at wP;rw[aR.2];exact uE.try1 h0 h8 wP
 .intro h0 h8 hg hh;rcases vC hg hh with e8|⟨gq,ky⟩
  .exact .inl (by rw[aR.1];exact e8)
  right;generalize Wq {w with now:=w.now+1} w.roots[k] k p=q at*;show RGd q.1.mem (Wam q.1.mem p p.2.length 0 q.2)/\WcT p (Wam q.1.mem p p.2.length 0 q.2)<WcT p w.roots[k];refine⟨?_,?_⟩
  .by_cases h2:q.2.phase=2
   .unfold Wam;rw[if_pos h2];obtain⟨f1,f2,f3⟩:=(hq.root.live (by omega)).fork h2;have hT:=(yu.fam h2).resolve_left (by rw[(gq.fam h2).lost];simp);exact⟨gq.dm,gq.sp,gq.ph,gq.run,λ_=>WmC hq.mem hp.kids hp.k3 _ _ _ _ (by omega) f3 hT (gq.fam h2),λh5=>gq.cm h5,gq.ft⟩
   .rw[hne h2];exact gq
  .have Aj:WcT p (Wam q.1.mem p p.2.length 0 q.2)<=WcT p q.2:=by
    unfold WcT;rw[aR.1];split<;>omega
   rcases ky with hl|⟨h2,hl,ho,e⟩
   .omega
   .rw[e]at Aj⊢;rcases oj with em|em
    .rw[em];have:=Wii hp hx ht h2 hl ho h.ok.mem;have ek:Wam w.mem p p.2.length 0 w.roots[k]={w.roots[k]with fam:=Wb2 w.mem p.2 p.2.length 0 w.roots[k].fam}:=by unfold Wam;rw[if_pos h2]
     show WcT p (Wam w.mem p p.2.length 0 w.roots[k])<_;unfold WcT;rw[Wmd.1,if_pos (by omega),if_pos (by omega),ek];exact Int.sub_lt_sub_right this 292
    .omega
end
section
variable{s:Sc}{w v:Wo}{n:Int}{x y:Rt}{k i:Nat}{p:Pg}
def WhN(s:Sc)(j:Nat):Pg:=s.2.1.getD j pg0
structure RJ(w:Wo)(p:Pg)(j:Nat)(x y:Rt):Prop where
 done:x.phase=8->y=x
 idle:x.phase=0->y=x\/(y.phase=1/\Wl p y=785/\y.tries=x.tries/\(x.tries<3\/w.token=(j:Int)+1))
 live:1<=x.phase/\x.phase<=7->y.phase=8\/(y.phase=0/\y.tries=x.tries+1)\/((1<=y.phase/\y.phase<=7)/\y.tries=x.tries/\Wl p y<Wl p x)
def Wwn(w v:Wo)(p:Pg)(k i:Nat)(x y:Rt):Prop:=
 (i<=k->x.phase≠0->RGd w.mem x->RGd v.mem x)/\
 (k<i->(x.phase=0->(y=x/\∃(j:Nat) (h:j<w.roots.length),j≠k/\1<=w.roots[j].phase/\w.roots[j].phase<=7)\/(y.phase=1/\RGd v.mem y/\WcT p y=493))/\(x.phase≠0->RGd w.mem x->RGd v.mem y/\WcT p y<WcT p x))
structure Rd(s:Sc)(w v:Wo)(i:Nat):Prop where
 len:v.roots.length=w.roots.length
 rest:∀(j:Nat) (h:j<w.roots.length) (h':j<v.roots.length),i<=j->v.roots[j]=w.roots[j]
 did:∀(j:Nat) (h:j<w.roots.length) (h':j<v.roots.length),j<i->RJ w (WhN s j) j w.roots[j] v.roots[j]
 tk0:w.token=0->(v.token=0/\∀(j:Nat) (h:j<w.roots.length) (h':j<v.roots.length),j<i->w.roots[j].phase=0->v.roots[j].phase=1)\/
  ∃(k:Nat) (h:k<w.roots.length) (h':k<v.roots.length),k<i/\v.token=(k:Int)+1/\w.roots[k].phase=0/\v.roots[k].phase=0
 tk1:∀(k:Nat) (h:k<w.roots.length) (h':k<v.roots.length),w.token=(k:Int)+1->
  (v.token=(k:Int)+1/\(∀(j:Nat) (h:j<w.roots.length) (h':j<v.roots.length),j≠k->w.roots[j].phase=0->v.roots[j]=w.roots[j])/\Wwn w v (WhN s k) k i w.roots[k] v.roots[k])\/
  (k<i/\w.roots[k].phase≠0/\v.roots[k].phase=8/\(v.token=0\/∃(j:Nat) (h:j<w.roots.length) (h':j<v.roots.length),j<i/\j≠k/\v.token=(j:Int)+1/\v.roots[j].phase=0/\w.roots[j].phase≠8))
theorem Rd.refl:Rd s w w 0:=
 ⟨rfl,λ_ _ _ _=>rfl,λj _ _ h=>absurd h (by omega),λh=>.inl ⟨h,λj _ _ h=>absurd h (by omega)⟩,λk h _ ht=>.inl ⟨ht,λ_ _ _ _ _=>rfl,λ_ _ h=>h,λh=>absurd h (by omega)⟩⟩
theorem WeT:∀{l:List Rt} {i:Nat},Waa k l i=false->∃(j:Nat) (h:j<l.length),i+j≠k/\l[j].phase≠0/\l[j].phase≠8
 | [],i,h=>by cases h
 |x::l,i,h=>by
  rw[Waa]at h;by_cases hx:i≠k/\x.phase≠0/\x.phase≠8
  .exact⟨0,by simp,by simpa using hx.1,hx.2.1,hx.2.2⟩
  .have:(decide (i=k)||(decide (x.phase=0)||decide (x.phase=8)))=true:=by
    simp only[Xbw,decide_eq_true_eq];by_cases h1:i=k
    .exact .inl h1
    .by_cases h2:x.phase=0
     .exact .inr (.inl h2)
     .by_cases h3:x.phase=8
      .exact .inr (.inr h3)
      .exact absurd ⟨h1,h2,h3⟩ hx
   rw[this,Bool.true_and]at h;obtain⟨j,hj,a,b⟩:=WeT h;exact⟨j+1,by simpa using hj,by omega,by simpa using b⟩
theorem WrC(h:LX w)(ho:∀(j:Nat) (hj:j<w.roots.length),j≠k->w.roots[j].phase=0\/w.roots[j].phase=8):∀e∈w.holds,e.1=(k:Int)+1:=λe he=>by
 obtain⟨j,hj,e1⟩:=h.hd e he;by_cases ee:j=k
 .subst ee;exact e1
 .have:=(h.root j hj).hd e he e1;rcases ho j hj ee with h0|h8
  .exact absurd h0 this.1
  .exact absurd h8 this.2
theorem Rd.step(h0:WI s n w)(hv:∃n',n'<=99999/\WI s n' v)(hR:Rd s w v i)(hi:i<w.roots.length):Rd s w (WuE s i v) (i+1):=by
 obtain⟨n',w6,hV⟩:=hv;have aw:=hR.len;have tC:i<v.roots.length:=by omega
 obtain⟨y,hy,hB⟩:=Wwk hV tC w6;change BK v (WuE s i v) i (WhN s i) v.roots[i] y at hB;have wQ:=hR.rest i hi tC (Xn _);have wO:=(hV.ok.root i tC).phase;have kG:=hV.lx.tk;have hUl:=(hV.blk (k:=i)).lx;generalize WuE s i v=u at*;have hlu:u.roots.length=v.roots.length:=by rw[hy,Xad]
 have hg:∀(j:Nat) (h:j<u.roots.length) (h':j<v.roots.length),u.roots[j]=if i=j then y else v.roots[j]:=λj h h'=>by
  simp only[hy,Xao]
 have nJ:∀(h:i<u.roots.length),u.roots[i]=y:=λh=>by rw[hg i h tC,if_pos rfl]
 have mK:∀(j:Nat) (h:j<u.roots.length) (h':j<v.roots.length),j≠i->u.roots[j]=v.roots[j]:=λj h h' hne=>by rw[hg j h h',if_neg (λe=>hne e.symm)]
 rw[wQ]at hB;have hRJ:RJ w (WhN s i) i w.roots[i] y:=by
  refine⟨hB.done,λuy=>?_,hB.live⟩;rcases hB.idle uy with⟨e,_⟩|⟨e1,e2,e3,e4,e5⟩
  .exact .inl e
  .refine .inr ⟨e1,e2,e3,?_⟩;rcases e5 with⟨_,e5⟩|⟨e5,_⟩
   .exact .inl e5
   .right;by_cases jA:w.token=0
    .rcases hR.tk0 jA with⟨a,_⟩|⟨k,a1,a2,a3,a4,a5,a6⟩
     .omega
     .omega
    .obtain⟨k,hk,ek⟩:=h0.lx.tk.resolve_left jA;rcases hR.tk1 k hk (by omega) ek with⟨a,_⟩|⟨_,_,_,a|⟨j,_,_,a0,_,a,_⟩⟩
     .omega
     .omega
     .omega
 constructor
 .omega
 .intro j h h' hij;rw[mK j h' (by omega) (by omega)];exact hR.rest j h (by omega) (by omega)
 .intro j h h' hij;by_cases hj:j=i
  .subst hj;rw[nJ h'];exact hRJ
  .rw[mK j h' (by omega) hj];exact hR.did j h (by omega) (by omega)
 .intro jA;rcases hR.tk0 jA with⟨a,b⟩|⟨k,a1,a2,a3,a4,a5,a6⟩
  .rcases hB.tok with e|⟨e1,e2,e3,e4⟩|⟨e1,_⟩
   .refine .inl ⟨by omega,λj h h' l0 hz=>?_⟩;by_cases hj:j=i
    .subst hj;rw[nJ h'];rcases hB.idle hz with⟨_,e2,_⟩|⟨e1,_⟩
     .have:=e2 a;omega
     .exact e1
    .rw[mK j h' (by omega) hj];exact b j h (by omega) (by omega) hz
   .exact .inr ⟨i,hi,by omega,by omega,e1,e3,by rw[nJ];exact e4⟩
   .omega
  .right;have jz:k≠i:=by omega
   refine⟨k,a1,by omega,by omega,?_,a5,by rw[mK k _ a2 jz];exact a6⟩;rcases hB.tok with e|⟨e1,e2,e3,e4⟩|⟨e1,_⟩
   .omega
   .omega
   .omega
 .intro k hk cy nK;have lm:k<v.roots.length:=by omega
  rcases hR.tk1 k hk lm nK with⟨a,b,c1,c2⟩|⟨a1,a2,a3,a4⟩
  .by_cases lj:i=k
   .subst lj;rw[nJ cy];rcases hB.tok with e|⟨_,e2,_⟩|⟨e1,e2,e3⟩
    .refine .inl ⟨by omega,λj h h' hne hz=>by rw[mK j h' (by omega) hne];exact b j h (by omega) hne hz,λh=>absurd h (by omega),λ_=>⟨λhz=>?_,λkr hg0=>?_⟩⟩
     .rcases hB.idle hz with⟨f1,_,f3⟩|⟨f1,f2,f3,f4,f5⟩
      .obtain⟨j,hj,j1,j2,j3⟩:=WeT (f3 a);have tD:j<w.roots.length:=by omega
       refine .inl ⟨f1,j,tD,by omega,?_⟩;have aR:=(h0.ok.root j tD).phase;have n0:w.roots[j].phase≠0:=λhz=>j2 (by rw[b j tD hj (by omega) hz];exact hz);have n8:w.roots[j].phase≠8:=λhz=>by
        by_cases l0:j<i
        .have:=(hR.did j tD hj l0).done hz;exact j3 (by rw[this];exact hz)
        .have:=hR.rest j tD hj (by omega);exact j3 (by rw[this];exact hz)
       omega
      .right;rcases f5 with⟨f5,_⟩|⟨_,_,f5,f6⟩
       .omega
       .exact⟨f1,f5,f6⟩
     .have n8:w.roots[i].phase≠8:=λh8=>by
       have:=(hUl.root i cy).tk (by omega);rw[nJ cy,hB.done h8]at this;exact this.2 h8
      have uF:=WrC (k:=i) hV.lx (λj hj hne=>hV.tx.t2 i lm a (by rw[wQ];exact kr) j hj hne);rcases hB.good kr n8 (c1 (Xn _) kr hg0) uF with h8|tN
      .have:=(hUl.root i cy).tk (by omega);rw[nJ cy]at this;exact absurd h8 this.2
      .exact tN
    .omega
    .refine .inr ⟨by omega,λhz=>?_,e3,.inl e2⟩;rcases hB.idle hz with⟨f1,_⟩|⟨f1,_⟩
     .rw[f1]at e3;omega
     .omega
   .have jz:k≠i:=λe=>lj e.symm;have kG:u.token=(k:Int)+1:=by
     rcases hB.tok with e|⟨_,e2,_⟩|⟨e1,e2,e3⟩<;>omega
    have hmem:v.roots[k].phase≠0->u.mem=v.mem:=λkr=>by
     have:=hV.tx.t2 k lm a kr i tC lj;rw[wQ]at this;exact hB.mem (by omega)
    rw[mK k cy lm jz];refine .inl ⟨kG,λj h h' hne hz=>?_,λhle kr hg0=>?_,λhlt=>?_⟩
    .by_cases hj:j=i
     .subst hj;rw[nJ h'];rcases hB.idle hz with⟨f1,_⟩|⟨f1,f2,f3,f4,f5⟩
      .exact f1
      .omega
     .rw[mK j h' (by omega) hj];exact b j h (by omega) hne hz
    .have e:=hR.rest k hk lm (by omega);rw[hmem (by rw[e];exact kr)];exact c1 (by omega) kr hg0
    .obtain⟨d1,d2⟩:=c2 (by omega);refine⟨λhz=>?_,λkr hg0=>?_⟩
     .rcases d1 hz with d|⟨d3,d4,d5⟩
      .exact .inl d
      .exact .inr ⟨d3,by rw[hmem (by omega)];exact d4,d5⟩
     .obtain⟨d3,d4⟩:=d2 kr hg0;have:=d3.ph;exact⟨by rw[hmem (by omega)];exact d3,d4⟩
  .right;have jz:k≠i:=by omega
   refine⟨by omega,a2,by rw[mK k cy lm jz];exact a3,?_⟩;rcases a4 with a4|⟨j,j1,j2,j3,j4,j5,j6,j7⟩
   .rcases hB.tok with e|⟨e1,e2,e3,e4⟩|⟨e1,e2,e3⟩
    .exact .inl (by omega)
    .exact .inr ⟨i,hi,by omega,by omega,λe=>jz e.symm,e1,by rw[nJ];exact e4,by omega⟩
    .omega
   .right;refine⟨j,j1,by omega,by omega,j4,?_,by rw[mK j _ j2 (by omega)];exact j6,j7⟩;rcases hB.tok with e|⟨e1,e2,e3,e4⟩|⟨e1,e2,e3⟩<;>omega
end
end Go.Sx
