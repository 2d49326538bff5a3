/- Plain laws of the Lean functions. -/
import Derived.Test.YtlemhlmemchiaaaGreatMW2
open List renaming length_set→Xad,mem_cons_self→Xh,mem_cons_of_mem→Xe,foldl_cons→Xcq,length_cons→Xt,append→Xf,mem_iff_getElem→Xdh,getD_eq_getElem?_getD→Xv,getElem?_eq_getElem→Xq,getElem_mem→Xac,mem_map→Xu,take_succ_eq_append_getElem→Xbg,take_length→Xct,getD→Xc,length_map→Xz,append_eq→Xao,length→Xa,length_nil→Xbx,mem_cons→Xm,not_mem_nil→Xfl,all_eq_true→Xai,countP_eq_length→Xfr
open Option renaming bind_some→Xd
open Bool renaming not_true→Xah,eq_false_iff→Xdd,and_eq_true→Xi
open Nat renaming le_refl→Xl
open Int renaming toNat→Xb,toNat_natCast→Xp
namespace Go.Sx
set_option linter.unusedVariables false
set_option linter.unusedSimpArgs false
section
section
variable{M:Int->Int->Prop}{Z:Pb->Prop}{N:Nat}{codes:List (List Opn)}{n:Int}{f g:Fm}{k:Nat}{code:List Opn}{m:Mm}{x y:Kd}{rv:Int}
def PK(Z:Pb->Prop)(code:List Opn)(f:Fm)(x:Kd):Prop:=x.busy=true->x.phase=0/\x.pc<code.length/\(opN code x.pc).1=5/\Z x.pb/\x.pb.1=(opN code x.pc).2.2.1/\WaF x.writes (opN code x.pc).2.2.1=none/\∀e∈f.buf,e.1=(opN code x.pc).2.2.1->x.since<e.2.2
def ZS(M:Int->Int->Prop)(Z Z':Pb->Prop)(m:Mm)(rv:Int):Prop:=∀(c:Int) (p:Pb),0<=c->c<=7->(p=(c,0,0,0)\/(Z p/\p.1=c))->
 (WM m rv p).2.1=4\/((WM m rv p).2.1=3/\M c (WM m rv p).2.2.2)\/((WM m rv p).2.1≠3/\Z' (WM m rv p)/\(WM m rv p).1=c)
theorem PK.no(h:x.busy=false):PK Z code f x:=λe=>by rw[h]at e;cases e
theorem WqD(hz:ZS M Z Z m rv)(h:PK Z code f x)(ho:0<=(opN code x.pc).2.2.1/\(opN code x.pc).2.2.1<=7):RdM M m rv x (opN code x.pc).2.2.1:=by
 unfold RdM;have key:∀p,(p=((opN code x.pc).2.2.1,0,0,0)\/(Z p/\p.1=(opN code x.pc).2.2.1))->(WM m rv p).2.1=3->M (opN code x.pc).2.2.1 (WM m rv p).2.2.2:=λp hp h3=>by
  rcases hz _ p ho.1 ho.2 hp with a|⟨_,a⟩|⟨a,_⟩
  .omega
  .exact a
  .exact absurd h3 a
 by_cases hb:x.busy=true
 .rw[if_pos hb];have:=h hb;exact key _ (.inr ⟨this.2.2.2.1,this.2.2.2.2.1⟩)
 .rw[if_neg hb];exact key _ (.inl rfl)
theorem WgO{o:Opn}:(WaG m f x o).1.rv=f.rv/\(WaG m f x o).1.regs=f.regs/\(WaG m f x o).1.start=f.start/\(WaG m f x o).1.kids=f.kids/\(WaG m f x o).1.buf=f.buf:=by
 unfold WaG;cases WaF x.writes o.2.2.1 with
 |some v=>exact⟨rfl,rfl,rfl,rfl,rfl⟩
 |none=>
  cases ent f.buf o.2.2.1 with
  |some r=>simp only;split<;>exact⟨rfl,rfl,rfl,rfl,rfl⟩
  |none=>
   simp only;generalize WM m f.rv _=pb;split
   .exact⟨rfl,rfl,rfl,rfl,rfl⟩
   .split<;>exact⟨rfl,rfl,rfl,rfl,rfl⟩
theorem Wmm:(WaA m f x k code).1.rv=f.rv/\(WaA m f x k code).1.regs=f.regs/\(WaA m f x k code).1.start=f.start/\(WaA m f x k code).1.kids=f.kids/\
  ((WaA m f x k code).1.buf=f.buf\/(WaA m f x k code).1.buf=Wab (f.clock+1) f.buf (WbI x.writes)):=by
 unfold WaA;split
 .unfold WeL;split
  .exact⟨rfl,rfl,rfl,rfl,.inl rfl⟩
  .simp only;split
   .obtain⟨a,b,c,d,e⟩:=WgO (m:=m) (f:=f) (x:=x) (o:=opN code x.pc);exact⟨a,b,c,d,.inl e⟩
   .repeat' split
    all_goals exact⟨rfl,rfl,rfl,rfl,.inl rfl⟩
 .split
  .split<;>exact⟨rfl,rfl,rfl,rfl,.inl rfl⟩
  .split
   .split
    .exact⟨rfl,rfl,rfl,rfl,.inr rfl⟩
    .simp only;split<;>exact⟨rfl,rfl,rfl,rfl,.inl rfl⟩
   .exact⟨rfl,rfl,rfl,rfl,.inl rfl⟩
theorem PK.buf(h:PK Z code f x)(hb:g.buf=f.buf\/∃rows,rows.Pairwise (λa b:Rw=>a.1<b.1)/\g.buf=Wab (f.clock+1) f.buf rows)(hF:Ris cfE f.buf)(hs:x.since<=f.clock):PK Z code g x:=λhx=>by
 obtain⟨a,b,c,d,e,f1,f2⟩:=h hx;refine⟨a,b,c,d,e,f1,λz hz hc=>?_⟩;rcases hb with hb|⟨rows,hr,hb⟩
 .rw[hb]at hz;exact f2 z hz hc
 .rw[hb]at hz;rcases(Wf5 hF hr).1 hz with⟨r,_,rfl⟩|⟨h1,_⟩
  .simp only;omega
  .exact f2 z h1 hc
theorem PK.same(h:PK Z code f x)(hb:y.busy=x.busy)(h1:x.busy=true->y.phase=x.phase/\y.pc=x.pc/\y.pb=x.pb/\y.writes=x.writes/\y.since=x.since):PK Z code f y:=λhy=>by
 rw[hb]at hy;obtain⟨a1,a2,a3,a4,a5⟩:=h1 hy;rw[a1,a2,a3,a4,a5];exact h hy
theorem Wok(hz:ZS M Z Z m f.rv)(bi:KC code)(cu:KOk code f.clock n x)(h:PK Z code f x):(WaA m f x k code).1.lost=true\/PK Z code f (WaA m f x k code).2:=by
 unfold WaA;by_cases h0:x.phase=0
 .rw[if_pos h0];unfold WeL;by_cases hp:x.pc>=code.length
  .rw[if_pos hp];refine .inr (PK.no ?_);by_cases hb:x.busy=true
   .have:=h hb;omega
   .simpa using hb
  .rw[if_neg hp];simp only;by_cases h5:(opN code x.pc).1=5
   .rw[if_pos h5];have ay:0<=(opN code x.pc).2.2.1/\(opN code x.pc).2.2.1<=7:=by
     obtain⟨i,hi,e1,e2⟩:=Wjd (l:=code) cu.pc.1 (by omega);have:=(WpC (bi.ok i hi).1 (by rw[←e2];exact h5)).2;rw[←e2]at this;unfold WO at this;simp at this;exact this
    unfold WaG;cases kz:WaF x.writes (opN code x.pc).2.2.1 with
    |some v=>
     refine .inr (PK.no ?_);by_cases hb:x.busy=true
     .have:=(h hb).2.2.2.2.2.1;rw[kz]at this;cases this
     .simpa using hb
    |none=>
     cases he:ent f.buf (opN code x.pc).2.2.1 with
     |some r=>
      simp only;split
      .exact .inr (PK.no rfl)
      .rename_i hv;refine .inr (PK.no ?_);by_cases hb:x.busy=true
       .obtain⟨e1,e2⟩:=Wez he;have:=(h hb).2.2.2.2.2.2 _ e1 e2;omega
       .simpa using hb
     |none=>
      simp only;have eF:=hz (opN code x.pc).2.2.1 (if x.busy=true then x.pb else((opN code x.pc).2.2.1,0,0,0)) ay.1 ay.2 (by
       by_cases hb:x.busy=true
       .rw[if_pos hb];have:=h hb;exact .inr ⟨this.2.2.2.1,this.2.2.2.2.1⟩
       .rw[if_neg hb];exact .inl rfl)
      generalize WM m f.rv _=pb at*;by_cases h4:pb.2.1=4
      .rw[if_pos h4];exact .inl rfl
      .rw[if_neg h4];right;by_cases h3:pb.2.1=3
       .rw[if_pos h3];exact PK.no rfl
       .rw[if_neg h3];rcases eF with q|⟨q,_⟩|⟨_,q1,q2⟩
        .exact absurd q h4
        .exact absurd q h3
        .exactλ_=>⟨h0,by show x.pc<_;omega,h5,q1,q2,kz,λe fg hc=>absurd hc (Whr he e fg)⟩
   .rw[if_neg h5];have hb:x.busy=false:=by
     by_cases hb:x.busy=true
     .exact absurd (h hb).2.2.1 h5
     .simpa using hb
    split
    .refine .inr (PK.no ?_);unfold Wdd;split<;>exact hb
    .repeat' split
     all_goals exact .inr (PK.no hb)
 .rw[if_neg h0];have hb:x.busy=false:=by
   by_cases hb:x.busy=true
   .exact absurd (h hb).1 h0
   .simpa using hb
  split
  .split<;>exact .inr (PK.no hb)
  .split
   .split
    .exact .inr (PK.no hb)
    .simp only;split
     .exact .inr (PK.no hb)
     .exact .inr (PK.no rfl)
   .exact .inr (PK.no hb)
structure FP(M:Int->Int->Prop)(Z:Pb->Prop)(codes:List (List Opn))(f:Fm):Prop where
 ft:FT M f
 pk:f.lost=false->∀(k:Nat) (h:k<f.kids.length),PK Z (codes.getD k []) f f.kids[k]
theorem Wo6(h:FP M Z codes f)(hF:FOk codes n f)(hk:k<f.kids.length)(hm:WaL m=true)(bi:KC code)(aq:codes.getD k []=code)(hz:ZS M Z Z m f.rv):FP M Z codes (WaY m f k code)/\(WaY m f k code).rv=f.rv/\(WaY m f k code).regs=f.regs/\(WaY m f k code).start=f.start:=by
 by_cases aL:f.lost=true
 .have e:WaY m f k code=f:=by unfold WaY;rw[if_pos aL]
  rw[e];exact⟨h,rfl,rfl,rfl⟩
 .have nA:f.lost=false:=by simpa using aL
  have e:WaY m f k code=Fm.put (WaA m f f.kids[k] k code) k:=by unfold WaY;rw[if_neg aL,Wp3 hk]
  obtain⟨k1,k2,k3,k4,k5⟩:=Wmm (m:=m) (f:=f) (x:=f.kids[k]) (k:=k) (code:=code);have cu:=hF.kid k hk;rw[aq]at cu;have pw:=h.pk nA k hk;rw[aq]at pw;refine⟨⟨Wph h.ft hF hk bi aq λh0 bV h5=>?_,λhl j hj=>?_⟩,by rw[e];exact k1,by rw[e];exact k2,by rw[e];exact k3⟩
  .have ay:0<=(opN code f.kids[k].pc).2.2.1/\(opN code f.kids[k].pc).2.2.1<=7:=by
    obtain⟨i,hi,e1,e2⟩:=Wjd cu.pc.1 bV;have:=(WpC (bi.ok i hi).1 (by rw[←e2];exact h5)).2;rw[←e2]at this;unfold WO at this;simp at this;exact this
   exact WqD hz pw ay
  .have co:(WaA m f f.kids[k] k code).1.lost=false:=by rw[e]at hl;exact hl
   have jg:(WaY m f k code).kids=f.kids.set k (WaA m f f.kids[k] k code).2:=by rw[e];show List.set (WaA m f f.kids[k] k code).1.kids _ _=_;rw[k4]
   have vU:(WaY m f k code).buf=f.buf\/∃rows,rows.Pairwise (λa b:Rw=>a.1<b.1)/\(WaY m f k code).buf=Wab (f.clock+1) f.buf rows:=by
    rw[e];rcases k5 with k5|k5
    .exact .inl k5
    .exact .inr ⟨_,Wgf _,k5⟩
   have hj':j<f.kids.length:=by rw[jg,Xad]at hj;exact hj
   have bB:(WaY m f k code).kids[j]=if k=j then(WaA m f f.kids[k] k code).2 else f.kids[j]:=by simp only[jg,List.getElem_set]
   rw[bB];split
   .rename_i ej;subst ej;rw[aq];rcases Wok (k:=k) hz bi cu pw with q|q
    .rw[co]at q;cases q
    .by_cases hb:(WaA m f f.kids[k] k code).2.busy=true
     .have h0:=(q hb).1;have mE:f.kids[k].phase=0:=by
       by_cases mE:f.kids[k].phase=0
       .exact mE
       .exfalso;have lT:f.kids[k].busy=false:=by
         by_cases hb:f.kids[k].busy=true
         .exact absurd (pw hb).1 mE
         .simpa using hb
        have:(WaA m f f.kids[k] k code).2.busy=false:=by
         unfold WaA;rw[if_neg mE];split
         .split<;>exact lT
         .split
          .split
           .exact lT
           .simp only;split
            .exact lT
            .rfl
          .exact lT
        rw[this]at hb;cases hb
      have vW:(WaY m f k code).buf=f.buf:=by
       rw[e];show(WaA m f f.kids[k] k code).1.buf=f.buf;unfold WaA;rw[if_pos mE];unfold WeL;split
       .rfl
       .simp only;split
        .exact WgO.2.2.2.2
        .repeat' split
         all_goals rfl
      exact q.buf (.inl vW) hF.bufR (by
       have:=(Wlg (m:=m) hk hm bi hF aq).kid k (by rw[jg,Xad];exact hk);have e2:(WaY m f k code).kids[k]'(by rw[jg,Xad];exact hk)=(WaA m f f.kids[k] k code).2:=by simp only[jg,List.getElem_set_self]
       rw[e2]at this;have hc:(WaY m f k code).clock=f.clock:=by
        rw[e];show(WaA m f f.kids[k] k code).1.clock=f.clock;unfold WaA;rw[if_pos mE];unfold WeL;split
        .rfl
        .simp only;split
         .unfold WaG;cases WaF f.kids[k].writes (opN code f.kids[k].pc).2.2.1 with
          |some v=>rfl
          |none=>
           cases ent f.buf (opN code f.kids[k].pc).2.2.1 with
           |some r=>simp only;split<;>rfl
           |none=>
            simp only;generalize WM m f.rv _=pb;split
            .rfl
            .split<;>rfl
         .repeat' split
          all_goals rfl
       rw[hc]at this;exact this.since.2)
     .exact PK.no (by simpa using hb)
   .exact(h.pk nA j hj').buf vU hF.bufR (hF.kid j hj').since.2
structure FA(M:Int->Int->Prop)(Z:Pb->Prop)(codes:List (List Opn))(f:Fm):Prop where
 ft:FT M f
 fv:FV M codes f
 pk:f.lost=false->∀(k:Nat) (h:k<f.kids.length),PK Z (codes.getD k []) f f.kids[k]
theorem WoM(h:FA M Z codes f)(hF:FOk codes n f)(hk:k<f.kids.length)(hm:WaL m=true)(bi:KC code)(aq:codes.getD k []=code)(hz:ZS M Z Z m f.rv):FA M Z codes (WaY m f k code)/\(WaY m f k code).rv=f.rv/\(WaY m f k code).regs=f.regs/\(WaY m f k code).start=f.start:=by
 obtain⟨a,b⟩:=Wo6 (k:=k) (code:=code) ⟨h.ft,h.pk⟩ hF hk hm bi aq hz;exact⟨⟨a.ft,Wpf h.fv h.ft hF hk bi aq,a.pk⟩,b⟩
theorem Wof{regs:List Int}{writes:List Rw}(hr:Vals 4 regs):FA M Z codes (WaE rv regs writes codes.length):=by
 have hg:∀(j:Nat) (hj:j<(WaE rv regs writes codes.length).kids.length),(WaE rv regs writes codes.length).kids[j]={regs:=regs}:=λj hj=>List.getElem_replicate ..;refine⟨Wnh,⟨λj hj=>?_,λj hj h2=>?_,λj hj h2=>?_,λj hj _=>?_,λi hi=>absurd hi (Nat.not_lt_zero _)⟩,λ_ j hj=>?_⟩
 .rw[hg];exact Sim.new hr rfl rfl rfl rfl rfl
 .rw[hg]at h2;cases h2
 .rw[hg]at h2;cases h2
 .rw[hg]
 .rw[hg];exact PK.no rfl
end
end
section
theorem WhU{α β V R:Type}{body:Int->α->V->(V->Option R)->Option R}{K:Int->V->Option R}{f:V->α->V}(P:V->Prop):∀(l:List α) (j:Nat) (v:V),P v->(∀x∈l,∀v,P v->P (f v x))->(∀(j:Nat) x v k,x∈l->P v->body j x v k=k (f v x))->WbL body K l j v=K ((j+l.length:Nat):Int) (l.foldl f v)
 | [],j,v,_,_,_=>rfl
 |x::l,j,v,hv,hp,h=>by
  rw[WbL,h j x v _ (Xh ..) hv,WhU (β:=β) P l (j+1) _ (hp x (Xh ..) v hv) (λy hy=>hp y (Xe _ hy)) λj y v k hy=>h j y v k (Xe _ hy),Xcq,Xt];rw[show j+1+l.length=j+(l.length+1) by omega]
section
variable{M:Int->Int->Prop}{Z:Pb->Prop}{N:Nat}{codes:List (List Opn)}{n:Int}{f g:Fm}{k:Nat}{code:List Opn}{m:Mm}{x y:Kd}{rv:Int}{base:List Int}
theorem Wpy{c:List Int}{r:Rw}(hc:Vals 8 c)(hr:0<=r.1/\r.1<=7):inb r.1 c.length=true:=by unfold inb;rw[hc.len];simp;omega
theorem WfD{c:List Int}{l:List Rw}(hc:Vals 8 c)(hr:WdJ l)(hl:l.length<=300)(hN:1048576<N):Zc0 N c l=ret (ovl c l):=by
 unfold Zc0;have hcl:=hc.len;rw[Wb4 (by omega) hN,Wa3 (by omega) hN,WbC.2 hc,Wbt hr hl,WbT (by omega)];simp only[ret,Xd,Xah,cond_false];have h1:=WG (l:=l) (V:=List Int) (R:=Unit×(List Int×Unit)) (lp:=λn j v=>Za8 N l (λbQ cY cr=>some ((),(cr,()))) n j v) (n:=N) (by omega)
  (body:=λj x v k=>bif inb x.1 v.length then k (v.set x.1.toNat x.2)else none) (K:=λ_ v=>some ((),(v,())))
  (λn i v hi=>by simp only[Za8,Waa hi,Wt hi,Wz hi,Wj (show i<4611686018427387904 by omega),cond_true])
  (λn v=>by simp only[Za8,Was (Xl l.length),cond_false]) c
 refine h1.trans ?_;rw[WhU (β:=Unit) (f:=λv r=>v.set r.1.toNat r.2) (λv=>Vals 8 v) l 0 c hc (λx hx v hv=>hv.set _ (hr x hx).2) (λj x v k hx hv=>by rw[Wpy hv (hr x hx).1];rfl)];rfl
theorem WcA{c:List Int}{l:List Rw}(hc:Vals 8 c)(hr:WdJ l)(hl:l.length<=300)(hN:1048576<N):Zbh N c l=ret (ovl c l):=by
 unfold Zbh;have hcl:=hc.len;rw[Wbv (by omega) hN,Wbq (by omega) hN,WbC.2 hc,Wbt hr hl];simp only[ret,Xd,Xah,cond_false];rw[Wy (by simp;omega)];simp only[cond_true,show Xf ([]:List Int) c=c from rfl];have h1:=WG (l:=l) (V:=List Int) (R:=Unit×(List Int×Unit)) (lp:=λn j v=>Za5 N l (λbQ cY cr=>some ((),(cr,()))) n j v) (n:=N) (by omega)
  (body:=λj x v k=>bif inb x.1 v.length then k (v.set x.1.toNat x.2)else none) (K:=λ_ v=>some ((),(v,())))
  (λn i v hi=>by simp only[Za5,Waa hi,Wt hi,Wz hi,Wj (show i<4611686018427387904 by omega),cond_true])
  (λn v=>by simp only[Za5,Was (Xl l.length),cond_false]) c
 refine h1.trans ?_;rw[WhU (β:=Unit) (f:=λv r=>v.set r.1.toNat r.2) (λv=>Vals 8 v) l 0 c hc (λx hx v hv=>hv.set _ (hr x hx).2) (λj x v k hx hv=>by rw[Wpy hv (hr x hx).1];rfl)];rfl
structure FZ(f:Fm):Prop where
 st:WdJ f.start/\f.start.length<=300
 l3:f.kids.length<=3
 wr:∀x∈f.kids,WdJ x.writes/\x.writes.length<=300
 sn:∀x∈f.kids,x.seen.length<=300/\0<=x.since/\x.since<=300/\∀e∈x.seen,0<=e.1/\e.1<=7
 ord:f.order.length<=300/\∀k∈f.order,0<=k/\k<f.kids.length
theorem FZ.of{kA:List Rw}(h:FT M f)(hF:FOk codes n f)(h3:codes.length<=3)(hcl:∀c∈codes,c.length<=24)(hs:f.start=WbI kA):FZ f:=by
 have hl:=hF.len;have hk:∀x∈f.kids,∃c:List Opn,c.length<=24/\KOk c f.clock n x:=λx hx=>by
  obtain⟨i,hi,rfl⟩:=Xdh.1 hx;refine⟨_,?_,hF.kid i hi⟩;rw[Xv,Xq (by omega)];exact hcl _ (Xac _)
 have hcl:=hF.clock;have ho:=hF.len3 h3;refine⟨by rw[hs];exact⟨Wc8,by have:=Wfr kA;omega⟩,by omega,λx hx=>?_,λx hx=>?_,by omega,λk hk=>?_⟩
 .obtain⟨c,h1,h2⟩:=hk x hx;have:=h2.wl;have:=h2.pc;exact⟨h2.rows,by omega⟩
 .obtain⟨c,h1,h2⟩:=hk x hx;have:=h2.sl;have:=h2.pc;have:=h2.since;exact⟨by omega,by omega,by omega,λe he=>(h2.seen e he).1⟩
 .obtain⟨a,b,_⟩:=h.ord k hk;omega
theorem FZ.rows(h:FZ f)(n:Nat):WdJ (Wh f n):=by
 unfold Wh;intro r hr;rcases List.mem_append.1 hr with hr|hr
 .exact h.st.1 r hr
 .obtain⟨l,hl,hr⟩:=List.mem_flatten.1 hr;obtain⟨k,hk,rfl⟩:=Xu.1 hl;obtain⟨a,b⟩:=h.ord.2 k (List.mem_of_mem_take hk);unfold WiB at hr;rw[Wp3 (k:=k.toNat) (by omega)]at hr;exact(h.wr _ (Xac _)).1 r hr
theorem WdI{i:Nat}(h:i<f.order.length):Wh f (i+1)=Wh f i++WiB f f.order[i]:=by
 unfold Wh;rw[Xbg h,List.map_append,List.flatten_append,List.append_assoc];simp
theorem Whf{i:Nat}(h:f.order.length<=i):Wh f i=Wh f f.order.length:=by
 unfold Wh;rw[List.take_of_length_le h,Xct]
theorem FZ.kid(h:FZ f){i:Nat}(hi:i<f.order.length):∃hk:(f.order[i]).toNat<f.kids.length,WiB f f.order[i]=f.kids[(f.order[i]).toNat].writes/\0<=f.order[i]:=by
 obtain⟨a,b⟩:=h.ord.2 _ (Xac hi);have hk:(f.order[i]).toNat<f.kids.length:=by omega
 refine⟨hk,?_,a⟩;unfold WiB;rw[Wp3 hk]
theorem Wja(hk:k<f.kids.length):Xc (f.kids.map Kd.e) k d_KidRun=Kd.e f.kids[k]:=by
 rw[WE (show k<(f.kids.map Kd.e).length by simpa using hk),List.getElem_map]
theorem WjD(hz:FZ f)(hb:Vals 8 base)(t:Nat)(hN:1048576<N):∀(d j fuel:Nat),j+d=min t f.order.length->d<fuel->
  Zak N (t:Int) f.e (λu9 om be=>some ((),(be,()))) fuel (j:Int) (ovl base (Wh f j))=ret (ovl base (Wh f t))
 |0,j,fuel,hj,hf=>by
  obtain⟨g,rfl⟩:∃g,fuel=g+1:=⟨fuel-1,by omega⟩;have h7:P7 f.e=f.order:=rfl;have he:Wh f j=Wh f t:=by
   by_cases h:t<=f.order.length
   .rw[show j=t by omega]
   .rw[show j=f.order.length by omega,Whf (show f.order.length<=t by omega)]
  rw[Zak,h7,he];by_cases h:j<f.order.length
  .rw[Waa h,decide_eq_false (show¬(j:Int)<(t:Int) by omega)];rfl
  .rw[Was (show f.order.length<=j by omega)];rfl
 |d+1,j,fuel,hj,hf=>by
  obtain⟨g,rfl⟩:∃g,fuel=g+1:=⟨fuel-1,by omega⟩;have h:j<f.order.length:=by omega
  have h7:P7 f.e=f.order:=rfl;have h9:Q9 f.e=f.kids.map Kd.e:=rfl;obtain⟨hk,hw,h0⟩:=hz.kid h;obtain⟨w1,w2⟩:=hz.wr _ (Xac hk);have ih:=WjD hz hb t hN d (j+1) g (by omega) (by omega);rw[WdI h,Wku,hw]at ih;rw[Zak,h7,h9];simp only[WJ,Waa h,Wt h,Wz h,decide_eq_true (show(j:Int)<(t:Int) by omega),cond_true,Wj (show j<4611686018427387904 by have:=hz.ord.1;omega)];have hkb:(f.order[j]).toNat<f.kids.length:=hk;have ge:Xc (f.kids.map Kd.e) (Xb f.order[j]) d_KidRun=Kd.e f.kids[(f.order[j]).toNat]:=Wja hk;have hwe:(Kd.e f.kids[(f.order[j]).toNat]).2.2.2.2.2.2.2.2.1=f.kids[(f.order[j]).toNat].writes:=rfl;rw[decide_eq_true (show f.order[j]>=0 from h0),decide_eq_true (show f.order[j]<We (f.kids.map Kd.e) by unfold We;rw[Xz];omega),show inb f.order[j] (f.kids.map Kd.e).length=true by unfold inb;rw[Xz];simp;omega];simp only[cond_true,ge,hwe];rw[Wbq (by omega) hN,Wbt w1 w2];simp only[ret,Xd,cond_true];rw[WcA (WaD hb (hz.rows j)) w1 w2 hN];simp only[ret,Xd];exact ih
theorem WlM(hz:FZ f)(hb:Vals 8 base){t:Nat}(ht:t<=300)(hN:1048576<N):Zew N base f.e (t:Int)=ret (ovl base (Wh f t)):=by
 unfold Zew;have h5:f.e.2.2.2.2.2.1=f.start:=rfl;have hbl:=hb.len;rw[h5,Wbv (by omega) hN,Wbq (by have:=hz.st.2;omega) hN,WbC.2 hb,Wbt hz.st.1 hz.st.2];simp only[ret,Xd,Xah,cond_false];rw[WcA hb hz.st.1 hz.st.2 hN];simp only[ret,Xd];have:=WjD hz hb t hN (min t f.order.length) 0 N (by omega) (by have:=hz.ord.1;omega);rw[show Wh f 0=f.start by unfold Wh;simp]at this;exact this
theorem Wio(hz:FZ f)(hb:Vals 8 base)(t:Nat)(hN:1048576<N):∀(d j fuel:Nat),j+d=f.order.length->d<fuel->
  Zal N (t:Int) f.order f.e (λt25 ml cZ=>some ((),(cZ,()))) fuel (j:Int) (ovl base (Wh f (min t j)))=ret (ovl base (Wh f t))
 |0,j,fuel,hj,hf=>by
  obtain⟨g,rfl⟩:∃g,fuel=g+1:=⟨fuel-1,by omega⟩;have h7:P7 f.e=f.order:=rfl;have he:Wh f (min t j)=Wh f t:=by
   by_cases h:t<=f.order.length
   .rw[show min t j=t by omega]
   .rw[show min t j=f.order.length by omega,Whf (show f.order.length<=t by omega)]
  rw[Zal,h7,he,Was (show f.order.length<=j by omega)];rfl
 |d+1,j,fuel,hj,hf=>by
  obtain⟨g,rfl⟩:∃g,fuel=g+1:=⟨fuel-1,by omega⟩;have h:j<f.order.length:=by omega
  have h7:P7 f.e=f.order:=rfl;have h9:Q9 f.e=f.kids.map Kd.e:=rfl;obtain⟨hk,hw,h0⟩:=hz.kid h;obtain⟨w1,w2⟩:=hz.wr _ (Xac hk);have ih:=Wio hz hb t hN d (j+1) g (by omega) (by omega);rw[Zal,h7,h9];simp only[WJ,Waa h,Wt h,Wz h,cond_true,Wj (show j<4611686018427387904 by have:=hz.ord.1;omega)];by_cases oT:j<t
  .rw[show min t (j+1)=j+1 by omega,WdI h,Wku,hw]at ih;rw[show min t j=j by omega];have ge:Xc (f.kids.map Kd.e) (Xb f.order[j]) d_KidRun=Kd.e f.kids[(f.order[j]).toNat]:=Wja hk;have hwe:(Kd.e f.kids[(f.order[j]).toNat]).2.2.2.2.2.2.2.2.1=f.kids[(f.order[j]).toNat].writes:=rfl;have bO:WN .i64 (We (f.kids.map Kd.e)) 1=(f.kids.length:Int) -1:=by
    have:=hz.l3;rw[Wax (by unfold I64 We;rw[Xz];omega)];unfold We;rw[Xz]
   rw[decide_eq_true (show(j:Int)<(t:Int) by omega),Wp,bO,show inb f.order[j] (f.kids.map Kd.e).length=true by unfold inb;rw[Xz];simp;omega,
    show(decide (0<=f.order[j])&&decide (f.order[j]<=(f.kids.length:Int) -1))=true by simp;omega]
   simp only[ret,Xd,cond_true,ge,hwe];rw[Wa3 (by omega) hN,Wbt w1 w2];simp only[ret,Xd,cond_true];rw[WfD (WaD hb (hz.rows j)) w1 w2 hN];simp only[ret,Xd];exact ih
  .rw[show min t (j+1)=t by omega]at ih;rw[show min t j=t by omega,decide_eq_false (show¬(j:Int)<(t:Int) by omega)];exact ih
theorem WeV(hz:FZ f)(hb:Vals 8 base){t:Nat}(ht:t<=300)(hN:1048576<N):Zck N base f.e (t:Int)=ret (ovl base (Wh f t)):=by
 unfold Zck;have h5:f.e.2.2.2.2.2.1=f.start:=rfl;have h7:f.e.2.2.2.2.2.2.2.1=f.order:=rfl;have hbl:=hb.len;rw[h5,h7,Wb4 (by omega) hN,Wa3 (by have:=hz.st.2;omega) hN,WbC.2 hb,Wbt hz.st.1 hz.st.2];simp only[ret,Xd,Xah,cond_false];rw[WfD hb hz.st.1 hz.st.2 hN];simp only[ret,Xd];have:=Wio hz hb t hN f.order.length 0 N (by omega) (by have:=hz.ord.1;omega);rw[show min t 0=0 by omega,show Wh f 0=f.start by unfold Wh;simp]at this;exact this
def Wg1(base:List Int)(f:Fm):Prop:=∀x∈f.kids,∀e∈x.seen,(ovl base (Wh f x.since.toNat)).getD e.1.toNat 0=e.2.1
theorem Wna(h:FT M f)(hz:FZ f)(hb:Vals 8 base)(hM:∀c v,0<=c->c<=7->M c v->base.getD c.toNat 0=v):Wg1 base f:=λx hx e he=>by
 obtain⟨i,hi,rfl⟩:=Xdh.1 hx;obtain⟨h0,h7⟩:=(hz.sn _ hx).2.2.2 e he;rw[WcS hb (hz.rows _) h0 h7];rcases h.sn i hi e he with⟨_,b,c⟩|⟨_,_,_,d⟩
 .rw[b];exact hM _ _ h0 h7 c
 .rw[d]
theorem WmK{c:Int}(h0:0<=c)(h7:c<=7):Zat N c=ret true:=by
 unfold Zat;rw[Wb8,decide_eq_true h0,decide_eq_true h7];rfl
theorem WnI{c:Int}(h0:0<=c)(h7:c<=7):Zae N c=ret true:=by
 unfold Zae;rw[Wp,decide_eq_true h0,decide_eq_true h7];rfl
theorem Win{R:Type}{K0:Option R}{K1:Int->Bool->Option R}{i:Nat}(hi:i<f.kids.length){A:List Int}(hA:Vals 8 A)(hs:f.kids[i].seen.length<=300)(h7:∀e∈f.kids[i].seen,0<=e.1/\e.1<=7)(ht:∀e∈f.kids[i].seen,A.getD e.1.toNat 0=e.2.1):
  ∀(d j fuel:Nat),j+d=f.kids[i].seen.length->d<fuel->Za6 N base (i:Int) f.e A K0 K1 fuel (j:Int)=K1 (f.kids[i].seen.length:Int) false
 |0,j,fuel,hj,hf=>by
  obtain⟨g,rfl⟩:∃g,fuel=g+1:=⟨fuel-1,by omega⟩;have hj':j=f.kids[i].seen.length:=by omega
  have h9:Q9 f.e=f.kids.map Kd.e:=rfl;have rN:inb (i:Int) (f.kids.map Kd.e).length=true:=Wt (by rw[Xz];exact hi);have p7:P7 (Kd.e f.kids[i])=f.kids[i].seen:=rfl;have ge:Xc (f.kids.map Kd.e) (Xb (i:Int)) d_KidRun=Kd.e f.kids[i]:=by rw[Xp];exact Wja hi
  simp only[Za6,WJ,h9,rN,cond_true,ge,p7,Was (show f.kids[i].seen.length<=j by omega),cond_false];rw[hj']
 |d+1,j,fuel,hj,hf=>by
  obtain⟨g,rfl⟩:∃g,fuel=g+1:=⟨fuel-1,by omega⟩;have hlt:j<f.kids[i].seen.length:=by omega
  have h9:Q9 f.e=f.kids.map Kd.e:=rfl;have rN:inb (i:Int) (f.kids.map Kd.e).length=true:=Wt (by rw[Xz];exact hi);have p7:P7 (Kd.e f.kids[i])=f.kids[i].seen:=rfl;have ge:Xc (f.kids.map Kd.e) (Xb (i:Int)) d_KidRun=Kd.e f.kids[i]:=by rw[Xp];exact Wja hi
  have bB:Xc f.kids[i].seen (Xb (j:Int)) ((0:Int),((0:Int),(0:Int)))=f.kids[i].seen[j]:=Wz hlt _;obtain⟨c0,c7⟩:=h7 _ (Xac hlt);have hv:=ht _ (Xac hlt);have ih:=Win (K0:=K0) (K1:=K1) hi hA hs h7 ht d (j+1) g (by omega) (by omega);simp only[Za6,WJ,h9,rN,cond_true,ge,p7,Waa hlt,Wt hlt,bB,WmK c0 c7,ret,Xd,Xah,cond_false,Wj (show j<4611686018427387904 by omega)];rw[show inb f.kids[i].seen[j].1 A.length=true by unfold inb;rw[hA.len];simp;omega,hv];simp only[cond_true,bne_self_eq_false,cond_false];exact ih
theorem Wjv(hz:FZ f)(hb:Vals 8 base)(ht:Wg1 base f)(hN:1048576<N):∀(d j fuel:Nat),j+d=f.kids.length->d<fuel->
  Za7 N base f.e (some ((),(false,()))) (λtG ml=>some ((),(true,()))) fuel (j:Int)=ret true
 |0,j,fuel,hj,hf=>by
  obtain⟨g,rfl⟩:∃g,fuel=g+1:=⟨fuel-1,by omega⟩;have h9:f.e.2.2.2.2.2.2.2.2.2=f.kids.map Kd.e:=rfl;simp only[Za7,h9,Was (show(f.kids.map Kd.e).length<=j by rw[Xz];omega),cond_false]
 |d+1,j,fuel,hj,hf=>by
  obtain⟨g,rfl⟩:∃g,fuel=g+1:=⟨fuel-1,by omega⟩;have hlt:j<f.kids.length:=by omega
  have iT:j<(f.kids.map Kd.e).length:=by rw[Xz];omega
  have h9:f.e.2.2.2.2.2.2.2.2.2=f.kids.map Kd.e:=rfl;have ge:Xc (f.kids.map Kd.e) (Xb (j:Int)) d_KidRun=Kd.e f.kids[j]:=by rw[Xp];exact Wja hlt
  have ih:=Wjv hz hb ht hN d (j+1) g (by omega) (by omega);obtain⟨s1,s2,s3,s4⟩:=hz.sn _ (Xac hlt);have pr:(Kd.e f.kids[j]).2.2.1=((f.kids[j].since.toNat:Nat):Int):=by show f.kids[j].since=_;omega
  have tN:=hz.l3;simp only[Za7,h9,Waa iT,Wt iT,cond_true,ge,pr,WlM hz hb (show f.kids[j].since.toNat<=300 by omega) hN,ret,Xd,Wj (show j<4611686018427387904 by omega)];rw[show(0:Int)=((0:Nat):Int)from rfl,Win hlt (WaD hb (hz.rows _)) s1 s4 (ht _ (Xac hlt)) f.kids[j].seen.length 0 N (by omega) (by omega)];exact ih
theorem WiW(hz:FZ f)(hb:Vals 8 base)(ht:Wg1 base f)(hN:1048576<N):Zdn N base f.e=ret true:=by
 unfold Zdn;have h5:f.e.2.2.2.2.2.1=f.start:=rfl;have hbl:=hb.len;have h3:=hz.l3;rw[h5,Wbv (by omega) hN,Wbq (by have:=hz.st.2;omega) hN,WbC.2 hb,Wbt hz.st.1 hz.st.2];simp only[ret,Xd,Xah,cond_false];exact Wjv hz hb ht hN f.kids.length 0 N (by omega) (by omega)
theorem WiE{R:Type}{K0:Option R}{K1:Int->Bool->Option R}{i:Nat}{L:Int}(hi:i<f.kids.length){A:List Int}(hA:Vals 8 A)(hs:f.kids[i].seen.length<=300)(h7:∀e∈f.kids[i].seen,0<=e.1/\e.1<=7)(ht:∀e∈f.kids[i].seen,A.getD e.1.toNat 0=e.2.1):
  ∀(d j fuel:Nat),j+d=f.kids[i].seen.length->d<fuel->Za9 N base (f.kids.map Kd.e) L (i:Int) f.kids[i].seen f.e A K0 K1 fuel (j:Int)=K1 (f.kids[i].seen.length:Int) false
 |0,j,fuel,hj,hf=>by
  obtain⟨g,rfl⟩:∃g,fuel=g+1:=⟨fuel-1,by omega⟩;have hj':j=f.kids[i].seen.length:=by omega
  have p7:(Kd.e f.kids[i]).2.2.2.2.2.2.2.1=f.kids[i].seen:=rfl;have ge:Xc (f.kids.map Kd.e) (Xb (i:Int)) d_KidRun=Kd.e f.kids[i]:=by rw[Xp];exact Wja hi
  simp only[Za9,ge,p7,Was (show f.kids[i].seen.length<=j by omega),cond_false];rw[hj']
 |d+1,j,fuel,hj,hf=>by
  obtain⟨g,rfl⟩:∃g,fuel=g+1:=⟨fuel-1,by omega⟩;have hlt:j<f.kids[i].seen.length:=by omega
  have p7:(Kd.e f.kids[i]).2.2.2.2.2.2.2.1=f.kids[i].seen:=rfl;have ge:Xc (f.kids.map Kd.e) (Xb (i:Int)) d_KidRun=Kd.e f.kids[i]:=by rw[Xp];exact Wja hi
  have bB:Xc f.kids[i].seen (Xb (j:Int)) ((0:Int),((0:Int),(0:Int)))=f.kids[i].seen[j]:=Wz hlt _;obtain⟨c0,c7⟩:=h7 _ (Xac hlt);have hv:=ht _ (Xac hlt);have ih:=WiE (K0:=K0) (K1:=K1) (L:=L) hi hA hs h7 ht d (j+1) g (by omega) (by omega);simp only[Za9,WJ,cond_true,ge,p7,Waa hlt,Wt hlt,bB,WnI c0 c7,ret,Xd,Xah,cond_false,Wj (show j<4611686018427387904 by omega)];rw[show inb f.kids[i].seen[j].1 A.length=true by unfold inb;rw[hA.len];simp;omega,hv];simp only[cond_true,bne_self_eq_false,cond_false];exact ih
theorem Wiw(hz:FZ f)(hb:Vals 8 base)(ht:Wg1 base f)(hN:1048576<N):∀(d j fuel:Nat),j+d=f.kids.length->d<fuel->
  Zba N base (f.kids.map Kd.e) f.e (some ((),(false,()))) (λtG ml=>some ((),(true,()))) fuel (j:Int)=ret true
 |0,j,fuel,hj,hf=>by
  obtain⟨g,rfl⟩:∃g,fuel=g+1:=⟨fuel-1,by omega⟩;have h9:Q9 f.e=f.kids.map Kd.e:=rfl;simp only[Zba,h9,Was (show(f.kids.map Kd.e).length<=j by rw[Xz];omega),cond_false]
 |d+1,j,fuel,hj,hf=>by
  obtain⟨g,rfl⟩:∃g,fuel=g+1:=⟨fuel-1,by omega⟩;have hlt:j<f.kids.length:=by omega
  have iT:j<(f.kids.map Kd.e).length:=by rw[Xz];omega
  have h9:Q9 f.e=f.kids.map Kd.e:=rfl;have ge:Xc (f.kids.map Kd.e) (Xb (j:Int)) d_KidRun=Kd.e f.kids[j]:=by rw[Xp];exact Wja hlt
  have ih:=Wiw hz hb ht hN d (j+1) g (by omega) (by omega);obtain⟨s1,s2,s3,s4⟩:=hz.sn _ (Xac hlt);have pr:(Kd.e f.kids[j]).2.2.1=((f.kids[j].since.toNat:Nat):Int):=by show f.kids[j].since=_;omega
  have p7:(Kd.e f.kids[j]).2.2.2.2.2.2.2.1=f.kids[j].seen:=rfl;have tN:=hz.l3;simp only[Zba,h9,Waa iT,Wt iT,cond_true,ge,pr,p7,WeV hz hb (show f.kids[j].since.toNat<=300 by omega) hN,ret,Xd,Wj (show j<4611686018427387904 by omega)];rw[show(0:Int)=((0:Nat):Int)from rfl,WiE hlt (WaD hb (hz.rows _)) s1 s4 (ht _ (Xac hlt)) f.kids[j].seen.length 0 N (by omega) (by omega)];exact ih
theorem Wjy(hz:FZ f)(hb:Vals 8 base)(ht:Wg1 base f)(hN:1048576<N):Zdo N base f.e=ret true:=by
 unfold Zdo;have h9:f.e.2.2.2.2.2.2.2.2.2=f.kids.map Kd.e:=rfl;have h3:=hz.l3;have cw:=WeV (t:=0) hz hb (by omega) hN;have rO:Zck N base f.e 0=ret (ovl base (Wh f 0)):=cw;rw[rO];simp only[ret,Xd];have hv:=(WaD hb (hz.rows 0)).len;rw[hv,show Nat.blt 0 8=true from rfl,cond_true,h9];exact Wiw hz hb ht hN f.kids.length 0 N (by omega) (by omega)
end
end
section
variable{N:Nat}{s:FSc}{m:Mm}{f:Fm}{n:Int}
theorem Wiq{R:Type}{K0:Int->Bool->Int->Int->Int->Int->Bool->Kr->Kh->Kq->Kr->Kh->Kq->(List Y_KidRun)->Option R}(hN:1048576<N)(hk:∀c∈s.2.2.2.1,KC c)(h3:s.2.2.2.1.length<=3)(hl:s.2.2.2.2.length<=300):
  ∀(d j fuel:Nat) (n:Int) (p:Mm×Fm),j+d=s.2.2.2.2.length->d<fuel->PI s.2.2.2.1 n p->n+d<=90000->
  Z3 N s.2.2.2.2 s K0 fuel (j:Int) p.1.1 p.2.e.1 p.2.e.2.1 p.2.e.2.2.1 p.2.e.2.2.2.1 p.1.2 (P4 p.2.e) (P5 p.2.e) (P6 p.2.e) (P7 p.2.e) (P8 p.2.e) (Q9 p.2.e)=
  (λq:Mm×Fm=>K0 (s.2.2.2.2.length:Int) false q.1.1 q.2.e.1 q.2.e.2.1 q.2.e.2.2.1 q.2.e.2.2.2.1 q.1.2 (P4 q.2.e) (P5 q.2.e) (P6 q.2.e) (P7 q.2.e) (P8 q.2.e) (Q9 q.2.e)) ((s.2.2.2.2.drop j).foldl (Wip s.2.2.2.1) p):=by
 intro d
 induction d with
 |zero=>
  intro j fuel n p hj hf hp hn;obtain⟨g,rfl⟩:∃g,fuel=g+1:=⟨fuel-1,by omega⟩;have:j=s.2.2.2.2.length:=by omega
  subst this;simp only[Z3,Was (Xl _),cond_false,List.drop_length,List.foldl_nil]
 |succ d ih=>
  intro j fuel n p hj hf hp hn;obtain⟨g,rfl⟩:∃g,fuel=g+1:=⟨fuel-1,by omega⟩;have hlt:j<s.2.2.2.2.length:=by omega
  have vX:=WkC (a:=s.2.2.2.2[j]) hk hp (by omega);have cD:=ih (j+1) g (n+1) _ (by omega) (by omega) vX (by omega);rw[List.drop_eq_getElem_cons hlt,Xcq,←cD];have oI:p.1.1<1000000:=by have:=hp.clk;omega
  have m5:WN .i64 (We s.2.2.2.1) 1=(s.2.2.2.1.length:Int) -1:=by unfold We;exact Wax (by unfold I64;omega)
  simp only[Z3,WJ,Waa hlt,Wt hlt,Wz hlt,cond_true,Wp,ret,Xd,Wj (show j<4611686018427387904 by omega),m5];generalize s.2.2.2.2[j]=a at*;have vY:=hp.fam.len;have kC:((p.2.e.1,(p.2.e.2.1,(p.2.e.2.2.1,(p.2.e.2.2.2.1,(P4 p.2.e,(P5 p.2.e,(P6 p.2.e,(P7 p.2.e,(P8 p.2.e,Q9 p.2.e))))))))):Y_Family)=p.2.e:=rfl;by_cases ha:0<=a/\a<s.2.2.2.1.length
  .have e1:(decide (0<=a)&&decide (a<=(s.2.2.2.1.length:Int) -1))=true:=by simp;omega
   have rP:inb a s.2.2.2.1.length=true:=by unfold inb;simp;omega
   have ky:s.2.2.2.1.getD a.toNat []=s.2.2.2.1[a.toNat]'(by omega):=WE (by omega) _;have ch:=Who (m:=p.1) (f:=p.2) (k:=a.toNat) (codes:=s.2.2.2.1) (code:=s.2.2.2.1.getD a.toNat []) (by omega) (by omega) hp.mem (by rw[ky];exact hk _ (Xac _)) hp.fam rfl (by omega) hN;rw[show((a.toNat:Nat):Int)=a by omega]at ch;rw[e1,cond_true,rP,cond_true,kC,show((p.1.1,p.1.2):Mm)=p.1 from rfl];have oJ:Wip s.2.2.2.1 p a=(p.1,WaY p.1 p.2 a.toNat (s.2.2.2.1.getD a.toNat [])):=by unfold Wip;rw[if_neg (by omega),if_pos ha]
   have rQ:Zc8 N p.2.e a (Xc s.2.2.2.1 (Xb a) ([]:List Ka)) p.1=_:=ch;rw[rQ,oJ];rfl
  .have e1:(decide (0<=a)&&decide (a<=(s.2.2.2.1.length:Int) -1))=false:=by
    rw[Xdd];intro z;simp at z;omega
   rw[e1,cond_false];by_cases bq:10<=a/\a<=17
   .have e2:(decide (10<=a)&&decide (a<=17))=true:=by simp[bq]
    have vZ:WN .i64 a 10=a-10:=Wax (by unfold I64;omega);obtain⟨c1,c2⟩:=WlF hp.mem oI (i:=a-10) (by omega);have oJ:Wip s.2.2.2.1 p a=(Wge p.1 (a-10),p.2):=by unfold Wip;rw[if_pos bq]
    have gP:(a-10).toNat<(WeE p.1).1.2.length:=by unfold inb at c1;simp at c1;omega
    rw[e2,cond_true,show((p.1.1,p.1.2):Mm)=p.1 from rfl,Wjl hp.mem hN];simp only[Xd,vZ,c1,c2,cond_true,show inz (65536:Int)=true from rfl,Xad];rw[oJ,Wrp gP];rfl
   .have e2:(decide (10<=a)&&decide (a<=17))=false:=by
     rw[Xdd];intro z;simp at z;exact bq z
    have oJ:Wip s.2.2.2.1 p a=p:=by unfold Wip;rw[if_neg bq,if_neg ha]
    rw[e2,cond_false,oJ]
theorem WhN(h:FSB s)(hN:1048576<N):Zcs N s=some ((),((WfO s).1,((WfO s).2,()))):=by
 unfold Zcs WfO;rw[Wiv h hN];simp only[ret,Xd];by_cases ho:WjN s=true
 .obtain⟨h1,h2,h3,h4,h5,h6⟩:=Wcf ho;obtain⟨p,q⟩:=WfX ho;rw[ho,Wgx (WbC.2 h1) hN,show We s.2.2.2.1=(s.2.2.2.1.length:Int)from rfl,WgA (by have:=h2.len;omega) (by omega) h4 hN];simp only[ret,Xd,Xah,cond_false,if_true];have:=Wiq (s:=s) (K0:=λt55 vm fu fw fx fy qE de fz fA fB gG df eZ=>
  (some ((),((fu,de),((fw,(fx,(fy,(qE,(fz,(fA,(fB,(gG,(df,eZ))))))))),()))))) hN h6 h4 h5 s.2.2.2.2.length 0 N 0 _ (by omega) (by omega) p (by omega)
  exact this
 .rw[show WjN s=false by simpa using ho];rfl
end
section
section
variable{N:Nat}{c:Cur}
theorem WjH:∀(n i:Nat) (c:Cur) (l:List Rw),i<n->Wam c->l.length+i<=100->Drw (λv:List Rw×Unit=>v.1.length<=100) (Zcq N (λvg cE aU bE=>(some ((aU,()),(bE,())))) n (i:Int) c l)
 |0,i,c,l,h,_,_=>by omega
 |n+1,i,c,l,h,hc,hl=>by
  unfold Zcq;refine .bif (λh0=>?_) λh0=>.ok hc (by simp only;omega);have h0:(i:Int)>0:=of_decide_eq_true h0;obtain⟨j,rfl⟩:∃j,i=j+1:=⟨i-1,by omega⟩;have e:WN .i64 ((j+1:Nat):Int) 1=(j:Int):=by rw[Wax (by unfold I64;omega)];omega
  simp only[e];exact(WpY hc).bind λc v hc _=>(WpU hc).bind λc v hc _=>.bifT (Wy (by simp;omega)) (WjH n j c _ (by omega) hc (by simp[Xao];omega))
theorem WqH(hN:1048576<N)(hc:Wam c):Drw (λv:List Rw×Unit=>v.1.length<=100) (Zd5 N c 3):=by
 unfold Zd5;have e:Wf .i64 3 1=4:=rfl;rw[e];refine(Wat 4 hc).bind λc v hc hv=>?_;have hv:=hv.2 (by decide);obtain⟨i,hi⟩:∃i:Nat,v.1=i:=⟨v.1.toNat,by omega⟩;simp only[hi];exact WjH N i c [] (by omega) hc (by simp;omega)
theorem WfQ{n4 bu:Int}(hm:bu<=200):∀(n i:Nat) (last:Int) (c:Cur) (l:List Int),400-i<n->i<=300->Wam c->l.length=i->
  Drw (λv:List Int×Unit=>v.1.length<=310) (Zay N n4 bu (λlK iO eU jT bj=>
  ((Zs N jT (12:Int)).bind λgT=>
 (bif gT.2.1 then
 (bif WB ((Xa bj)+(Xa ([(-1:Int),n4])))then
 (some ((gT.1.1,()),(Xf bj ([(-1:Int),n4]),())))else none)
 else
 (some ((gT.1.1,()),(bj,())))))) n last (i:Int) c l)
 |0,i,last,c,l,h,_,_,_=>by omega
 |n+1,i,last,c,l,h,hi,hc,hl=>by
  unfold Zay;refine .bif (λh0=>?_) λh0=>(Wi8 12 hc).bind λc b hc _=>.bif (λ_=>.bifT (Wy (by simp;omega)) (.ok hc (by simp[Xao];omega))) λ_=>.ok hc (by simp only;omega);have h0:(i:Int)<bu:=of_decide_eq_true h0;have e:Wf .i64 (i:Int) 1=((i+1:Nat):Int):=Wj (by omega);simp only[e];refine(Wi8 3 hc).bind λc b hc _=>.bif (λ_=>?_) λ_=>?_
  .exact(Wat n4 hc).bind λc v hc _=>.bifT (Wy (by simp;omega)) (WfQ hm n (i+1) _ c _ (by omega) (by omega) hc (by simp[Xao];omega))
  .exact .bifT (Wy (by simp;omega)) (WfQ hm n (i+1) _ c _ (by omega) (by omega) hc (by simp[Xao];omega))
structure FD(s:FSc):Prop where
 a:s.1.length<=1000
 b:s.2.1.length<=1000
 c:s.2.2.1.length<=2000
 d:s.2.2.2.1.length<=1000
 e:∀l∈s.2.2.2.1,l.length<=1000
 f:s.2.2.2.2.length<=1000
theorem FD.fsb{s:FSc}(h:FD s):FSB s:=⟨by have:=h.a;omega,by have:=h.b;omega,by have:=h.c;omega,by have:=h.d;omega,λl hl=>by have:=h.e l hl;omega,by have:=h.f;omega⟩
theorem Wlq{c5 c6:List Int}{dt:List Rw}{bW:List (List Opn)}(tO:c5.length<=1000)(tP:c6.length<=1000)(tQ:dt.length<=1000)(tR:bW.length<=100/\∀x∈bW,x.length<=200):∀(n k:Nat) (c:Cur) (l:List Int),k<n->k<=100->Wam c->l.length<=310->
  Drw (λv:FSc×Unit=>FD v.1/\v.1.2.2.2.1=bW/\v.1.2.2.2.2.length<=310/\v.1.2.2.1.length<=1000) (Zas N c5 c6 dt bW (λtH t50 eJ ov=>(some ((eJ,()),((c5,(c6,(dt,(bW,ov)))),())))) n (k:Int) c l)
 |0,k,c,l,h,_,_,_=>by omega
 |n+1,k,c,l,h,hk,hc,hl=>by
  unfold Zas;have fQ:∀c:Cur,Wam c->Drw (λv:FSc×Unit=>FD v.1/\v.1.2.2.2.1=bW/\v.1.2.2.2.2.length<=310/\v.1.2.2.1.length<=1000) (some ((c,()),((c5,(c6,(dt,(bW,l)))),()))):=λc hc=>.ok hc ⟨⟨tO,tP,by simp only;omega,by simp only;omega,λx hx=>by have:=tR.2 x hx;omega,by simp only;omega⟩,rfl,hl,tQ⟩;refine .bif (λh0=>.bif (λh1=>?_) λh1=>fQ c hc) λh0=>fQ c hc;have h0:(k:Int)>0:=of_decide_eq_true h0;have h1:We l>0:=of_decide_eq_true h1;obtain⟨j,rfl⟩:∃j,k=j+1:=⟨k-1,by omega⟩;have e:WN .i64 ((j+1:Nat):Int) 1=(j:Int):=by rw[Wax (by unfold I64;omega)];omega
  simp only[e];refine(Wat (We l) hc).bind λc v hc hv=>(WpY hc).bind λc w hc _=>?_;have hv:=hv.2 h1;unfold We at hv;exact .bifT (by unfold inb;simp;omega) (Wlq tO tP tQ tR n j c _ (by omega) (by omega) hc (by rw[Xad];exact hl))
theorem WkZ(hN:1048576<N){cO cr:List Int}{dn:List Rw}{k9:Int}(jV:cO.length<=1000)(jW:cr.length<=1000)(gZ:dn.length<=1000)(hk:1<=k9/\k9<=3):∀(n i:Nat) (c:Cur) (l:List (List Opn)),10-i<n->i<=3->Wam c->l.length=i->(∀x∈l,x.length<=200)->
  Drw (λv:FSc×Unit=>FD v.1/\1<=v.1.2.2.2.1.length/\(∀x∈v.1.2.2.2.1,x.length<=200)/\v.1.2.2.2.2.length<=310/\v.1.2.2.1.length<=1000) (Zbi N true k9 cO cr dn (λvi vk qC iL=>
  ((Zb N qC (120:Int)).bind λku=>
 ((Zdd N ku.1.1 k9 ku.2.1).bind λfC=>
 (bif true then
 ((Zs N fC.1.1 (2:Int)).bind λjd=>
 (bif jd.2.1 then
 ((Zb N jd.1.1 (3:Int)).bind λkw=>
 (Zas N cO cr dn iL
 (λtH t50 eJ ov=>
  (some ((eJ,()),((cO,(cr,(dn,(iL,ov)))),()))))
 N (Wf .i64 (1:Int) kw.2.1) kw.1.1 fC.2.1))
 else
 (some ((jd.1.1,()),((cO,(cr,(dn,(iL,fC.2.1)))),())))))
 else
 (some ((fC.1.1,()),((cO,(cr,(dn,(iL,fC.2.1)))),()))))))) n (i:Int) c l)
 |0,i,c,l,h,_,_,_,_=>by omega
 |n+1,i,c,l,h,hi,hc,hl,hx=>by
  unfold Zbi;refine .bif (λh0=>?_) λh0=>?_
  .have h0:(i:Int)<k9:=of_decide_eq_true h0;have e:Wf .i64 (i:Int) 1=((i+1:Nat):Int):=Wj (by omega);simp only[e];refine(Wat 6 hc).bind λc v hc hv=>?_;have hv:=hv.2 (by decide);have e2:Wf .i64 2 v.1=2+v.1:=WI (by unfold I64;omega);simp only[e2];refine(Wrl (deep:=1) (kid:=true) hN hc (by omega) (by omega)).bind λc g hc hg=>.bifT (Wy (by simp;omega)) (WkZ hN jV jW gZ hk n (i+1) c _ (by omega) (by omega) hc (by simp[Xao];omega) λy hy=>?_);simp[Xao]at hy;rcases hy with hy|hy
   .exact hx y hy
   .subst hy;omega
  .have h0:¬(i:Int)<k9:=of_decide_eq_false h0;refine(Wat 120 hc).bind λc v hc hv=>?_;have hv:=hv.2 (by decide);refine Drw.bind (P:=λv:List Int×Unit=>v.1.length<=310) ?_ λc p hc hp=>?_
   .unfold Zdd;exact WfQ (by show v.1<=200;omega) N 0 0 c [] (by omega) (by omega) hc rfl
   .have fQ:∀c:Cur,Wam c->Drw (λv:FSc×Unit=>FD v.1/\1<=v.1.2.2.2.1.length/\(∀x∈v.1.2.2.2.1,x.length<=200)/\v.1.2.2.2.2.length<=310/\v.1.2.2.1.length<=1000) (some ((c,()),((cO,(cr,(dn,(l,p.1)))),()))):=λc hc=>.ok hc ⟨⟨jV,jW,by simp only;omega,by simp only;omega,λx h=>by have:=hx x h;omega,by simp only;omega⟩,by simp only;omega,hx,hp,gZ⟩;refine(Wi8 2 hc).bind λc b hc _=>.bif (λ_=>?_) λ_=>fQ c hc;refine(Wat 3 hc).bind λc w hc hw=>?_;have hw:=hw.2 (by decide);obtain⟨j,hj⟩:∃j:Nat,1+w.1=j:=⟨(1+w.1).toNat,by omega⟩;have e3:Wf .i64 1 w.1=(j:Int):=by rw[WI (by unfold I64;omega),hj]
    simp only[e3];exact(Wlq jV jW gZ ⟨by omega,hx⟩ N j c p.1 (by omega) (by omega) hc hp).mono λv hv=>⟨hv.1,by rw[hv.2.1];omega,by rw[hv.2.1];exact hx,hv.2.2.1,hv.2.2.2⟩
theorem Wro(hN:1048576<N)(hc:Wam c):Drw (λv:FSc×Unit=>FD v.1/\1<=v.1.2.2.2.1.length/\(∀x∈v.1.2.2.2.1,x.length<=200)/\v.1.2.2.2.2.length<=310/\v.1.2.2.1.length<=1000) (Zc1 N c true):=by
 unfold Zc1;refine(Wq2 hN hc).bind λc v hc hv=>(WpU hc).bind λc w1 hc _=>(WpU hc).bind λc w2 hc _=>(WpU hc).bind λc w3 hc _=>(WpU hc).bind λc w4 hc _=>(WqH hN hc).bind λc r hc hr=>(Wat 3 hc).bind λc k hc hk=>?_;have hk:=hk.2 (by decide);have e:Wf .i64 1 k.1=1+k.1:=WI (by unfold I64;omega);simp only[e];exact WkZ hN (by omega) (by show(4:Nat)<=1000;omega) (by omega) (by omega) N 0 c [] (by omega) (by omega) hc rfl (by simp)
theorem WiN{l6 l7:List Int}{l8:List Rw}{l9:List (List Opn)}(h6:l6.length<=1000)(h7:l7.length<=1000)(h8:l8.length<=2000)(h9:l9.length<=1000)(hx:∀x∈l9,x.length<=1000):∀(n:Nat) (c:Cur) (l:List Int),1000-l.length<n->Wam c->l.length<=800->
  Drw (λv:FSc×Unit=>FD v.1) (Zcr N l6 l7 l8 l9 (λcE aU bE=>(some ((aU,()),((l6,(l7,(l8,(l9,bE)))),())))) n c l)
 |0,c,l,h,_,_=>by omega
 |n+1,c,l,h,hc,hl=>by
  unfold Zcr;refine(Wat 2 hc).bind λc v hc hv=>?_;have hv:=hv.2 (by decide);have e:Wf .i64 300 v.1=300+v.1:=WI (by unfold I64;omega);simp only[e];refine .bif (λh0=>?_) λh0=>.ok hc ⟨h6,h7,h8,h9,hx,by simp only;omega⟩;have h0:We l<300+v.1:=of_decide_eq_true h0;unfold We at h0;exact .bifT (Wy (by simp;omega)) (WiN h6 h7 h8 h9 hx n c _ (by simp[Xao];omega) hc (by simp[Xao];omega))
theorem Wqr(hN:1048576<N)(hc:Wam c):Drw (λv:FSc×Unit=>FD v.1) (Zd6 N c):=by
 unfold Zd6;refine(Wro hN hc).bind λc s hc hs=>(Wat 24 hc).bind λc v hc hv=>?_;obtain⟨hd,h1,h2,h3,h4⟩:=hs;refine .bif (λ_=>?_) λ_=>.bif (λ_=>?_) λ_=>.bif (λ_=>?_) λ_=>.bif (λ_=>?_) λ_=>.bif (λ_=>?_) λ_=>.bif (λ_=>?_) λ_=>.ok hc hd
 .exact .ok hc ⟨hd.a,hd.b,hd.c,by show(0:Nat)<=1000;omega,(λx hx=>by cases hx),hd.f⟩
 .exact .ok hc ⟨hd.a,by show(0:Nat)<=1000;omega,hd.c,hd.d,hd.e,hd.f⟩
 .have tS:inb (0:Int) s.1.2.2.2.1.length=true:=by unfold inb;simp;omega
  refine .bifT tS ((Wq8 hN hc ?_).bind λc w hc hw=>.bifT tS (.ok hc ⟨hd.a,hd.b,hd.c,by have:=hd.d;simp only[Xad];omega,λx hx=>?_,hd.f⟩))
  .rw[show Xb 0=0 from rfl,WE (show 0<s.1.2.2.2.1.length by omega)];have:=h2 _ (Xac (show 0<s.1.2.2.2.1.length by omega));omega
  .rcases List.mem_or_eq_of_mem_set hx with hx|hx
   .exact hd.e x hx
   .subst hx;show w.1.length<=1000;omega
 .exact .bifT (Wy (by simp;omega)) (.ok hc ⟨hd.a,hd.b,by simp[Xao];omega,hd.d,hd.e,hd.f⟩)
 .exact .bifT (Wy (by simp;omega)) (.ok hc ⟨hd.a,hd.b,hd.c,hd.d,hd.e,by simp[Xao];omega⟩)
 .exact WiN hd.a hd.b hd.c hd.d hd.e N c s.1.2.2.2.2 (by omega) hc (by omega)
theorem Wkc(hN:1048576<N){code:List Int}(h:code.length<=1048576):∃s:FSc,Zeb N code=ret s/\FSB s:=by
 unfold Zeb;obtain⟨c,hc,e0⟩:=Wo7 h hN;obtain⟨c1,s,e3,kF,hs⟩:=Wqr hN hc;simp only[e0,ret,Xd,e3];exact⟨_,rfl,hs.fsb⟩
end
end
section
section
variable{N:Nat}{s:FSc}{n:Int}{f:Fm}{m:Mm}{base:List Int}{codes:List (List Opn)}{code:List Opn}
def MF(base:List Int)(c v:Int):Prop:=base.getD c.toNat 0=v
def ZF(base:List Int)(m:Mm)(p:Pb):Prop:=(0<=p.1/\p.1<=7)/\p.2.2.1=0/\(p.2.1=1\/(p.2.1=2/\((WaU m p.1).2.1=0->p.2.2.2=base.getD p.1.toNat 0)))
def MBs(base:List Int)(m:Mm):Prop:=∀c,0<=c->c<=7->(WaU m c).2.1=0->(WaU m c).1=base.getD c.toNat 0
theorem Wq3(hb:MBs base m)(hm:WaL m=true):ZS (MF base) (ZF base m) (ZF base m) m 0:=λc p h0 h7 hp=>by
 have hc:Xc m.2 (Xb c) ((0:Int),((0:Int),(0:Int)))=WaU m c:=rfl;have hw:=Wed.1 (WhV hm (i:=c) ⟨h0,h7⟩);rcases hp with rfl|⟨⟨hz0,tT,v6⟩,bV⟩
 .unfold WM;simp only[hc,show((0:Int)==0)=true from rfl,cond_true];by_cases hl:(WaU m c).2.2=0
  .rw[show((WaU m c).2.2==0)=true by simpa using hl];by_cases hv:(WaU m c).2.1<=0
   .rw[decide_eq_true hv];refine .inr (.inr ⟨by show(1:Int)≠3;omega,⟨⟨h0,h7⟩,?_,.inl rfl⟩,rfl⟩);show(WaU m c).2.1=0;omega
   .rw[decide_eq_false hv];exact .inl rfl
  .rw[show((WaU m c).2.2==0)=false by simpa using hl];exact .inl rfl
 .unfold WM;rw[bV];simp only[hc];rcases v6 with h1|⟨h2,hq⟩
  .rw[h1];refine .inr (.inr ⟨by show(2:Int)≠3;omega,⟨⟨h0,h7⟩,tT,.inr ⟨rfl,λhv=>?_⟩⟩,rfl⟩);exact hb c h0 h7 hv
  .rw[h2,tT];rw[bV]at hq;simp only[show((2:Int)==0)=false from rfl,show((2:Int)==1)=false from rfl,show((2:Int)==2)=true from rfl,cond_true,cond_false];by_cases hl:(WaU m c).2.2=0
   .rw[show((WaU m c).2.2==0)=true by simpa using hl];by_cases hv:(WaU m c).2.1=0
    .rw[show((WaU m c).2.1==0)=true by simpa using hv];exact .inr (.inl ⟨rfl,(hq hv).symm⟩)
    .rw[show((WaU m c).2.1==0)=false by simpa using hv];exact .inl rfl
   .rw[show((WaU m c).2.2==0)=false by simpa using hl];exact .inl rfl
structure PF(s:FSc)(n:Int)(p:Mm×Fm):Prop where
 pi:PI s.2.2.2.1 n p
 fa:FA (MF s.1) (ZF s.1 p.1) s.2.2.2.1 p.2
 mb:MBs s.1 p.1
 rv:p.2.rv=0
 regs:p.2.regs=s.2.1
 start:p.2.start=WbI s.2.2.1
theorem Wm0{i j:Int}(hm:WaL m=true)(hc:m.1<1000000)(hi:0<=i/\i<=7)(hj:0<=j/\j<=7):WaU (Wge m i) j=if i=j then(((WaU m i).1+1)%65536,(m.1+1,(WaU m i).2.2))else WaU m j:=by
 have et:WeE m=((m.1+1,m.2),m.1+1):=by unfold WeE;rw[if_pos hc]
 have h8:=(W2 hm).1;unfold Wge;rw[et];unfold WaU WdD Wn5;simp only;by_cases e:i=j
 .subst e;rw[if_pos rfl,Xv,List.getElem?_set_self (by omega)];rfl
 .rw[if_neg e,Xv,List.getElem?_set_ne (by omega),Xv]
theorem Wqf{p:Mm×Fm}{a:Int}(hk:∀c∈s.2.2.2.1,KC c)(h:PF s n p)(hn:n<1000000):PF s (n+1) (Wip s.2.2.2.1 p a):=by
 have gK:=WkC (a:=a) hk h.pi hn;have oI:=h.pi.clk;have hm:=h.pi.mem;unfold Wip at gK⊢;by_cases bq:10<=a/\a<=17
 .rw[if_pos bq]at gK⊢;have hb:∀j,0<=j->j<=7->(WaU (Wge p.1 (a-10)) j).2.1=0->WaU (Wge p.1 (a-10)) j=WaU p.1 j:=λj j0 j7 hv=>by
   rw[Wm0 hm (by omega) (by omega) ⟨j0,j7⟩]at hv⊢;split at hv
   .have:=(W2 hm).2.1;simp only at hv;omega
   .rename_i e;rw[if_neg e]
  refine⟨gK,⟨h.fa.ft,h.fa.fv,λhl k dp v7=>?_⟩,λc c0 c7 hv=>?_,h.rv,h.regs,h.start⟩
  .obtain⟨q1,q2,q3,⟨q4,q5,q6⟩,q7⟩:=h.fa.pk hl k dp v7;refine⟨q1,q2,q3,⟨q4,q5,q6.imp id λ⟨r1,r2⟩=>⟨r1,λhv=>?_⟩⟩,q7⟩;have:=hb _ q4.1 q4.2 hv;rw[this]at hv;exact r2 hv
  .show(WaU (Wge p.1 (a-10)) c).1=_;have:=hb c c0 c7 hv;rw[this];have po:(WaU (Wge p.1 (a-10)) c).2.1=0:=hv;rw[this]at po;exact h.mb c c0 c7 po
 .rw[if_neg bq]at gK⊢;by_cases ha:0<=a/\a<s.2.2.2.1.length
  .rw[if_pos ha]at gK⊢;have hl:=h.pi.fam.len;have ky:s.2.2.2.1.getD a.toNat []=s.2.2.2.1[a.toNat]'(by omega):=WE (by omega) _;obtain⟨f1,f2,f3,f4⟩:=WoM (k:=a.toNat) (code:=s.2.2.2.1.getD a.toNat []) h.fa h.pi.fam (by omega) hm (by rw[ky];exact hk _ (Xac _)) rfl (by rw[h.rv];exact Wq3 h.mb hm);exact⟨gK,f1,h.mb,f2.trans h.rv,f3.trans h.regs,f4.trans h.start⟩
  .rw[if_neg ha]at gK⊢;exact⟨gK,h.fa,h.mb,h.rv,h.regs,h.start⟩
theorem WnR(hk:∀c∈s.2.2.2.1,KC c):∀(l:List Int) (n:Int) (p:Mm×Fm),PF s n p->n+l.length<=90000->PF s (n+l.length) (l.foldl (Wip s.2.2.2.1) p)
 | [],n,p,h,_=>by simpa using h
 |a::l,n,p,h,h1=>by
  rw[Xt]at h1⊢;have:=WnR hk l (n+1) _ (Wqf (a:=a) hk h (by omega)) (by push_cast at h1;omega);rw[show n+((l.length+1:Nat):Int)=n+1+l.length by push_cast;omega];exact this
theorem Wo8(h:WjN s=true):PF s 300 (WhI s):=by
 obtain⟨h1,h2,h3,h4,h5,h6⟩:=Wcf h;obtain⟨p,q⟩:=WfX h;have ay:∀c:Int,0<=c->c<=7->WaU (WfR s.1) c=(s.1.getD c.toNat 0,0,0):=λc c0 c7=>by
  have hl:=h1.len;unfold WaU WdD WfR;simp only;rw[Xv,List.getElem?_map,Xv,Xq (by omega)];rfl
 have h0:PF s 0 (WfR s.1,WaE 0 s.2.1 s.2.2.1 s.2.2.2.1.length):=⟨p,Wof h2,λc c0 c7 _=>by rw[ay c c0 c7],rfl,rfl,rfl⟩;have:=WnR h6 s.2.2.2.2 0 _ h0 (by omega);exact⟨(Wlu h).1,this.fa,this.mb,this.rv,this.regs,this.start⟩
theorem Wp7(hF:FOk codes n f)(h:FA (MF base) (ZF base m) codes f)(hz:FZ f)(hb:Vals 8 base)(hr:Vals 4 f.regs){i:Nat}(hi:i<f.order.length)(hk:(f.order[i]).toNat<f.kids.length)(bm:Wce (codes.getD (f.order[i]).toNat [])=true):
  (Wjk (codes.getD (f.order[i]).toNat []) f.regs (ovl base (Wh f i))).1=f.kids[(f.order[i]).toNat].out/\
  (f.kids[(f.order[i]).toNat].out=1->(Wjk (codes.getD (f.order[i]).toNat []) f.regs (ovl base (Wh f i))).2.1=f.kids[(f.order[i]).toNat].regs)/\
  (Wjk (codes.getD (f.order[i]).toNat []) f.regs (ovl base (Wh f i))).2.2.1=ovl base (Wh f (i+1)):=by
 obtain⟨dp,hw,h0⟩:=hz.kid hi;have hA:=WaD hb (hz.rows i);have bi:=Wpl bm;have hlen:=bi.len;obtain⟨_,j1,j2⟩:=h.ft.ord _ (Xac hi);have dN:=h.fv.sim (f.order[i]).toNat hk (ovl base (Wh f i)) hA (λe he=>by
  obtain⟨c0,c7⟩:=(hz.sn _ (Xac hk)).2.2.2 e he;rw[WcS hb (hz.rows i) c0 c7];have hm:=h.fv.mrg i hi e (by rw[Wp3 hk];exact he);rcases hm with q|⟨q1,q2⟩
  .rw[q]
  .rw[q1];exact q2) 1048577 (by omega)
 rw[WdI hi,Wku,hw];unfold Wjk;rw[bm,WbE.2 hr,WbC.2 hA];simp only[Bool.and_self,cond_true];rw[←WqB bi (Wkj hr hA) (N:=1048577) (by omega)];rcases dN with⟨a,_⟩|⟨_,⟨a,t,b,c,d⟩|⟨a,b,t,c,d⟩⟩
 .omega
 .rw[d,a];exact⟨rfl,λ_=>b,c⟩
 .rw[d,a,b];exact⟨rfl,λq=>by omega,c⟩
def WcV(f:Fm)(i:Nat):List Int:=(f.order.take i).foldl (λl k=>l.set k.toNat (Wes (f.kids.getD k.toNat {}))) f.regs
theorem WjX{i:Nat}(h:i<f.order.length):WcV f (i+1)=(WcV f i).set (f.order[i]).toNat (Wes (f.kids.getD (f.order[i]).toNat {})):=by
 unfold WcV;rw[Xbg h,List.foldl_append];rfl
theorem Wmi:∀i,(WcV f i).length=f.regs.length:=λi=>by
 unfold WcV;generalize f.order.take i=l;generalize f.regs=r
 induction l generalizing r with
 |nil=>rfl
 |cons k l ih=>rw[Xcq,ih,Xad]
theorem Wi2(tU:s.2.1=f.regs)(hF:FOk s.2.2.2.1 n f)(h:FA (MF s.1) (ZF s.1 m) s.2.2.2.1 f)(hz:FZ f)(hb:Vals 8 s.1)(bm:∀c∈s.2.2.2.1,Wce c=true/\c.length<=24)(hN:1048576<N):∀(d j fuel:Nat),j+d=f.order.length->d<fuel->
  Zah N s f.order (λiO eU bb bj=>some ((),(bj,(bb,())))) fuel (j:Int) (ovl s.1 (Wh f j)) (WcV f j)=some ((),(WcV f f.order.length,(ovl s.1 (Wh f f.order.length),())))
 |0,j,fuel,hj,hf=>by
  obtain⟨g,rfl⟩:∃g,fuel=g+1:=⟨fuel-1,by omega⟩;have:j=f.order.length:=by omega
  subst this;simp only[Zah,Was (Xl _),cond_false]
 |d+1,j,fuel,hj,hf=>by
  obtain⟨g,rfl⟩:∃g,fuel=g+1:=⟨fuel-1,by omega⟩;have hlt:j<f.order.length:=by omega
  obtain⟨hk,hw,h0⟩:=hz.kid hlt;have ih:=Wi2 tU hF h hz hb bm hN d (j+1) g (by omega) (by omega);have tN:=hz.l3;have hlen:=hF.len;have hr:=hF.regs;have iV:=hr.len;have hA:=WaD hb (hz.rows j);have ky:s.2.2.2.1.getD (f.order[j]).toNat []=s.2.2.2.1[(f.order[j]).toNat]'(by omega):=WE (by omega) _;obtain⟨v8,ok2⟩:=bm _ (Xac (show(f.order[j]).toNat<s.2.2.2.1.length by omega));obtain⟨e1,e2,e3⟩:=Wp7 hF h hz hb hr hlt hk (by rw[ky];exact v8);have bB:Xc f.order (Xb (j:Int)) (0:Int)=f.order[j]:=Wz hlt _;have rR:inb f.order[j] s.2.2.2.1.length=true:=by unfold inb;simp;omega
  have rS:inb f.order[j] (WcV f j).length=true:=by unfold inb;rw[Wmi,iV];simp;omega
  have hho:=hz.ord.1;simp only[Zah,Waa hlt,Wt hlt,bB,cond_true,rR,rS,WJ,Xad,Wj (show j<4611686018427387904 by omega)];rw[tU,WlQ hN (by rw[show(([]:List Ka))= []from rfl,ky];omega) (by omega) (by have:=hA.len;omega)];simp only[Xd];rw[e1,e3];rw[WjX hlt,Wp3 hk]at ih;have cu:=hF.kid _ hk;have tV:=cu.regs;by_cases ho:f.kids[(f.order[j]).toNat].out=1
  .rw[ho,e2 ho];simp only[show((1:Int)==1)=true from rfl,cond_true];rw[show inb (0:Int) (f.kids[(f.order[j]).toNat].regs).length=true by unfold inb;rw[tV.len];rfl,cond_true,List.set_set];have rT:Wes f.kids[(f.order[j]).toNat]=Xc f.kids[(f.order[j]).toNat].regs (Xb 0) 0:=by
    unfold Wes;rw[if_pos ⟨ho,WbE.2 tV⟩];rfl
   rw[rT]at ih;exact ih
  .rw[show(f.kids[(f.order[j]).toNat].out==1)=false by simpa using ho];simp only[cond_false];have rT:Wes f.kids[(f.order[j]).toNat]=0:=by
    unfold Wes;rw[if_neg λq=>ho q.1]
   rw[rT]at ih;exact ih
end
end
section
section
variable{N:Nat}{s:FSc}{n:Int}{f:Fm}{m:Mm}{base:List Int}{codes:List (List Opn)}
def Woi:List (Nat×List Int):=[(0,[]),(1,[0]),(2,[0,1]),(2,[1,0]),(3,[0,1,2]),(3,[0,2,1]),(3,[1,0,2]),(3,[1,2,0]),(3,[2,0,1]),(3,[2,1,0])]
theorem Wp8{l:List Int}{k:Nat}(hk:k<=3)(hl:l.length=k)(hn:l.Nodup)(hm:∀x∈l,0<=x/\x<k):(k,l)∈Woi:=by
 subst hl
 match l,hk,hn,hm with
 | [],_,_,_=>simp[Woi]
 | [a],_,_,hm=>
  have:=hm a (by simp);simp only[List.length_singleton]at this;have:a=0:=by omega
  subst this;simp[Woi]
 | [a,b],_,hn,hm=>
  have ha:=hm a (by simp);have hb:=hm b (by simp);simp only[Xt,Xbx]at ha hb;have fi:a≠b:=by intro e;subst e;simp at hn
  have:(a=0/\b=1)\/(a=1/\b=0):=by omega
  rcases this with⟨rfl,rfl⟩|⟨rfl,rfl⟩<;>simp[Woi]
 | [a,b,c],_,hn,hm=>
  have ha:=hm a (by simp);have hb:=hm b (by simp);have hc:=hm c (by simp);simp only[Xt,Xbx]at ha hb hc;have fi:a≠b:=by intro e;subst e;simp at hn
  have hac:a≠c:=by intro e;subst e;simp at hn
  have pj:b≠c:=by intro e;subst e;simp at hn
  have:(a=0/\b=1/\c=2)\/(a=0/\b=2/\c=1)\/(a=1/\b=0/\c=2)\/(a=1/\b=2/\c=0)\/(a=2/\b=0/\c=1)\/(a=2/\b=1/\c=0):=by omega
  rcases this with⟨rfl,rfl,rfl⟩|⟨rfl,rfl,rfl⟩|⟨rfl,rfl,rfl⟩|⟨rfl,rfl,rfl⟩|⟨rfl,rfl,rfl⟩|⟨rfl,rfl,rfl⟩<;>simp[Woi]
 |a::b::c::d::l,hk,_,_=>simp at hk
theorem Wmx{l:List Int}{k:Nat}(h:(k,l)∈Woi)(hN:1048576<N):Zex N l (k:Int)=some ((),(l,(true,()))):=by
 obtain⟨M,rfl⟩:∃M,N=M+10:=⟨N-10,by omega⟩;simp only[Woi,Xm,Xfl,or_false,Prod.mk.injEq]at h;rcases h with⟨rfl,rfl⟩|⟨rfl,rfl⟩|⟨rfl,rfl⟩|⟨rfl,rfl⟩|⟨rfl,rfl⟩|⟨rfl,rfl⟩|⟨rfl,rfl⟩|⟨rfl,rfl⟩|⟨rfl,rfl⟩|⟨rfl,rfl⟩<;>rfl
theorem Woy{l:List Int}{k:Nat}(h:(k,l)∈Woi){ks:List Kd}{r:List Int}(hk:ks.length=k)(hr:r.length=4):l.foldl (λl k=>l.set k.toNat (Wes (ks.getD k.toNat {}))) r=ks.map Wes++r.drop ks.length:=by
 match r,hr with
 | [r0,r1,r2,r3],_=>
  simp only[Woi,Xm,Xfl,or_false,Prod.mk.injEq]at h
  match ks,hk with
  | [],hk=>
   subst hk;simp at h;subst h;rfl
  | [a],hk=>
   subst hk;simp at h;subst h;rfl
  | [a,b],hk=>
   subst hk;simp at h;rcases h with rfl|rfl<;>rfl
  | [a,b,c],hk=>
   subst hk;simp at h;rcases h with rfl|rfl|rfl|rfl|rfl|rfl<;>rfl
  |a::b::c::d::ks,hk=>
   subst hk;simp at h
theorem WmH{A B:List Int}(ha:Vals 8 A)(hb:Vals 8 B)(h:∀c:Int,0<=c->c<=7->A.getD c.toNat 0=B.getD c.toNat 0):A=B:=by
 have la:=ha.len;have lb:=hb.len;refine List.ext_getElem (by omega) λi h1 h2=>?_;have:=h (i:Int) (by omega) (by omega);rw[Xp,WE h1,WE h2]at this;exact this
theorem Wo3{l:List Rw}{c:Int}(h:WdJ l)(hl:l.length<=300)(h0:0<=c)(h7:c<=7):lst (WbI l) c=lst l c:=by
 cases hv:lst l c with
 |some v=>exact Wk5 (r:=(c,v)) (Wgf l) (Wdj.2 ⟨⟨h0,h7⟩,by rw[Wet h hl];exact hv⟩)
 |none=>
  cases hw:lst (WbI l) c with
  |none=>rfl
  |some w=>
   have:=(Wdj.1 (WfG hw)).2;rw[Wet h hl,hv]at this;cases this
theorem WpT{w:List Rw}(hb:Vals 8 base)(h:WdJ w)(hl:w.length<=300):ovl base (WbI w)=ovl base w:=
 WmH (WaD hb Wc8) (WaD hb h) λc h0 h7=>by rw[WcS hb Wc8 h0 h7,WcS hb h h0 h7,Wo3 h hl h0 h7]
theorem WoQ{M:Int->Int->Prop}(hF:FOk codes n f)(h:FT M f)(hz:FZ f)(hb:Vals 8 base):ovl base (Wct f)=ovl base (Wh f f.order.length)/\WdJ (Wct f):=by
 have hrow:WdJ (Wct f):=λr hr=>by
  obtain⟨e,he,rfl⟩:=Xu.1 hr;obtain⟨a,b,_⟩:=hF.bufE e he;exact⟨a,b⟩
 refine⟨WmH (WaD hb hrow) (WaD hb (hz.rows _)) λc h0 h7=>?_,hrow⟩;have oF:(Wct f).Pairwise λa b=>a.1<b.1:=by
  unfold Wct;rw[List.pairwise_map];exact hF.bufR.imp λ{a b} h=>by unfold cfE at h;omega
 have hcl:=hF.clock;have e:lst (Wct f) c=lst (Wh f f.order.length) c:=by
  by_cases o0:∃e∈f.buf,e.1=c
  .obtain⟨e,he,rfl⟩:=o0;rw[h.buf e he f.order.length (by have:=(hF.bufE e he).2.2.2;omega) (Xl _)];exact Wk5 (r:=(e.1,e.2.1)) oF (Xu.2 ⟨e,he,rfl⟩)
  .have gv:∀e∈f.buf,e.1≠c:=λe he q=>o0 ⟨e,he,q⟩;rw[h.non c h0 h7 gv _ (Xl _)];cases hw:lst (Wct f) c with
   |none=>rfl
   |some w=>
    obtain⟨e,he,q⟩:=Xu.1 (WfG hw);exact absurd (congrArg Prod.fst q) (gv e he)
 rw[WcS hb hrow h0 h7,WcS hb (hz.rows _) h0 h7,e]
theorem WfJ{a:List Int}(ha:a.length<=1048576)(hN:1048576<N):Zbv N a a=ret true:=by
 unfold Zbv;have e:(We a !=We a)=false:=by simp
 rw[e];simp only[cond_false];have h1:=WG (l:=a) (V:=Unit) (R:=Unit×Km) (lp:=λn j _=>Zax N a a (some ((),(false,()))) (λi8 t9=>some ((),(true,()))) n j) (n:=N) (by omega)
  (body:=λj x v k=>k v) (K:=λ_ v=>some ((),(true,())))
  (λn i v hi=>by
   have e2:(a[i] !=a[i])=false:=by simp
   simp only[Zax,Waa hi,Wt hi,Wz hi,Wj (show i<4611686018427387904 by omega),cond_true,e2,cond_false])
  (λn v=>by simp only[Zax,Was (Xl a.length),cond_false]) ()
 refine h1.trans ?_;rw[WeR (f:=λv _=>v) a 0 () (λj x v k _=>rfl)]
theorem WnZ{c:List Opn}(h:Wce c=true):c.length<=24:=(Wqt h).len
theorem Wny(h:WjN s=true):WdJ s.2.2.1/\1<=s.2.2.2.1.length/\∀c∈s.2.2.2.1,Wce c=true/\c.length<=24:=by
 unfold WjN at h;simp only[Xi,decide_eq_true_eq,Xai]at h;obtain⟨h1,h2,h3,⟨h4,h5⟩,h6,h7⟩:=h;refine⟨?_,by unfold We at h4;omega,λc hc=>⟨h7 c hc,WnZ (h7 c hc)⟩⟩;unfold Wa1 at h3;rw[Xi]at h3;exact Wij.1 h3.2
theorem Wmf{code:List Int}(hN:1048576<N):Zec N code=some ((),(true,())):=by
 unfold Zec Zko;by_cases hl:code.length<=1048576
 .have e0:decide (We code>1048576)=false:=by simp[We];omega
  obtain⟨s,e1,hb⟩:=Wkc hN hl;rw[e0];simp only[Xd,cond_false,e1,ret,WhN hb hN,Wfg hb hN];by_cases ho:WjN s=true
  .obtain⟨h1,h2,h3,h4,h5,h6⟩:=Wcf ho;obtain⟨g1,g2,g3⟩:=Wny ho;have px:=Wo8 ho;obtain⟨gK,lU⟩:=Wlu ho;have iZ:WfO s=((WhI s).1,(WhI s).2.e):=by unfold WfO;rw[if_pos ho]
   rw[iZ,ho];obtain⟨⟨m,f⟩,hq⟩:∃q,WhI s=q:=⟨_,rfl⟩;rw[hq]at px gK⊢;have hF:FOk s.2.2.2.1 300 f:=gK.fam;have hFA:FA (MF s.1) (ZF s.1 m) s.2.2.2.1 f:=px.fa;have ch:f.start=WbI s.2.2.1:=px.start;have tW:f.regs=s.2.1:=px.regs;have hz:FZ f:=FZ.of hFA.ft hF h4 (λc hc=>(g3 c hc).2) ch;have hlen:=hF.len;have hcl:=hF.clock;have mH:Wg1 s.1 f:=Wna hFA.ft hz h1 λc v _ _ h=>h;have k9:f.e.2.2.2.2.2.2.2.2.2=f.kids.map Kd.e:=rfl;have k7:f.e.2.2.2.2.2.2.2.1=f.order:=rfl;have k1:f.e.2.1=f.clock:=rfl;simp only[Xah,cond_false];rw[k9,k7,k1,show We (f.kids.map Kd.e)=We s.2.2.2.1 by unfold We;rw[Xz,hlen],bne_self_eq_false,cond_false,WiW hz h1 mH hN];simp only[ret,Xd,Xah,cond_false];rw[Wjy hz h1 mH hN];simp only[ret,Xd,Xah,cond_false];rw[show(f.clock !=We f.order)=false by rw[hcl.2];unfold We;simp,cond_false,WiA (by omega) hN];simp only[ret,Xd];have oK:=hF.done;cases hov:WcE f
   .have hlt:f.order.length<s.2.2.2.1.length:=by
     rw[oK,←hlen];have hle:=List.countP_le_length (p:=λx:Kd=>decide (x.phase=3)) (l:=f.kids);rcases Nat.lt_or_eq_of_le hle with h|h
     .exact h
     .rw[Xfr]at h;have:WcE f=true:=by unfold WcE;rw[Xai];exact h
      rw[hov]at this;cases this
    simp only[Bool.not_false,cond_true];rw[decide_eq_true (show We f.order<We s.2.2.2.1 by unfold We;omega)]
   .have tX:f.order.length=s.2.2.2.1.length:=by
     rw[oK,←hlen,Xfr];unfold WcE at hov;rw[Xai]at hov;exact hov
    have hmem:(s.2.2.2.1.length,f.order)∈Woi:=Wp8 h4 tX hFA.ft.nod λx hx=>by
     obtain⟨a,b,_⟩:=hFA.ft.ord x hx;omega
    have rU:Zc2 N s f.order=some ((),(Wd2 f,(ovl s.1 (Wh f f.order.length),()))):=by
     unfold Zc2;rw[Wfg hb hN,ho];simp only[ret,Xd,Xah,cond_false];rw[show We s.2.2.2.1=(s.2.2.2.1.length:Int)from rfl,Wmx hmem hN];simp only[Xd,Xah,cond_false];rw[WcA h1 g1 h3 hN];simp only[ret,Xd];rw[WqN (by have:=h2.len;omega)];simp only[ret,Xd];have:=Wi2 (m:=m) (f:=f) tW.symm hF hFA hz h1 g3 hN f.order.length 0 N (by omega) (by have:=hz.ord.1;omega);rw[show Wh f 0=WbI s.2.2.1 by unfold Wh;simp[ch],WpT h1 g1 h3,show WcV f 0=s.2.1 by rw[←tW];rfl]at this;refine this.trans ?_;have hr:WcV f f.order.length=Wd2 f:=by
      unfold WcV Wd2;rw[Xct,if_pos ⟨WbE.2 hF.regs,by omega⟩];exact Woy hmem hlen hF.regs.len
     rw[hr]
    obtain⟨p1,p2⟩:=WoQ (base:=s.1) hF hFA.ft hz h1;have dQ:(Wd2 f).length<=1048576:=by
     unfold Wd2;split
     .rw[List.length_append,Xz,List.length_drop,hF.regs.len];omega
     .simp
    have hbl:=hF.buf8;have iU:(ovl s.1 (Wh f f.order.length)).length<=1048576:=by rw[(WaD h1 (hz.rows _)).len];omega
    simp only[Xah,cond_false];rw[rU];simp only[Xd];rw[show(We f.order==We s.2.2.2.1)=true by unfold We;rw[tX];simp,cond_true,
     Whz hF.regs (by omega) (λx hx=>by
      obtain⟨i,hi,rfl⟩:=Xdh.1 hx;rw[(hF.kid i hi).regs.len];omega) hN]
    simp only[ret,Xd];rw[WfJ dQ hN];simp only[ret,Xd,cond_true];rw[Wi6 (by omega) hN];simp only[ret,Xd];rw[WcA h1 p2 (by unfold Wct;rw[Xz];omega) hN,p1];simp only[ret,Xd];rw[WfJ iU hN];simp only[ret,Xd,cond_true];rw[hcl.2,WeV hz h1 (by have:=hz.ord.1;omega) hN];simp only[ret,Xd];rw[WfJ iU hN];rfl
  .have iZ:WfO s=((0,[]),d_Family):=by unfold WfO;rw[if_neg ho]
   rw[iZ,show WjN s=false by simpa using ho];rfl
 .have e0:decide (We code>1048576)=true:=by simp[We];omega
  rw[e0];rfl
theorem law_FnFamily(d:Wdz [.v (.slice (.int .u8)) false])(hw:Wlm [.v (.slice (.int .u8)) false] d):∃N o,Zec N d.1=some (o,(true,())):=
 ⟨1048577,(),Wmf (N:=1048577) (by omega)⟩
end
end
end Go.Sx
