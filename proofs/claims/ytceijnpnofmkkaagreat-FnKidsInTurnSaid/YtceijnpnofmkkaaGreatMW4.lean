/- Plain laws of the Lean functions. -/
import Derived.Test.YtceijnpnofmkkaaGreatMW3
open Int renaming toNat_natCast→Xj,le_refl→Xo,lt_of_le_of_lt→Xcp,le_of_eq→Xfq,toNat→Xb,zero_add→Xgk
open List renaming replicate→Xt,map_cons→Xak,sum_cons→Xct,getElem_replicate→Xbe,length_cons→Xs,getElem_of_mem→Xam,getElem_mem→Xp,getD→Xc,length_set→Xab,getElem_set→Xao,getElem?_eq_getElem→Xq,getElem?_set_self→Xfx,getElem?_set_ne→Xdv,mem_cons_of_mem→Xe,mem_cons_self→Xh,mem_cons→Xr,mem_of_mem_take→Xbj,getD_eq_getElem?_getD→Xag,map_append→Xu,map_nil→Xbp,length_append→Xz,length_nil→Xcn,mem_append→Xm,pairwise_append→Xah,length_take→Xba
namespace Go.Sx
set_option linter.unusedVariables false
set_option linter.unusedSimpArgs false
section
variable{w:Wo}{x y:Rt}{k:Nat}{p:Pg}{n:Int}{o:Opn}
theorem WeG(aG:CC p.1)(hl:RLive p n x)(ht:RT x)(h1:x.phase=1):(x.undos.length:Int)+37+146*(2-x.spare)<=Wv p x:=by
 rw[Wci h1];have hp:=Wga ht;have aL:=hl.pc;have hlen:=aG.len;have:=WsQ aG aL.2;unfold Wbf;omega
theorem WiH(aG:CC p.1)(hl:RLive p n x)(ht:RT x)(h1:x.phase=1){out:Int}(di:0<=x.rv/\x.rv<=1000000)(hk:k<=8):Wv p (Waq w x k out).2<Wv p x:=by
 have qF:=WeG aG hl ht h1;have hs:=hl.spare;unfold Waq;simp only;generalize (if out=2 then []else x.writes)=rows;split
 .show Wv p (Wj9 w {x with fate:=out,stamp:=x.rv} k).2<_;have:Wv p (Wj9 w {x with fate:=out,stamp:=x.rv} k).2=0:=rfl;omega
 .have hc:CmOk (Wan ((k:Int)+1) x.rv rows x.reads):=WkX (by omega) di;have:=(Wgr hc).2.1;have e:Wv p ({x with fate:=out,cm:=Wan ((k:Int)+1) x.rv rows x.reads,phase:=5}:Rt)=Wab (Wan ((k:Int)+1) x.rv rows x.reads)+x.undos.length+3:=rfl;show Wv p ({x with fate:=out,cm:=Wan ((k:Int)+1) x.rv rows x.reads,phase:=5}:Rt)<_;rw[e];omega
theorem Wll(aG:CC p.1)(hl:RLive p n x)(hz:x.marks.length≠0):0<=x.last.1/\x.last.1<x.pc/\0<=x.last.2.1/\x.last.2.1<=x.last.1+72/\Wep p (x.last.1+1)=Wep p x.pc:=by
 have hM:=hl.marks;have aL:=hl.pc;obtain⟨j,q,y,e1,e2,e3,h8,qq,cg,gh,e5,e6⟩:=WhF (d:=zRM) aG (show x.pc.toNat<=p.1.length by omega) hM.pcs hz;have e4:x.last=y:=e2;have hy:=(hM.each y (by rw[e1];simp)).2.1;have hf:=(WtO aG cg h8 x.pc.toNat qq gh).2;have hfj:=Wf3 aG j (by omega);rw[e4];rw[e3]at hy⊢;rw[Xj]at hy;refine⟨by omega,by omega,hy.1,by omega,?_⟩;unfold Wep;rw[hf,show((j:Int)+1).toNat=j+1 by omega]
theorem WfB(aG:CC p.1)(hl:RLive p n x)(ht:RT x)(h1:x.phase=1){b:Bool}{q:Pb}:Wv p (WO {x with busy:=b,pb:=q})<Wv p x:=by
 have qF:=WeG aG hl ht h1;have hs:=hl.spare;unfold WO;split
 .have e:Wv p (WcP ({x with busy:=b,pb:=q}:Rt))=x.undos.length+2:=rfl;rw[e];omega
 .rename_i hc;have hz:x.marks.length≠0:=λh=>hc (.inl h);obtain⟨m1,m2,m3,m4,m5⟩:=Wll aG hl hz;have hp:=Wga ht;have aL:=hl.pc;have hlen:=aG.len;rw[Wci h1];have e:Wv p ({x with busy:=false,pb:=(0,0,0,0),spare:=x.spare+1,phase:=3}:Rt)=x.last.2.1+74-3*x.last.1+Wep p x.pc+(x.undos.length+146*(2-(x.spare+1))+36):=rfl;show Wv p ({x with busy:=false,pb:=(0,0,0,0),spare:=x.spare+1,phase:=3}:Rt)<_;rw[e];unfold Wbf;omega
theorem Wqs(aG:CC p.1)(hl:RLive p n x)(ht:RT x)(h1:x.phase=1):Wv p (WcM w x o)<Wv p x:=by
 have hp:=Wga ht;unfold WcM;cases Wbg x.writes o.2.2.1 with
 |some v=>exact WhZ h1 h1 (Xo _) rfl rfl rfl (by show(x.undos.length:Int)<=_;omega)
 |none=>
  simp only;have hq:0<=(if x.busy=true then x.pb else(o.2.2.1,0,0,0)).2.1/\(if x.busy=true then x.pb else(o.2.2.1,0,0,0)).2.1<=2:=by
   split
   .have:=ht.pb ‹_›;omega
   .simp
  have gh:(if x.busy=true then x.pb else(o.2.2.1,0,0,0)).2.1=WsM x:=by unfold WsM;split<;>rfl
  have hs:=WoA (m:=w.mem) (rv:=x.rv) hq;rw[gh]at hs;generalize WW w.mem x.rv (if x.busy=true then x.pb else(o.2.2.1,0,0,0))=q at*;split
  .exact WfB aG hl ht h1
  .have hf:=WmI (p:=p) (show x.pc<=x.pc+1 by omega);split
   .rw[Wci h1];refine Xcp (Xfq (Wci h1)) ?_;show 75-3*(x.pc+1) -0+Wep p (x.pc+1)+Wbf x<_;omega
   .rw[Wci h1];refine Xcp (Xfq (Wci h1)) ?_;show 75-3*x.pc-q.2.1+Wep p x.pc+Wbf x<_;omega
theorem Wrb{α:Type}(l:List α)(h:l.length≠0):(l.dropLast.length:Int)=l.length-1:=by rw[List.length_dropLast];omega
theorem Wg8(h:x.phase=1\/x.phase=3\/x.phase=6)(hz:x.undos.length≠0):Wv p (Wd6 w x).2<Wv p x:=by
 have hd:=Wrb x.undos hz;have e:Wv p (Wd6 w x).2=Wv p x-1:=by
  unfold Wd6 Wv Wbf;simp only;rw[hd];rcases h with h|h|h
  .rw[Wb h,Wb h];show 75-3*x.pc-WsM x+Wep p x.pc+_=_;omega
  .rw[Wa (by omega),Wa (by omega),Wb h,Wa (by omega),Wa (by omega),Wb h];show x.last.2.1+74-3*x.last.1+Wep p x.pc+_=_;omega
  .rw[h];simp;omega
 omega
theorem Woj(aG:CC p.1)(hl:RLive p n x)(ht:RT x)(h1:x.phase=1)(hk:k<=8):Wv p (WbT w x k p.1).2<Wv p x:=by
 unfold WbT;split
 .exact WiH aG hl ht h1 hl.rv hk
 .rename_i hz;split
  .have hM:=hl.marks;have cI:0<=x.last.2.2.2.1:=by
    have hm:x.last∈x.marks:=Wgx hz _;exact(hM.each _ hm).2.2.2.1
   exact Wg8 (.inl h1) (by omega)
  .have hM:=hl.marks;have aL:=hl.pc;obtain⟨j,q,y,e1,e2,e3,h8,qq,cg,gh,e5,e6⟩:=WhF (d:=zRM) aG (show x.pc.toNat<=p.1.length by omega) hM.pcs hz;have e4:x.last=y:=e2;refine WhZ h1 h1 ?_ rfl rfl rfl (by show(x.undos.length:Int)<=_;omega);show x.pc+1<=(Wiw p.1 x.last.1.toNat:Int)+1;rw[e4,e3,Xj];omega
theorem Wog(aG:CC p.1)(hl:RLive p n x)(ht:RT x)(h1:x.phase=1):Wv p (WbR w x k o).2<Wv p x:=by
 unfold WbR;cases Wa4 w.holds ((k:Int)+1) (WaK o).1 (WaK o).2 with
 |none=>
  have:=WfB aG hl ht h1 (b:=x.busy) (q:=x.pb);exact this
 |some hs=>
  refine WhZ h1 h1 (Xo _) rfl rfl rfl ?_;show((if(Wbv w.shelf o x.regs).2.2.1=0 then x.undos else x.undos++ [(Wbv w.shelf o x.regs).2.2]).length:Int)<=_;split
  .omega
  .simp
theorem WsV(aG:CC p.1)(h3:p.2.length<=3)(hl:RLive p n x)(ht:RT x)(h1:x.phase=1)(hk:k<=8)(w8:∀regs writes rv,WlS (War rv regs writes p.2.length)<=381):Wv p (Wdy w x k p).2<Wv p x:=by
 unfold Wdy;split
 .exact WiH aG hl ht h1 hl.rv hk
 .obtain⟨i,hi,aL,ho⟩:=WfF (l:=p.1) hl.pc.1 (by have:=hl.pc;omega);simp only[ho];have tS:∀y:Rt,y.phase=1->x.pc+1<=y.pc->y.busy=x.busy->y.pb=x.pb->y.spare=x.spare->y.undos=x.undos->Wv p y<Wv p x:=λy a b c d e f=>WhZ h1 a b c d e (by rw[f];omega);split
  .exact Wqs aG hl ht h1
  .split
   .exact Woj aG hl ht h1 hk
   .split
    .rename_i fI;rw[Wci h1];have e:Wv p ({x with phase:=2,fam:=War x.rv x.regs x.writes p.2.length}:Rt)=73-3*x.pc+WlS (War x.rv x.regs x.writes p.2.length)+Wbf x:=rfl;show Wv p ({x with phase:=2,fam:=War x.rv x.regs x.writes p.2.length}:Rt)<_;rw[e];have:=w8 x.regs x.writes x.rv;have hp:=Wga ht;have hf:=Wf3 aG (i+1) (by omega);rw[Web hi,show(p.1[i].1==11)=true by simpa using fI]at hf;have:Wep p x.pc=382:=by
      unfold Wep;rw[aL,Xj];have:frk p.1 i=0:=by have:Bool.toNat true=1:=rfl;omega
      rw[this];rfl
     omega
    .split
     .exact Wog aG hl ht h1
     .split
      .exact tS _ h1 (Xo _) rfl rfl rfl rfl
      .split
       .have hk:=Wvm (aG.ok i hi).1 ‹_›;refine tS _ h1 ?_ rfl rfl rfl rfl;show x.pc+1<=(if Wbu x.regs p.1[i].2.1 0=0 then x.pc+p.1[i].2.2.1 else x.pc)+1;split<;>omega
       .split
        .exact tS _ h1 (Xo _) rfl rfl rfl rfl
        .split
         .exact tS _ h1 (Xo _) rfl rfl rfl rfl
         .exact tS _ h1 (Xo _) rfl rfl rfl rfl
end
section
variable{w:Wo}{x y:Rt}{k:Nat}{p:Pg}{n:Int}{o:Opn}
theorem WlM(g:Kd->Int)(x:Kd):∀u:Nat,Wdd g (Xt u x)=u*g x
 |0=>by simp[Wdd]
 |u+1=>by
  have:=WlM g x u;simp only[Wdd,List.replicate_succ,Xak,Xct]at*;rw[this,Int.natCast_succ,Int.add_mul];omega
theorem Wp1{rv:Int}{regs:List Int}{writes:List Rw}{u:Nat}(h:u<=3):WlS (War rv regs writes u)<=381:=by
 have hk:(War rv regs writes u).kids=Xt u {regs:=regs}:=rfl;have hc:(War rv regs writes u).clock=0:=rfl;have h1:WaJ ({regs:=regs}:Kd)=1:=rfl;have h2:Wb2 0 ({regs:=regs}:Kd)=0:=rfl;have h3:W5 0 ({regs:=regs}:Kd)=26:=rfl;have h4:WbA ({regs:=regs}:Kd)=75:=rfl;have hu:Wfq (War rv regs writes u)=u:=by unfold Wfq;rw[hk,WlM,h1];omega
 have hq:fQ (War rv regs writes u)=u*26+26*tri u:=by unfold fQ;rw[hu,hk,hc,WlM,h3]
 refine WkT (by omega) λy hy _=>?_;rw[hk]at hy;obtain⟨yQ,rfl⟩:=List.mem_replicate.1 hy;unfold fP;rw[hq,hu,hc,h2,h4];have:u=1\/u=2\/u=3:=by omega
 rcases this with rfl|rfl|rfl<;>decide
theorem Wqq(hl:RLive p n x)(aG:CC p.1)(ht:RT x)(h2:x.phase=2)(hq:x.fam.lost=true\/Wa2 x.fam=true):Wv p (WbG x)<Wv p x:=by
 have hs:=hl.spare;have e:Wv p x=if x.fam.lost=true then(x.undos.length:Int)+3 else 73-3*x.pc+WlS x.fam+Wbf x:=by unfold Wv;rw[Wa (by omega),Wb h2]
 unfold WbG;split
 .rename_i bJ;rw[Wfk,e,Wb bJ];omega
 .rename_i bJ;rw[Wb (hq.resolve_left bJ),e,Wa bJ];refine Xcp (Xfq (Wci rfl)) ?_;have hp:=Wga ht;have h0:=Wpn x.fam x.fam.kids;obtain⟨f1,f2,f3⟩:=hl.fork h2;obtain⟨i,hi,aL,ho⟩:=WfF (l:=p.1) hl.pc.1 f1;have hf:=Wf3 aG (i+1) (by omega);have yU:=Web hi;rw[←ho,f2]at yU;have hz:Wep p (x.pc+1)=0:=by
   unfold Wep;have:frk p.1 (i+1)=1:=by rw[yU]at hf⊢;have:((11:Int)==11).toNat=1:=rfl;omega
   rw[show(x.pc+1).toNat=i+1 by omega,this];rfl
  show 75-3*(x.pc+1) -WsM x+Wep p (x.pc+1)+Wbf x<73-3*x.pc+Wr7 x.fam x.fam.kids+Wbf x;rw[hz];omega
theorem WmU(aG:CC p.1)(hl:RLive p n x)(h3:x.phase=3):Wv p (Wa3 w x).2<Wv p x:=by
 have hz:=hl.back (.inl h3);have hM:=hl.marks;unfold Wa3;split
 .have cI:0<=x.last.2.2.2.1:=(hM.each _ (Wgx hz _)).2.2.2.1;exact Wg8 (.inr (.inl h3)) (by omega)
 .have e:Wv p x=x.last.2.1+74-3*x.last.1+Wep p x.pc+Wbf x:=by unfold Wv;rw[Wa (by omega),Wa (by omega),Wb h3]
  have e':Wv p ({x with newRv:=w.mem.1,pos:=0,phase:=4}:Rt)=x.last.2.1-0+73-3*x.last.1+Wep p x.pc+Wbf x:=rfl;show Wv p ({x with newRv:=w.mem.1,pos:=0,phase:=4}:Rt)<_;rw[e,e'];omega
theorem Wnk(aG:CC p.1)(hl:RLive p n x)(ht:RT x)(h4:x.phase=4):Wv p (WaH w x)<Wv p x:=by
 have hz:=hl.back (.inr h4);have hs:=hl.spare;have ca:=hl.pos h4;obtain⟨m1,m2,m3,m4,m5⟩:=Wll aG hl hz;have aL:=hl.pc;have hlen:=aG.len;have xy:=WsQ aG aL.2;have hp:=Wga ht;have e:Wv p x=x.last.2.1-x.pos+73-3*x.last.1+Wep p x.pc+Wbf x:=by unfold Wv;rw[Wa (by omega),Wa (by omega),Wa (by omega),Wb h4]
 unfold WaH;split
 .simp only;split
  .rw[Wfk,e];unfold Wbf;omega
  .have e':Wv p ({x with pos:=x.pos+1}:Rt)=x.last.2.1-(x.pos+1)+73-3*x.last.1+Wep p x.pc+Wbf x:=by
    unfold Wv;rw[Wa (show¬x.phase=1 by omega),Wa (show¬x.phase=2 by omega),Wa (show¬x.phase=3 by omega),Wb h4];rfl
   rw[e,e'];omega
 .rw[e];refine Xcp (Xfq (Wci rfl)) ?_;show 75-3*(x.last.1+1) -WsM x+Wep p (x.last.1+1)+Wbf x<_;rw[m5];omega
theorem WmL(hc:CmOk x.cm)(h5:x.phase=5)(jD:x.cm.phase≠6/\x.cm.phase≠8)(hdm:x.doomed=true->x.cm.phase<=3):Wv p (W8 w x k).2<Wv p x:=by
 have e:Wv p x=Wab x.cm+x.undos.length+3:=by unfold Wv;rw[h5];rfl
 have hb:=(Wgr hc).2.2 jD.1 jD.2;unfold W8;split
 .rename_i hd;simp only;split
  .rw[Wfk,e];omega
  .have e':Wv p ({x with cm:=WA x.cm,doomed:=false}:Rt)=Wab (WA x.cm)+x.undos.length+3:=by
    unfold Wv;show(if x.phase=1 then _ else _)=_;rw[h5];rfl
   rw[e',e];have:=(Wl5 hc).2 (hdm hd);omega
 .have hs:=WoB (m:=w.mem) hc jD.1 jD.2;show Wv p (Wae {x with cm:=(Wq w.mem x.cm).2})<_;generalize (Wq w.mem x.cm).2=c at*;unfold Wae;split
  .have e':Wv p (WcP ({x with cm:=c}:Rt))=x.undos.length+2:=rfl;rw[e',e];omega
  .split
   .rw[e];by_cases h2:x.fate=2
    .have e':Wv p ({x with stamp:=c.wv,cm:={},phase:=if x.fate=2 then 6 else 7}:Rt)=x.undos.length+2:=by rw[Wb h2];rfl
     show Wv p ({x with stamp:=c.wv,cm:={},phase:=if x.fate=2 then 6 else 7}:Rt)<_;rw[e'];omega
    .have e':Wv p ({x with stamp:=c.wv,cm:={},phase:=if x.fate=2 then 6 else 7}:Rt)=1:=by rw[Wa h2];rfl
     show Wv p ({x with stamp:=c.wv,cm:={},phase:=if x.fate=2 then 6 else 7}:Rt)<_;rw[e'];omega
   .have e':Wv p ({x with cm:=c}:Rt)=Wab c+x.undos.length+3:=by
     unfold Wv;show(if x.phase=1 then _ else _)=_;rw[h5];rfl
    rw[e',e];omega
end
section
variable{w:Wo}{x y:Rt}{k:Nat}{p:Pg}{n:Int}{o:Opn}
theorem RT.of(h:RT x)(hb:y.busy=x.busy)(hp:y.pb=x.pb)(h2:y.phase≠2)(h5:y.phase≠5):RT y:=
 ⟨λhy=>by rw[hp];exact h.pb (hb▸hy),λhy=>Wg hy h2,λhy=>Wg hy h5⟩
theorem RT.no(hb:y.busy=false)(h2:y.phase≠2)(h5:y.phase≠5):RT y:=
 ⟨(λhy=>by rw[hb]at hy;cases hy),λhy=>Wg hy h2,λhy=>Wg hy h5⟩
theorem Wfj:RT (WcP x):=RT.no rfl (by show(6:Int)≠2;omega) (by show(6:Int)≠5;omega)
theorem WhA:RT (WO x):=by
 unfold WO;split
 .exact Wfj
 .exact RT.no rfl (by show(3:Int)≠2;omega) (by show(3:Int)≠5;omega)
theorem Wme(h:RT x){out:Int}:RT (Waq w x k out).2:=by
 unfold Waq;simp only;generalize (if out=2 then []else x.writes)=rows;split
 .exact h.of rfl rfl (by show(8:Int)≠2;omega) (by show(8:Int)≠5;omega)
 .refine⟨h.pb,λhy=>by(change (5:Int)=2 at hy;omega),λ_=>?_⟩;have e:(Wan ((k:Int)+1) x.rv rows x.reads).phase=if(Wco rows).length=0 then 2 else 1:=rfl;show(Wan ((k:Int)+1) x.rv rows x.reads).phase≠6/\(Wan ((k:Int)+1) x.rv rows x.reads).phase≠8;rw[e];split<;>omega
theorem Wt6(h:RT x)(h1:x.phase=1):RT (WcM w x o):=by
 have hn:∀y:Rt,y.phase=1->y.phase≠2/\y.phase≠5:=λy hy=>by omega
 unfold WcM;cases Wbg x.writes o.2.2.1 with
 |some v=>exact h.of rfl rfl (hn _ h1).1 (hn _ h1).2
 |none=>
  simp only;have hq:0<=(if x.busy=true then x.pb else(o.2.2.1,0,0,0)).2.1/\(if x.busy=true then x.pb else(o.2.2.1,0,0,0)).2.1<=2:=by
   split
   .have:=h.pb ‹_›;omega
   .simp
  have hs:=WoA (m:=w.mem) (rv:=x.rv) hq;generalize (if x.busy=true then x.pb else(o.2.2.1,0,0,0))=q0 at*;generalize WW w.mem x.rv q0=q at*;split
  .exact WhA
  .split
   .exact RT.no rfl (hn _ h1).1 (hn _ h1).2
   .exact⟨λ_=>by show q.2.1=1\/q.2.1=2;omega,λhy=>Wg hy (hn _ h1).1,λhy=>Wg hy (hn _ h1).2⟩
theorem Wrv{rv:Int}{regs:List Int}{writes:List Rw}{u:Nat}(j:Nat)(h:j<(War rv regs writes u).kids.length):KT (War rv regs writes u) j (War rv regs writes u).kids[j]:=by
 have e:(War rv regs writes u).kids[j]={regs:=regs}:=by simp only[War,Xbe]
 rw[e];refine⟨(λh=>by cases h),?_,λ_ e he=>by cases he⟩;show(0:Int)=(j:Int)+1↔(0:Int)=2;omega
theorem Wv8(h:RT x)(h1:x.phase=1):RT (Wdy w x k p).2:=by
 have hn:∀y:Rt,y.phase=1->y.phase≠2/\y.phase≠5:=λy hy=>by omega
 unfold Wdy;split
 .exact Wme h
 .simp only;generalize opN p.1 x.pc=o;split
  .exact Wt6 h h1
  .split
   .unfold WbT;split
    .exact Wme h
    .split
     .exact h.of rfl rfl (hn _ h1).1 (hn _ h1).2
     .exact h.of rfl rfl (hn _ h1).1 (hn _ h1).2
   .split
    .exact⟨h.pb,λ_=>.inr λj hj=>Wrv j hj,λhy=>by(change (2:Int)=5 at hy;omega)⟩
    .split
     .unfold WbR;cases Wa4 w.holds ((k:Int)+1) (WaK o).1 (WaK o).2 with
      |none=>exact WhA
      |some hs=>exact h.of rfl rfl (hn _ h1).1 (hn _ h1).2
     .repeat' split
      all_goals exact h.of rfl rfl (hn _ h1).1 (hn _ h1).2
theorem Wp8(h:RT x)(h5:x.phase=5):RT (W8 w x k).2:=by
 unfold W8;split
 .simp only;split
  .exact Wfj
  .rename_i h8;refine⟨h.pb,λhy=>by(change x.phase=2 at hy;omega),λ_=>⟨?_,h8⟩⟩;have:=(h.cm h5).1;show(WA x.cm).phase≠6;unfold WA W1
   repeat' split
   all_goals first|(simp only;omega)|exact this
 .show RT (Wae {x with cm:=(Wq w.mem x.cm).2});generalize (Wq w.mem x.cm).2=c;unfold Wae;split
  .exact Wfj
  .rename_i h8;split
   .have:(if x.fate=2 then(6:Int)else 7)≠2/\(if x.fate=2 then(6:Int)else 7)≠5:=by split<;>omega
    exact h.of rfl rfl this.1 this.2
   .rename_i h6;exact⟨h.pb,λhy=>by(change x.phase=2 at hy;omega),λ_=>⟨h6,h8⟩⟩
theorem Wpx(h:RT x):RT (WB w x k p).2:=by
 unfold WB;by_cases hd:x.doomed=true/\1<=x.phase/\x.phase<=4
 .rw[Wb hd];exact Wfj
 rw[Wa hd];by_cases h0:x.phase=0
 .rw[Wb h0];unfold Wdf;split
  .exact h
  .split
   .exact h
   .split
    .exact h
    .exact RT.no rfl (by show(1:Int)≠2;omega) (by show(1:Int)≠5;omega)
 rw[Wa h0];by_cases h1:x.phase=1
 .rw[Wb h1];exact Wv8 h h1
 rw[Wa h1];by_cases h2:x.phase=2
 .rw[Wb h2];show RT (WbG x);unfold WbG;split
  .exact Wfj
  .split
   .exact h.of rfl rfl (by show(1:Int)≠2;omega) (by show(1:Int)≠5;omega)
   .exact h
 rw[Wa h2];by_cases h3:x.phase=3
 .rw[Wb h3];unfold Wa3;split
  .exact h.of rfl rfl (by show x.phase≠2;omega) (by show x.phase≠5;omega)
  .exact h.of rfl rfl (by show(4:Int)≠2;omega) (by show(4:Int)≠5;omega)
 rw[Wa h3];by_cases h4:x.phase=4
 .rw[Wb h4];show RT (WaH w x);unfold WaH;simp only;split
  .split
   .exact Wfj
   .exact h.of rfl rfl (by show x.phase≠2;omega) (by show x.phase≠5;omega)
  .exact h.of rfl rfl (by show(1:Int)≠2;omega) (by show(1:Int)≠5;omega)
 rw[Wa h4];by_cases h5:x.phase=5
 .rw[Wb h5];exact Wp8 h h5
 rw[Wa h5];by_cases h6:x.phase=6
 .rw[Wb h6];by_cases hz:x.undos.length>0
  .rw[Wb hz];exact h.of rfl rfl (by show x.phase≠2;omega) (by show x.phase≠5;omega)
  .rw[Wa hz];exact h.of rfl rfl (by show(7:Int)≠2;omega) (by show(7:Int)≠5;omega)
 rw[Wa h6];by_cases h7:x.phase=7
 .rw[Wb h7];by_cases hf:x.fate=0
  .rw[Wb hf];exact RT.no rfl (by show(0:Int)≠2;omega) (by show(0:Int)≠5;omega)
  .rw[Wa hf];exact h.of rfl rfl (by show(8:Int)≠2;omega) (by show(8:Int)≠5;omega)
 .rw[Wa h7];exact h
end
section
variable{w:Wo}{x y:Rt}{k:Nat}{p:Pg}{n:Int}{o:Opn}{f:Fm}{codes:List (List Opn)}
theorem Wpz(hp:POk p)(hx:ROk p n x)(ht:RT x)(h:1<=x.phase/\x.phase<=4):(x.undos.length:Int)+3<=Wv p x:=by
 have hl:=hx.live h;have hs:=hl.spare;have hlen:=hp.code.len;by_cases h1:x.phase=1
 .have:=WeG hp.code hl ht h1;omega
 by_cases h2:x.phase=2
 .have aL:=hl.pc;obtain⟨f1,f2,f3⟩:=hl.fork h2;have e:Wv p x=if x.fam.lost=true then(x.undos.length:Int)+3 else 73-3*x.pc+WlS x.fam+Wbf x:=by unfold Wv;rw[Wa (by omega),Wb h2]
  rw[e];split
  .omega
  .have:=Wpn x.fam x.fam.kids;unfold WlS Wbf;omega
 have hz:=hl.back (by omega);obtain⟨m1,m2,m3,m4,m5⟩:=Wll hp.code hl hz;have aL:=hl.pc;have xy:=WsQ hp.code aL.2;by_cases h3:x.phase=3
 .have e:Wv p x=x.last.2.1+74-3*x.last.1+Wep p x.pc+Wbf x:=by unfold Wv;rw[Wa h1,Wa h2,Wb h3]
  rw[e];unfold Wbf;omega
 .have h4:x.phase=4:=by omega
  have ca:=hl.pos h4;have e:Wv p x=x.last.2.1-x.pos+73-3*x.last.1+Wep p x.pc+Wbf x:=by unfold Wv;rw[Wa h1,Wa h2,Wa h3,Wb h4]
  rw[e];unfold Wbf;omega
theorem Wj6(hp:POk p)(hx:ROk p n x)(lW:RX x)(ht:RT x)(hk:k<=8)(h:1<=x.phase/\x.phase<=7):
  Wv p (WB w x k p).2<Wv p x\/(x.phase=2/\x.fam.lost≠true/\Wa2 x.fam≠true/\(WB w x k p).2=x):=by
 unfold WB;by_cases hd:x.doomed=true/\1<=x.phase/\x.phase<=4
 .rw[Wb hd];have:=Wpz hp hx ht hd.2;left;show Wv p (WcP x)<_;rw[Wfk];omega
 rw[Wa hd,Wa (by omega)];by_cases h1:x.phase=1
 .rw[Wb h1];exact .inl (WsV hp.code hp.k3 (hx.live (by omega)) ht h1 hk λregs writes rv=>Wp1 hp.k3)
 rw[Wa h1];by_cases h2:x.phase=2
 .rw[Wb h2];by_cases hq:x.fam.lost=true\/Wa2 x.fam=true
  .exact .inl (Wqq (hx.live (by omega)) hp.code ht h2 hq)
  .refine .inr ⟨h2,λh=>hq (.inl h),λh=>hq (.inr h),?_⟩;show WbG x=x;unfold WbG;rw[Wa (λh=>hq (.inl h)),Wa (λh=>hq (.inr h))]
 rw[Wa h2];by_cases h3:x.phase=3
 .rw[Wb h3];exact .inl (WmU hp.code (hx.live (by omega)) h3)
 rw[Wa h3];by_cases h4:x.phase=4
 .rw[Wb h4];exact .inl (Wnk hp.code (hx.live (by omega)) ht h4)
 rw[Wa h4];by_cases h5:x.phase=5
 .rw[Wb h5];exact .inl (WmL (hx.comm h5) h5 (ht.cm h5) λhdm=>by
   rcases lW.doom hdm with h|h
   .omega
   .exact h.2)
 rw[Wa h5];left;by_cases h6:x.phase=6
 .rw[Wb h6];by_cases hz:x.undos.length>0
  .rw[Wb hz];exact Wg8 (.inr (.inr h6)) (by omega)
  .rw[Wa hz,WnM h6];show(1:Int)<_;omega
 .rw[Wa h6,Wb (by omega)];have e:Wv p x=1:=by unfold Wv;rw[show x.phase=7 by omega];rfl
  rw[e];by_cases hf:x.fate=0
  .rw[Wb hf];show(0:Int)<1;omega
  .rw[Wa hf];show(0:Int)<1;omega
theorem Wvs(f:Fm):Wfq f=(f.kids.length:Int) -f.kids.countP λx=>decide (x.phase=3):=by
 unfold Wfq;have:∀l:List Kd,Wdd WaJ l=(l.length:Int) -l.countP λx=>decide (x.phase=3):=λl=>by
  induction l with
  |nil=>rfl
  |cons x l ih=>
   have e:Wdd WaJ (x::l)=WaJ x+Wdd WaJ l:=by simp[Wdd]
   rw[e,ih,List.countP_cons,Xs];unfold WaJ;by_cases h:x.phase=3
   .rw[Wb h,Wf h];simp;omega
   .rw[Wa h,Wx h];simp;omega
 exact this f.kids
theorem Wuz(hF:FOk codes n f)(h3:codes.length<=3)(hl:∀c∈codes,c.length<=24)(hT:∀(j:Nat) (h:j<f.kids.length),KT f j f.kids[j]):WlS f<=381:=by
 have hlen:=hF.len;have hcl:=hF.clock;have hdn:=hF.done;have lm:=Wvs f;have AT:=WkI f;have oc:f.clock<=0->∀x:Kd,∀k (h:k<f.kids.length),f.kids[k]=x->Wb2 f.clock x=0:=λh0 x k hk he=>by
  have:=(hF.kid k hk).since;rw[he]at this;unfold Wb2;rw[Wa (by omega)]
 have tQ:Wdd (W5 f.clock) f.kids<=(if f.clock<=0 then 26 else 52)*Wfq f:=by
  have e:∀a:Int,Wdd (λx=>0+a*WaJ x) f.kids=a*Wfq f:=λa=>by
   rw[Wlh (g:=λ_=>0)];have:∀l:List Kd,Wdd (λ_=>0) l=0:=λl=>by induction l with
    |nil=>rfl
    |cons x l ih=>simp only[Wdd,Xak,Xct]at*;omega
   rw[this];unfold Wfq;omega
  rw[←e];refine Wip λx hx=>?_;obtain⟨k,hk,he⟩:=Xam hx;have bb:k<codes.length:=by omega
  have hK:=hF.kid k hk;rw[Wn bb,he]at hK;obtain⟨c1,c2,c3,c4⟩:=WeW hK (hl _ (Xp bb));have hb:=Wcn f.clock x;have aX:=hK.phase;unfold W5;by_cases p3:x.phase=3
  .have:Wbt x=0:=by unfold Wbt;rw[Wb p3]
   have hu:WaJ x=0:=by unfold WaJ;rw[Wb p3]
   rw[hu]at hb⊢;omega
  .have hu:WaJ x=1:=WcQ p3;rw[hu]at hb⊢;split
   .rw[oc ‹_› x k hk he];omega
   .omega
 refine WkT (by omega) λx hx qT=>?_;obtain⟨k,hk,he⟩:=Xam hx;have bb:k<codes.length:=by omega
 have hK:=hF.kid k hk;rw[Wn bb,he]at hK;have jv:=hT k hk;rw[he]at jv;obtain⟨l1,l2,l3⟩:=WkD hK (hl _ (Xp bb)) jv.pb;have hb:=Wcn f.clock x;unfold fP fQ;by_cases h0:f.clock<=0
 .rw[Wb h0]at tQ;have hs:=oc h0 x k hk he;rw[hs];have:Wfq f=0\/Wfq f=1\/Wfq f=2\/Wfq f=3:=by omega
  rcases this with hu|hu|hu|hu<;>(rw[hu]at tQ⊢;unfold tri;simp;omega)
 .rw[Wa h0]at tQ;have:Wfq f=0\/Wfq f=1\/Wfq f=2:=by omega
  rcases this with hu|hu|hu<;>(rw[hu]at tQ⊢;unfold tri;simp;omega)
theorem WbY(hp:POk p)(hx:ROk p n x)(ht:RT x):0<=Wv p x/\Wv p x<=808/\(1<=x.phase/\x.phase<=7->1<=Wv p x):=by
 have aX:=hx.phase;have cI:=hx.ul;have hlen:=hp.code.len;by_cases h:1<=x.phase/\x.phase<=4
 .have qF:=Wpz hp hx ht h;refine⟨by omega,?_,λ_=>by omega⟩;have hl:=hx.live h;have hs:=hl.spare;have aL:=hl.pc;have hu:=hl.ul;have hf1:Wep p x.pc<=382:=by unfold Wep;omega
  have gX:=Wga ht;by_cases h1:x.phase=1
  .rw[Wci h1];unfold Wbf;omega
  by_cases h2:x.phase=2
  .obtain⟨f1,f2,f3⟩:=hl.fork h2;have e:Wv p x=if x.fam.lost=true then(x.undos.length:Int)+3 else 73-3*x.pc+WlS x.fam+Wbf x:=by unfold Wv;rw[Wa (by omega),Wb h2]
   rw[e];split
   .omega
   .rename_i bJ;have:=Wuz f3 hp.k3 (λc hc=>(hp.kids c hc).toCC.len) ((ht.fam h2).resolve_left bJ);unfold Wbf;omega
  have hz:=hl.back (by omega);obtain⟨m1,m2,m3,m4,m5⟩:=Wll hp.code hl hz;have hM:=(hl.marks.each _ (Wgx hz zRM)).2.1;have vE:=Wh3 p.1 (show x.last.1.toNat<=x.pc.toNat by omega);have AW:=Wf3 hp.code x.pc.toNat (by omega);have hM':x.last.2.1<=x.last.1+72*frk p.1 x.last.1.toNat:=hM.2.1;have mZ:Wep p x.pc=382*(1-frk p.1 x.pc.toNat):=rfl;by_cases h3:x.phase=3
  .have e:Wv p x=x.last.2.1+74-3*x.last.1+Wep p x.pc+Wbf x:=by unfold Wv;rw[Wa h1,Wa h2,Wb h3]
   rw[e,mZ];unfold Wbf;omega
  .have h4:x.phase=4:=by omega
   have ca:=hl.pos h4;have e:Wv p x=x.last.2.1-x.pos+73-3*x.last.1+Wep p x.pc+Wbf x:=by unfold Wv;rw[Wa h1,Wa h2,Wa h3,Wb h4]
   rw[e,mZ];unfold Wbf;omega
 .have:x.phase=0\/x.phase=5\/x.phase=6\/x.phase=7\/x.phase=8:=by omega
  rcases this with h|h|h|h|h
  .have e:Wv p x=0:=by unfold Wv;rw[h];rfl
   omega
  .have hb:=Wgr (hx.comm h);have e:Wv p x=Wab x.cm+x.undos.length+3:=by unfold Wv;rw[h];rfl
   omega
  .rw[WnM h];omega
  .have e:Wv p x=1:=by unfold Wv;rw[h];rfl
   omega
  .have e:Wv p x=0:=by unfold Wv;rw[h];rfl
   omega
end
section
def WvP(m:Mm)(rv:Int):Prop:=∀i,0<=i->i<=7->(Ws m i).2.2=0/\(Ws m i).2.1<=rv
def pbV(m:Mm)(b:Bool)(q:Pb):Prop:=b=true->(0<=q.1/\q.1<=7)/\q.2.2.1=(Ws m q.1).2.1
variable{m:Mm}{rv:Int}{q:Pb}{o:Opn}{x:Kd}{f:Fm}{k:Nat}{code:List Opn}{codes:List (List Opn)}{n:Int}
theorem Ws6(h:WvP m rv)(hc:0<=q.1/\q.1<=7)(hp:0<=q.2.1/\q.2.1<=2)(hv:1<=q.2.1->q.2.2.1=(Ws m q.1).2.1):
  (WW m rv q).1=q.1/\(WW m rv q).2.1=q.2.1+1/\(WW m rv q).2.2.1=(Ws m q.1).2.1:=by
 obtain⟨f1,f2⟩:=h q.1 hc.1 hc.2;have e:Xc m.2 (Xb q.1) (0,(0,0))=Ws m q.1:=rfl;unfold WW;simp only[e,WG,WaP];have:q.2.1=0\/q.2.1=1\/q.2.1=2:=by omega
 rcases this with h0|h0|h0
 .rw[Wb h0,Wb f1,Wb f2,h0];exact⟨rfl,rfl,rfl⟩
 .have:=hv (by omega);rw[Wa (by omega),Wb h0,h0];exact⟨rfl,rfl,this⟩
 .have:=hv (by omega);rw[Wa (by omega),Wa (by omega),Wb h0,Wb f1,Wb this.symm,h0];exact⟨rfl,rfl,this⟩
theorem WpQ{b:Bool}{p:Pb}{c:Int}(hm:WvP m rv)(hv:pbV m b p)(hb:b=true->p.2.1=1\/p.2.1=2)(hB:0<=c/\c<=7):
  (0<=(if b=true then p else(c,0,0,0)).1/\(if b=true then p else(c,0,0,0)).1<=7)/\(if b=true then p else(c,0,0,0)).2.1<=2/\
  (WW m rv (if b=true then p else(c,0,0,0))).1=(if b=true then p else(c,0,0,0)).1/\(WW m rv (if b=true then p else(c,0,0,0))).2.1=(if b=true then p else(c,0,0,0)).2.1+1/\
  (WW m rv (if b=true then p else(c,0,0,0))).2.2.1=(Ws m (if b=true then p else(c,0,0,0)).1).2.1:=by
 by_cases h:b=true
 .rw[Wb h];have h1:=hv h;have h2:=hb h;exact⟨h1.1,by omega,Ws6 hm h1.1 (by omega) λ_=>h1.2⟩
 .rw[Wa h];exact⟨hB,by show(0:Int)<=2;omega,Ws6 hm hB (by show(0:Int)<=0/\(0:Int)<=2;omega) λh=>by(change (1:Int)<=0 at h;omega)⟩
structure FGd(m:Mm)(f:Fm):Prop where
 lost:f.lost=false
 free:WvP m f.rv
 kid:∀(k:Nat) (h:k<f.kids.length),pbV m f.kids[k].busy f.kids[k].pb
theorem Wui(hm:WvP m f.rv)(hl:f.lost=false)(hv:pbV m x.busy x.pb)(hb:x.busy=true->x.pb.2.1=1\/x.pb.2.1=2)(hB:0<=o.2.2.1/\o.2.2.1<=7):
  (WdM m f x o).1=f/\pbV m (WdM m f x o).2.busy (WdM m f x o).2.pb:=by
 unfold WdM;cases Wbg x.writes o.2.2.1 with
 |some v=>exact⟨rfl,hv⟩
 |none=>
  simp only;cases ent f.buf o.2.2.1 with
  |some r=>
   simp only;split
   .exact⟨rfl,(λh=>by cases h)⟩
   .exact⟨rfl,hv⟩
  |none=>
   simp only;obtain⟨hc,vo,hs⟩:=WpQ (b:=x.busy) (p:=x.pb) (c:=o.2.2.1) hm hv hb hB;generalize (if x.busy=true then x.pb else(o.2.2.1,0,0,0))=q0 at*;generalize WW m f.rv q0=q at*;obtain⟨s1,s2,s3⟩:=hs;rw[Wa (by omega)];split
   .exact⟨rfl,(λh=>by cases h)⟩
   .refine⟨rfl,λ_=>?_⟩;show(0<=q.1/\q.1<=7)/\q.2.2.1=(Ws m q.1).2.1;rw[s1];exact⟨hc,s3⟩
theorem Wtt(hm:WvP m f.rv)(hl:f.lost=false)(bb:KC code)(hK:KOk code f.clock n x)(hv:pbV m x.busy x.pb)(ht:KT f k x):
  (Wdu m f x k code).1.lost=false/\(Wdu m f x k code).1.rv=f.rv/\(Wdu m f x k code).1.kids=f.kids/\pbV m (Wdu m f x k code).2.busy (Wdu m f x k code).2.pb:=by
 have bQ:pbV m (f.again x).busy (f.again x).pb:=λh=>by cases h
 unfold Wdu;split
 .rename_i h0;unfold WpB;split
  .exact⟨hl,rfl,rfl,hv⟩
  .obtain⟨i,hi,aL,ho⟩:=WfF (l:=code) hK.pc.1 (by have:=hK.pc;omega);simp only[ho];split
   .have aJ:=WvW (bb.ok i hi).1 ‹_›;have hB:0<=code[i].2.2.1/\code[i].2.2.1<=7:=by have:=aJ.2;unfold Waf at this;simpa using this
    obtain⟨a,b⟩:=Wui (o:=code[i]) hm hl hv ht.pb hB;rw[a];exact⟨hl,rfl,rfl,b⟩
   .split
    .refine⟨hl,rfl,rfl,?_⟩;unfold Wib;split<;>exact hv
    .repeat' split
     all_goals exact⟨hl,rfl,rfl,hv⟩
 .split
  .split
   .exact⟨hl,rfl,rfl,hv⟩
   .exact⟨hl,rfl,rfl,hv⟩
  .split
   .split
    .exact⟨hl,rfl,rfl,hv⟩
    .simp only;split
     .exact⟨hl,rfl,rfl,hv⟩
     .exact⟨hl,rfl,rfl,bQ⟩
   .exact⟨hl,rfl,rfl,hv⟩
theorem Wt2(hF:FOk codes n f)(hT:∀(j:Nat) (h:j<f.kids.length),KT f j f.kids[j])(hg:FGd m f)(hk:k<f.kids.length)(bb:KC (codes.getD k [])):FGd m (Wbx m f k (codes.getD k [])):=by
 have hg0:f.kids.getD k {}=f.kids[k]:=Wn hk _;unfold Wbx;rw[Wa (by rw[hg.lost];simp),hg0];obtain⟨a,b,c,d⟩:=Wtt (k:=k) hg.free hg.lost bb (hF.kid k hk) (hg.kid k hk) (hT k hk);refine⟨a,?_,λj hj=>?_⟩
 .show WvP m (Wdu m f f.kids[k] k (codes.getD k [])).1.rv;rw[b];exact hg.free
 .have hj':j<f.kids.length:=by rw[Wkz c]at hj;exact hj
  rw[WgV hk c hj' hj];split
  .exact d
  .exact hg.kid j hj'
end
section
structure CGd(m:Mm)(c:Cm):Prop where
 ph:1<=c.phase/\c.phase<=5
 sole:∀i,0<=i->i<=7->owner m i=0\/owner m i=c.who
 ver:c.phase<=3->∀i,0<=i->i<=7->(Ws m i).2.1<=c.rv
variable{m:Mm}{c:Cm}
theorem Wpt(ph:Int)(h:ph=2\/ph=3\/ph=4\/ph=5\/ph=6):2<=Waz c ph/\Waz c ph<=6/\ph<=Waz c ph:=by
 unfold Waz;split
 .omega
 .split<;>omega
theorem WgH{ph:Int}(h:ph=2\/ph=3\/ph=4\/ph=5\/ph=6)(hc:1<=c.phase/\c.phase<=5)(hle:c.phase<=ph):1<=(Wp c ph).phase/\(Wp c ph).phase<=6/\c.phase<=(Wp c ph).phase/\(Wp c ph).rv=c.rv/\(Wp c ph).who=c.who:=by
 unfold Wp;split
 .have:=Wpt (c:=c) ph h;show 1<=Waz c ph/\Waz c ph<=6/\c.phase<=Waz c ph/\_/\_;exact⟨by omega,by omega,by omega,rfl,rfl⟩
 .exact⟨by show 1<=c.phase;omega,by show c.phase<=6;omega,Xo _,rfl,rfl⟩
theorem Wsb(hc:CmOk c)(hm:W0 m=true)(hk:CmLk m c)(hg:CGd m c)(bR:m.1<1000000):1<=(Wq m c).2.phase/\(Wq m c).2.phase<=6/\(Wq m c).2.rv=c.rv/\
  ((Wq m c).2.phase<=3->∀i,0<=i->i<=7->(Ws (Wq m c).1 i).2.1<=c.rv):=by
 have aX:=hg.ph;have hpos:=hc.pos;unfold Cm.steps at hpos;have lr:∀j:Nat,(h:j<c.puts.length)->0<=c.puts[j].1/\c.puts[j].1<=7:=λj h=>(hc.rows _ (Xp h)).1;unfold Wq;simp only;by_cases p1:c.phase=1
 .rw[Wb p1];rw[p1]at hpos;simp at hpos;obtain⟨j,hj⟩:∃j:Nat,c.pos=j:=⟨c.pos.toNat,by omega⟩;have hjl:j<c.puts.length:=by omega
  have bt:Wbu c.puts c.pos (0,0)=c.puts[j]:=by unfold Wbu;rw[hj,Xj];exact Wn hjl _
  have hb:=lr j hjl;have bQ:¬lkd c c.puts[j].1:=λ⟨i,hi,a,b⟩=>by
   have hij:i<j:=by unfold lkA at b;omega
   have:=List.pairwise_iff_getElem.1 hc.pup i j hi hjl hij;omega
  have hown:(Ws m c.puts[j].1).2.2=0:=by
   rcases hg.sole _ hb.1 hb.2 with h|h
   .exact h
   .exact Wg ((hk.own _ hb.1 hb.2).1 h) bQ
  rw[bt,Wb hown];obtain⟨a,b,_,d,_⟩:=WgH (c:=c) (ph:=2) (by omega) aX (by omega);refine⟨a,b,d,λ_ i h0 h7=>?_⟩;show(Ws (Wiu m c.puts[j].1 c.who) i).2.1<=c.rv;unfold Wiu;rw[Wbs hm hb ⟨h0,h7⟩];split
  .exact hg.ver (by omega) _ hb.1 hb.2
  .exact hg.ver (by omega) i h0 h7
 rw[Wa p1];by_cases p2:c.phase=2
 .rw[Wb p2];have jv:tick m=((m.1+1,m.2),m.1+1):=by unfold tick;rw[Wb bR]
  have h0:=(Wz hm).2.1;rw[jv,Wa (show¬m.1+1=0 by omega)];have:=Wpt (c:={c with wv:=m.1+1}) 3 (by omega);exact⟨by show 1<=Waz {c with wv:=m.1+1} 3;omega,by show Waz {c with wv:=m.1+1} 3<=6;omega,rfl,λ_ i h0 h7=>hg.ver (by omega) i h0 h7⟩
 rw[Wa p2];by_cases p3:c.phase=3
 .rw[Wb p3];rw[p3]at hpos;simp at hpos;have jC:0<=Wbu c.reads c.pos 0/\Wbu c.reads c.pos 0<=7:=by
   have:Wbu c.reads c.pos 0=c.reads[c.pos.toNat]'(by omega):=Wn (by omega) _;rw[this];exact hc.rd _ (Xp _)
  have hs:=hg.sole _ jC.1 jC.2;have hv:=hg.ver (by omega) _ jC.1 jC.2;unfold owner at hs;rw[Wa (by omega)];obtain⟨a,b,_,d,_⟩:=WgH (c:=c) (ph:=4) (by omega) aX (by omega);exact⟨a,b,d,λ_ i h0 h7=>hg.ver (by omega) i h0 h7⟩
 rw[Wa p3];by_cases p4:c.phase=4
 .rw[Wb p4];obtain⟨a,b,e,d,_⟩:=WgH (c:=c) (ph:=5) (by omega) aX (by omega);exact⟨a,b,d,λh=>by(change (Wp c 5).phase<=3 at h;omega)⟩
 rw[Wa p4,Wb (show c.phase=5 by omega)];obtain⟨a,b,e,d,_⟩:=WgH (c:=c) (ph:=6) (by omega) aX (by omega);exact⟨a,b,d,λh=>by(change (Wp c 6).phase<=3 at h;omega)⟩
end
section
structure RGd(m:Mm)(x:Rt):Prop where
 dm:x.doomed=false
 sp:x.spare=0
 ph:x.phase=1\/x.phase=2\/x.phase=5\/x.phase=6\/x.phase=7
 run:x.phase=1\/x.phase=2->WvP m x.rv/\pbV m x.busy x.pb
 fam:x.phase=2->FGd m x.fam
 cm:x.phase=5->CGd m x.cm
 ft:x.phase=5\/x.phase=6\/x.phase=7->x.fate≠0
variable{w:Wo}{x y:Rt}{k:Nat}{p:Pg}{n:Int}{o:Opn}
theorem RGd.on{m:Mm}(h:RGd m x)(h1:x.phase=1)(hy:y.phase=1)(hd:y.doomed=x.doomed)(hs:y.spare=x.spare)(hr:y.rv=x.rv)(hv:pbV m y.busy y.pb):RGd m y:=
 ⟨hd.trans h.dm,hs.trans h.sp,.inl hy,λ_=>⟨by rw[hr];exact(h.run (.inl h1)).1,hv⟩,λh2=>by omega,λh2=>by omega,λh2=>by omega⟩
theorem Wmt(h:RGd w.mem x)(h1:x.phase=1){out:Int}(ho:out≠0):(Waq w x k out).2.phase=8\/RGd (Waq w x k out).1.mem (Waq w x k out).2:=by
 have hf:=(h.run (.inl h1)).1;unfold Waq;simp only;generalize (if out=2 then []else x.writes)=rows;split
 .exact .inl rfl
 .have e:(Wan ((k:Int)+1) x.rv rows x.reads).phase=if(Wco rows).length=0 then 2 else 1:=rfl;refine .inr ⟨h.dm,h.sp,.inr (.inr (.inl rfl)),λh2=>?_,λh2=>?_,λ_=>⟨?_,λi a b=>.inl (hf i a b).1,λ_ i a b=>(hf i a b).2⟩,λ_=>ho⟩
  .change (5:Int)=1\/(5:Int)=2 at h2;omega
  .change (5:Int)=2 at h2;omega
  .show 1<=(Wan ((k:Int)+1) x.rv rows x.reads).phase/\(Wan ((k:Int)+1) x.rv rows x.reads).phase<=5;rw[e];split<;>omega
theorem WtJ(h:RGd w.mem x)(h1:x.phase=1)(ht:RT x)(hB:0<=o.2.2.1/\o.2.2.1<=7):RGd w.mem (WcM w x o):=by
 obtain⟨hf,hv⟩:=h.run (.inl h1);unfold WcM;cases Wbg x.writes o.2.2.1 with
 |some v=>exact h.on h1 h1 rfl rfl rfl hv
 |none=>
  simp only;obtain⟨hc,vo,hs⟩:=WpQ (b:=x.busy) (p:=x.pb) (c:=o.2.2.1) hf hv ht.pb hB;generalize (if x.busy=true then x.pb else(o.2.2.1,0,0,0))=q0 at*;generalize WW w.mem x.rv q0=q at*;obtain⟨s1,s2,s3⟩:=hs;rw[Wa (by omega)];split
  .exact h.on h1 h1 rfl rfl rfl (λh=>by cases h)
  .refine h.on h1 h1 rfl rfl rfl λ_=>?_;show(0<=q.1/\q.1<=7)/\q.2.2.1=(Ws w.mem q.1).2.1;rw[s1];exact⟨hc,s3⟩
theorem WvA(aG:CC p.1)(hl:RLive p n x)(h:RGd w.mem x)(h1:x.phase=1)(ht:RT x)(hh:∀e∈w.holds,e.1=(k:Int)+1):(Wdy w x k p).2.phase=8\/RGd (Wdy w x k p).1.mem (Wdy w x k p).2:=by
 obtain⟨hf,hv⟩:=h.run (.inl h1);unfold Wdy;split
 .exact Wmt h h1 (by omega)
 .obtain⟨i,hi,aL,ho⟩:=WfF (l:=p.1) hl.pc.1 (by have:=hl.pc;omega);simp only[ho];split
  .have aJ:=WvW (aG.ok i hi).1 ‹_›;have hB:0<=p.1[i].2.2.1/\p.1[i].2.2.1<=7:=by have:=aJ.2;unfold Waf at this;simpa using this
   exact .inr (WtJ h h1 ht hB)
  .split
   .unfold WbT;split
    .exact Wmt h h1 (by omega)
    .split
     .exact .inr (h.on h1 h1 rfl rfl rfl hv)
     .exact .inr (h.on h1 h1 rfl rfl rfl hv)
   .split
    .refine .inr ⟨h.dm,h.sp,.inr (.inl rfl),λ_=>⟨hf,hv⟩,λ_=>⟨rfl,hf,λj hj=>?_⟩,λh2=>?_,λh2=>?_⟩
     .have e:(War x.rv x.regs x.writes p.2.length).kids[j]={regs:=x.regs}:=by simp only[War,Xbe]
      show pbV w.mem (War x.rv x.regs x.writes p.2.length).kids[j].busy (War x.rv x.regs x.writes p.2.length).kids[j].pb;rw[e]
      exactλh=>by cases h
     .change (2:Int)=5 at h2;omega
     .change (2:Int)=5\/(2:Int)=6\/(2:Int)=7 at h2;omega
    .split
     .have hb:WgE w.holds ((k:Int)+1) (WaK p.1[i]).1 (WaK p.1[i]).2= []:=by
       unfold WgE;rw[List.map_eq_nil_iff,List.filter_eq_nil_iff];intro e he;have:=hh e he;unfold blk;simp[this]
      have e:Wa4 w.holds ((k:Int)+1) (WaK p.1[i]).1 (WaK p.1[i]).2=some (WgW w.holds ((k:Int)+1) (WaK p.1[i]).1 (WaK p.1[i]).2):=by unfold Wa4;rw[Wb hb]
      unfold WbR;rw[e];exact .inr (h.on h1 h1 rfl rfl rfl hv)
     .repeat' split
      all_goals exact .inr (h.on h1 h1 rfl rfl rfl hv)
theorem Wue(hp:POk p)(hx:ROk p n x)(h:RGd w.mem x)(ht:RT x)(hh:∀e∈w.holds,e.1=(k:Int)+1)(hm:W0 w.mem=true)(hb:LB w k x)(bR:w.mem.1<1000000):
  (WB w x k p).2.phase=8\/RGd (WB w x k p).1.mem (WB w x k p).2:=by
 unfold WB;rw[Wa (by rw[h.dm];simp),Wa (by have:=h.ph;omega)];by_cases h1:x.phase=1
 .rw[Wb h1];exact WvA hp.code (hx.live (by omega)) h h1 ht hh
 rw[Wa h1];by_cases h2:x.phase=2
 .rw[Wb h2];obtain⟨hf,hv⟩:=h.run (.inr h2);right;show RGd w.mem (WbG x);unfold WbG;rw[Wa (by rw[(h.fam h2).lost];simp)];split
  .exact⟨h.dm,h.sp,.inl rfl,λ_=>⟨hf,hv⟩,λh2=>by(change (1:Int)=2 at h2;omega),λh2=>by(change (1:Int)=5 at h2;omega),λh2=>by(change (1:Int)=5\/(1:Int)=6\/(1:Int)=7 at h2;omega)⟩
  .exact h
 rw[Wa h2,Wa (by have:=h.ph;omega),Wa (by have:=h.ph;omega)];have mq:=h.ft (by have:=h.ph;omega);by_cases h5:x.phase=5
 .rw[Wb h5];obtain⟨hw,hcl⟩:=hb.cm h5;have hc:=hx.comm h5;have hg:=h.cm h5;obtain⟨a,b,d,e⟩:=Wsb hc hm hcl hg bR;have uE:=WjI w.mem x.cm;have gu:=λwho (a:who≠(k:Int)+1) (b:who≠0) (i:Int) (c:0<=i) (d:i<=7)=>Wkm (i:=i) hc hm (who:=who) (by rw[hw];exact a) b ⟨c,d⟩;right;unfold W8;rw[Wa (by rw[h.dm];simp)];simp only;show RGd (Wq w.mem x.cm).1 (Wae {x with cm:=(Wq w.mem x.cm).2});generalize (Wq w.mem x.cm).1=m' at*;generalize (Wq w.mem x.cm).2=c' at*;unfold Wae;simp only;rw[Wa (by omega)];split
  .have aX:(if x.fate=2 then(6:Int)else 7)=6\/(if x.fate=2 then(6:Int)else 7)=7:=by split<;>simp
   generalize (if x.fate=2 then(6:Int)else 7)=ph at*;exact⟨h.dm,h.sp,by show ph=1\/ph=2\/ph=5\/ph=6\/ph=7;omega,λh2=>by(change ph=1\/ph=2 at h2;omega),λh2=>by(change ph=2 at h2;omega),λh2=>by(change ph=5 at h2;omega),λ_=>mq⟩
  .refine⟨h.dm,h.sp,.inr (.inr (.inl h5)),λh2=>by(change x.phase=1\/x.phase=2 at h2;omega),λh2=>by(change x.phase=2 at h2;omega),λ_=>⟨⟨a,by show c'.phase<=5;omega⟩,λi i0 i7=>?_,λh3 i i0 i7=>?_⟩,λ_=>mq⟩
   .show owner m' i=0\/owner m' i=c'.who;by_cases z0:owner m' i=0
    .exact .inl z0
    .by_cases zk:owner m' i=(k:Int)+1
     .exact .inr (by rw[uE,hw];exact zk)
     .have:=(gu _ zk z0 i i0 i7).1.1 rfl;rcases hg.sole i i0 i7 with hs|hs
      .rw[hs]at this;exact Wg this.symm z0
      .rw[hs,hw]at this;exact Wg this.symm zk
   .show(Ws m' i).2.1<=c'.rv;rw[d];exact e h3 i i0 i7
 rw[Wa h5];by_cases h6:x.phase=6
 .rw[Wb h6];right;by_cases hz:x.undos.length>0
  .rw[Wb hz];exact⟨h.dm,h.sp,.inr (.inr (.inr (.inl h6))),λh2=>by(change x.phase=1\/x.phase=2 at h2;omega),λh2=>by(change x.phase=2 at h2;omega),λh2=>by(change x.phase=5 at h2;omega),λ_=>mq⟩
  .rw[Wa hz];exact⟨h.dm,h.sp,.inr (.inr (.inr (.inr rfl))),λh2=>by(change (7:Int)=1\/(7:Int)=2 at h2;omega),λh2=>by(change (7:Int)=2 at h2;omega),λh2=>by(change (7:Int)=5 at h2;omega),λ_=>mq⟩
 .rw[Wa h6,Wb (by have:=h.ph;omega),Wa mq];exact .inl rfl
end
section
variable{s:Sc}{w v:Wo}{n:Int}{a:Ac}{x y:Rt}{k:Nat}{p:Pg}{f:Fm}{codes:List (List Opn)}{m:Mm}
theorem WpF(hm:W0 m=true)(bb:∀c∈codes,KC c)(h3:codes.length<=3)(hF:FOk codes n f)(hT:∀(j:Nat) (h:j<f.kids.length),KT f j f.kids[j])(hk:k<codes.length):
  (Wbx m f k (codes.getD k [])).lost=true\/∀(j:Nat) (h:j<(Wbx m f k (codes.getD k [])).kids.length),KT (Wbx m f k (codes.getD k [])) j (Wbx m f k (codes.getD k [])).kids[j]:=by
 have hlen:=hF.len;have cu:k<f.kids.length:=by omega
 by_cases bJ:f.lost=true
 .exact .inl (by rw[Wg2 bJ];exact bJ)
 have aR:codes.getD k []=codes[k]:=Wn hk _;have hKO:=hF.kid k cu;rw[aR]at hKO;have ho:=Wst (m:=m) (bb _ (Xp hk)) hF hKO (hT k cu);have hE:=WwJ cu (by omega) (λc hc=>(bb c hc).toCC.len) hF hT rfl ho;have aH:Wbx m f k (codes.getD k [])=Fm.put (Wdu m f f.kids[k] k codes[k]) k:=by
  unfold Wbx;rw[Wa bJ,aR,show f.kids.getD k {}=f.kids[k]from Wn cu _]
 rw[aH];rcases hE with hE|hE
 .exact .inl hE
 .exact .inr hE.kt
theorem Wqo{c:Cm}(hm:W0 m=true):(Wq m c).1.1<=m.1+1:=by
 have ht:(tick m).1.1<=m.1+1:=by unfold tick;split<;>(simp only;omega)
 unfold Wq;simp only;by_cases p1:c.phase=1
 .rw[Wb p1];split<;>(show m.1<=m.1+1;omega)
 rw[Wa p1];by_cases p2:c.phase=2
 .rw[Wb p2];split<;>exact ht
 rw[Wa p2];by_cases p3:c.phase=3
 .rw[Wb p3];split<;>(show m.1<=m.1+1;omega)
 rw[Wa p3];by_cases p4:c.phase=4
 .rw[Wb p4];unfold Wb7;split<;>(show m.1<=m.1+1;omega)
 rw[Wa p4];by_cases p5:c.phase=5
 .rw[Wb p5];unfold WaE;split<;>(show m.1<=m.1+1;omega)
 rw[Wa p5];by_cases p7:c.phase=7
 .rw[Wb p7];unfold WaE;split<;>(show m.1<=m.1+1;omega)
 rw[Wa p7];show m.1<=m.1+1;omega
theorem Wjz{out:Int}:(Waq w x k out).1.mem=w.mem:=by
 unfold Waq;simp only;generalize (if out=2 then []else x.writes)=rows;split<;>rfl
theorem Wnp:(WB w x k p).1.mem=w.mem\/(x.phase=5/\(WB w x k p).1.mem=(Wq w.mem x.cm).1):=by
 unfold WB;by_cases hd:x.doomed=true/\1<=x.phase/\x.phase<=4
 .rw[Wb hd];exact .inl rfl
 rw[Wa hd];by_cases h0:x.phase=0
 .rw[Wb h0];left;unfold Wdf;repeat' split
  all_goals rfl
 rw[Wa h0];by_cases h1:x.phase=1
 .rw[Wb h1];left;unfold Wdy;split
  .exact Wjz
  .simp only;generalize opN p.1 x.pc=o;split
   .rfl
   .split
    .unfold WbT;split
     .exact Wjz
     .split<;>rfl
    .split
     .rfl
     .split
      .unfold WbR;cases Wa4 w.holds ((k:Int)+1) (WaK o).1 (WaK o).2<;>rfl
      .repeat' split
       all_goals rfl
 rw[Wa h1];by_cases h2:x.phase=2
 .rw[Wb h2];exact .inl rfl
 rw[Wa h2];by_cases h3:x.phase=3
 .rw[Wb h3];left;unfold Wa3;split<;>rfl
 rw[Wa h3];by_cases h4:x.phase=4
 .rw[Wb h4];exact .inl rfl
 rw[Wa h4];by_cases h5:x.phase=5
 .rw[Wb h5];unfold W8;split
  .exact .inl rfl
  .exact .inr ⟨h5,rfl⟩
 rw[Wa h5];left;by_cases h6:x.phase=6
 .rw[Wb h6];split<;>rfl
 rw[Wa h6];by_cases h7:x.phase=7
 .rw[Wb h7];split<;>rfl
 .rw[Wa h7]
structure WT(w:Wo):Prop where
 root:∀(k:Nat) (h:k<w.roots.length),RT w.roots[k]
 clk:w.mem.1<=w.now
theorem Wr5{w0:Wo}{q:Wo×Rt}(hx:WT w0)(hr:q.1.roots=w0.roots)(hq:RT q.2)(hc:q.1.mem.1<=q.1.now):WT (Wo.put q k):=by
 refine⟨λi hi=>?_,hc⟩;change i<(q.1.roots.set k q.2).length at hi;have dZ:i<w0.roots.length:=by rw[Xab,hr]at hi;exact hi
 show RT ((q.1.roots.set k q.2)[i]'hi);rw[Xao];split
 .exact hq
 .simp only[hr];exact hx.root i dZ
theorem WrZ(h:WOk s.2.1 n w)(hx:WT w):WT (Wde s w a):=by
 have cy:WT {w with now:=w.now+1}:=⟨hx.root,by have:=hx.clk;show w.mem.1<=w.now+1;omega⟩;unfold Wde;simp only;split
 .rename_i hb;have hk:a.2.1.toNat<w.roots.length:=by omega
  have hR:=hx.root _ hk;have uF:a.2.1.toNat<s.2.1.length:=by rw[←h.len];exact hk
  rw[Wn hk];split
  .unfold Wid;rw[Wn (show a.2.1.toNat<({w with now:=w.now+1}:Wo).roots.length from hk)];have aH:=WhY (w:={w with now:=w.now+1}) (k:=a.2.1.toNat) (Wgv h.progs uF) ⟨h.mem,h.shelf,h.holds⟩ (h.root _ hk) (by have:=h.l4;omega) h.n0;refine Wr5 cy (WhJ h hk) (Wpx hR) ?_;have qC:(WB {w with now:=w.now+1} w.roots[a.2.1.toNat] a.2.1.toNat (s.2.1.getD a.2.1.toNat pg0)).1.now=w.now+1:=aH.now;rw[qC];have bR:=hx.clk;rcases Wnp (w:={w with now:=w.now+1}) (x:=w.roots[a.2.1.toNat]) (k:=a.2.1.toNat) (p:=s.2.1.getD a.2.1.toNat pg0)with e|⟨_,e⟩
   .rw[e];show w.mem.1<=w.now+1;omega
   .rw[e];have:=Wqo (m:=w.mem) (c:=w.roots[a.2.1.toNat].cm) h.mem;show(Wq w.mem w.roots[a.2.1.toNat].cm).1.1<=w.now+1;omega
  .split
   .split
    .rename_i hc;unfold Wxs;refine Wr5 (w0:={w with now:=w.now+1}) cy rfl ?_ cy.clk;refine⟨hR.pb,λ_=>?_,λh5=>by(change w.roots[a.2.1.toNat].phase=5 at h5;omega)⟩;have hp:=Wgv h.progs uF;have hF:=((h.root _ hk).live (by omega)).fork hc.1;rcases hR.fam hc.1 with hl|hT
     .left;show(Wbx w.mem w.roots[a.2.1.toNat].fam a.2.2.toNat _).lost=true;rw[Wg2 hl];exact hl
     .exact WpF h.mem hp.kids hp.k3 hF.2.2 hT (by omega)
    .exact cy
   .split
    .split
     .exact Wr5 (w0:={w with now:=w.now+1}) cy rfl ⟨hR.pb,hR.fam,hR.cm⟩ cy.clk
     .exact cy
    .exact cy
 .exact cy
theorem Wrh:∀(l:List Ac) (n:Int) (w:Wo),WOk s.2.1 n w->WT w->WT (l.foldl (Wde s) w)
 | [],n,w,h,hx=>hx
 |a::l,n,w,h,hx=>Wrh l (n+1) _ (WcH (a:=a) h) (WrZ (a:=a) h hx)
theorem Wsn:WT (Wer s):=⟨λi h=>by
 simp only[Wer,Xbe];exact RT.no rfl (by show(0:Int)≠2;omega) (by show(0:Int)≠5;omega),Xo _⟩
end
section
variable{b:Int->Int}{s:Sc}{w v:Wo}{n:Int}{x y:Rt}{k:Nat}{p:Pg}{o:Opn}{a:Ac}
def cmX(x:Rt):Option Cm:=if x.phase=5 then some x.cm else none
def WcK(l:List Rt)(k:Nat):Option Cm:=(l[k]?).bind cmX
theorem Wk2(h:k<w.roots.length):WcK w.roots k=cmX w.roots[k]:=by unfold WcK;rw[Xq h];rfl
theorem WgK{l:List Rt}(h:k<l.length):WcK (l.set k y)=Wdw (WcK l) k (cmX y):=by
 funext j;unfold WcK Wdw;by_cases e:j=k
 .subst e;rw[Wb rfl,Xfx h];rfl
 .rw[Wa e,Xdv (λz=>e z.symm)]
theorem WlP{c:Cm}(h:cmX x=some c):x.phase=5/\c=x.cm:=by
 unfold cmX at h;split at h
 .cases h;exact⟨‹_›,rfl⟩
 .cases h
theorem Wnu{l:List Rt}{c:Cm}(h:WcK l k=some c):∃hk:k<l.length,l[k].phase=5/\c=l[k].cm:=by
 by_cases hk:k<l.length
 .unfold WcK at h;rw[Xq hk]at h;exact⟨hk,WlP h⟩
 .unfold WcK at h;rw[List.getElem?_eq_none (by omega)]at h;cases h
theorem WsL(h:WOk s.2.1 n w)(hl:LX w):CL2 w.mem (WcK w.roots):=λk c hc=>by
 obtain⟨hk,h5,e⟩:=Wnu hc;subst e;exact⟨((h.root k hk).comm h5).r,((hl.root k hk).cm h5).1,((hl.root k hk).cm h5).2⟩
structure RN(w:Wo)(x:Rt)(q:Wo×Rt):Prop where
 mem:q.1.mem=w.mem
 hist:q.1.hist=w.hist
 cm:q.2.phase=5->q.2.cm.phase=1\/q.2.cm.phase=2
theorem Wdi{q:Wo×Rt}(h1:q.1.mem=w.mem)(h2:q.1.hist=w.hist)(h5:q.2.phase≠5):RN w x q:=⟨h1,h2,λh=>Wg h h5⟩
theorem WmC{out:Int}:RN w x (Waq w x k out):=by
 unfold Waq;simp only;generalize (if out=2 then []else x.writes)=rows;split
 .exact Wdi rfl rfl (by show(8:Int)≠5;omega)
 .refine⟨rfl,rfl,λ_=>?_⟩;show(Wan ((k:Int)+1) x.rv rows x.reads).phase=1\/_;unfold Wan;simp only;split<;>simp
theorem Wpi(h5:x.phase≠5):RN w x (WB w x k p):=by
 have cf:∀z:Rt,(WO z).phase≠5:=λz=>WcY.2.1;unfold WB;split
 .exact Wdi rfl rfl (by show(6:Int)≠5;omega)
 split
 .unfold Wdf;split
  .exact Wdi rfl rfl h5
  .split
   .exact Wdi rfl rfl h5
   .split
    .exact Wdi rfl rfl h5
    .exact Wdi rfl rfl (by show(1:Int)≠5;omega)
 split
 .rename_i h1;unfold Wdy;split
  .exact WmC
  .simp only;generalize opN p.1 x.pc=o;split
   .exact Wdi rfl rfl (WkF h1).2.1
   .split
    .unfold WbT;split
     .exact WmC
     .split
      .exact Wdi rfl rfl h5
      .exact Wdi rfl rfl h5
    .split
     .exact Wdi rfl rfl (by show(2:Int)≠5;omega)
     .split
      .unfold WbR;cases Wa4 w.holds ((k:Int)+1) (WaK o).1 (WaK o).2 with
       |none=>exact Wdi rfl rfl (cf _)
       |some hs=>exact Wdi rfl rfl h5
      .repeat' split
       all_goals exact Wdi rfl rfl h5
 split
 .refine Wdi rfl rfl ?_;show(WbG x).phase≠5;unfold WbG;split
  .show(6:Int)≠5;omega
  .split
   .show(1:Int)≠5;omega
   .exact h5
 split
 .unfold Wa3;split
  .exact Wdi rfl rfl h5
  .exact Wdi rfl rfl (by show(4:Int)≠5;omega)
 split
 .refine Wdi rfl rfl ?_;show(WaH w x).phase≠5;unfold WaH;simp only;split
  .split
   .show(6:Int)≠5;omega
   .exact h5
  .show(1:Int)≠5;omega
 split
 .split
  .exact Wdi rfl rfl h5
  .exact Wdi rfl rfl (by show(7:Int)≠5;omega)
 split
 .split
  .exact Wdi rfl rfl (by show(0:Int)≠5;omega)
  .exact Wdi rfl rfl (by show(8:Int)≠5;omega)
 .exact Wdi rfl rfl h5
theorem WkA(h5:x.phase=5)(hd:x.doomed=false):(WB w x k p).1.mem=(Wq w.mem x.cm).1/\(WB w x k p).1.hist=Wbh k x.cm (Wq w.mem x.cm).2 w.hist/\(WB w x k p).2=Wae {x with cm:=(Wq w.mem x.cm).2}:=by
 have e:WB w x k p=W8 w x k:=by
  unfold WB;rw[Wa (by omega),Wa (by omega),Wa (by omega),Wa (by omega),Wa (by omega),Wa (by omega),Wb h5]
 rw[e];unfold W8;rw[Wa (by rw[hd];simp)];exact⟨rfl,rfl,rfl⟩
theorem WuS{z:Rt}(h:z.phase≠5):cmX z=none:=by unfold cmX;rw[Wa h]
theorem Wt9(c:Cm):cmX (Wae {x with cm:=c,phase:=5})=cmO c:=by
 by_cases h8:c.phase=8
 .have e:cmO c=none:=by unfold cmO;rw[Wb (.inr h8)]
  rw[e];unfold Wae;rw[Wb h8];exact WuS (by show(6:Int)≠5;omega)
 .by_cases h6:c.phase=6
  .have e:cmO c=none:=by unfold cmO;rw[Wb (.inl h6)]
   rw[e];unfold Wae;rw[Wa h8,Wb h6];exact WuS (by show(if x.fate=2 then(6:Int)else 7)≠5;split<;>omega)
  .have e:cmO c=some c:=by unfold cmO;rw[Wa (by omega)]
   rw[e];unfold Wae;rw[Wa h8,Wa h6];rfl
def Wut(b:Int->Int)(w v:Wo):Prop:=Keep b w.mem w.hist (WcK w.roots) v.mem v.hist (WcK v.roots)
theorem WdC{l:List Rt}(h:MI b w.mem w.hist (WcK w.roots))(e:WcK l=WcK w.roots):Keep b w.mem w.hist (WcK w.roots) w.mem w.hist (WcK l):=by
 rw[e];exact⟨h,λ_ _ _ hx=>hx⟩
theorem WpO{q:Wo×Rt}(h:WOk s.2.1 n w)(hl:LX w)(hx:WX w)(ht:WT w)(hn:n<1000000)(hM:MI b w.mem w.hist (WcK w.roots))(hk:k<w.roots.length)(hq:q=WB {w with now:=w.now+1} w.roots[k] k p)(hr:q.1.roots=w.roots):Wut b w (Wo.put q k):=by
 have hcl:=WsL h hl;have bR:w.mem.1<1000000:=by have:=ht.clk;have:=h.now;omega
 unfold Wut;show Keep b w.mem w.hist (WcK w.roots) q.1.mem q.1.hist (WcK (q.1.roots.set k q.2));rw[hr,WgK hk];have rz:=hx k hk;have hCk:=Wk2 (w:=w) hk;by_cases h5:w.roots[k].phase=5
 .have hC:WcK w.roots k=some w.roots[k].cm:=by rw[hCk];unfold cmX;rw[Wb h5]
  have jD:=(ht.root k hk).cm h5;by_cases hd:w.roots[k].doomed=false
  .obtain⟨e1,e2,e3⟩:=WkA (w:={w with now:=w.now+1}) (x:=w.roots[k]) (k:=k) (p:=p) h5 hd;rw[hq,e1,e2,e3];have ex:({w.roots[k]with cm:=(Wq w.mem w.roots[k].cm).2}:Rt)={w.roots[k]with cm:=(Wq w.mem w.roots[k].cm).2,phase:=5}:=by rw[←h5]
   show Keep b w.mem w.hist (WcK w.roots) (Wq w.mem w.roots[k].cm).1 (Wbh k w.roots[k].cm (Wq w.mem w.roots[k].cm).2 w.hist) (Wdw (WcK w.roots) k (cmX (Wae {w.roots[k]with cm:=(Wq w.mem w.roots[k].cm).2})));rw[ex,Wt9];exact hM.step hcl ((h.root k hk).comm h5) h.mem bR hC jD
  .have cQ:w.roots[k].doomed=true:=by simpa using hd
   have rn:w.roots[k].cm.phase<=3:=by
    rcases rz.doom cQ with e|e
    .omega
    .exact e.2
   have m7:=((h.root k hk).comm h5).phase;have e:WB {w with now:=w.now+1} w.roots[k] k p=({w with now:=w.now+1},if(WA w.roots[k].cm).phase=8 then WcP w.roots[k]else{w.roots[k]with cm:=WA w.roots[k].cm,doomed:=false}):=by
    unfold WB;rw[Wa (by omega),Wa (by omega),Wa (by omega),Wa (by omega),Wa (by omega),Wa (by omega),Wb h5];unfold W8;rw[Wb cQ]
   rw[hq,e];refine Keep.k1 hM (λd ig=>by rw[hC]at ig;cases ig;omega) (λd ig=>?_) rfl (λ_ _ _=>⟨rfl,rfl⟩) (λj d e=>(hcl j d e).1);obtain⟨f1,f2⟩:=WlP ig;by_cases h8:(WA w.roots[k].cm).phase=8
   .simp only[Wb h8]at f1;exact Wg (show(6:Int)=5 from f1) (by omega)
   .simp only[Wa h8]at f2;have:d=WA w.roots[k].cm:=f2;rw[this];unfold WA at h8⊢;split
    .rcases Wdv w.roots[k].cm w.roots[k].cm.pos with e|e<;>omega
    .split
     .rcases Wdv w.roots[k].cm w.roots[k].cm.puts.length with e|e<;>omega
     .omega
 .have hC:WcK w.roots k=none:=by rw[hCk];unfold cmX;rw[Wa h5]
  obtain⟨r1,r2,r3⟩:=Wpi (w:={w with now:=w.now+1}) (k:=k) (p:=p) h5;rw[hq,r1,r2];refine Keep.k1 hM (λd ig=>by rw[hC]at ig;cases ig) (λd ig=>?_) rfl (λ_ _ _=>⟨rfl,rfl⟩) (λj d e=>(hcl j d e).1);obtain⟨f1,f2⟩:=WlP ig;have:=r3 f1;rw[f2];omega
theorem Wr9(h:WOk s.2.1 n w)(hl:LX w)(hx:WX w)(ht:WT w)(hn:n<1000000)(hM:MI b w.mem w.hist (WcK w.roots)):Wut b w (Wde s w a):=by
 have same:∀(k:Nat) (hk:k<w.roots.length) (y:Rt),cmX y=cmX w.roots[k]->WcK (w.roots.set k y)=WcK w.roots:=λk hk y e=>by
  rw[WgK hk,e,←Wk2 hk];funext j;unfold Wdw;split
  .rename_i e;rw[e]
  .rfl
 unfold Wde;simp only;split
 .rename_i hb;have hk:a.2.1.toNat<w.roots.length:=by omega
  rw[Wn hk];split
  .unfold Wid;rw[Wn (show a.2.1.toNat<({w with now:=w.now+1}:Wo).roots.length from hk)];exact WpO h hl hx ht hn hM hk rfl (WhJ h hk)
  .split
   .split
    .exact WdC hM (same _ hk _ rfl)
    .exact WdC hM rfl
   .split
    .split
     .exact WdC hM (same _ hk _ rfl)
     .exact WdC hM rfl
    .exact WdC hM rfl
 .exact WdC hM rfl
end
section
variable{b:Int->Int}{s:Sc}{w v:Wo}{n:Int}{x y:Rt}{k:Nat}{p:Pg}{o:Opn}{a:Ac}{m m':Mm}{H H':List Wr}{C:Nat->Option Cm}{c:Cm}{i:Int}
structure Mono(b:Int->Int)(m:Mm)(H:List Wr)(m':Mm)(H':List Wr):Prop where
 ver:∀i,0<=i->i<=7->(Ws m i).2.1<=(Ws m' i).2.1
 top:∀i,(top (b i) i H).1<(top (b i) i H').1\/top (b i) i H'=top (b i) i H
theorem Mono.refl:Mono b m H m H:=⟨λ_ _ _=>Xo _,λ_=>.inr rfl⟩
theorem Wq0(aJ:CmOk c)(hm:W0 m=true):∀i,0<=i->i<=7->(Ws m i).2.1<=(Ws (Wq m c).1 i).2.1:=λi h0 h7=>by
 have aX:=aJ.phase;have lr:c.phase=1\/c.phase=4\/c.phase=5\/c.phase=7->0<=(Wbu c.puts c.pos (0,0)).1/\(Wbu c.puts c.pos (0,0)).1<=7:=λh=>by
  obtain⟨j,hj,e1,e2,e3,e4⟩:=aJ.put h;rw[e2];exact e3
 unfold Wq;simp only;split
 .split
  .show _<=(Ws (Wiu m _ _) i).2.1;unfold Wiu;rw[Wbs hm (lr (by omega)) ⟨h0,h7⟩];split
   .rename_i e;rw[e];exact Xo _
   .exact Xo _
  .exact Xo _
 split
 .have ht:=Wky hm;have e:∀i,Ws (tick m).1 i=Ws m i:=λi=>by unfold tick;split<;>rfl
  split
  .show _<=(Ws (tick m).1 i).2.1;rw[e];exact Xo _
  .show _<=(Ws (tick m).1 i).2.1;rw[e];exact Xo _
 split
 .split<;>exact Xo _
 split
 .show _<=(Ws (Wb7 m _ _ _) i).2.1;unfold Wb7;split
  .rw[Wbs hm (lr (by omega)) ⟨h0,h7⟩];split
   .rename_i e;rw[e];exact Xo _
   .exact Xo _
  .exact Xo _
 have unl:∀ver,(c.phase=5\/c.phase=7)->(Ws m i).2.1<=(Ws (WaE m (Wbu c.puts c.pos (0,0)).1 c.who ver) i).2.1:=λver h=>by
  unfold WaE;split
  .rename_i hc;rw[Wbs hm (lr (by omega)) ⟨h0,h7⟩];split
   .rename_i e;rw[e];exact hc.2.1
   .exact Xo _
  .exact Xo _
 split
 .exact unl _ (.inl ‹_›)
 split
 .exact unl _ (.inr ‹_›)
 .exact Xo _
theorem Wtc{q:Cm}:∀i,(top (b i) i H).1<(top (b i) i (Wbh k c q H)).1\/top (b i) i (Wbh k c q H)=top (b i) i H:=λi=>by
 unfold Wbh;split
 .unfold top;rw[Wkq];rcases Wkn (i:=i) (v:=2000000) (h:=(q.wv,(k:Int)+1,q.puts)) (bst (b i) i 2000000 H)with e|⟨x,_,_,e2,e3⟩
  .exact .inr e
  .rw[e3];exact .inl e2
 .exact .inr rfl
theorem Wtz{q:Wo×Rt}(h:WOk s.2.1 n w)(hx:WX w)(hk:k<w.roots.length)(hq:q=WB {w with now:=w.now+1} w.roots[k] k p):Mono b w.mem w.hist q.1.mem q.1.hist:=by
 by_cases h5:w.roots[k].phase=5
 .by_cases hd:w.roots[k].doomed=false
  .obtain⟨e1,e2,e3⟩:=WkA (w:={w with now:=w.now+1}) (x:=w.roots[k]) (k:=k) (p:=p) h5 hd;rw[hq,e1,e2];exact⟨Wq0 ((h.root k hk).comm h5) h.mem,Wtc⟩
  .have cQ:w.roots[k].doomed=true:=by simpa using hd
   have e:(WB {w with now:=w.now+1} w.roots[k] k p).1={w with now:=w.now+1}:=by
    unfold WB;rw[Wa (by omega),Wa (by omega),Wa (by omega),Wa (by omega),Wa (by omega),Wa (by omega),Wb h5];unfold W8;rw[Wb cQ]
   rw[hq,e];exact Mono.refl
 .obtain⟨r1,r2,_⟩:=Wpi (w:={w with now:=w.now+1}) (k:=k) (p:=p) h5;rw[hq,r1,r2];exact Mono.refl
theorem Wpk(hM:MI b m H C)(hl:CL2 m C)(h0:0<=i)(h7:i<=7)(ho:owner m i=0):(Ws m i).1=(top (b i) i H).2/\(Ws m i).2.1=(top (b i) i H).1/\∀k c,C k=some c->c.phase=3->pick c.puts i=none:=by
 have bQ:∀k c,C k=some c->¬lkd c i:=λk c hc gQ=>by
  obtain⟨_,e,q⟩:=hl k c hc;have:=(q.own i h0 h7).2 gQ;omega
 obtain⟨e1,e2⟩:=hM.cell i h0 h7 λk c hc _=>bQ k c hc;refine⟨e1,e2,λk c hc h3=>?_⟩;cases hp:pick c.puts i with
 |none=>rfl
 |some x=>
  obtain⟨l,bS,e⟩:=Xam (WhU hp);refine Wg ⟨l,bS,by rw[e],?_⟩ (bQ k c hc);unfold lkA;omega
structure PBs(b:Int->Int)(m:Mm)(H:List Wr)(x:Rt):Prop where
 cell:x.busy=true->0<=x.pb.1/\x.pb.1<=7
 rv:x.busy=true->x.pb.2.2.1<=x.rv
 one:x.busy=true->x.pb.2.1=1->x.pb.2.2.1<=(Ws m x.pb.1).2.1
 two:x.busy=true->x.pb.2.1=2->x.pb.2.2.1<=(top (b x.pb.1) x.pb.1 H).1/\((top (b x.pb.1) x.pb.1 H).1=x.pb.2.2.1->x.pb.2.2.2=(top (b x.pb.1) x.pb.1 H).2)
theorem PBs.no(h:x.busy=false):PBs b m H x:=⟨λe=>(by rw[h]at e;cases e),λe=>(by rw[h]at e;cases e),λe=>(by rw[h]at e;cases e),λe=>(by rw[h]at e;cases e)⟩
theorem PBs.mono(h:PBs b m H x)(hm:Mono b m H m' H'):PBs b m' H' x:=by
 refine⟨h.cell,h.rv,λe h1=>?_,λe h2=>?_⟩
 .have:=h.cell e;have:=h.one e h1;have:=hm.ver x.pb.1 (by omega) (by omega);omega
 .obtain⟨a,d⟩:=h.two e h2;rcases hm.top x.pb.1 with t|t
  .exact⟨by omega,λz=>by omega⟩
  .rw[t];exact⟨a,d⟩
theorem Wwk(bR:m.1<=1000000)(hM:MI b m H C)(hl:CL2 m C){k:Nat}{c:Cm}(hC:C k=some c)(h3:c.phase=3)(di:c.rv<c.wv)(kM:0<=c.rv)(h0:0<=i)(h7:i<=7)(hown:owner m i=0\/owner m i=c.who)(w9:(Ws m i).2.1<=c.rv){v:Int}(hR:RC b m H C c.rv i v):RC b m H C (c.wv-1) i v:=by
 obtain⟨_,fZ,gQ⟩:=hl k c hC;have bQ:∀j d,C j=some d->j≠k->¬lkd d i:=λj d hd hne ga=>by
  obtain⟨_,e,q⟩:=hl j d hd;have:=(q.own i h0 h7).2 ga;omega
 obtain⟨e1,e2⟩:=hM.cell i h0 h7 λj d hd hp=>by
  by_cases e:j=k
  .subst e;rw[hC]at hd;cases hd;omega
  .exact bQ j d hd e
 have hf:=hM.fr k c hC h3;have hle:(bst (b i) i 2000000 H).1<=c.rv:=by unfold top at e2;omega
 refine⟨?_,by omega,λj d hd hp hw=>?_⟩
 .have hv:=hR.val;have hk:=hR.clk;rw[hv,Wlp (v':=2000000) (by omega) H hle,Wlp (v:=c.wv-1) (v':=2000000) (by omega) H (by omega)]
 .by_cases e:j=k
  .subst e;rw[hC]at hd;cases hd;omega
  .cases uF:pick d.puts i with
   |none=>rfl
   |some x=>
    obtain⟨l,bS,e'⟩:=Xam (WhU uF);refine Wg ⟨l,bS,by rw[e'],?_⟩ (bQ j d hd e);unfold lkA;omega
end
section
def lst:List Rw->Int->Option Int
 | [],_=>none
 |r::l,c=>match lst l c with
  |some v=>some v
  |none=>if r.1=c then some r.2 else none
theorem Wse{c:Int}{e:En}:∀{rows:List Rw} {b:List En},Ris cfE b->rows.Pairwise (λa b=>a.1<b.1)->
  (e∈Wbp c b rows↔(∃r∈rows,e=(r.1,r.2,c))\/(e∈b/\∀r∈rows,r.1≠e.1))
 | [],b,_,_=>by unfold Wbp;simp
 |r::rows,b,hb,hr=>by
  obtain⟨kG,ip⟩:=List.pairwise_cons.1 hr;have:=Wse (c:=c) (e:=e) (rows:=rows) (b:=Wfr cfE b (r.1,r.2,c)) (Wct Wt5 hb) ip;unfold Wbp at this⊢;rw[List.foldl_cons,this,WbC Wt5 hb];constructor
  .rintro(⟨r',h1,h2⟩|⟨h1|⟨h1,h2⟩,h3⟩)
   .exact .inl ⟨r',Xe _ h1,h2⟩
   .exact .inl ⟨r,Xh ..,h1⟩
   .refine .inr ⟨h1,λr' bL=>?_⟩;rcases Xr.1 bL with rfl|bL
    .rw[apE]at h2;exactλq=>h2 q.symm
    .exact h3 r' bL
  .rintro(⟨r',h1,h2⟩|⟨h1,h2⟩)
   .rcases Xr.1 h1 with rfl|h1
    .refine .inr ⟨.inl h2,λr'' xa=>?_⟩;have:=kG r'' xa;rw[h2];simp only;omega
    .exact .inl ⟨r',h1,h2⟩
   .refine .inr ⟨.inr ⟨h1,?_⟩,λr' bL=>h2 r' (Xe _ bL)⟩;rw[apE];exactλq=>h2 r (Xh ..) q.symm
def Wtl(f:Fm)(k:Int):List Rw:=(f.kids.getD k.toNat {}).writes
def WcJ(f:Fm)(n:Nat):List Rw:=f.start++((f.order.take n).map (Wtl f)).flatten
theorem Wmu{f f':Fm}{n:Nat}(hs:f'.start=f.start)(ho:f'.order.take n=f.order.take n)(hw:∀k∈f.order,Wtl f' k=Wtl f k):WcJ f' n=WcJ f n:=by
 unfold WcJ;rw[hs,ho];congr 2;exact List.map_congr_left λk hk=>hw k (Xbj hk)
def SN(M:Int->Int->Prop)(f:Fm)(x:Kd):Prop:=∀e∈x.seen,
 (e.2.2= -1/\lst (WcJ f x.since.toNat) e.1=none/\M e.1 e.2.1)\/
 (0<=e.2.2/\e.2.2<=x.since/\lst (WcJ f e.2.2.toNat) e.1=some e.2.1/\lst (WcJ f x.since.toNat) e.1=some e.2.1)
structure FT(M:Int->Int->Prop)(f:Fm):Prop where
 buf:∀e∈f.buf,∀n:Nat,e.2.2<=(n:Int)->n<=f.order.length->lst (WcJ f n) e.1=some e.2.1
 non:∀c:Int,0<=c->c<=7->(∀e∈f.buf,e.1≠c)->∀n:Nat,n<=f.order.length->lst (WcJ f n) c=none
 sn:∀(k:Nat) (h:k<f.kids.length),SN M f f.kids[k]
 nod:f.order.Nodup
 ord:∀k∈f.order,0<=k/\∃h:k.toNat<f.kids.length,f.kids[k.toNat].phase=3
theorem FT.wk{M M':Int->Int->Prop}{f:Fm}(h:FT M f)(hM:∀c v,M c v->M' c v):FT M' f:=
 ⟨h.buf,h.non,λk hk e he=>(h.sn k hk e he).imp (λ⟨a,b,c⟩=>⟨a,b,hM _ _ c⟩) id,h.nod,h.ord⟩
section
variable{M:Int->Int->Prop}{N:Nat}{codes:List (List Opn)}{n:Int}{f:Fm}{k:Nat}{code:List Opn}{m:Mm}{x y:Kd}
theorem Wxz(hk:k<f.kids.length):f.kids.getD k {}=f.kids[k]:=by rw[Xag,Xq hk];rfl
theorem FT.put(h:FT M f)(hk:k<f.kids.length)(hp:f.kids[k].phase≠3){g:Fm}(hs:g.start=f.start)(ho:g.order=f.order)(hb:g.buf=f.buf)(hg:g.kids=f.kids.set k y)(hy:SN M f y):FT M g:=by
 have hw:∀j∈f.order,Wtl g j=Wtl f j:=λj hj=>by
  obtain⟨j0,j1,j2⟩:=h.ord j hj;unfold Wtl;have hne:k≠j.toNat:=λe=>by subst e;exact hp j2
  rw[hg,Xag,Xag,Xdv hne]
 have hr:∀n,WcJ g n=WcJ f n:=λn=>Wmu hs (by rw[ho]) hw;refine⟨λe he n h1 h2=>?_,λc c0 c7 hc n hn=>?_,λj hj e he=>?_,by rw[ho];exact h.nod,λj hj=>?_⟩
 .rw[hr];exact h.buf e (by rw[←hb];exact he) n h1 (by rw[←ho];exact h2)
 .rw[hr];exact h.non c c0 c7 (by rw[←hb];exact hc) n (by rw[←ho];exact hn)
 .rw[hr,hr];have hj':j<f.kids.length:=by rw[hg,Xab]at hj;exact hj
  have bt:g.kids[j]=if k=j then y else f.kids[j]:=by simp only[hg,Xao]
  rw[bt]at he⊢;split at he
  .rename_i e1;rw[Wb e1];exact hy e he
  .rename_i e1;rw[Wa e1];exact h.sn j hj' e he
 .rw[ho]at hj;obtain⟨j0,j1,j2⟩:=h.ord j hj;refine⟨j0,by rw[hg,Xab];exact j1,?_⟩;simp only[hg,Xao];split
  .rename_i e;subst e;exact Wg j2 hp
  .exact j2
theorem SN.nil(h:x.seen= []):SN M f x:=λe he=>by rw[h]at he;cases he
theorem SN.same(h:SN M f x)(hs:y.seen=x.seen)(hq:y.since=x.since):SN M f y:=λe he=>by rw[hq];exact h e (by rw[←hs];exact he)
end
end
section
structure KCe(l:List Opn):Prop where
 len:l.length<=24
 up:Up l
 z:dep l l.length=0
 ok:∀i (h:i<l.length),Wd1 l[i]=true/\1<=l[i].1/\l[i].1<=10
 sk:∀i (h:i<l.length),l[i].1=7->i+1+l[i].2.2.1.toNat<=l.length/\bal ((l.take (i+1+l[i].2.2.1.toNat)).drop (i+1))=true
noncomputable def mt(l:List Opn)(m:Nat):Nat:=@dite _ (∃k,Mate l m k) (Classical.propDecidable _) (λh=>Classical.choose h) λ_=>0
theorem Wve{l:List Opn}{m k:Nat}(h:Mate l m k):Mate l m (mt l m):=by
 have hx:∃k,Mate l m k:=⟨k,h⟩;unfold mt;rw[dif_pos hx];exact Classical.choose_spec hx
theorem Mate.uniq{l:List Opn}{m k k':Nat}(h:Mate l m k)(h':Mate l m k'):k=k':=by
 rcases Nat.lt_trichotomy k k' with hl|hl|hl
 .exact Wg h.eq (h'.ne k (by have:=h.lt;omega) hl)
 .exact hl
 .exact Wg h'.eq (h.ne k' (by have:=h'.lt;omega) hl)
theorem Wxc{l:List Opn}{m k:Nat}(h:Mate l m k):mt l m=k:=(Wve h).uniq h
abbrev Mk:=Int×Int×List Int
structure KS where
 regs:List Int
 cells:List Int
 log:List Rw
 back:Int
 marks:List Mk
 reads:List Int
def zMk:Mk:=(0,0,[])
def Wum(s:KS):Mk:=s.marks.getD (s.marks.length-1) zMk
def Wxa(l:List Opn)(i:Nat):Opn:=l.getD i (0,0,0,0)
noncomputable def WuF(l:List Opn)(pc:Nat)(s:KS)(o:Opn):Bool×Nat×KS:=
 bif o.1==5 then(true,pc+1,{s with regs:=s.regs.set o.2.1.toNat (s.cells.getD o.2.2.1.toNat 0),reads:=bif s.log.any (λr=>r.1==o.2.2.1)then s.reads else s.reads++ [o.2.2.1]})else
 bif o.1==6 then(true,pc+1,{s with cells:=s.cells.set o.2.1.toNat (s.regs.getD o.2.2.1.toNat 0),log:=s.log++ [(o.2.1,s.cells.getD o.2.1.toNat 0)]})else
 bif o.1==7 then(true,bif s.regs.getD o.2.1.toNat 0==0 then pc+1+o.2.2.1.toNat else pc+1,s)else
 bif o.1==8 then(true,pc+1,{s with marks:=s.marks++ [((pc:Int),(s.log.length:Int),s.regs)]})else
 bif o.1==9 then(true,pc+1,{s with marks:=s.marks.take (s.marks.length-1),regs:=s.regs.set (Wxa l (Wum s).1.toNat).2.1.toNat 1})else
 bif o.1==10 then
  (bif s.marks.isEmpty then(false,pc,{s with cells:=Wxl s.cells s.log,log:=[],back:=s.back+s.log.length})
  else(true,mt l (Wum s).1.toNat+1,{s with cells:=Wxl s.cells (s.log.drop (Wum s).2.1.toNat),log:=s.log.take (Wum s).2.1.toNat,back:=s.back+s.log.length-(Wum s).2.1,marks:=s.marks.take (s.marks.length-1),regs:=(Wum s).2.2.set (Wxa l (Wum s).1.toNat).2.1.toNat 0}))
 else(true,pc+1,{s with regs:=Wnf o s.regs})
noncomputable def Wew(l:List Opn)(pc:Nat)(s:KS):Bool×Nat×KS:=WuF l pc s (Wxa l pc)
structure KI(l:List Opn)(pc:Nat)(s:KS):Prop where
 pcl:pc<=l.length
 rg:Vals 4 s.regs
 cl:Vals 8 s.cells
 lg:WfW s.log/\s.log.length<=pc
 mp:s.marks.map (·.1)=(stk l pc).map λm:Nat=>(m:Int)
 mr:∀m∈s.marks,Vals 4 m.2.2/\0<=m.2.1/\m.2.1<=s.log.length
 mo:s.marks.Pairwise λa b=>a.2.1<=b.2.1
 bk:0<=s.back/\s.back<=24*pc
 rd:s.reads.length<=pc/\∀x∈s.reads,0<=x/\x<=7
theorem Wv0{l:List Opn}{i:Nat}(h:i<l.length):Wxa l i=l[i]:=Wn h _
section
variable{l:List Opn}{pc:Nat}{s:KS}
theorem Wvc(hc:KCe l)(h:KI l pc s)(hne:s.marks≠ []):∃(m:Nat) (q:List Mk) (x:Mk),s.marks=q++ [x]/\Wum s=x/\x.1=(m:Int)/\(∃hm:m<l.length,l[m].1=8)/\Mate l m (mt l m)/\pc<=mt l m/\stk l m=(stk l pc).dropLast/\q.map (·.1)=(stk l m).map λm:Nat=>(m:Int):=by
 rcases Wbn s.marks with h0|⟨q,x,hq⟩
 .exact Wg h0 hne
 .have hm:=h.mp;rw[hq,Xu,Xak,Xbp]at hm;rcases Wbn (stk l pc)with h0|⟨t,m,ht⟩
  .rw[h0]at hm;simp at hm
  .rw[ht,Xu,Xak,Xbp]at hm;obtain⟨e1,e2⟩:=List.append_inj' hm rfl;injection e2 with e2;obtain⟨k,k1,k2,k3⟩:=Wr0 hc.up hc.z h.pcl ht;have k4:=Wxc k2;obtain⟨_,h8,_,_⟩:=WhW pc h.pcl t [] m ht;refine⟨m,q,x,hq,?_,e2,h8,by rw[k4];exact k2,by omega,by rw[ht,List.dropLast_concat];exact k3,by rw[k3];exact e1⟩;unfold Wum;rw[hq];simp
theorem WtS(hc:KCe l)(h:KI l pc s)(hp:pc<l.length):
  ((Wew l pc s).1=true->pc<(Wew l pc s).2.1/\KI l (Wew l pc s).2.1 (Wew l pc s).2.2)/\
  ((Wew l pc s).1=false->(Wew l pc s).2.2.log= []/\Vals 8 (Wew l pc s).2.2.cells/\Vals 4 (Wew l pc s).2.2.regs/\(Wew l pc s).2.2.reads.length<=24/\∀x∈(Wew l pc s).2.2.reads,0<=x/\x<=7):=by
 obtain⟨ho,k1,k2⟩:=hc.ok pc hp;have ha:=Wv0 hp;have hlen:=hc.len;unfold Wew;rw[ha];unfold WuF;by_cases k5:l[pc].1=5
 .have b:(l[pc].1==5)=true:=by simp[k5]
  obtain⟨o1,o2⟩:=WvW ho k5;have an:0<=l[pc].2.2.1/\l[pc].2.2.1<=7:=by unfold Waf at o2;simpa using o2
  simp only[b,Wc];refine⟨λ_=>⟨by omega,⟨hp,h.rg.set _ (h.cl.get _),h.cl,⟨h.lg.1,by have:=h.lg.2;simp only[];omega⟩,by simp only[];rw[Weo hp (by omega) (by omega)];exact h.mp,h.mr,h.mo,⟨h.bk.1,by have:=h.bk.2;simp only[];omega⟩,?_⟩⟩,λh=>by simp at h⟩;have hr:=h.rd;simp only[];cases s.log.any λr=>r.1==l[pc].2.2.1
  .simp only[We,Xz,Xs,Xcn];refine⟨by omega,λx hx=>?_⟩;rcases Xm.1 hx with hx|hx
   .exact hr.2 x hx
   .have:x=l[pc].2.2.1:=by simpa using hx
    rw[this];exact an
  .exact⟨by simp only[Wc];omega,hr.2⟩
 .have b5:(l[pc].1==5)=false:=by simp[k5]
  rw[b5];by_cases k6:l[pc].1=6
  .have b:(l[pc].1==6)=true:=by simp[k6]
   obtain⟨o1,o2⟩:=Wwe ho k6;have an:0<=l[pc].2.1/\l[pc].2.1<=7:=by unfold Waf at o1;simpa using o1
   simp only[b,Wc,We];refine⟨λ_=>⟨by omega,⟨hp,h.rg,h.cl.set _ (h.rg.get _),⟨λr hr=>?_,?_⟩,by simp only[];rw[Weo hp (by omega) (by omega)];exact h.mp,λm hm=>?_,h.mo,⟨h.bk.1,by have:=h.bk.2;simp only[];omega⟩,⟨by have:=h.rd.1;simp only[];omega,h.rd.2⟩⟩⟩,λh=>by simp at h⟩
   .rcases Xm.1 hr with hr|hr
    .exact h.lg.1 r hr
    .have:r=(l[pc].2.1,s.cells.getD l[pc].2.1.toNat 0):=by simpa using hr
     rw[this];exact⟨an,h.cl.get _⟩
   .have:=h.lg.2;simp only[Xz,Xs,Xcn];omega
   .have:=h.mr m hm;refine⟨this.1,this.2.1,?_⟩;simp only[Xz,Xs,Xcn];omega
  .have b6:(l[pc].1==6)=false:=by simp[k6]
   rw[b6];by_cases k7:l[pc].1=7
   .have b:(l[pc].1==7)=true:=by simp[k7]
    obtain⟨o1,o2,o3⟩:=Wvm ho k7;obtain⟨s1,s2⟩:=hc.sk pc hp k7;simp only[b,Wc,We];refine⟨λ_=>?_,λh=>by simp at h⟩;have e1:stk l (pc+1)=stk l pc:=Weo hp (by omega) (by omega);cases s.regs.getD l[pc].2.1.toNat 0==0
    .simp only[We];exact⟨by omega,⟨hp,h.rg,h.cl,⟨h.lg.1,by have:=h.lg.2;omega⟩,by rw[e1];exact h.mp,h.mr,h.mo,⟨h.bk.1,by have:=h.bk.2;omega⟩,⟨by have:=h.rd.1;omega,h.rd.2⟩⟩⟩
    .simp only[Wc];exact⟨by omega,⟨s1,h.rg,h.cl,⟨h.lg.1,by have:=h.lg.2;omega⟩,by rw[WkE (by omega) s1 s2,e1];exact h.mp,h.mr,h.mo,⟨h.bk.1,by have:=h.bk.2;omega⟩,⟨by have:=h.rd.1;omega,h.rd.2⟩⟩⟩
   .have b7:(l[pc].1==7)=false:=by simp[k7]
    rw[b7];by_cases k8:l[pc].1=8
    .have b:(l[pc].1==8)=true:=by simp[k8]
     simp only[b,Wc,We];refine⟨λ_=>⟨by omega,⟨hp,h.rg,h.cl,⟨h.lg.1,by have:=h.lg.2;simp only[];omega⟩,?_,λm hm=>?_,?_,⟨h.bk.1,by have:=h.bk.2;simp only[];omega⟩,⟨by have:=h.rd.1;simp only[];omega,h.rd.2⟩⟩⟩,λh=>by simp at h⟩
     .simp only[Xu,Xak,Xbp,h.mp,Wjv hp k8]
     .rcases Xm.1 hm with hm|hm
      .exact h.mr m hm
      .have:m=((pc:Int),(s.log.length:Int),s.regs):=by simpa using hm
       rw[this];exact⟨h.rg,by simp only[];omega,by simp only[];omega⟩
     .refine Xah.2 ⟨h.mo,List.pairwise_singleton ..,λa ha b hb=>?_⟩;have:b=((pc:Int),(s.log.length:Int),s.regs):=by simpa using hb
      rw[this];exact(h.mr a ha).2.2
    .have b8:(l[pc].1==8)=false:=by simp[k8]
     rw[b8];by_cases k9:l[pc].1=9
     .have b:(l[pc].1==9)=true:=by simp[k9]
      simp only[b,Wc,We];have cC:∀m,m∈s.marks.take (s.marks.length-1)->m∈s.marks:=λm hm=>Xbj hm;refine⟨λ_=>⟨by omega,⟨hp,h.rg.set _ (by omega),h.cl,⟨h.lg.1,by have:=h.lg.2;simp only[];omega⟩,?_,λm hm=>h.mr m (cC m hm),h.mo.sublist (List.take_sublist _ _),⟨h.bk.1,by have:=h.bk.2;simp only[];omega⟩,⟨by have:=h.rd.1;simp only[];omega,h.rd.2⟩⟩⟩,λh=>by simp at h⟩;simp only[];rw[Wlz hp k9,List.map_take,h.mp,←List.map_take];congr 1;have:s.marks.length=(stk l pc).length:=by have:=Wl List.length h.mp;simpa using this
      rw[this,List.dropLast_eq_take]
     .have b9:(l[pc].1==9)=false:=by simp[k9]
      rw[b9];by_cases k10:l[pc].1=10
      .have b:(l[pc].1==10)=true:=by simp[k10]
       simp only[b,Wc,We];by_cases hne:s.marks= []
       .have:s.marks.isEmpty=true:=by rw[hne];rfl
        rw[this];refine⟨λh=>by simp at h,λ_=>⟨rfl,Wn8 h.cl h.lg.1,h.rg,by have:=h.rd.1;simp only[Wc];omega,h.rd.2⟩⟩
       .have:s.marks.isEmpty=false:=by cases hm:s.marks with|nil=>exact Wg hm hne|cons a b=>rfl
        rw[this];obtain⟨m,q,x,hq,ht,hx,⟨hm,h8⟩,cg,fy,aH,mf⟩:=Wvc hc h hne;have wR:x∈s.marks:=by rw[hq];simp
        obtain⟨x1,x2,x3⟩:=h.mr x wR;have ch:∀y∈q,y.2.1<=x.2.1:=by
         have:=h.mo;rw[hq]at this
         exactλy hy=>(Xah.1 this).2.2 y hy x (by simp)
        have jv:s.marks.take (s.marks.length-1)=q:=by rw[hq];simp
        simp only[We,ht,hx,jv,Xj];have xb:((s.log.take x.2.1.toNat).length:Int)=x.2.1:=by rw[Xba];omega
        have wS:=h.bk;have hlg:=h.lg.2;refine⟨λ_=>⟨by omega,⟨cg.len,x1.set _ (by omega),Wn8 h.cl λr hr=>h.lg.1 r (List.mem_of_mem_drop hr),⟨λr hr=>h.lg.1 r (Xbj hr),?_⟩,?_,λy hy=>?_,?_,⟨by simp only[];omega,by simp only[];omega⟩,⟨by have:=h.rd.1;simp only[];omega,h.rd.2⟩⟩⟩,λh=>by simp at h⟩
        .simp only[];rw[Xba];omega
        .simp only[];rw[mf,cg.st]
        .obtain⟨y1,y2,y3⟩:=h.mr y (by rw[hq];simp[hy]);exact⟨y1,y2,by rw[xb];exact ch y hy⟩
        .have:=h.mo;rw[hq]at this;exact(Xah.1 this).1
      .have aN:(l[pc].1==10)=false:=by simp[k10]
       rw[aN];simp only[We];exact⟨λ_=>⟨by omega,⟨hp,WhS ho k1 (by omega) h.rg,h.cl,⟨h.lg.1,by have:=h.lg.2;simp only[];omega⟩,by simp only[];rw[Weo hp (by omega) (by omega)];exact h.mp,h.mr,h.mo,⟨h.bk.1,by have:=h.bk.2;simp only[];omega⟩,⟨by have:=h.rd.1;simp only[];omega,h.rd.2⟩⟩⟩,λh=>by simp at h⟩
end
noncomputable def WuY(l:List Opn):Nat->Nat->KS->Bool×KS
 |0,_,s=>(false,s)
 |n+1,pc,s=>bif decide (pc<l.length)then(bif (Wew l pc s).1 then WuY l n (Wew l pc s).2.1 (Wew l pc s).2.2 else(true,(Wew l pc s).2.2))else(false,s)
def ks0(regs cells:List Int):KS:=⟨regs,cells,[],0,[],[]⟩
section
variable{N:Nat}{l:List Opn}{regs cells:List Int}
end
section
variable{N:Nat}{l:List Opn}{R:Type}
end
end
section
def ovl(c:List Int)(rows:List Rw):List Int:=rows.foldl (λc r=>c.set r.1.toNat r.2) c
theorem Wtg{c:Int}:∀{l:List Rw} {A:List Int},Vals 8 A->WfW l->0<=c->c<=7->(ovl A l).getD c.toNat 0=match lst l c with|some v=>v|none=>A.getD c.toNat 0
 | [],A,_,_,_,_=>rfl
 |r::l,A,hA,hr,h0,h7=>by
  have kM:=hr r (Xh ..);have ih:=Wtg (c:=c) (l:=l) (A:=A.set r.1.toNat r.2) (hA.set r.1.toNat kM.2) (λx hx=>hr x (Xe _ hx)) h0 h7;show(ovl (A.set r.1.toNat r.2) l).getD c.toNat 0=_;rw[ih,lst];cases lst l c with
  |some v=>rfl
  |none=>
   simp only;by_cases hc:r.1=c
   .rw[Wb hc,←hc,Xag,Xfx (by rw[hA.len];omega)];rfl
   .rw[Wa hc,Xag,Xag,Xdv (by omega)]
def Wxx:List Int->List Rw->List Rw
 |_,[]=>[]
 |A,r::l=>(r.1,A.getD r.1.toNat 0)::Wxx (A.set r.1.toNat r.2) l
structure EM(A:List Int)(x:Kd)(s:KS):Prop where
 regs:s.regs=x.regs
 cells:s.cells=ovl A x.writes
 log:s.log=Wxx A x.writes
 marks:s.marks=x.marks
def Sim(code:List Opn)(r0:List Int)(x:Kd):Prop:=∀A:List Int,Vals 8 A->(∀e∈x.seen,A.getD e.1.toNat 0=e.2.1)->∀F:Nat,25<=F->
 (x.phase=0/\∃(j:Nat) (s:KS),(j:Int)<=x.pc/\EM A x s/\KI code x.pc.toNat s/\WuY code F 0 (ks0 r0 A)=WuY code (F-j) x.pc.toNat s)\/
 (x.phase≠0/\((x.out=1/\∃s:KS,s.regs=x.regs/\s.cells=ovl A x.writes/\WuY code F 0 (ks0 r0 A)=(false,s))\/(x.out=2/\x.writes= []/\∃s,s.cells=A/\WuY code F 0 (ks0 r0 A)=(true,s))))
section
variable{M:Int->Int->Prop}{N:Nat}{codes:List (List Opn)}{n:Int}{f:Fm}{k:Nat}{code:List Opn}{m:Mm}{x y:Kd}{r0:List Int}
theorem Sim.same(h:Sim code r0 x)(h0:y.phase=x.phase)(hp:y.pc=x.pc)(hg:y.regs=x.regs)(hw:y.writes=x.writes)(hm:y.marks=x.marks)(hs:y.seen=x.seen)(ho:y.out=x.out):Sim code r0 y:=λA hA lY F hF=>by
 rcases h A hA (λe he=>lY e (by rw[hs];exact he)) F hF with⟨a,j,s,b,c,d,e⟩|⟨a,⟨b,s,c,c',d⟩|⟨b,c,s,d,e⟩⟩
 .exact .inl ⟨by rw[h0];exact a,j,s,by rw[hp];exact b,⟨by rw[hg];exact c.regs,by rw[hw];exact c.cells,by rw[hw];exact c.log,by rw[hm];exact c.marks⟩,by rw[hp];exact d,by rw[hp];exact e⟩
 .exact .inr ⟨by rw[h0];exact a,.inl ⟨by rw[ho];exact b,s,by rw[hg];exact c,by rw[hw];exact c',d⟩⟩
 .exact .inr ⟨by rw[h0];exact a,.inr ⟨by rw[ho];exact b,by rw[hw];exact c,s,d,e⟩⟩
theorem Wvq{F j pc:Nat}{s s':KS}{cE:Nat}(hF:j+1<=F)(hp:pc<code.length)(h:Wew code pc s=(true,cE,s')):WuY code (F-j) pc s=WuY code (F-(j+1)) cE s':=by
 rw[show F-j=(F-(j+1))+1 by omega,WuY,h];simp[hp]
theorem Sim.go(hc:KCe code)(h:Sim code r0 x)(h0:x.phase=0)(gY:0<=x.pc)(hp:x.pc.toNat<code.length)(tT:y.phase=0)(Aw:0<=y.pc)(cC:∀e∈x.seen,e∈y.seen)
  (gH:∀A s,Vals 8 A->(∀e∈y.seen,A.getD e.1.toNat 0=e.2.1)->EM A x s->KI code x.pc.toNat s->∃s',Wew code x.pc.toNat s=(true,y.pc.toNat,s')/\EM A y s'):Sim code r0 y:=λA hA lY F hF=>by
 rcases h A hA (λe he=>lY e (cC e he)) F hF with⟨_,j,s,b,c,d,e⟩|⟨a,_⟩
 .obtain⟨s',e1,e2⟩:=gH A s hA lY c d;have qG:=(WtS hc d hp).1 (by rw[e1]);rw[e1]at qG;have hlen:=hc.len;refine .inl ⟨tT,j+1,s',?_,e2,qG.2,?_⟩
  .have:=qG.1;simp only at this;omega
  .rw[e,Wvq (by omega) hp e1]
 .exact Wg h0 a
theorem EM.cell{A:List Int}{s:KS}(h:EM A x s)(hA:Vals 8 A)(hr:WfW x.writes){c:Int}(h0:0<=c)(h7:c<=7):s.cells.getD c.toNat 0=match lst x.writes c with|some v=>v|none=>A.getD c.toNat 0:=by
 rw[h.cells,Wtg hA hr h0 h7]
end
end
section
section
variable{M:Int->Int->Prop}{N:Nat}{codes:List (List Opn)}{n:Int}{f g:Fm}{k:Nat}{code:List Opn}{m:Mm}{x y:Kd}{r0:List Int}
def VL(f:Fm)(x:Kd):Prop:=∀j:Nat,(j:Int)<x.pos->∀h:j<x.seen.length,Wsf f.buf x.seen[j].1=x.seen[j].2.2
structure FV(M:Int->Int->Prop)(codes:List (List Opn))(f:Fm):Prop where
 sim:∀(k:Nat) (h:k<f.kids.length),Sim (codes.getD k []) f.regs f.kids[k]
 own:∀(k:Nat) (h:k<f.kids.length),f.kids[k].phase=2->f.owner=(k:Int)+1
 val:∀(k:Nat) (h:k<f.kids.length),f.kids[k].phase=2->VL f f.kids[k]
 pz:∀(k:Nat) (h:k<f.kids.length),f.kids[k].phase≠2->f.kids[k].pos=0
 mrg:∀(i:Nat) (h:i<f.order.length),∀e∈(f.kids.getD f.order[i].toNat {}).seen,lst (WcJ f i) e.1=some e.2.1\/(lst (WcJ f i) e.1=none/\M e.1 e.2.1)
theorem FV.put(hv:FV M codes f)(h:FT M f)(hk:k<f.kids.length)(hp:f.kids[k].phase≠3)(hs:g.start=f.start)(ho:g.order=f.order)(hb:g.buf=f.buf)(hg:g.kids=f.kids.set k y)(hr:g.regs=f.regs)
  (xc:Sim (codes.getD k []) f.regs y) (hown:∀(j:Nat) (hj:j<f.kids.length),j≠k->f.kids[j].phase=2->g.owner=(j:Int)+1) (hy:y.phase=2->g.owner=(k:Int)+1/\VL f y) (AX:y.phase≠2->y.pos=0):FV M codes g:=by
 have bt:∀(j:Nat) (hj:j<g.kids.length) (hj':j<f.kids.length),g.kids[j]=if k=j then y else f.kids[j]:=λj hj hj'=>by simp only[hg,Xao]
 have hlen:g.kids.length=f.kids.length:=by rw[hg,Xab]
 have hne:∀j∈f.order,k≠j.toNat:=λj hj e=>by
  obtain⟨j0,j1,j2⟩:=h.ord j hj;subst e;exact hp j2
 have nW:∀j∈f.order,g.kids.getD j.toNat {}=f.kids.getD j.toNat {}:=λj hj=>by
  rw[hg,Xag,Xag,Xdv (hne j hj)]
 have jH:∀n,WcJ g n=WcJ f n:=λn=>Wmu hs (by rw[ho]) λj hj=>by unfold Wtl;rw[nW j hj]
 refine⟨λj hj=>?_,λj hj ff=>?_,λj hj ff=>?_,λj hj ff=>?_,λi hi e he=>?_⟩
 .rw[bt j hj (by omega),hr];split
  .rename_i e;subst e;exact xc
  .exact hv.sim j (by omega)
 .rw[bt j hj (by omega)]at ff;split at ff
  .rename_i e;subst e;exact(hy ff).1
  .rename_i e;exact hown j (by omega) (λq=>e q.symm) ff
 .rw[bt j hj (by omega)]at ff⊢;unfold VL;rw[hb];split at ff
  .rename_i e;rw[Wb e];exact(hy ff).2
  .rename_i e;rw[Wa e];exact hv.val j (by omega) ff
 .rw[bt j hj (by omega)]at ff⊢;split at ff
  .rename_i e;rw[Wb e];exact AX ff
  .rename_i e;rw[Wa e];exact hv.pz j (by omega) ff
 .have gI:i<f.order.length:=by rw[←ho];exact hi
  have e1:g.order[i]=f.order[i]:=by simp only[ho]
  rw[e1,nW _ (Xp gI)]at he;rw[jH];exact hv.mrg i gI e he
end
end
section
section
variable{M:Int->Int->Prop}{Z:Pb->Prop}{N:Nat}{codes:List (List Opn)}{n:Int}{f g:Fm}{k:Nat}{code:List Opn}{m:Mm}{x y:Kd}{rv:Int}
def PK(Z:Pb->Prop)(code:List Opn)(f:Fm)(x:Kd):Prop:=x.busy=true->x.phase=0/\x.pc<code.length/\(opN code x.pc).1=5/\Z x.pb/\x.pb.1=(opN code x.pc).2.2.1/\Wbg x.writes (opN code x.pc).2.2.1=none/\∀e∈f.buf,e.1=(opN code x.pc).2.2.1->x.since<e.2.2
def ZS(M:Int->Int->Prop)(Z Z':Pb->Prop)(m:Mm)(rv:Int):Prop:=∀(c:Int) (p:Pb),0<=c->c<=7->(p=(c,0,0,0)\/(Z p/\p.1=c))->
 (WW m rv p).2.1=4\/((WW m rv p).2.1=3/\M c (WW m rv p).2.2.2)\/((WW m rv p).2.1≠3/\Z' (WW m rv p)/\(WW m rv p).1=c)
theorem PK.no(h:x.busy=false):PK Z code f x:=λe=>by rw[h]at e;cases e
theorem PK.buf(h:PK Z code f x)(hb:g.buf=f.buf\/∃rows,rows.Pairwise (λa b:Rw=>a.1<b.1)/\g.buf=Wbp (f.clock+1) f.buf rows)(hF:Ris cfE f.buf)(hs:x.since<=f.clock):PK Z code g x:=λhx=>by
 obtain⟨a,b,c,d,e,f1,f2⟩:=h hx;refine⟨a,b,c,d,e,f1,λz hz hc=>?_⟩;rcases hb with hb|⟨rows,hr,hb⟩
 .rw[hb]at hz;exact f2 z hz hc
 .rw[hb]at hz;rcases(Wse hF hr).1 hz with⟨r,_,rfl⟩|⟨h1,_⟩
  .simp only;omega
  .exact f2 z h1 hc
theorem PK.same(h:PK Z code f x)(hb:y.busy=x.busy)(h1:x.busy=true->y.phase=x.phase/\y.pc=x.pc/\y.pb=x.pb/\y.writes=x.writes/\y.since=x.since):PK Z code f y:=λhy=>by
 rw[hb]at hy;obtain⟨a1,a2,a3,a4,a5⟩:=h1 hy;rw[a1,a2,a3,a4,a5];exact h hy
structure FP(M:Int->Int->Prop)(Z:Pb->Prop)(codes:List (List Opn))(f:Fm):Prop where
 ft:FT M f
 pk:f.lost=false->∀(k:Nat) (h:k<f.kids.length),PK Z (codes.getD k []) f f.kids[k]
end
end
section
section
variable{M:Int->Int->Prop}{Z:Pb->Prop}{N:Nat}{codes:List (List Opn)}{n:Int}{f g:Fm}{k:Nat}{code:List Opn}{m:Mm}{x y:Kd}{rv:Int}{base:List Int}
structure FZ(f:Fm):Prop where
 st:WfW f.start/\f.start.length<=300
 l3:f.kids.length<=3
 wr:∀x∈f.kids,WfW x.writes/\x.writes.length<=300
 sn:∀x∈f.kids,x.seen.length<=300/\0<=x.since/\x.since<=300/\∀e∈x.seen,0<=e.1/\e.1<=7
 ord:f.order.length<=300/\∀k∈f.order,0<=k/\k<f.kids.length
theorem FZ.of{nQ:List Rw}(h:FT M f)(hF:FOk codes n f)(h3:codes.length<=3)(hcl:∀c∈codes,c.length<=24)(hs:f.start=Wco nQ):FZ f:=by
 have hl:=hF.len;have hk:∀x∈f.kids,∃c:List Opn,c.length<=24/\KOk c f.clock n x:=λx hx=>by
  obtain⟨i,hi,rfl⟩:=List.mem_iff_getElem.1 hx;refine⟨_,?_,hF.kid i hi⟩;rw[Xag,Xq (by omega)];exact hcl _ (Xp _)
 have hcl:=hF.clock;have ho:=hF.len3 h3;refine⟨by rw[hs];exact⟨WeP,by have:=Wfo nQ;omega⟩,by omega,λx hx=>?_,λx hx=>?_,by omega,λk hk=>?_⟩
 .obtain⟨c,h1,h2⟩:=hk x hx;have:=h2.wl;have:=h2.pc;exact⟨h2.rows,by omega⟩
 .obtain⟨c,h1,h2⟩:=hk x hx;have:=h2.sl;have:=h2.pc;have:=h2.since;exact⟨by omega,by omega,by omega,λe he=>(h2.seen e he).1⟩
 .obtain⟨a,b,_⟩:=h.ord k hk;omega
theorem FZ.rows(h:FZ f)(n:Nat):WfW (WcJ f n):=by
 unfold WcJ;intro r hr;rcases Xm.1 hr with hr|hr
 .exact h.st.1 r hr
 .obtain⟨l,hl,hr⟩:=List.mem_flatten.1 hr;obtain⟨k,hk,rfl⟩:=List.mem_map.1 hl;obtain⟨a,b⟩:=h.ord.2 k (Xbj hk);unfold Wtl at hr;rw[Wxz (k:=k.toNat) (by omega)]at hr;exact(h.wr _ (Xp _)).1 r hr
theorem FZ.kid(h:FZ f){i:Nat}(hi:i<f.order.length):∃hk:(f.order[i]).toNat<f.kids.length,Wtl f f.order[i]=f.kids[(f.order[i]).toNat].writes/\0<=f.order[i]:=by
 obtain⟨a,b⟩:=h.ord.2 _ (Xp hi);have hk:(f.order[i]).toNat<f.kids.length:=by omega
 refine⟨hk,?_,a⟩;unfold Wtl;rw[Wxz hk]
end
end
section
section
variable{b:Int->Int}{s:Sc}{w v:Wo}{n:Int}{x y:Rt}{k:Nat}{p:Pg}{o:Opn}{m m':Mm}{H H':List Wr}{C C':Nat->Option Cm}{c:Cm}{i rv:Int}{f:Fm}{codes:List (List Opn)}{code:List Opn}
def ZW(b:Int->Int)(m:Mm)(H:List Wr)(rv:Int)(p:Pb):Prop:=
 (0<=p.1/\p.1<=7)/\p.2.2.1<=rv/\(p.2.1=1/\p.2.2.1<=(Ws m p.1).2.1\/p.2.1=2/\p.2.2.1<=(top (b p.1) p.1 H).1/\((top (b p.1) p.1 H).1=p.2.2.1->p.2.2.2=(top (b p.1) p.1 H).2))
theorem ZW.mono{p:Pb}(h:ZW b m H rv p)(hm:Mono b m H m' H'):ZW b m' H' rv p:=by
 obtain⟨h1,h2,h3⟩:=h;refine⟨h1,h2,h3.imp (λ⟨a,c⟩=>⟨a,?_⟩) λ⟨a,c,d⟩=>⟨a,?_⟩⟩
 .have:=hm.ver p.1 h1.1 h1.2;omega
 .rcases hm.top p.1 with t|t
  .exact⟨by omega,λz=>by omega⟩
  .rw[t];exact⟨c,d⟩
theorem WxA(hM:MI b m H C)(hl:CL2 m C)(bR:m.1<=1000000)(di:0<=rv/\rv<=m.1):ZS (RC b m H C rv) (ZW b m H rv) (ZW b m H rv) m rv:=λc q h0 h7 hq=>by
 have ec:∀r:Pb,r.1=c->Xc m.2 (Xb r.1) ((0:Int),((0:Int),(0:Int)))=Ws m c:=λr hr=>by rw[hr];rfl
 have hfree:=λhz=>Wpk (i:=c) hM hl h0 h7 hz;unfold owner at hfree;have ng:q.1=c:=by
  rcases hq with rfl|⟨_,h⟩
  .rfl
  .exact h
 unfold WW;simp only[ec q ng,WG,WaP];rcases hq with rfl|⟨⟨wU,AY,uG⟩,_⟩
 .rw[Wb rfl];split
  .split
   .exact .inr (.inr ⟨by show(1:Int)≠3;omega,⟨⟨h0,h7⟩,‹_›,.inl ⟨rfl,Xo _⟩⟩,rfl⟩)
   .exact .inl rfl
  .exact .inl rfl
 .rw[ng]at uG;rcases uG with⟨h1,h1b⟩|⟨h2,h2b,AZ⟩
  .rw[Wa (by omega),Wb h1];refine .inr (.inr ⟨by show(2:Int)≠3;omega,⟨wU,AY,.inr ⟨rfl,?_⟩⟩,ng⟩);show q.2.2.1<=(top (b q.1) q.1 H).1/\((top (b q.1) q.1 H).1=q.2.2.1->(Ws m c).1=(top (b q.1) q.1 H).2);rw[ng];by_cases aH:∀k d,C k=some d->d.phase=4\/d.phase=5->¬lkd d c
   .obtain⟨a1,a2⟩:=hM.cell c h0 h7 aH;exact⟨by omega,λ_=>a1⟩
   .have:∃k d,C k=some d/\(d.phase=4\/d.phase=5)/\lkd d c:=by
     apply Classical.byContradiction;intro bQ;exact aH λk d hc hp gQ=>bQ ⟨k,d,hc,hp,gQ⟩
    obtain⟨k,d,hc,hp,j,hj,ej,lU⟩:=this;obtain⟨s1,s2,_⟩:=hM.sto k d hc hp j hj lU;rw[ej]at s1 s2;rw[s1];exact⟨by simp only;omega,λz=>by simp only at z;omega⟩
  .rw[Wa (by omega),Wa (by omega),Wb h2];split
   .rename_i hown;split
    .rename_i w9;right;left;obtain⟨a1,a2,a3⟩:=hfree hown;refine⟨rfl,⟨?_,by omega,λk d hc h3 _=>a3 k d hc h3⟩⟩;show q.2.2.2=_;have hle:(bst (b c) c 2000000 H).1<=rv:=by
      have:(top (b c) c H).1=q.2.2.1:=by omega
      unfold top at this;omega
     rw[Wlp (v':=2000000) (by omega) H hle];exact AZ (by omega)
    .exact .inl rfl
   .exact .inl rfl
theorem PK.wk{Z Z':Pb->Prop}{q:Kd}(h:PK Z code f q)(hz:∀p,Z p->Z' p):PK Z' code f q:=λe=>by
 obtain⟨a,b,c,d,r⟩:=h e;exact⟨a,b,c,hz _ d,r⟩
structure FB(M:Int->Int->Prop)(Z:Pb->Prop)(codes:List (List Opn))(f:Fm):Prop where
 fp:FP M Z codes f
 rd:∀r∈f.reads,M r.1 r.2
theorem FP.wk{M M':Int->Int->Prop}{Z Z':Pb->Prop}(h:FP M Z codes f)(hM:∀c v,M c v->M' c v)(hz:∀p,Z p->Z' p):FP M' Z' codes f:=
 ⟨h.ft.wk hM,λhl k hk=>(h.pk hl k hk).wk hz⟩
theorem FB.wk{M M':Int->Int->Prop}{Z Z':Pb->Prop}(h:FB M Z codes f)(hM:∀c v,M c v->M' c v)(hz:∀p,Z p->Z' p):FB M' Z' codes f:=⟨h.fp.wk hM hz,λr hr=>hM _ _ (h.rd r hr)⟩
structure RO(b:Int->Int)(m:Mm)(H:List Wr)(C:Nat->Option Cm)(p:Pg)(x:Rt):Prop where
 rv:0<=x.rv/\x.rv<=m.1
 rows:x.phase=0\/5<=x.phase->WfW x.reads/\x.reads.length<=300
 rd:∀r∈x.reads,RC b m H C x.rv r.1 r.2
 pb:x.busy=true->x.phase=1/\x.pc<p.1.length/\(opN p.1 x.pc).1=5/\ZW b m H x.rv x.pb/\x.pb.1=(opN p.1 x.pc).2.2.1/\Wbg x.writes (opN p.1 x.pc).2.2.1=none
 ext:x.phase=4->x.rv<=x.newRv/\x.newRv<=m.1/\∀(i:Nat) (h:i<x.reads.length),(i:Int)<x.pos->RC b m H C x.newRv x.reads[i].1 x.reads[i].2
 fam:x.phase=2->x.fam.rv=x.rv/\(∃rows,x.fam.start=Wco rows)/\FB (RC b m H C x.rv) (ZW b m H x.rv) p.2 x.fam
 fam0:x.phase≠2->x.fam={}
theorem RO.keep(h:RO b m H C p x)(hK:∀v i z,RC b m H C v i z->RC b m' H' C' v i z)(hm:Mono b m H m' H')(h1:m.1<=m'.1):RO b m' H' C' p x:=
 ⟨⟨h.rv.1,by have:=h.rv.2;omega⟩,h.rows,λr hr=>hK _ _ _ (h.rd r hr),λhb=>by
  obtain⟨a,c,d,e,g⟩:=h.pb hb;exact⟨a,c,d,e.mono hm,g⟩,λh4=>by
  obtain⟨a,c,d⟩:=h.ext h4;exact⟨a,by omega,λi hi hp=>hK _ _ _ (d i hi hp)⟩,λh2=>by
  obtain⟨a,c,d⟩:=h.fam h2;exact⟨a,c,d.wk (λ_ _=>hK _ _ _) λ_ hz=>hz.mono hm⟩,h.fam0⟩
theorem RO.nil(h0:0<=m.1)(di:0<=y.rv/\y.rv<=m.1)(jC:y.reads= [])(hb:y.busy=false)(hp:y.phase≠2)(A0:y.phase≠4)(hf:y.fam={}):RO b m H C p y:=
 ⟨di,λ_=>by rw[jC];exact⟨(λr hr=>by cases hr),by simp⟩,λr hr=>(by rw[jC]at hr;cases hr),λz=>(by rw[hb]at z;cases z),λz=>Wg z A0,λz=>Wg z hp,λ_=>hf⟩
end
end
section
def kvC(n:Int):List Opn:=[(5,0,0,0),(1,1,n,0),(2,0,0,1),(6,0,0,0)]
def ad(v n:Int):Int:=(v+n)%65536
def ksT(n v t:Int):Nat->List Int×List En×List Rw
 |0=>([0,0,0,0],[],[])
 |1=>([v,0,0,0],[(0,v,t)],[])
 |2=>([v,n,0,0],[(0,v,t)],[])
 |3=>([ad v n,n,0,0],[(0,v,t)],[])
 |_=>([ad v n,n,0,0],[(0,v,t)],[(0,ad v n)])
def kdT(nv:Nat->Int)(f:Fm)(j:Nat):Int:=if(f.kids.getD j {}).phase=3 then nv j else 0
def kdS(nv:Nat->Int)(f:Fm):Int:=kdT nv f 0+kdT nv f 1+kdT nv f 2
structure KK(A:Int->Prop)(Z:Pb->Prop)(n:Int)(f:Fm)(j:Nat)(x:Kd):Prop where
 marks:x.marks= []
 st:∃(v t:Int) (pc:Nat),pc<=4/\x.pc=pc/\x.regs=(ksT n v t pc).1/\x.seen=(ksT n v t pc).2.1/\x.writes=(ksT n v t pc).2.2/\
  (1<=pc->(t= -1/\A v)\/(1<=t/\t<=f.clock/\(t=f.clock->f.buf= [(0,v,t)])))/\(x.phase≠0->pc=4/\x.out=1)/\(x.phase=2->x.pos=1->Wsf f.buf 0=t)
 busy:x.busy=true->x.pc=0/\x.since=0/\Z x.pb/\x.pb.1=0
 own:x.phase=2->f.owner=(j:Int)+1
 pos:x.phase<=1->x.pos=0
def KB(A:Int->Prop)(nv:Nat->Int)(f:Fm):Prop:=
 (f.clock=0/\f.buf= []/\f.reads= []/\kdS nv f=0)\/
 (1<=f.clock/\∃(a:Int) (j:Nat),A a/\f.reads= [(0,a)]/\f.buf= [(0,ad a (kdS nv f),f.clock)]/\j<3/\f.order.getLast?=some (j:Int)/\(f.kids.getD j {}).phase=3/\(f.kids.getD j {}).out=1/\(f.kids.getD j {}).regs= [ad a (kdS nv f),nv j,0,0])
structure KF(A:Int->Prop)(Z:Pb->Prop)(nv:Nat->Int)(f:Fm):Prop where
 len:f.kids.length=3
 regs:f.regs= [0,0,0,0]
 buf:KB A nv f
 kid:∀j,j<3->KK A Z (nv j) f j (f.kids.getD j {})
variable{A A':Int->Prop}{Z Z':Pb->Prop}{nv:Nat->Int}{f g:Fm}{x y:Kd}{j k:Nat}{n v t:Int}{m:Mm}{codes:List (List Opn)}
theorem KK.wk(h:KK A Z n f j x)(hA:∀v,A v->A' v)(hZ:∀p,Z p->Z' p):KK A' Z' n f j x:=by
 obtain⟨v,t,pc,h1,h2,h3,h4,h5,h7,h8⟩:=h.st;exact⟨h.marks,⟨v,t,pc,h1,h2,h3,h4,h5,λz=>(h7 z).imp (λz=>⟨z.1,hA _ z.2⟩) id,h8⟩,λz=>by obtain⟨a,b,c,d⟩:=h.busy z;exact⟨a,b,hZ _ c,d⟩,h.own,h.pos⟩
theorem KF.wk(h:KF A Z nv f)(hA:∀v,A v->A' v)(hZ:∀p,Z p->Z' p):KF A' Z' nv f:=
 ⟨h.len,h.regs,h.buf.imp id λ⟨a,v,j,b,c⟩=>⟨a,v,j,hA _ b,c⟩,λj hj=>(h.kid j hj).wk hA hZ⟩
theorem KK.beside(h:KK A Z n f j x)(hx:x.phase=2->g.owner=f.owner/\g.buf=f.buf)(hc:g.clock=f.clock/\g.buf=f.buf\/f.clock<g.clock):KK A Z n g j x:=by
 obtain⟨v,t,pc,h1,h2,h3,h4,h5,h7,h8,h9⟩:=h.st;refine⟨h.marks,⟨v,t,pc,h1,h2,h3,h4,h5,λz=>(h7 z).imp id λ⟨a,b,c⟩=>?_,h8,λz=>by rw[(hx z).2];exact h9 z⟩,h.busy,λz=>by rw[(hx z).1];exact h.own z,h.pos⟩;rcases hc with⟨e1,e2⟩|e
 .rw[e1,e2];exact⟨a,b,c⟩
 .exact⟨a,by omega,λz=>by omega⟩
theorem WuM(hl:f.kids.length=3)(hk:k<3)(i:Nat):(g.kids=f.kids.set k y)->g.kids.getD i {}=if k=i then y else f.kids.getD i {}:=λe=>by
 rw[e,Xag,List.getElem?_set];split
 .rw[Wb (by omega)];rfl
 .rw[Xag]
theorem Wv5(hv:0<=v/\v<=65535):Wco [(0,v)]= [(0,v)]:=by
 have hr:Wa9 [(0,v)]=true:=by
  unfold Wa9 Wlr Waf Wbj;simp;omega
 have e:∀i:Int,Wbg [(0,v)] i=if i=0 then some v else none:=λi=>by
  unfold Wbg;rw[Wb hr];show WcB [(0,v)] i 1=_;unfold WcB;show(if(0:Int)=i then some v else WcB [(0,v)] i 0)=_;unfold WcB;by_cases h0:i=0
  .rw[Wb h0.symm,Wb h0]
  .rw[Wa (λh=>h0 h.symm),Wa h0]
 rw[Wiv];simp only[e];rfl
theorem WiW(h:KF A Z nv f)(hk:k<3)(e1:g.kids=f.kids.set k y)(e2:g.regs=f.regs)(e3:g.clock=f.clock)(e4:g.buf=f.buf)(e5:g.reads=f.reads)(e6:g.order=f.order)(h3:(f.kids.getD k {}).phase≠3)(hy:y.phase≠3)(ho:g.owner=f.owner\/∀i,i<3->k≠i->(f.kids.getD i {}).phase≠2)(hK:KK A Z (nv k) g k y):KF A Z nv g:=by
 have hg:=λi=>WuM (y:=y) h.len hk i e1;have ht:∀i,kdT nv g i=kdT nv f i:=λi=>by
  unfold kdT;rw[hg i];by_cases e:k=i
  .subst e;rw[Wb rfl,Wa hy,Wa h3]
  .rw[Wa e]
 have hS:kdS nv g=kdS nv f:=by unfold kdS;rw[ht,ht,ht]
 refine⟨by rw[e1,Xab];exact h.len,e2.trans h.regs,?_,λi hi=>?_⟩
 .rcases h.buf with⟨a,b,c,d⟩|⟨a,v,j,b,d,r,l,q⟩
  .exact .inl ⟨e3.trans a,e4.trans b,e5.trans c,hS.trans d⟩
  .refine .inr ⟨by omega,v,j,b,e5.trans d,?_⟩;have dU:k≠j:=λz=>by subst z;exact h3 q.2.1
   rw[hS,e3,e4,e6,hg j,Wa dU];exact⟨r,l,q⟩
 .rw[hg i];by_cases e:k=i
  .subst e;rw[Wb rfl];exact hK
  .rw[Wa e];refine(h.kid i hi).beside (λz=>⟨?_,e4⟩) (.inl ⟨e3,e4⟩);rcases ho with o|o
   .exact o
   .exact Wg z (o i hi e)
theorem Wo9(hr:f.regs= [0,0,0,0]):KK A Z n g j (f.again x):=
 ⟨rfl,⟨0,0,0,by omega,rfl,hr,rfl,rfl,λz=>by omega,λz=>Wg rfl z,λz=>by cases z⟩,(λz=>by cases z),(λz=>by cases z),λ_=>rfl⟩
theorem WtK(h:KF A Z nv f)(hn:∀i,0<=nv i/\nv i<=65535)(hk:k<3)(hF:FOk codes n f)(hz:ZS (λc v=>c=0->A v) Z Z m f.rv)(fe:f.lost=false)(iT:(Wbx m f k (kvC (nv k))).lost=false):KF A Z nv (Wbx m f k (kvC (nv k))):=by
 revert iT;unfold Wbx;rw[Wa (by rw[fe];simp)];have hx:=h.kid k hk;have xd:0<=(f.kids.getD k {}).since/\(f.kids.getD k {}).since<=f.clock/\0<=(f.kids.getD k {}).pos/\(f.kids.getD k {}).pos<=(f.kids.getD k {}).seen.length/\0<=(f.kids.getD k {}).phase:=by
  have cu:k<f.kids.length:=by have:=h.len;omega
  have:=hF.kid k cu;rw[Wn cu];exact⟨this.since.1,this.since.2,this.pos.1,this.pos.2,this.phase.1⟩
 generalize kx:f.kids.getD k {}=x at hx xd;obtain⟨v,t,pc,h1,h2,h3,h4,h5,h7,h8,h9⟩:=hx.st;have nb:pc≠0->x.busy=true->False:=λz hb=>by have:=(hx.busy hb).1;omega
 unfold Wdu;by_cases p0:x.phase=0
 .rw[Wb p0];have hpos:=hx.pos (by omega);have go:∀y:Kd,y.phase<=1->KK A Z (nv k) f k y->(Fm.put (f,y) k).lost=false->KF A Z nv (Fm.put (f,y) k):=λy hy hK _=>
   WiW (k:=k) (y:=y) h hk rfl rfl rfl rfl rfl rfl (by rw[kx];omega) (by omega) (.inl rfl) (hK.beside (λ_=>⟨rfl,rfl⟩) (.inl ⟨rfl,rfl⟩))
  have nx:∀(y:Kd) (v' t':Int) (cE:Nat),y.marks= []->y.phase=0->y.busy=false->y.pos=0->cE<=4->y.pc=cE->y.regs=(ksT (nv k) v' t' cE).1->y.seen=(ksT (nv k) v' t' cE).2.1->y.writes=(ksT (nv k) v' t' cE).2.2->(1<=cE->(t'= -1/\A v')\/(1<=t'/\t'<=f.clock/\(t'=f.clock->f.buf= [(0,v',t')])))->(Fm.put (f,y) k).lost=false->KF A Z nv (Fm.put (f,y) k):=λy v' t' cE y1 y2 y3 y4 y5 y6 y7 y8 y9 yV=>
   go y (by omega) ⟨y1,⟨v',t',cE,y5,y6,y7,y8,y9,yV,λz=>Wg y2 z,λz=>by omega⟩,(λz=>by rw[y3]at z;cases z),(λz=>by omega),λ_=>y4⟩
  unfold WpB;have hcl:(kvC (nv k)).length=4:=rfl;by_cases e4:pc=4
  .rw[Wb (by omega)];refine go _ (by show(1:Int)<=1;omega) ⟨hx.marks,⟨v,t,pc,h1,h2,h3,h4,h5,h7,λ_=>⟨e4,rfl⟩,λz=>by cases z⟩,(λz=>(nb (by omega) z).elim),(λz=>by cases z),λ_=>hpos⟩
  rw[Wa (by omega)];have hb:pc≠0->x.busy=false:=λz=>by
   cases hb:x.busy
   .rfl
   .exact(nb z hb).elim
  have aL:pc=0\/pc=1\/pc=2\/pc=3:=by omega
  rcases aL with e|e|e|e<;>subst e
  .have eo:opN (kvC (nv k)) x.pc=(5,0,0,0):=by rw[h2];rfl
   simp only[eo];rw[Wb trivial];change x.regs= [0,0,0,0]at h3;change x.seen= []at h4;change x.writes= []at h5;unfold WdM;have el:Wbg x.writes 0=none:=by rw[h5];rfl
   simp only[el];rcases h.buf with⟨a,b,c,d⟩|⟨a,u,j,b,d,r,l⟩
   .have ee:ent f.buf 0=none:=by rw[b];rfl
    simp only[ee];have hq:=hz 0 (if x.busy=true then x.pb else(0,0,0,0)) (by omega) (by omega) (by
     by_cases hb:x.busy=true
     .rw[Wb hb];exact .inr (hx.busy hb).2.2
     .rw[Wa hb];exact .inl rfl)
    generalize WW m f.rv _=q at*;by_cases q4:q.2.1=4
    .rw[Wb q4];intro z;cases z
    .rw[Wa q4];by_cases q3:q.2.1=3
     .rw[Wb q3];have hA:A q.2.2.2:=by
       rcases hq with z|⟨_,z⟩|⟨z,_⟩
       .exact Wg z q4
       .exact z rfl
       .exact Wg q3 z
      exact nx _ q.2.2.2 (-1) 1 hx.marks p0 rfl hpos (by omega) (by show x.pc+1=_;omega) (by show WjU x.regs 0 _=_;rw[h3];rfl) (by show x.seen++_=_;rw[h4];rfl) h5 λ_=>.inl ⟨rfl,hA⟩
     .rw[Wa q3];have hA:Z q/\q.1=0:=by
       rcases hq with z|⟨z,_⟩|⟨_,z⟩
       .exact Wg z q4
       .exact Wg z q3
       .exact z
      exact go _ (by show x.phase<=1;omega) ⟨hx.marks,⟨v,t,0,h1,h2,h3,h4,h5,(λz=>by omega),(λz=>Wg p0 z),λz=>by(change x.phase=2 at z);omega⟩,(λ_=>⟨h2,by show x.since=0;omega,hA.1,hA.2⟩),(λz=>by(change x.phase=2 at z);omega),λ_=>hpos⟩
   .have ee:ent f.buf 0=some (0,(0,ad u (kdS nv f),f.clock)):=by rw[r];rfl
    simp only[ee];split
    .exact go _ (by show(0:Int)<=1;omega) (Wo9 h.regs)
    .rename_i l0;exact nx _ (ad u (kdS nv f)) f.clock 1 hx.marks p0 (by show x.busy=false;cases hb:x.busy with|false=>rfl|true=>have:=(hx.busy hb).2.1;(change ¬f.clock>x.since at l0);omega) hpos (by omega) (by show x.pc+1=_;omega) (by show WjU x.regs 0 _=_;rw[h3];rfl) (by show x.seen++_=_;rw[h4];rfl) h5 λ_=>.inr ⟨a,Xo _,λ_=>r⟩
  .have eo:opN (kvC (nv k)) x.pc=(1,1,nv k,0):=by rw[h2];rfl
   simp only[eo];rw[Wa (by omega),Wa (by omega),Wa (by omega),Wa (by omega),Wa (by omega),Wa (by omega)];exact nx _ v t 2 hx.marks p0 (hb (by omega)) hpos (by omega) (by show x.pc+1=_;omega) (by simp only[h3];rfl) h4 h5 λ_=>h7 (by omega)
  .have eo:opN (kvC (nv k)) x.pc=(2,0,0,1):=by rw[h2];rfl
   simp only[eo];rw[Wa (by omega),Wa (by omega),Wa (by omega),Wa (by omega),Wa (by omega),Wa (by omega)];exact nx _ v t 3 hx.marks p0 (hb (by omega)) hpos (by omega) (by show x.pc+1=_;omega) (by simp only[h3];rfl) h4 h5 λ_=>h7 (by omega)
  .have eo:opN (kvC (nv k)) x.pc=(6,0,0,0):=by rw[h2];rfl
   simp only[eo];rw[Wa (by omega),Wa (by omega),Wb trivial];exact nx _ v t 4 hx.marks p0 (hb (by omega)) hpos (by omega) (by show x.pc+1=_;omega) h3 h4 (by show x.writes++ [(0,Wbu x.regs 0 0)]=_;rw[h5,h3];rfl) λ_=>h7 (by omega)
 rw[Wa p0];obtain⟨e4,yW⟩:=h8 p0;subst e4;have wX:x.busy=false:=by
  cases hb:x.busy
  .rfl
  .exact(nb (by omega) hb).elim
 have st:∀(g:Fm) (y:Kd),y.marks= []->y.pc=x.pc->y.regs=x.regs->y.seen=x.seen->y.writes=x.writes->y.out=x.out->y.busy=x.busy->(g.clock=f.clock/\g.buf=f.buf\/f.clock<g.clock)->(y.phase=2->y.pos=1->Wsf g.buf 0=t)->(y.phase=2->g.owner=(k:Int)+1)->2<=y.phase->KK A Z (nv k) g k y:=λg y y1 y2 y3 y4 y5 y6 y7 y8 y9 A1 yV=>by
  refine⟨y1,⟨v,t,4,h1,y2.trans h2,y3.trans h3,y4.trans h4,y5.trans h5,λz=>(h7 (by omega)).imp id λ⟨a,b,c⟩=>?_,λ_=>⟨rfl,y6.trans yW⟩,y9⟩,(λz=>by rw[y7,wX]at z;cases z),A1,λz=>by omega⟩;rcases y8 with⟨e1,e2⟩|e
  .rw[e1,e2];exact⟨a,b,c⟩
  .exact⟨a,by omega,λz=>by omega⟩
 by_cases p1:x.phase=1
 .rw[Wb p1];have hpos:=hx.pos (by omega);by_cases ho:f.owner=0
  .rw[Wb ho];intro _;refine WiW (k:=k) (y:={x with phase:=2}) h hk rfl rfl rfl rfl rfl rfl (by rw[kx];omega) (by show(2:Int)≠3;omega) (.inr λi hi _ z=>?_) (st _ _ hx.marks rfl rfl rfl rfl rfl rfl (.inl ⟨rfl,rfl⟩) (λ_ z=>by(change x.pos=1 at z);omega) (λ_=>rfl) (Xo _));have:=(h.kid i hi).own z;omega
  .rw[Wa ho];intro _;exact WiW (k:=k) (y:=x) h hk rfl rfl rfl rfl rfl rfl (by rw[kx];omega) (by omega) (.inl rfl) (hx.beside (λ_=>⟨rfl,rfl⟩) (.inl ⟨rfl,rfl⟩))
 rw[Wa p1];by_cases p2:x.phase=2
 .rw[Wb p2];have hown:=hx.own p2;have tU:∀i,i<3->k≠i->(f.kids.getD i {}).phase≠2:=λi hi hne z=>by
   have:=(h.kid i hi).own z;omega
  change x.regs= [ad v (nv k),nv k,0,0]at h3;change x.seen= [(0,v,t)]at h4;change x.writes= [(0,ad v (nv k))]at h5;rw[h4]at xd;change _/\_/\_/\x.pos<=1/\_ at xd;have hsl:(x.seen.length:Int)=1:=by rw[h4];rfl
  by_cases hp:x.pos=x.seen.length
  .rw[Wb hp];intro _;have uH:=h9 p2 (by omega);unfold WcL;have en:Wco x.writes= [(0,ad v (nv k))]:=by rw[h5];exact Wv5 (by unfold ad;omega)
   rw[en];generalize hy:({x with phase:=3,pos:=0,marks:=[]}:Kd)=y;generalize hg:Fm.put ({f with clock:=f.clock+1,buf:=Wbp (f.clock+1) f.buf [(0,ad v (nv k))],reads:=f.reads++WaX x.seen,order:=f.order++ [(k:Int)],owner:=0},y) k=g;have g1:g.kids=f.kids.set k y:=by rw[←hg];rfl
   have gc:g.clock=f.clock+1:=by rw[←hg];rfl
   have gb:g.buf=Wbp (f.clock+1) f.buf [(0,ad v (nv k))]:=by rw[←hg];rfl
   have gr:g.reads=f.reads++WaX [(0,v,t)]:=by rw[←hg,←h4];rfl
   have go:g.order=f.order++ [(k:Int)]:=by rw[←hg];rfl
   have y3:y.phase=3:=by rw[←hy]
   have xe:=λi=>WuM (y:=y) h.len hk i g1;have ht:∀i,kdT nv g i=kdT nv f i+if k=i then nv k else 0:=λi=>by
    unfold kdT;rw[xe i];by_cases e:k=i
    .subst e;rw[Wb rfl,Wb rfl,Wb y3,kx,Wa (by omega)];omega
    .rw[Wa e,Wa e];omega
   have hS:kdS nv g=kdS nv f+nv k:=by
    unfold kdS;rw[ht,ht,ht];have:k=0\/k=1\/k=2:=by omega
    rcases this with e|e|e<;>subst e<;>simp<;>omega
   refine⟨by rw[g1,Xab];exact h.len,by rw[←hg];exact h.regs,.inr ?_,λi hi=>?_⟩
   .have hl:g.order.getLast?=some (k:Int):=by rw[go];simp
    have iW:g.kids.getD k {}=y:=by rw[xe k,Wb rfl]
    have yr:y.regs= [ad v (nv k),nv k,0,0]:=by rw[←hy];exact h3
    have yo:y.out=1:=by rw[←hy];exact yW
    rw[gc,gb,gr,hS];rcases h.buf with⟨a,b,c,d⟩|⟨a,u,j,b,d,r,l⟩
    .rw[b]at uH⊢;have wM:t= -1:=uH.symm;have hA:A v:=by
      rcases h7 (by omega)with z|z
      .exact z.2
      .omega
     refine⟨by omega,v,k,hA,by rw[c,wM];rfl,?_,hk,hl,?_⟩
     .rw[d,Xgk];rfl
     .rw[iW,d,Xgk];exact⟨y3,yo,yr⟩
    .have xf:t=f.clock:=by rw[r]at uH;exact uH.symm
     have hb:=(show _ from(h7 (by omega)).resolve_left (λz=>by omega)).2.2 xf;rw[r]at hb;have hv:ad u (kdS nv f)=v:=by injection hb with q _;injection q with _ q;injection q
     have hu:ad v (nv k)=ad u (kdS nv f+nv k):=by rw[←hv];unfold ad;omega
     refine⟨by omega,u,k,b,?_,?_,hk,hl,?_⟩
     .rw[d,WaX,List.filter_cons_of_neg (by simp;omega)];rfl
     .rw[r,←hu];rfl
     .rw[iW,←hu];exact⟨y3,yo,yr⟩
   .rw[xe i];by_cases e:k=i
    .subst e;rw[Wb rfl];exact st g y (by rw[←hy]) (by rw[←hy]) (by rw[←hy]) (by rw[←hy]) (by rw[←hy]) (by rw[←hy]) (by rw[←hy]) (.inr (by omega)) (λz=>by omega) (λz=>by omega) (by omega)
    .rw[Wa e];exact(h.kid i hi).beside (λz=>Wg z (tU i hi e)) (.inr (by omega))
  .rw[Wa hp];have gY:x.pos=0:=by omega
   have eg:Wbu x.seen x.pos (0,0,0)=(0,v,t):=by rw[gY,h4];rfl
   simp only[eg];by_cases he:Wsf f.buf 0=t
   .rw[Wb he];intro _;exact WiW (k:=k) (y:={x with pos:=x.pos+1}) h hk rfl rfl rfl rfl rfl rfl (by rw[kx];omega) (by show x.phase≠3;omega) (.inl rfl) (st _ _ hx.marks rfl rfl rfl rfl rfl rfl (.inl ⟨rfl,rfl⟩) (λ_ _=>he) (λ_=>hown) (by show 2<=x.phase;omega))
   .rw[Wa he];intro _;exact WiW (k:=k) h hk rfl rfl rfl rfl rfl rfl (by rw[kx];omega) (by show(0:Int)≠3;omega) (.inr tU) (Wo9 h.regs)
 .rw[Wa p2];intro _;have cu:k<f.kids.length:=by have:=h.len;omega
  have e:f.kids.set k x=f.kids:=by rw[←kx,Wn cu];exact List.set_getElem_self _
  have:Fm.put (f,x) k=f:=by unfold Fm.put;rw[e]
  rw[this];exact h
end
section
structure KPg where
 p:Pg
 f:Int->Int
 run:(Int->Int)->Mm->List Wr->(Nat->Option Cm)->Rt->Prop
 G:Int->List Int->List Int->Prop
variable{b:Int->Int}{s:Sc}{w v:Wo}{n:Int}{x y:Rt}{k:Nat}{m m':Mm}{H H':List Wr}{C C':Nat->Option Cm}{d:KPg}{a c:Int}
def CK(d:KPg)(b:Int->Int)(m:Mm)(H:List Wr)(C:Nat->Option Cm)(x:Rt)(c:Cm):Prop:=
 ∃(a:Int) (l:List Int),pick c.puts 0=some (d.f a)/\c.reads=0::l/\RC b m H C c.rv 0 a/\0<=c.rv/\d.G (d.f a) x.order x.regs/\(c.phase=3->c.rv<c.wv/\(1<=c.pos->RC b m H C (c.wv-1) 0 a))
theorem CK.keep{c:Cm}(h:CK d b m H C x c)(hK:∀v i x,RC b m H C v i x->RC b m' H' C' v i x):CK d b m' H' C' x c:=by
 obtain⟨a,l,e1,e2,e3,e4,e5,e6⟩:=h;exact⟨a,l,e1,e2,hK _ _ _ e3,e4,e5,λz=>⟨(e6 z).1,λy=>hK _ _ _ ((e6 z).2 y)⟩⟩
def cmK(x:Rt):Prop:=(x.phase=5/\(x.cm.phase=4\/x.cm.phase=5))\/(x.phase=7/\x.fate=1)\/x.phase=8
def GK(d:KPg)(H:List Wr)(k:Nat)(x:Rt):Prop:=∃e∈H,e.2.1=(k:Int)+1/\∃y,pick e.2.2 0=some y/\d.G y x.order x.regs
structure KR(b:Int->Int)(m:Mm)(H:List Wr)(C:Nat->Option Cm)(d:KPg)(k:Nat)(x:Rt):Prop where
 mrk:x.marks= []
 un:x.undos= []
 ph:x.phase=0\/x.phase=1\/x.phase=2\/x.phase=5\/x.phase=6\/x.phase=7\/x.phase=8
 run:x.phase=1\/x.phase=2->d.run b m H C x
 cm:x.phase=5->x.fate=1/\CK d b m H C x x.cm
 f6:x.phase=6->x.fate=0
 f7:x.phase=7->x.fate=0\/x.fate=1
 f8:x.phase=8->x.fate=1
 gd:cmK x->GK d H k x
def OK(d:KPg)(b:Int->Int)(m:Mm)(H:List Wr)(C:Nat->Option Cm)(y:Rt):Prop:=
 y.marks= []/\y.undos= []/\((y.phase=6/\y.fate=0)\/((y.phase=1\/y.phase=2)/\d.run b m H C y)\/(y.phase=5/\y.fate=1/\y.cm.phase=1/\CK d b m H C y y.cm))
structure KPgOk(d:KPg):Prop where
 keep:∀{b m H C m' H' C' x},d.run b m H C x->(∀v i z,RC b m H C v i z->RC b m' H' C' v i z)->Mono b m H m' H'->m.1<=m'.1->d.run b m' H' C' x
 doom:∀{b m H C x},d.run b m H C x->d.run b m H C {x with doomed:=true}
 start:∀{b m H C t i},0<=m.1->d.run b m H C {phase:=1,tries:=t,rv:=m.1,began:=i,regs:=[0,0,0,0]}
 step:∀{b w C x k},x.phase=1->x.marks= []->x.undos= []->d.run b w.mem w.hist C x->MI b w.mem w.hist C->CL2 w.mem C->w.mem.1<=1000000->WfW x.reads->∃y,Wdy w x k d.p=(w,y)/\OK d b w.mem w.hist C y
 fork:∀{b m H C x n},x.phase=2->x.marks= []->x.undos= []->d.run b m H C x->FOk d.p.2 n x.fam->OK d b m H C (WbG x)
 kid:∀{b m H C x n j},x.phase=2->d.run b m H C x->FOk d.p.2 n x.fam->MI b m H C->CL2 m C->m.1<=1000000->j<d.p.2.length->d.run b m H C {x with fam:=Wbx m x.fam j (d.p.2.getD j [])}
theorem Wgm(h:¬(x.phase=5/\(x.cm.phase=4\/x.cm.phase=5)))(h7:¬(x.phase=7/\x.fate=1))(h8:x.phase≠8):¬cmK x:=λhc=>by
 rcases hc with z|z|z
 .exact h z
 .exact h7 z
 .exact h8 z
theorem Wtm{z:Int}(h:x.phase=z)(h5:z≠5)(h7:z≠7)(h8:z≠8):¬cmK x:=Wgm (λq=>by omega) (λq=>by omega) (by omega)
theorem KR.keep(ok:KPgOk d)(h:KR b m H C d k x)(hK:∀v i x,RC b m H C v i x->RC b m' H' C' v i x)(hm:Mono b m H m' H')(h1:m.1<=m'.1)(hH:∀e∈H,e∈H'):KR b m' H' C' d k x:=
 ⟨h.mrk,h.un,h.ph,λz=>ok.keep (h.run z) hK hm h1,λz=>⟨(h.cm z).1,(h.cm z).2.keep hK⟩,h.f6,h.f7,h.f8,λz=>by obtain⟨e,he,r⟩:=h.gd z;exact⟨e,hH e he,r⟩⟩
theorem WjW(hm:x.marks= [])(hu:x.undos= [])(hp:x.phase=0\/x.phase=6)(hf:x.fate=0):KR b m H C d k x:=
 ⟨hm,hu,by omega,λz=>by omega,λz=>by omega,λz=>hf,λz=>by omega,λz=>by omega,λz=>Wg z (Wgm (by omega) (by omega) (by omega))⟩
def BkH(b:Int->Int)(w:Wo)(x:Rt)(k:Nat)(d:KPg)(q:Wo×Rt)(C':Nat->Option Cm):Prop:=
 (q.1.hist=w.hist/\(cmK q.2↔cmK x))\/
 (∃(a wv:Int) (l:List Rw),q.1.hist=w.hist++ [(wv,(k:Int)+1,l)]/\pick l 0=some (d.f a)/\RC b q.1.mem q.1.hist C' (wv-1) 0 a/\¬cmK x/\cmK q.2/\∀h∈w.hist,h.1≠wv)
def QK(b:Int->Int)(w:Wo)(x:Rt)(k:Nat)(d:KPg)(q:Wo×Rt)(C':Nat->Option Cm):Prop:=KR b q.1.mem q.1.hist C' d k q.2/\BkH b w x k d q C'
theorem WwP(ok:KPgOk d)(h:OK d b m H C y)(hK:∀v i x,RC b m H C v i x->RC b m H C' v i x):KR b m H C' d k y/\¬cmK y:=by
 obtain⟨h1,h2,⟨p,f⟩|⟨p,r⟩|⟨p,f,c,r⟩⟩:=h
 .exact⟨WjW h1 h2 (.inr p) f,Wtm p (by omega) (by omega) (by omega)⟩
 .have hn:¬cmK y:=Wgm (by omega) (by omega) (by omega);exact⟨⟨h1,h2,by omega,λ_=>ok.keep r hK Mono.refl (Xo _),λz=>by omega,λz=>by omega,λz=>by omega,λz=>by omega,λz=>Wg z hn⟩,hn⟩
 .have hn:¬cmK y:=Wgm (by omega) (by omega) (by omega);exact⟨⟨h1,h2,by omega,λz=>by omega,λ_=>⟨f,r.keep hK⟩,λz=>by omega,λz=>by omega,λz=>by omega,λz=>Wg z hn⟩,hn⟩
theorem Wsl(h:KR b m H C d k x)(h5:x.phase=5){c':Cm}(hf:x.fate=1)(ln:CK d b m' H' C' x c')(hg:c'.phase=4\/c'.phase=5\/c'.phase=6->GK d H' k x):
  KR b m' H' C' d k (Wae {x with cm:=c'})/\(cmK (Wae {x with cm:=c'})↔c'.phase=4\/c'.phase=5\/c'.phase=6):=by
 by_cases h8:c'.phase=8
 .have e:Wae {x with cm:=c'}=WcP x:=by unfold Wae;rw[Wb h8];rfl
  rw[e];exact⟨WjW rfl h.un (.inr rfl) rfl,⟨λz=>Wg z (Wtm (z:=6) rfl (by omega) (by omega) (by omega)),λz=>by omega⟩⟩
 .by_cases h6:c'.phase=6
  .have e:Wae {x with cm:=c'}={x with stamp:=c'.wv,cm:={},phase:=7}:=by
    unfold Wae;rw[Wa h8,Wb h6];simp only[hf,Wa (show¬(1:Int)=2 by omega)]
   rw[e];refine⟨⟨h.mrk,h.un,.inr (.inr (.inr (.inr (.inr (.inl rfl))))),λz=>by(change (7:Int)=1\/(7:Int)=2 at z;omega),λz=>by(change (7:Int)=5 at z;omega),λz=>by(change (7:Int)=6 at z;omega),λ_=>.inr hf,λz=>by(change (7:Int)=8 at z;omega),λ_=>hg (.inr (.inr h6))⟩,⟨λ_=>.inr (.inr h6),λ_=>.inr (.inl ⟨rfl,hf⟩)⟩⟩
  .have e:Wae {x with cm:=c'}={x with cm:=c'}:=by unfold Wae;rw[Wa h8,Wa h6]
   rw[e];have ls:cmK ({x with cm:=c'}:Rt)↔c'.phase=4\/c'.phase=5\/c'.phase=6:=by
    refine⟨λz=>?_,λz=>.inl ⟨h5,?_⟩⟩
    .rcases z with z|z|z
     .rcases z.2 with q|q
      .exact .inl q
      .exact .inr (.inl q)
     .have:=z.1;(change x.phase=7 at this;omega)
     ·(change x.phase=8 at z;omega)
    .show c'.phase=4\/c'.phase=5;omega
   exact⟨⟨h.mrk,h.un,h.ph,λz=>by(change x.phase=1\/x.phase=2 at z;omega),λ_=>⟨hf,ln⟩,λz=>by(change x.phase=6 at z;omega),λz=>by(change x.phase=7 at z;omega),λz=>by(change x.phase=8 at z;omega),λz=>hg (ls.1 z)⟩,ls⟩
theorem Wwf(h:KR b w.mem w.hist C d k x)(h5:x.phase=5)(hM:MI b w.mem w.hist C)(hl:CL2 w.mem C)(hm:W0 w.mem=true)(bR:w.mem.1<1000000)(aJ:CmOk x.cm)(hC:C k=some x.cm)(jD:x.cm.phase≠6/\x.cm.phase≠8)(lW:RX x)
  (hK:∀v i z,RC b w.mem w.hist C v i z->RC b (WB w x k d.p).1.mem (WB w x k d.p).1.hist C' v i z):QK b w x k d (WB w x k d.p) C':=by
 obtain⟨hf,a,l,e1,e2,ra,e5,eG,e6⟩:=h.cm h5;have A2:=aJ.phase;have e0:WB w x k d.p=W8 w x k:=by
  unfold WB;rw[Wa (by omega),Wa (by omega),Wa (by omega),Wa (by omega),Wa (by omega),Wa (by omega),Wb h5]
 have uI:cmK x↔x.cm.phase=4\/x.cm.phase=5:=by
  refine⟨λz=>?_,λz=>.inl ⟨h5,z⟩⟩;rcases z with z|z|z
  .exact z.2
  .omega
  .omega
 by_cases hd:x.doomed=false
 .obtain⟨q1,q2,q3⟩:=WkA (w:=w) (x:=x) (k:=k) (p:=d.p) h5 hd;have yX:=hK _ _ _ ra;have same:∀c':Cm,(Wq w.mem x.cm).2=c'->c'.puts=x.cm.puts->c'.reads=x.cm.reads->c'.rv=x.cm.rv->¬(x.cm.phase<=3/\c'.phase=4)->(c'.phase=3->c'.rv<c'.wv/\(1<=c'.pos->RC b (WB w x k d.p).1.mem (WB w x k d.p).1.hist C' (c'.wv-1) 0 a))->((c'.phase=4\/c'.phase=5\/c'.phase=6)↔(x.cm.phase=4\/x.cm.phase=5))->QK b w x k d (WB w x k d.p) C':=λc' en p1 p2 p3 hn h3 ls=>by
   have eh:(WB w x k d.p).1.hist=w.hist:=by rw[q2,en];unfold Wbh;rw[Wa hn]
   obtain⟨b1,b2⟩:=Wsl (C':=C') (m':=(WB w x k d.p).1.mem) (H':=(WB w x k d.p).1.hist) h h5 (c':=c') hf ⟨a,l,by rw[p1];exact e1,by rw[p2];exact e2,by rw[p3];exact yX,by omega,eG,h3⟩ (λz=>by rw[eh];exact h.gd (uI.2 (ls.1 z)));have qs:(WB w x k d.p).2=Wae {x with cm:=c'}:=by rw[q3,en]
   refine⟨by rw[qs];exact b1,.inl ⟨eh,?_⟩⟩;rw[qs,b2,uI];exact ls
  have back:∀n:Int,(Wq w.mem x.cm).2=W1 x.cm n->¬(x.cm.phase=4\/x.cm.phase=5)->QK b w x k d (WB w x k d.p) C':=λn en bQ=>by
   obtain⟨p1,p2,p3⟩:=WbQ x.cm n;have pr:(W1 x.cm n).reads=x.cm.reads/\(W1 x.cm n).rv=x.cm.rv:=by unfold W1;split<;>exact⟨rfl,rfl⟩
   have pb:=Wdv x.cm n;exact same _ en p1 pr.1 pr.2 (λz=>by omega) (λz=>by omega) ⟨λz=>by omega,λz=>Wg z bQ⟩
  have npr:∀ph,(Wp x.cm ph).reads=x.cm.reads/\(Wp x.cm ph).rv=x.cm.rv:=λph=>by unfold Wp Wcx;split<;>exact⟨rfl,rfl⟩
  have df:1<=x.cm.reads.length:=by rw[e2];simp
  have eB:x.cm.puts.length≠0:=λz=>by rw[List.length_eq_zero_iff.1 z]at e1;cases e1
  have ca:=aJ.pos;by_cases h1:x.cm.phase=1
  .by_cases hfree:(Ws w.mem (Wbu x.cm.puts x.cm.pos (0,0)).1).2.2=0
   .have en:(Wq w.mem x.cm).2=Wp x.cm 2:=by unfold Wq;simp only;rw[Wb h1,Wb hfree]
    have hp:(Wp x.cm 2).phase=1\/(Wp x.cm 2).phase=2:=by
     unfold Wp;split
     .right;show Waz x.cm 2=2;unfold Waz;rw[Wa (by omega),Wa (by omega)]
     .left;exact h1
    exact same _ en (Way x.cm 2).1 (npr 2).1 (npr 2).2 (λz=>by have:=z.2;omega) (λz=>by omega) ⟨λz=>by omega,λz=>by omega⟩
   .exact back x.cm.pos (by unfold Wq;simp only;rw[Wb h1,Wa hfree]) (by omega)
  by_cases h2:x.cm.phase=2
  .have et:tick w.mem=((w.mem.1+1,w.mem.2),w.mem.1+1):=by unfold tick;rw[Wb bR]
   have h0:=(Wz hm).2.1;have en:(Wq w.mem x.cm).2={x.cm with wv:=w.mem.1+1,phase:=3,pos:=0}:=by
    unfold Wq;simp only;rw[Wa h1,Wb h2,et];simp only;rw[Wa (by omega)];unfold Wcx;have:Waz {x.cm with wv:=w.mem.1+1} 3=3:=by
     unfold Waz;rw[Wa (λz=>by have:=z.2;simp only at this;omega),Wa (λz=>by have:=z.2;simp only at this;omega)]
    rw[this]
   refine same _ en rfl rfl rfl (λz=>by have:=z.2;simp only at this;omega) (λ_=>⟨?_,λz=>?_⟩) ⟨λz=>by simp only at z;omega,λz=>by omega⟩
   .show x.cm.rv<w.mem.1+1;have:=ra.clk;omega
   .simp only at z;omega
  by_cases h3:x.cm.phase=3
  .obtain⟨g1,g2⟩:=e6 h3;have aH:x.cm.steps=x.cm.reads.length:=by unfold Cm.steps;rw[Wa (by omega),Wb h3]
   by_cases hbad:((Ws w.mem (Wbu x.cm.reads x.cm.pos 0)).2.2≠0/\(Ws w.mem (Wbu x.cm.reads x.cm.pos 0)).2.2≠x.cm.who)\/(Ws w.mem (Wbu x.cm.reads x.cm.pos 0)).2.1>x.cm.rv
   .exact back x.cm.puts.length (by unfold Wq;simp only;rw[Wa h1,Wa h2,Wb h3,Wb hbad]) (by omega)
   .have en:(Wq w.mem x.cm).2=Wp x.cm 4:=by unfold Wq;simp only;rw[Wa h1,Wa h2,Wb h3,Wa hbad]
    have hr:RC b w.mem w.hist C (x.cm.wv-1) 0 a:=by
     by_cases gY:x.cm.pos=0
     .have eg:Wbu x.cm.reads x.cm.pos 0=0:=by rw[gY,e2];rfl
      rw[eg]at hbad;exact Wwk (i:=0) (by omega) hM hl hC h3 g1 e5 (by omega) (by omega) (by unfold owner;omega) (by omega) ra
     .exact g2 (by omega)
    by_cases xA:x.cm.pos+1<x.cm.reads.length
    .have e4:Wp x.cm 4={x.cm with pos:=x.cm.pos+1}:=by unfold Wp;rw[Wa (by omega)]
     rw[e4]at en;exact same _ en rfl rfl rfl (λz=>by have:=z.2;simp only at this;omega) (λ_=>⟨g1,λ_=>hK _ _ _ hr⟩) ⟨λz=>by simp only at z;omega,λz=>by omega⟩
    .have e4:Wp x.cm 4={x.cm with phase:=4,pos:=0}:=by
      unfold Wp;rw[Wb (by omega)];unfold Wcx;have:Waz x.cm 4=4:=by unfold Waz;rw[Wa (λz=>by have:=z.2;omega),Wa (by omega)]
      rw[this]
     rw[e4]at en;have eh:(WB w x k d.p).1.hist=w.hist++ [(x.cm.wv,(k:Int)+1,x.cm.puts)]:=by
      rw[q2,en];unfold Wbh;rw[Wb ⟨by omega,rfl⟩]
     obtain⟨b1,b2⟩:=Wsl (C':=C') (m':=(WB w x k d.p).1.mem) (H':=(WB w x k d.p).1.hist) h h5 (c':={x.cm with phase:=4,pos:=0}) hf ⟨a,l,e1,e2,yX,e5,eG,λz=>by(change (4:Int)=3 at z;omega)⟩ (λ_=>by rw[eh];exact⟨_,List.mem_append_right _ (List.mem_singleton.2 rfl),rfl,_,e1,eG⟩);have qs:(WB w x k d.p).2=Wae {x with cm:={x.cm with phase:=4,pos:=0}}:=by rw[q3,en]
     exact⟨by rw[qs];exact b1,.inr ⟨a,x.cm.wv,x.cm.puts,eh,e1,hK _ _ _ hr,by rw[uI];omega,by rw[qs,b2];exact .inl rfl,(hM.fr k x.cm hC h3).2.2⟩⟩
  by_cases h4:x.cm.phase=4
  .have en:(Wq w.mem x.cm).2=Wp x.cm 5:=by unfold Wq;simp only;rw[Wa h1,Wa h2,Wa h3,Wb h4]
   have hp:(Wp x.cm 5).phase=4\/(Wp x.cm 5).phase=5:=by
    unfold Wp;split
    .right;exact WpJ x.cm
    .left;exact h4
   exact same _ en (Way x.cm 5).1 (npr 5).1 (npr 5).2 (λz=>by have:=z.1;omega) (λz=>by omega) ⟨λ_=>.inl h4,λ_=>by omega⟩
  by_cases rG:x.cm.phase=5
  .have en:(Wq w.mem x.cm).2=Wp x.cm 6:=by unfold Wq;simp only;rw[Wa h1,Wa h2,Wa h3,Wa h4,Wb rG]
   have hp:(Wp x.cm 6).phase=5\/(Wp x.cm 6).phase=6:=by
    unfold Wp;split
    .right;exact WpP x.cm
    .left;exact rG
   exact same _ en (Way x.cm 6).1 (npr 6).1 (npr 6).2 (λz=>by have:=z.1;omega) (λz=>by omega) ⟨λ_=>.inr rG,λ_=>by omega⟩
  .have h7:x.cm.phase=7:=by omega
   exact back x.cm.pos (by unfold Wq;simp only;rw[Wa h1,Wa h2,Wa h3,Wa h4,Wa rG,Wb h7]) (by omega)
 .have cQ:x.doomed=true:=by simpa using hd
  have rn:x.cm.phase<=3:=by
   rcases lW.doom cQ with e|e
   .omega
   .exact e.2
  have uJ:¬cmK x:=by rw[uI];omega
  have e:WB w x k d.p=(w,if(WA x.cm).phase=8 then WcP x else{x with cm:=WA x.cm,doomed:=false}):=by
   rw[e0];unfold W8;rw[Wb cQ]
  rw[e]at hK⊢;by_cases h8:(WA x.cm).phase=8
  .rw[Wb h8];exact⟨WjW rfl h.un (.inr rfl) rfl,.inl ⟨rfl,⟨λz=>Wg z (Wtm (z:=6) rfl (by omega) (by omega) (by omega)),λz=>Wg z uJ⟩⟩⟩
  .rw[Wa h8];have A3:(WA x.cm).phase=7/\(WA x.cm).puts=x.cm.puts/\(WA x.cm).reads=x.cm.reads/\(WA x.cm).rv=x.cm.rv:=by
    have key:∀n:Int,WA x.cm=W1 x.cm n->(WA x.cm).phase=7/\(WA x.cm).puts=x.cm.puts/\(WA x.cm).reads=x.cm.reads/\(WA x.cm).rv=x.cm.rv:=λn en=>by
     rw[en]at h8⊢;have:=Wdv x.cm n;refine⟨by omega,?_⟩;unfold W1;split<;>exact⟨rfl,rfl,rfl⟩
    by_cases h1:x.cm.phase=1
    .exact key x.cm.pos (by unfold WA;rw[Wb h1])
    .exact key x.cm.puts.length (by unfold WA;rw[Wa h1,Wb (by omega)])
   obtain⟨b7,bp,br,bv⟩:=A3;have hn:¬cmK ({x with cm:=WA x.cm,doomed:=false}:Rt):=Wgm (λz=>by have:=z.2;(change (WA x.cm).phase=4\/(WA x.cm).phase=5 at this;omega)) (λz=>by have:=z.1;(change x.phase=7 at this;omega)) (by show x.phase≠8;omega);exact⟨⟨h.mrk,h.un,h.ph,λz=>by(change x.phase=1\/x.phase=2 at z;omega),λ_=>⟨hf,a,l,by show pick (WA x.cm).puts 0=_;rw[bp];exact e1,br.trans e2,by show RC b w.mem w.hist C' (WA x.cm).rv 0 a;rw[bv];exact hK _ _ _ ra,by show 0<=(WA x.cm).rv;omega,eG,λz=>by(change (WA x.cm).phase=3 at z;omega)⟩,λz=>by(change x.phase=6 at z;omega),λz=>by(change x.phase=7 at z;omega),λz=>by(change x.phase=8 at z;omega),λz=>Wg z hn⟩,.inl ⟨rfl,⟨λz=>Wg z hn,λz=>Wg z uJ⟩⟩⟩
theorem Wv3(ok:KPgOk d)(h:KR b w.mem w.hist C d k x)(hM:MI b w.mem w.hist C)(hl:CL2 w.mem C)(hm:W0 w.mem=true)(bR:w.mem.1<1000000)(hx:ROk d.p n x)(ht:RT x)(hC:x.phase=5->C k=some x.cm)(lW:RX x)
  (hK:∀v i z,RC b w.mem w.hist C v i z->RC b (WB w x k d.p).1.mem (WB w x k d.p).1.hist C' v i z):QK b w x k d (WB w x k d.p) C':=by
 have A4:=(Wz hm).2.1;by_cases h5:x.phase=5
 .exact Wwf h h5 hM hl hm bR (hx.comm h5) (hC h5) (ht.cm h5) lW hK
 revert hK;have eu:=h.un;have out:∀v:Wo,∀y:Rt,v.mem=w.mem->v.hist=w.hist->KR b w.mem w.hist C' d k y->(cmK y↔cmK x)->QK b w x k d (v,y) C':=λv y e1 e2 h1 h2=>⟨by show KR b v.mem v.hist C' d k y;rw[e1,e2];exact h1,.inl ⟨e2,h2⟩⟩;have jI:∀{y:Rt},¬cmK y->¬cmK x->(cmK y↔cmK x):=λa b=>⟨λz=>Wg z a,λz=>Wg z b⟩;have n1:1<=x.phase->x.phase<=2->¬cmK x:=λ_ _=>Wgm (by omega) (by omega) (by omega);unfold WB;by_cases hd:x.doomed=true/\1<=x.phase/\x.phase<=4
 .rw[Wb hd];intro hK;exact out _ _ rfl rfl (WjW rfl eu (.inr rfl) rfl) (jI (Wtm (z:=6) rfl (by omega) (by omega) (by omega)) (Wgm (by omega) (by omega) (by omega)))
 rw[Wa hd];have hp:=h.ph;by_cases h0:x.phase=0
 .rw[Wb h0];have uJ:¬cmK x:=Wtm h0 (by omega) (by omega) (by omega);have stay:∀v:Wo,v.mem=w.mem->v.hist=w.hist->(∀u i z,RC b w.mem w.hist C u i z->RC b v.mem v.hist C' u i z)->QK b w x k d (v,x) C':=λv v2 v3 hK=>out v x v2 v3 (h.keep ok (by rw[v2,v3]at hK;exact hK) Mono.refl (Xo _) λ_=>id) Iff.rfl;unfold Wdf;split
  .intro hK;exact stay w rfl rfl hK
  .split
   .intro hK;exact stay _ rfl rfl hK
   .split
    .intro hK;exact stay w rfl rfl hK
    .intro hK;have hn:¬cmK ({phase:=1,tries:=x.tries,rv:=w.mem.1,began:=w.now,regs:=[0,0,0,0]}:Rt):=Wtm (z:=1) rfl (by omega) (by omega) (by omega);exact out _ _ rfl rfl ⟨rfl,rfl,.inr (.inl rfl),λ_=>ok.start A4,λz=>by(change (1:Int)=5 at z;omega),λz=>by(change (1:Int)=6 at z;omega),λz=>by(change (1:Int)=7 at z;omega),λz=>by(change (1:Int)=8 at z;omega),λz=>Wg z hn⟩ (jI hn uJ)
 rw[Wa h0];by_cases h1:x.phase=1
 .rw[Wb h1];obtain⟨y,e,o⟩:=ok.step (k:=k) h1 h.mrk eu (h.run (.inl h1)) hM hl (by omega) (hx.live (by omega)).reads;rw[e];intro hK;obtain⟨a,c⟩:=WwP (k:=k) ok o hK;exact out _ _ rfl rfl a (jI c (n1 (by omega) (by omega)))
 rw[Wa h1];by_cases h2:x.phase=2
 .rw[Wb h2];intro hK;obtain⟨a,c⟩:=WwP (k:=k) ok (ok.fork h2 h.mrk eu (h.run (.inr h2)) ((hx.live (by omega)).fork h2).2.2) hK;exact out _ _ rfl rfl a (jI c (n1 (by omega) (by omega)))
 rw[Wa h2,Wa (by omega),Wa (by omega),Wa h5];by_cases h6:x.phase=6
 .rw[Wb h6,Wa (by rw[eu];simp)];intro hK;have hf:=h.f6 h6;have hn:¬cmK ({x with phase:=7}:Rt):=Wgm (λz=>by have:=z.1;(change (7:Int)=5 at this;omega)) (λz=>by have:=z.2;(change x.fate=1 at this;omega)) (by show(7:Int)≠8;omega);exact out _ _ rfl rfl ⟨h.mrk,eu,.inr (.inr (.inr (.inr (.inr (.inl rfl))))),λz=>by(change (7:Int)=1\/(7:Int)=2 at z;omega),λz=>by(change (7:Int)=5 at z;omega),λz=>by(change (7:Int)=6 at z;omega),λ_=>.inl hf,λz=>by(change (7:Int)=8 at z;omega),λz=>Wg z hn⟩ (jI hn (Wtm h6 (by omega) (by omega) (by omega)))
 rw[Wa h6];by_cases h7:x.phase=7
 .rw[Wb h7];by_cases hf:x.fate=0
  .rw[Wb hf];intro hK;exact out _ _ rfl rfl (WjW rfl rfl (.inl rfl) rfl) (jI (Wtm (z:=0) rfl (by omega) (by omega) (by omega)) (Wgm (by omega) (by omega) (by omega)))
  .rw[Wa hf];intro hK;have f1:=(h.f7 h7).resolve_left hf;have hc:cmK x:=.inr (.inl ⟨h7,f1⟩);exact out _ _ rfl rfl ⟨h.mrk,rfl,.inr (.inr (.inr (.inr (.inr (.inr rfl))))),λz=>by(change (8:Int)=1\/(8:Int)=2 at z;omega),λz=>by(change (8:Int)=5 at z;omega),λz=>by(change (8:Int)=6 at z;omega),λz=>by(change (8:Int)=7 at z;omega),λ_=>f1,λ_=>h.gd hc⟩ ⟨λ_=>hc,λ_=>.inr (.inr rfl)⟩
 .rw[Wa h7];intro hK;exact out _ _ rfl rfl (h.keep ok hK Mono.refl (Xo _) λ_=>id) Iff.rfl
end
section
variable{s:Sc}{w v:Wo}{n:Int}{a:Ac}{x y:Rt}{k:Nat}{p:Pg}{q:Wo×Rt}
structure TQ(w:Wo)(k:Nat)(x:Rt)(q:Wo×Rt):Prop where
 tok:q.1.token=w.token\/(q.1.token=(k:Int)+1/\w.token=0/\x.phase=0/\q.2.phase=0)\/(w.token=(k:Int)+1/\q.1.token=0/\q.2.phase=8)
 try1:x.phase≠0->x.phase≠8->q.2.phase≠0->q.2.tries=x.tries
 idle:x.phase=0->q.2.phase=0\/(q.2.tries=x.tries/\(w.token=0/\x.tries<3\/w.token=(k:Int)+1/\Wac k w.roots 0=true)/\q.1.token=w.token)
 done:x.phase=8->q=(w,x)
theorem TQ.keep(ht:q.1.token=w.token)(hr:q.2.tries=x.tries)(h0:x.phase≠0)(h8:x.phase≠8):TQ w k x q:=
 ⟨.inl ht,λ_ _ _=>hr,λh=>Wg h h0,λh=>Wg h h8⟩
theorem Wsy{w0:Wo}{x0:Rt}(hw:w0.token=w.token)(hr:x0.tries=x.tries)(h0:x.phase≠0)(h8:x.phase≠8):TQ w k x (Wj9 w0 x0 k):=by
 refine⟨?_,λ_ _ _=>hr,λh=>Wg h h0,λh=>Wg h h8⟩;show(if w0.token=(k:Int)+1 then 0 else w0.token)=w.token\/_;split
 .rename_i h;right;right;refine⟨by rw[←hw];exact h,?_,rfl⟩;show(if w0.token=(k:Int)+1 then 0 else w0.token)=0;rw[Wb h]
 .exact .inl hw
theorem Wmj{out:Int}(h0:x.phase≠0)(h8:x.phase≠8):TQ w k x (Waq w x k out):=by
 unfold Waq;simp only;generalize (if out=2 then []else x.writes)=rows;split
 .exact Wsy rfl rfl h0 h8
 .exact TQ.keep rfl rfl h0 h8
theorem WeU:(WO x).tries=x.tries:=by
 unfold WO;split<;>rfl
theorem WlA:TQ w k x (WB w x k p):=by
 unfold WB;by_cases hd:x.doomed=true/\1<=x.phase/\x.phase<=4
 .rw[Wb hd];exact TQ.keep rfl rfl (by omega) (by omega)
 rw[Wa hd];by_cases h0:x.phase=0
 .rw[Wb h0];have h8:x.phase≠8:=by omega
  unfold Wdf;split
  .exact⟨.inl rfl,λh=>Wg h0 h,λ_=>.inl h0,λh=>Wg h h8⟩
  .split
   .rename_i h;exact⟨.inr (.inl ⟨rfl,h.2,h0,h0⟩),λh=>Wg h0 h,λ_=>.inl h0,λh=>Wg h h8⟩
   .split
    .exact⟨.inl rfl,λh=>Wg h0 h,λ_=>.inl h0,λh=>Wg h h8⟩
    .rename_i a1 a2 a3;refine⟨.inl rfl,λh=>Wg h0 h,λ_=>.inr ⟨rfl,?_,rfl⟩,λh=>Wg h h8⟩;by_cases ht:w.token=0
     .exact .inl ⟨ht,by omega⟩
     .have hk:w.token=(k:Int)+1:=by omega
      refine .inr ⟨hk,?_⟩;cases ho:Wac k w.roots 0 with
      |true=>rfl
      |false=>exact Wg ⟨hk,ho⟩ a3
 rw[Wa h0];by_cases h8:x.phase=8
 .rw[Wa (by omega),Wa (by omega),Wa (by omega),Wa (by omega),Wa (by omega),Wa (by omega),Wa (by omega)];exact⟨.inl rfl,λ_ h=>Wg h8 h,λh=>Wg h h0,λ_=>rfl⟩
 have keep:∀q:Wo×Rt,q.1.token=w.token->q.2.tries=x.tries->TQ w k x q:=λq a b=>TQ.keep a b h0 h8;by_cases h1:x.phase=1
 .rw[Wb h1];unfold Wdy;split
  .exact Wmj h0 h8
  .simp only;generalize opN p.1 x.pc=o;split
   .refine keep _ rfl ?_;unfold WcM;cases Wbg x.writes o.2.2.1 with
    |some v=>rfl
    |none=>
     simp only;generalize WW w.mem x.rv _=b;split
     .exact WeU
     .split<;>rfl
   .split
    .unfold WbT;split
     .exact Wmj h0 h8
     .split<;>exact keep _ rfl rfl
    .split
     .exact keep _ rfl rfl
     .split
      .unfold WbR;cases Wa4 w.holds ((k:Int)+1) (WaK o).1 (WaK o).2 with
       |none=>exact keep _ rfl WeU
       |some hs=>exact keep _ rfl rfl
      .repeat' split
       all_goals exact keep _ rfl rfl
 rw[Wa h1];by_cases h2:x.phase=2
 .rw[Wb h2];refine keep _ rfl ?_;show(WbG x).tries=x.tries;unfold WbG;split
  .rfl
  .split<;>rfl
 rw[Wa h2];by_cases h3:x.phase=3
 .rw[Wb h3];unfold Wa3;split<;>exact keep _ rfl rfl
 rw[Wa h3];by_cases h4:x.phase=4
 .rw[Wb h4];refine keep _ rfl ?_;show(WaH w x).tries=x.tries;unfold WaH;simp only;split
  .split<;>rfl
  .rfl
 rw[Wa h4];by_cases h5:x.phase=5
 .rw[Wb h5];unfold W8;split
  .refine keep _ rfl ?_;simp only;split<;>rfl
  .refine keep _ rfl ?_;show(Wae {x with cm:=(Wq w.mem x.cm).2}).tries=x.tries;unfold Wae;split
   .rfl
   .split<;>rfl
 rw[Wa h5];by_cases h6:x.phase=6
 .rw[Wb h6];split<;>exact keep _ rfl rfl
 rw[Wa h6];by_cases h7:x.phase=7
 .rw[Wb h7];split
  .exact⟨.inl rfl,λ_ _ h=>Wg rfl h,λh=>Wg h h0,λh=>Wg h h8⟩
  .exact Wsy rfl rfl h0 h8
 .rw[Wa h7];exact keep _ rfl rfl
end
section
variable{s:Sc}{w v:Wo}{n:Int}{a:Ac}{x y:Rt}{k:Nat}{p:Pg}{q:Wo×Rt}
theorem Wd8:∀{l:List Rt} {i:Nat},Wac k l i=true->∀(j:Nat) (h:j<l.length),i+j≠k->l[j].phase=0\/l[j].phase=8
 | [],i,_,j,h,_=>by simp at h
 |x::l,i,ho,j,h,hne=>by
  rw[Wac]at ho;simp only[Bool.and_eq_true,Bool.or_eq_true,Wh]at ho;cases j with
  |zero=>
   rcases ho.1 with h1|h1
   .exact Wg h1 (by simpa using hne)
   .exact h1
  |succ j=>exact Wd8 ho.2 j (by simpa using h) (by omega)
structure TX(w:Wo):Prop where
 t1:∀(k:Nat) (h:k<w.roots.length),w.roots[k].phase≠0->w.roots[k].phase≠8->w.roots[k].tries>=3->w.token=(k:Int)+1
 t2:∀(k:Nat) (h:k<w.roots.length),w.token=(k:Int)+1->w.roots[k].phase≠0->∀(j:Nat) (h:j<w.roots.length),j≠k->w.roots[j].phase=0\/w.roots[j].phase=8
theorem WuU{w0:Wo}(hx:TX w0)(hl:LX w0)(hk:k<w0.roots.length)(hr:q.1.roots=w0.roots)(hq:TQ w0 k w0.roots[k] q):TX (Wo.put q k):=by
 have hlen:(q.1.roots.set k q.2).length=w0.roots.length:=by rw[Xab,hr]
 have bt:∀(i:Nat) (hi:i<w0.roots.length),(q.1.roots.set k q.2)[i]'(by rw[hlen];exact hi)=if k=i then q.2 else w0.roots[i]:=λi hi=>by
  rw[Xao];simp only[hr]
 have yY:w0.roots[k].phase=8->q.2=w0.roots[k]:=λh=>by rw[hq.done h]
 refine⟨λi hi p0 p8 ht=>?_,λi hi ht p0 j hj hne=>?_⟩
 .change i<(q.1.roots.set k q.2).length at hi;have dZ:i<w0.roots.length:=by rw[←hlen];exact hi
  change ((q.1.roots.set k q.2)[i]'hi).phase≠0 at p0;change ((q.1.roots.set k q.2)[i]'hi).phase≠8 at p8;change ((q.1.roots.set k q.2)[i]'hi).tries>=3 at ht;rw[bt i dZ]at p0 p8 ht;show q.1.token=(i:Int)+1;by_cases he:k=i
  .subst he;rw[Wb rfl]at p0 p8 ht;by_cases h0:w0.roots[k].phase=0
   .rcases hq.idle h0 with h|⟨h1,h2,h3⟩
    .exact Wg h p0
    .rw[h3];rcases h2 with h2|h2
     .omega
     .exact h2.1
   .by_cases h8:w0.roots[k].phase=8
    .rw[yY h8]at p8;exact Wg h8 p8
    .have lT:=hq.try1 h0 h8 p0;have:=hx.t1 k hk h0 h8 (by omega);rcases hq.tok with h|⟨h,_⟩|⟨_,_,h⟩
     .rw[h];exact this
     .exact h
     .exact Wg h p8
  .rw[Wa he]at p0 p8 ht;have:=hx.t1 i dZ p0 p8 ht;rcases hq.tok with h|⟨_,h,_⟩|⟨h,_⟩
   .rw[h];exact this
   .omega
   .omega
 .change i<(q.1.roots.set k q.2).length at hi;change j<(q.1.roots.set k q.2).length at hj;have dZ:i<w0.roots.length:=by rw[←hlen];exact hi
  have uK:j<w0.roots.length:=by rw[←hlen];exact hj
  change q.1.token=(i:Int)+1 at ht;change ((q.1.roots.set k q.2)[i]'hi).phase≠0 at p0;show((q.1.roots.set k q.2)[j]'hj).phase=0\/((q.1.roots.set k q.2)[j]'hj).phase=8;rw[bt i dZ]at p0;rw[bt j uK];by_cases he:k=i
  .subst he;rw[Wb rfl]at p0;rw[Wa (λh=>hne h.symm)];by_cases h0:w0.roots[k].phase=0
   .rcases hq.idle h0 with h|⟨h1,h2,h3⟩
    .exact Wg h p0
    .rcases h2 with h2|h2
     .rw[h3,h2.1]at ht;omega
     .exact Wd8 h2.2 j uK (by omega)
   .rcases hq.tok with h|⟨_,_,h,_⟩|⟨_,h,_⟩
    .exact hx.t2 k hk (by rw[←h];exact ht) h0 j uK hne
    .exact Wg h h0
    .omega
  .rw[Wa he]at p0;have yZ:w0.token=(i:Int)+1:=by
    rcases hq.tok with h|⟨h,_⟩|⟨_,h,_⟩
    .rw[←h];exact ht
    .omega
    .omega
   by_cases hkj:k=j
   .subst hkj;rw[Wb rfl];have jn:=hx.t2 i dZ yZ p0 k hk (λh=>he h);rcases jn with h0|h8
    .rcases hq.idle h0 with h|⟨_,h2,_⟩
     .exact .inl h
     .rcases h2 with h2|h2<;>omega
    .rw[yY h8];exact .inr h8
   .rw[Wa hkj];exact hx.t2 i dZ yZ p0 j uK hne
theorem WrC(h:WOk s.2.1 n w)(hl:LX w)(hx:TX w):TX (Wde s w a):=by
 have cy:TX {w with now:=w.now+1}:=⟨hx.t1,hx.t2⟩;have bc:LX {w with now:=w.now+1}:=⟨λk hk=>⟨(hl.root k hk).cm,(hl.root k hk).no,(hl.root k hk).hd,(hl.root k hk).tk⟩,hl.ow,hl.hd,hl.tk⟩;unfold Wde;simp only;split
 .rename_i hb;have hk:a.2.1.toNat<w.roots.length:=by omega
  have same:∀y:Rt,y.phase=w.roots[a.2.1.toNat].phase->y.tries=w.roots[a.2.1.toNat].tries->w.roots[a.2.1.toNat].phase≠0->w.roots[a.2.1.toNat].phase≠8->TX (Wo.put ({w with now:=w.now+1},y) a.2.1.toNat):=λy e1 e2 h0 h8=>
   WuU (w0:={w with now:=w.now+1}) cy bc hk rfl ⟨.inl rfl,λ_ _ _=>e2,λh=>Wg h h0,λh=>Wg h h8⟩
  rw[Wn hk];split
  .unfold Wid;rw[Wn (show a.2.1.toNat<({w with now:=w.now+1}:Wo).roots.length from hk)];exact WuU (w0:={w with now:=w.now+1}) cy bc hk (WhJ h hk) WlA
  .split
   .split
    .rename_i hc;exact same _ rfl rfl (by omega) (by omega)
    .exact cy
   .split
    .split
     .rename_i hc;exact same _ rfl rfl (by omega) (by omega)
     .exact cy
    .exact cy
 .exact cy
theorem Wsw:∀(l:List Ac) (n:Int) (w:Wo),WOk s.2.1 n w->WX w->LX w->TX w->TX (l.foldl (Wde s) w)
 | [],n,w,h,hx,hl,ht=>ht
 |a::l,n,w,h,hx,hl,ht=>Wsw l (n+1) _ (WcH (a:=a) h) (Wgs (a:=a) h hx).1 (WnX h hx hl) (WrC h hl ht)
theorem Wsi:TX (Wer s):=by
 have e:∀(k:Nat) (h:k<(Wer s).roots.length),(Wer s).roots[k].phase=0:=λk h=>by simp only[Wer,Xbe]
 exact⟨λk h h0=>Wg (e k h) h0,λk h _ h0=>Wg (e k h) h0⟩
end
end Go.Sx
