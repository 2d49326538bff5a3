/- Plain laws of the Lean functions. -/
import Derived.Test.YtajmpbmmfponlaaGreatMW1
open Bool renaming and_eq_true→Xh,not_false→Xcy,not_true→Xaj,true_and→Xbr,eq_false_iff→Xdg
open List renaming all_eq_true→Xaf,length_set→Xau,mem_or_eq_of_mem_set→Xdo,getElem?_eq_getElem→Xr,foldl_cons→Xdf,length_cons→Xq,mem_cons_of_mem→Xe,mem_cons_self→Xg,drop_length→Xch,foldl_nil→Xfk,set→Xl,drop_eq_getElem_cons→Xbb,append_eq→Xbo,append_nil→Xcj,countP_le_length→Xdh,getD→Xd,length_map→Xad,drop_zero→Xav,set_getElem_self→Xbz,countP_set→Xga,getElem_set→Xdb,mem_map→Xt,length_append→Xw,length_singleton→Xdy,mem_append→Xk,length_nil→Xde,append→Xp,nil_append→Xbj,replicate→Xy,replicate_succ'→Xfl,map_replicate→Xfs,length→Xb,length_dropLast→Xct,getElem_mem→Xas,map_cons→Xag,append_assoc→Xbk,getD_eq_getElem?_getD→Xbg,sum_cons→Xck
open Nat renaming zero_add→Xbe,sub_zero→Xdr,le_refl→Xj,le_trans→Xaz
open Option renaming bind_some→Xc
open Int renaming toNat_natCast→Xu,toNat→Xa,le_refl→Xcf
namespace Go.Sx
set_option linter.unusedVariables false
set_option linter.unusedSimpArgs false
section
def zWd:Wd:=(0,0,0)
def WoJ(m:Mm)(i:Int):Wd:=WeW m.2 i zWd
def Wq7(m:Mm)(i:Int)(w:Wd):Mm:=(m.1,Wo0 m.2 i w)
variable{m:Mm}
theorem WpD(hm:WaB m=true){i:Int}{w:Wd}(hw:Wiy m.1 w=true):WaB (Wq7 m i w)=true:=by
 obtain⟨h8,h0,h1,jj⟩:=WV hm;unfold WaB Wq7 Wo0;simp only[Xh,decide_eq_true_eq,Xaf,Xau];refine⟨h8,⟨h0,h1⟩,λx hx=>?_⟩;rcases Xdo hx with h|h
 .exact jj x h
 .subst h;exact hw
theorem WkR(hm:WaB m=true){i:Int}(hi:0<=i/\i<=7):Wiy m.1 (WoJ m i)=true:=Wnf hm hi
theorem WpI(hm:WaB m=true):WaB (Wd7 m).1=true/\0<=(Wd7 m).2/\(Wd7 m).2<=1000000/\((Wd7 m).2≠0->(Wd7 m).2=m.1+1/\(Wd7 m).1=(m.1+1,m.2))/\((Wd7 m).2=0->(Wd7 m).1=m):=by
 obtain⟨h8,h0,h1,jj⟩:=WV hm;unfold Wd7;split
 .refine⟨?_,by simp only;omega,by simp only;omega,λ_=>⟨rfl,rfl⟩,λh=>by simp only at h;omega⟩;unfold WaB;simp only[Xh,decide_eq_true_eq,Xaf];refine⟨h8,⟨by omega,by omega⟩,λw hw=>?_⟩;have:=Wfj.1 (jj w hw);rw[Wfj];omega
 .exact⟨hm,by simp,by simp,λh=>absurd rfl h,λ_=>rfl⟩
end
section
def WdR(c:Int)(v:List En)(r:Rw):List En:=match ent v r.1 with
 |some a=>v.set a.1 (r.1,r.2,c)
 |none=>v++ [(r.1,r.2,c)]
theorem Wjn(c:Int)(v:List En)(r:Rw):(WdR c v r).length<=v.length+1:=by
 unfold WdR;split<;>simp
theorem apE{a b:En}:Ap cfE a b↔a.1≠b.1:=by unfold Ap cfE;omega
theorem Wnp{c:Int}{L M:List En}{r:Rw}(hL:L.Pairwise (Ap cfE))(hM:Ris cfE M)(hm:∀x,x∈L↔x∈M):
  (WdR c L r).Pairwise (Ap cfE)/\Ris cfE (WcU cfE M (r.1,r.2,c))/\∀x,x∈WdR c L r↔x∈WcU cfE M (r.1,r.2,c):=by
 have key:(WdR c L r).Pairwise (Ap cfE)/\∀x,x∈WdR c L r↔x=(r.1,r.2,c)\/(x∈L/\Ap cfE x (r.1,r.2,c)):=by
  unfold WdR ent;cases he:fnd (λe:En=>e.1==r.1) L 0 with
  |some a=>
   obtain⟨h1,h2,h3,h4⟩:=WdO he;simp only[Xbe,Xdr]at h3 h4;have h5:L[a.1]=a.2:=by rw[Xr h3]at h4;injection h4
   exact WmL Wpj hL h3 (by rw[apE,h5];simpa using h1)
  |none=>
   have:=Wlm he;exact Wme hL λx hx=>by rw[apE];simpa using this x hx
 refine⟨key.1,WcP Wpj hM,λx=>?_⟩;rw[key.2 x,Wen Wpj hM,hm]
theorem Wna{c:Int}:∀{rows:List Rw} {L M:List En},L.Pairwise (Ap cfE)->Ris cfE M->(∀x,x∈L↔x∈M)->
  (rows.foldl (WdR c) L).Pairwise (Ap cfE)/\Ris cfE (WbZ c M rows)/\∀x,x∈rows.foldl (WdR c) L↔x∈WbZ c M rows
 | [],_,_,hL,hM,hm=>⟨hL,hM,hm⟩
 |r::rows,L,M,hL,hM,hm=>by
  obtain⟨a,b,d⟩:=Wnp (c:=c) (r:=r) hL hM hm;exact Wna (rows:=rows) a b d
theorem Wjk{c:Int}:∀(rows:List Rw) (L:List En),(rows.foldl (WdR c) L).length<=L.length+rows.length
 | [],L=>by simp
 |r::rows,L=>by
  have:=Wjk (c:=c) rows (WdR c L r);have:=Wjn c L r;rw[Xdf,Xq];omega
theorem WcR{c:Int}{P:En->Prop}:∀{rows:List Rw} {M:List En},Ris cfE M->(∀x∈M,P x)->(∀r∈rows,P (r.1,r.2,c))->∀x∈WbZ c M rows,P x
 | [],_,_,h,_=>h
 |r::rows,M,hM,h,hr=>by
  refine WcR (rows:=rows) (WcP Wpj hM) (λx hx=>?_) λr' h'=>hr r' (Xe _ h');rcases(Wen Wpj hM).1 hx with rfl|h'
  .exact hr r (Xg ..)
  .exact h x h'.1
theorem Wlb{R:Type}{N:Nat}{k4:Int}{b7 b8 b9:Int}{ca:Bool}{bs br bu ax aR bt:Int}{bD:Bool}{cr dn eE eF:Int}{aD:List Kc}{bE:List Int}{bR:List Kc}{eG:List Int}{cF:List Kc}{cY:List Y_KidRun}{eH:Nat}{bO:List Int}{cC:List Kb}{cD:List Kc}{cE:List Kf}{K0:Int->Bool->Kl->Option R}(hN:1048576<N)(qh:aD.length<=8):
  ∀(d j n:Nat) (v:List En),j+d=aD.length->d<n->v.length<=100+j->
  Zm N k4 (Wc aD) b7 b8 b9 ca bs br bu ax aR bt bD cr dn eE eF aD bE bR eG cF cY eH bO cC cD cE K0 n (j:Int) v=K0 (aD.length:Int) false ((aD.drop j).foldl (WdR b8) v)
 |0,j,n+1,v,hj,hn,hv=>by
  have:j=aD.length:=by omega
  subst this;simp only[Zm,Wac (Xj aD.length),cond_false,Xch,Xfk]
 |d+1,j,n+1,v,hj,hn,hv=>by
  have hlt:j<aD.length:=by omega
  have hY:=WdX (N:=N) (f:=(b7,(b8,(b9,(ca,(bE,(bR,(v,(eG,(cF,Xl cY eH (bs,(br,(bu,(ax,(aR,(bt,(bO,(cC,(cD,(cE,(bD,(cr,(dn,(eE,eF)))))))))))))))))))))))) (c:=aD[j].1) (by show v.length<=1048576;omega) hN;have hs:=Wjn b8 v aD[j];have cj:∀v',v'=WdR b8 v aD[j]->Zm N k4 (Wc aD) b7 b8 b9 ca bs br bu ax aR bt bD cr dn eE eF aD bE bR eG cF cY eH bO cC cD cE K0 n ((j+1:Nat):Int) v'=K0 (aD.length:Int) false ((aD.drop j).foldl (WdR b8) v):=λv' qi=>by
   subst qi;rw[Wlb hN qh d (j+1) n _ (by omega) (by omega) (by omega),Xbb hlt,Xdf]
  simp only[Zm,Wk,WX hlt,Wn hlt,Wv hlt,Wh (show j<4611686018427387904 by omega),cond_true,hY,ret,Xc];have hd:ent v aD[j].1=ent v aD[j].1:=rfl;unfold WdR at cj;cases he:ent v aD[j].1 with
  |some a=>
   rw[he]at cj;obtain⟨h1,h2,h3,h4⟩:=WdO he;rw[Xbe]at h3;simp only[decide_eq_true (show((a.1:Int)>=0) by omega),cond_true];rw[Waf,decide_eq_true h3];simp only[cond_true,Xu];exact cj _ rfl
  |none=>
   rw[he]at cj;simp only[show decide ((-1:Int)>=0)=false from rfl,cond_false];rw[Ws (by simp;omega)];simp only[cond_true,Xbo];exact cj _ rfl
 |_,_,0,_,_,h,_=>by omega
theorem Wic{R:Type}{N:Nat}{cL cM cN cO:Int}{cP:Bool}{cQ aN dO dP dQ dR:Int}{dS:Bool}{dc dT dU dV:Int}{bI:List Kb}{de:List Int}{df:List Kc}{dW:List Kb}{dX:List Int}{ck:List Y_KidRun}{fG:Nat}{cS:List Int}{cR:List Kc}{fH:List Kf}{K0:Int->Bool->Kn->Option R}(oB:bI.length<=1000):
  ∀(d j n:Nat) (v:List Rw),j+d=bI.length->d<n->v.length<=1000+j->
  Zp N cL (Wc bI) cM cN cO cP cQ aN dO dP dQ dR dS dc dT dU dV bI de df dW dX ck fG cS cR fH K0 n (j:Int) v=K0 (bI.length:Int) false (v++W7 (bI.drop j))
 |0,j,n+1,v,hj,hn,hv=>by
  have:j=bI.length:=by omega
  subst this;simp only[Zp,Wac (Xj bI.length),cond_false,Xch,W7,List.filter_nil,List.map_nil,Xcj]
 |d+1,j,n+1,v,hj,hn,hv=>by
  have hlt:j<bI.length:=by omega
  have he:W7 (bI.drop j)=if bI[j].2.2= -1 then(bI[j].1,bI[j].2.1)::W7 (bI.drop (j+1))else W7 (bI.drop (j+1)):=by
   rw[Xbb hlt];unfold W7;rw[List.filter_cons];by_cases h:bI[j].2.2= -1
   .rw[if_pos h,if_pos (decide_eq_true h)];rfl
   .rw[if_neg h,if_neg (by simpa using h)]
  simp only[Zp,Wk,WX hlt,Wn hlt,Wv hlt,Wh (show j<4611686018427387904 by omega),cond_true,WbB];rw[he];by_cases h:bI[j].2.2= -1
  .rw[if_pos h,if_pos h,Ws (by simp;omega)];simp only[cond_true];rw[Wic oB d (j+1) n _ (by omega) (by omega) (by simp;omega)];simp
  .rw[if_neg h,if_neg h];rw[Wic oB d (j+1) n _ (by omega) (by omega) (by omega)]
 |_,_,0,_,_,h,_=>by omega
variable{N:Nat}{codes:List (List Opn)}{n:Int}{f:Fm}{k:Nat}{code:List Opn}{m:Mm}{x:Kd}
theorem Wqi{l:List En}(h:Ris cfE l):l.Pairwise (Ap cfE):=h.imp λh=>.inl h
theorem WhB(hk:k<f.kids.length)(h3:f.kids.length<=3)(jk:code.length<=24)(hF:FOk codes n f)(aq:codes.getD k []=code)(aT:f.kids[k]=x)(hN:1048576<N):
  Zbw N f.e (k:Int)=some (((Fm.put (Wfn f x k) k).e,()),()):=by
 have hx:=hF.kid k hk;rw[aq,aT]at hx;obtain⟨f0,f1,f2,f3,f4,f5,f6,f7,f8,f9⟩:=fmP f;have cG:=hx.pc;have hQ:=hx.wl;have hsl:=hx.sl;have oC:=hF.buf8;have nG:f.order.length<=3:=by
  have h1:=hF.done;have:=Xdh (p:=λx:Kd=>decide (x.phase=3)) (l:=f.kids);omega
 have qj:=hF.readsL;have e2:Xd (f.kids.map Kd.e) (Xa (k:Int)) d_KidRun=x.e:=by
  have:=Wei Kd.e f.kids k {};rw[WL hk,aT]at this;exact this
 unfold Zbw;simp only[f9,Xad];rw[Waf,decide_eq_true hk];simp only[cond_true,e2];have en:Zer N x.e.2.2.2.2.2.2.2.2.1=ret (Wdo x.writes):=Wgf (show x.writes.length<=1048576 by omega) hN;rw[en];simp only[ret,Xc];have eO:=Weo x.writes;rw[show(0:Int)=((0:Nat):Int)from rfl];rw[Wlb (aD:=Wdo x.writes) hN eO (Wdo x.writes).length 0 N _ (by omega) (by omega) (by show f.buf.length<=_;omega)];simp only[Xav];have hP6:P6 f.e=f.buf:=rfl;have hcl:Wf .i64 f.e.2.1 1=f.clock+1:=Wc4 (by have:=hF.clock;show 0<=f.clock/\_;omega);rw[hP6,hcl];obtain⟨i1,i2,i3⟩:=Wna (c:=f.clock+1) (rows:=Wdo x.writes) (Wqi hF.bufR) hF.bufR (λx=>Iff.rfl);unfold Zk;have du:=Wjk (c:=f.clock+1) (Wdo x.writes) f.buf;rw[Wol (rng:=Wqw) (N:=N) Wpj i2 i1 i3 (λe he=>?_) (by omega)]
 .simp only[Xc];have hP7:P7 x.e=x.seen:=rfl;rw[show(Kd.e x).2.2.2.2.2.2.2.1=x.seen from rfl];rw[Wic (bI:=x.seen) (by omega) x.seen.length 0 N _ (by omega) (by omega) (by show f.reads.length<=_;omega)];rw[Ws (by show f.order.length+1<=_;omega)];simp only[cond_true,Xav];have hU:∀(g:Fm) (y:Kd),U6 (Xl (f.kids.map Kd.e) k y.e) (S5 (f.reads++W7 x.seen) (S4 (f.order++ [(k:Int)]) (S3 (WbZ (f.clock+1) f.buf (Wdo x.writes)) f.e.2.2.2)))=(f.lost,f.regs,f.start,WbZ (f.clock+1) f.buf (Wdo x.writes),f.order++ [(k:Int)],f.reads++W7 x.seen,(f.kids.set k y).map Kd.e):=λg y=>by
   rw[List.map_set];rfl
  rw[Xu];exact congrArg (λz=>some (((f.rv,(f.clock+1,((0:Int),z))),()),())) (hU f {x with phase:=3,pos:=0,marks:=[]})
 .have h1:=(i3 e).1 he;have:=WcR (P:=λe=>0<=e.1/\e.1<=7) hF.bufR (λe he=>(hF.bufE e he).1) (λr hr=>(Wlr.1 hr).1) e h1;unfold Wqw WqH;simp;omega
theorem WiO(hk:k<f.kids.length)(hF:FOk codes n f)(hx:KOk code f.clock n x)(aT:f.kids[k]=x)(hn:n<=100000)(o:Int):
  Zz N (Fm.e {f with owner:=o}) (k:Int)=some (((Fm.put ({f with owner:=o},f.again x) k).e,()),()):=by
 have h:=WcW (N:=N) (f:=Fm.e {f with owner:=o}) (k:=k) (x:=x.e) (by show k<(f.kids.map Kd.e).length;simpa using hk) hF.regs.len (by have:=hx.tries;show 0<=x.tries/\x.tries<=100000;omega);have e3:U9 (Xl (Q9 (Fm.e {f with owner:=o})) k x.e) (Fm.e {f with owner:=o})=Fm.e {f with owner:=o}:=by
  have:=U9e {f with owner:=o} k x;rw[←aT]at this;simp only[Xbz]at this;rw[←aT];exact this
 rw[e3]at h;rw[h];exact congrArg (λz=>some ((z,()),())) (U9e {f with owner:=o} k (f.again x))
theorem WhO(hk:k<f.kids.length)(h3:f.kids.length<=3)(hm:WaB m=true)(be:KC code)(hF:FOk codes n f)(aq:codes.getD k []=code)(hn:n<=100000)(hN:1048576<N):
  Zc1 N f.e (k:Int) code m=some (((WfN m f k code).e,()),()):=by
 obtain⟨x,aT⟩:∃x,f.kids[k]=x:=⟨_,rfl⟩;have hx:=hF.kid k hk;rw[aq,aT]at hx;obtain⟨f0,f1,f2,f3,f4,f5,f6,f7,f8,f9⟩:=fmP f;obtain⟨k0,k1,k2,k3,k4,k5,k6,k7,k8,k9,k10⟩:=kdP x;have hsl:=hx.sl;have cG:=hx.pc;have jk:=be.len;have e2:Xd (f.kids.map Kd.e) (Xa (k:Int)) d_KidRun=x.e:=by
  have:=Wei Kd.e f.kids k {};rw[WL hk,aT]at this;exact this
 have e3:U9 (Xl (f.kids.map Kd.e) (Xa (k:Int)) x.e) f.e=f.e:=by
  rw[Xu,U9e,←aT,Xbz]
 have e4:Fm.put (f,x) k=f:=by unfold Fm.put;simp only;rw[←aT,Xbz]
 unfold Zc1 WfN WfV;simp only[Wk,f9,f3,Xad];rw[Wn8];by_cases hlost:f.lost=true
 .rw[if_pos hlost,if_pos hlost]
 rw[if_neg hlost,if_neg hlost];rw[Waf,decide_eq_true hk];simp only[cond_true,cond_false,e2,e3,k0,k4,k7,f2,WbB,WL hk,aT];by_cases h0:x.phase=0
 .rw[if_pos h0,if_pos h0,WkE hk hm be hF aq aT h0 hn hN];rfl
 .rw[if_neg h0,if_neg h0];by_cases h1:x.phase=1
  .rw[if_pos h1,if_pos h1];by_cases ho:f.owner=0
   .rw[if_pos ho,if_pos ho,Wc4 (by omega),Xu];exact Wml rfl rfl rfl
   .rw[if_neg ho,if_neg ho,e4]
  .rw[if_neg h1,if_neg h1];by_cases h2:x.phase=2
   .rw[if_pos h2,if_pos h2];unfold Wc;by_cases hp:x.pos=(x.seen.length:Int)
    .rw[if_pos hp,if_pos hp,WhB hk h3 jk hF aq aT hN];rfl
    .rw[if_neg hp,if_neg hp];have hpos:=hx.pos;have dG:inb x.pos x.seen.length=true:=by unfold inb;simp;omega
     rw[dG];have hg:Xd x.seen (Xa x.pos) ((0,0,0):En)=WeW x.seen x.pos (0,0,0):=rfl;simp only[cond_true,hg];have hY:=WdX (N:=N) (f:=f.e) (c:=(WeW x.seen x.pos (0,0,0)).1) (by show f.buf.length<=1048576;have:=hF.buf8;omega) hN;rw[show f.e.2.2.2.2.2.2.1=f.buf from rfl]at hY;rw[hY];simp only[ret,Xc,f6];have hsz:S2 (0:Int) f.e=Fm.e {f with owner:=0}:=rfl;have dF:Zz N (U9 (Xl (f.kids.map Kd.e) (Xa (k:Int)) x.e) (S2 0 f.e)) (k:Int)=some (((Fm.put ({f with owner:=0},f.again x) k).e,()),()):=by
      rw[hsz];have h:=U9e {f with owner:=0} k x;rw[Xu];rw[show(U9 (Xl (f.kids.map Kd.e) k x.e) (Fm.e {f with owner:=0}))=Fm.e {f with owner:=0} by
       rw[h,←aT];simp only[Xbz]]
      exact WiO hk hF hx aT hn 0
     unfold WqU;have kV:Wf .i64 x.pos 1=x.pos+1:=Wc4 (by omega);rw[kV];cases he:ent f.buf (WeW x.seen x.pos (0,0,0)).1 with
     |some a=>
      obtain⟨g1,g2,g3,g4⟩:=WdO he;rw[Xbe]at g3;rw[Xdr,Xr g3]at g4;injection g4 with g4;simp only[decide_eq_true (show((a.1:Int)>=0) by omega),cond_true];rw[Waf,decide_eq_true g3];simp only[cond_true,Wv g3,g4];by_cases hv:a.2.2.2=(WeW x.seen x.pos (0,0,0)).2.2
      .rw[if_pos hv,if_pos hv,Xu];exact Wml rfl rfl rfl
      .rw[if_neg hv,if_neg hv,dF];rfl
     |none=>
      simp only[show decide ((-1:Int)>=0)=false from rfl,cond_false];by_cases hv:(-1:Int)=(WeW x.seen x.pos (0,0,0)).2.2
      .rw[if_pos hv,if_pos hv,Xu];exact Wml rfl rfl rfl
      .rw[if_neg hv,if_neg hv,dF];rfl
   .rw[if_neg h2,if_neg h2,e4]
end
section
section
variable{codes:List (List Opn)}{n:Int}{f f':Fm}{k:Nat}{code:List Opn}{m:Mm}{x y:Kd}
theorem FOk.len3(h:FOk codes n f)(h3:codes.length<=3):f.order.length<=3:=by
 have h1:=h.done;have:=Xdh (p:=λx:Kd=>decide (x.phase=3)) (l:=f.kids);have:=h.len;omega
theorem FOk.put1(h:FOk codes n f)(hk:k<f.kids.length)(aq:codes.getD k []=code){o:Int}{l:Bool}(ho:0<=o/\o<=f.kids.length)(hy:KOk code f.clock (n+1) y)(hp:f.kids[k].phase≠3)(qk:y.phase≠3):
  FOk codes (n+1) (Fm.put ({f with owner:=o,lost:=l},y) k) where
 len:=by show(f.kids.set k y).length=_;rw[Xau];exact h.len
 regs:=h.regs
 clock:=h.clock
 done:=by
  show f.order.length=(f.kids.set k y).countP _;rw[Xga hk,if_neg (by simpa using hp),if_neg (by simpa using qk)];exact h.done
 bufR:=h.bufR
 bufE:=h.bufE
 readsL:=h.readsL
 readsE:=h.readsE
 owner:=by show 0<=o/\o<=((f.kids.set k y).length:Int);rw[Xau];exact ho
 kid:=λi hi=>by
  change i<(f.kids.set k y).length at hi;rw[Xau]at hi;show KOk (codes.getD i []) f.clock (n+1) (f.kids.set k y)[i];rw[Xdb];by_cases he:k=i
  .subst he;rw[if_pos rfl,aq];exact hy
  .rw[if_neg he];exact(h.kid i hi).wk (by omega) (by omega)
theorem FOk.wk(h:FOk codes n f){n':Int}(hn:n<=n'):FOk codes n' f:=
 {h with kid:=λk hk=>(h.kid k hk).wk (by omega) hn}
theorem Whq(h:∀e∈x.seen,(0<=e.1/\e.1<=7)/\(0<=e.2.1/\e.2.1<=65535)/\ -1<=e.2.2/\e.2.2<=x.since):WlP (W7 x.seen):=by
 intro r hr;unfold W7 at hr;obtain⟨e,he,rfl⟩:=Xt.1 hr;have:=h e (List.mem_filter.1 he).1;exact⟨this.1,this.2.1⟩
theorem Wjm(l:List En):(W7 l).length<=l.length:=by
 unfold W7;rw[Xad];exact List.length_filter_le _ _
theorem We9{c:Int}:∀{rows:List Rw} {M:List En},Ris cfE M->Ris cfE (WbZ c M rows)
 | [],_,h=>h
 |r::rows,M,h=>We9 (rows:=rows) (WcP Wpj h)
theorem WmF(hF:FOk codes n f)(hk:k<f.kids.length)(be:code.length<=24)(aq:codes.getD k []=code)(aT:f.kids[k]=x)(h2:x.phase=2):
  FOk codes (n+1) (Fm.put (Wfn f x k) k):=by
 have hx:=hF.kid k hk;rw[aq,aT]at hx;have hc:=hF.clock;unfold Wfn Fm.put;refine{len:=?_,regs:=hF.regs,clock:=?_,done:=?_,bufR:=We9 hF.bufR,bufE:=?_,readsL:=?_,readsE:=?_,owner:=?_,kid:=?_}
 .simp only[Xau];exact hF.len
 .simp only[Xw,Xdy];omega
 .simp only[Xw,Xdy];rw[Xga hk,aT,if_neg (by simp[h2]),if_pos (by simp),←hF.done];rfl
 .simp only;refine WcR hF.bufR (λe he=>?_) λr hr=>?_
  .have:=hF.bufE e he;exact⟨this.1,this.2.1,this.2.2.1,by omega⟩
  .have:=WjE r hr;exact⟨this.1,this.2,by simp only;omega,by simp only;omega⟩
 .have h1:=hF.readsL;have h2:=Wjm x.seen;have h3:=hx.sl;have h4:=hx.pc;simp only[Xw,Xdy];omega
 .intro r hr;rcases Xk.1 hr with hr|hr
  .exact hF.readsE r hr
  .exact Whq hx.seen r hr
 .simp only[Xau];omega
 .intro i hi;simp only[Xau]at hi;simp only[Xdb];by_cases he:k=i
  .subst he;rw[if_pos rfl,aq];refine KOk.wk (c:=f.clock) (n:=n) ?_ (by omega) (by omega);exact{hx with marks:=(λh=>by(change (3:Int)=0 at h;omega)),pos:=⟨Xcf _,by show(0:Int)<=_;omega⟩,phase:=by(show(0:Int)<=3/\(3:Int)<=3;omega)}
  .rw[if_neg he];exact(hF.kid i hi).wk (by omega) (by omega)
theorem Wob(hk:k<f.kids.length)(hm:WaB m=true)(be:KC code)(hF:FOk codes n f)(aq:codes.getD k []=code):FOk codes (n+1) (WfN m f k code):=by
 obtain⟨x,aT⟩:∃x,f.kids[k]=x:=⟨_,rfl⟩;have hx:=hF.kid k hk;rw[aq,aT]at hx;have e4:Fm.put (f,x) k=f:=by unfold Fm.put;simp only;rw[←aT,Xbz]
 have hFw:=hF.wk (show n<=n+1 by omega);unfold WfN WfV;split
 .exact hFw
 rw[WL hk,aT];split
 .rename_i h0;obtain⟨h1,h2⟩:=WpR be hF hx h0 hm;have ql:(Wkx m f x code).2.phase≠3:=by
   unfold Wkx Wd0 WfR;simp only
   repeat' split
   all_goals simp[h0,Fm.again]
  have:=h1;have key:∀q:Fm×Kd,(q.1=f\/q.1={f with lost:=true})->KOk code f.clock (n+1) q.2->q.2.phase≠3->FOk codes (n+1) (Fm.put q k):=by
   rintro⟨g,y⟩ hg hy hp;simp only at hg hy hp;rcases hg with rfl|rfl
   .exact FOk.put1 (o:=g.owner) (l:=g.lost) hF hk aq hF.owner hy (by rw[aT,h0];omega) hp
   .exact FOk.put1 (o:=f.owner) (l:=true) hF hk aq hF.owner hy (by rw[aT,h0];omega) hp
  exact key _ h2 h1 ql
 .split
  .rename_i h1;split
   .refine FOk.put1 (o:=(k:Int)+1) (l:=f.lost) hF hk aq (by omega) ?_ (by rw[aT,h1];omega) (by show(2:Int)≠3;omega);refine KOk.wk (c:=f.clock) (n:=n) ?_ (by omega) (by omega);exact{hx with marks:=(λh=>by(change (2:Int)=0 at h;omega)),phase:=by(show(0:Int)<=2/\(2:Int)<=3;omega)}
   .rw[e4];exact hFw
  .split
   .rename_i h2;split
    .exact WmF hF hk be.len aq aT h2
    .simp only;split
     .refine FOk.put1 (o:=f.owner) (l:=f.lost) hF hk aq hF.owner ?_ (by rw[aT,h2];omega) (by show x.phase≠3;omega);refine KOk.wk (c:=f.clock) (n:=n) ?_ (by omega) (by omega);exact{hx with pos:=by(have:=hx.pos;show 0<=x.pos+1/\x.pos+1<=(x.seen.length:Int);omega)}
     .refine FOk.put1 (o:=0) (l:=f.lost) hF hk aq (by omega) (Wk4 hx rfl hF.regs hF.clock.1) (by rw[aT,h2];omega) (by show(0:Int)≠3;omega)
   .rw[e4];exact hFw
theorem Wmw{rv:Int}{regs:List Int}{writes:List Rw}(hr:Vals 4 regs)(hn:0<=n):FOk codes n (Wby rv regs writes codes.length) where
 len:=by simp[Wby]
 regs:=hr
 clock:=by simp[Wby]
 done:=by
  simp only[Wby,Xde];rw[List.countP_replicate,if_neg (by simp)]
 bufR:=by
  unfold Ris Wby;simp only[List.pairwise_map];exact(WpJ writes).imp λ{a b} h=>by unfold cfE;simp only;omega
 bufE:=λe he=>by
  obtain⟨r,hr,rfl⟩:=Xt.1 he;have:=WjE r hr;exact⟨this.1,this.2,by simp[Wby]⟩
 readsL:=by simp[Wby]
 readsE:=λr hr=>by cases hr
 owner:=by simp[Wby]
 kid:=λk hk=>by
  simp only[Wby,List.getElem_replicate];exact{pc:=by simp,regs:=hr,rows:=(λr hr=>by cases hr),wl:=by simp,sl:=by simp,since:=by simp,tries:=by simp;omega,seen:=(λe he=>by cases he),marks:=(λ_=>⟨by simp[stk],(λq hq=>by cases hq),List.Pairwise.nil⟩),pos:=by simp,pb:=(λh=>by cases h),phase:=by simp,out:=by simp}
end
end
section
variable{N:Nat}
theorem WgB{rv:Int}{regs:List Int}{writes:List Rw}{kids:Nat}(hr:regs.length<=1000)(hw:writes.length<=1000)(hk:kids<=3)(hN:1048576<N):
  Zc6 N rv regs writes (kids:Int)=ret (Wby rv regs writes kids).e:=by
 unfold Zc6;rw[WcS (by omega),Wgf (by omega) hN];have hn:=Weo writes;simp only[ret,Xc];have h1:=Wp (l:=Wdo writes) (V:=List En) (R:=Unit×(Y_Family×Unit)) (lp:=λn j v=>Zao N regs kids (Wc (Wdo writes)) rv (Wdo writes) regs (λt25 pW cF=>
  (Zy N regs kids rv regs (Wdo writes) cF
 (λmT t50 ja=>
  (some ((),((rv,((0:Int),((0:Int),(false,(regs,(Wdo writes,(cF,(([]:List Int),(([]:List Kc),ja))))))))),()))))
 N (0:Int) ([]:List Y_KidRun))) n j v) (n:=N) (by omega)
  (body:=λj x v k=>bif WT (v.length+ [(x.1,(x.2,(0:Int)))].length)then k (Xp v [(x.1,(x.2,(0:Int)))])else none) (K:=λ_ cF=>(Zy N regs kids rv regs (Wdo writes) cF
 (λmT t50 ja=>
  (some ((),((rv,((0:Int),((0:Int),(false,(regs,(Wdo writes,(cF,(([]:List Int),(([]:List Kc),ja))))))))),()))))
 N (0:Int) ([]:List Y_KidRun)))
  (λn i v hi=>by simp only[Zao,WX hi,Wn hi,Wv hi,Wh (show i<4611686018427387904 by omega),cond_true])
  (λn v=>by simp only[Zao,Wac (Xj _),cond_false]) []
 refine h1.trans ?_;rw[Wdf (f:=λx:Rw=>(x.1,(x.2,(0:Int)))) (Wdo writes) 0 [] (by simp;omega) (λj x v k _=>rfl)];simp only[Xbj];obtain⟨b,hb⟩:∃b,(Wdo writes).map (λx:Rw=>(x.1,(x.2,(0:Int))))=b:=⟨_,rfl⟩;rw[hb];have lp:∀(d j n:Nat) (v:List Y_KidRun),j+d=kids->d<n->v=Xy j (Kd.e {regs:=regs})->Zy N regs kids rv regs (Wdo writes) b (λmT t50 ja=>(some ((),((rv,((0:Int),((0:Int),(false,(regs,(Wdo writes,(b,(([]:List Int),(([]:List Kc),ja))))))))),())))) n (j:Int) v=some ((),((rv,((0:Int),((0:Int),(false,(regs,(Wdo writes,(b,(([]:List Int),(([]:List Kc),Xy kids (Kd.e {regs:=regs})))))))))),())):=by
  intro d
  induction d with
  |zero=>
   intro j n v hj hn hv;obtain⟨n,rfl⟩:∃n',n=n'+1:=⟨n-1,by omega⟩;have:j=kids:=by omega
   subst this;simp only[Zy,Int.lt_irrefl,decide_false,cond_false,hv]
  |succ d ih=>
   intro j n v hj hn hv;obtain⟨n,rfl⟩:∃n',n=n'+1:=⟨n-1,by omega⟩;have hlt:(j:Int)<(kids:Int):=by omega
   have la:v.length=j:=by rw[hv];simp
   simp only[Zy,decide_eq_true hlt,cond_true,WcS (show regs.length<=1048576 by omega),ret,Xc];rw[Ws (by simp;omega)];simp only[cond_true];rw[Wh (by omega)];refine ih (j+1) n _ (by omega) (by omega) ?_;rw[hv,Xfl];rfl
 have:=lp kids 0 N [] (by omega) (by omega) rfl;refine this.trans ?_;unfold Wby Fm.e;simp only[Xfs,hb]
end
section
theorem Wid{N:Nat}{m:Mm}{f:Y_Family}{x:Y_KidRun}{o:Int×Int×Int×Int}(h:ReadOk m f x o)(hN:1048576<N):
  Zdm N m f x o=some ((m,()),((Wc0 m f x o).1,((Wc0 m f x o).2,()))):=by
 have hw:=h.wr;have hs:=h.seen;have hb:=h.buf;have hr:=h.regs;unfold Zdm Wc0;simp only[Wk,Wec];rw[Wfk (show(P8 x).length<=1048576 by omega) hN];rcases Wbq (P8 x) o.2.2.1 with _|v
 .simp only[opI,Xc,cond_false];rw[Wgi (show(P6 f).length<=1048576 by omega) hN,Wem h.famr h.tries,Wew (show(P6 x).length<=1048576 by omega)];rw[Wc4 (by have:=h.pc;omega)];rcases he:ent (P6 f) o.2.2.1 with _|r
  .have e1:decide ((-1:Int)>x.2.2.1)=false:=by have:=h.since;simp;omega
   simp only[ret,Xc,e1,cond_false,show decide ((-1:Int)<0)=true from rfl,cond_true];have hp:=h.pbO;have e3:∀(a b:Nat),a<=1000->b<=1000->WT (a+b)=true:=λa b h1 h2=>Ws (by omega);cases hc:P10 x
   .have gT:Wip x o.2.2.1=(o.2.2.1,(0,(0,0))):=by unfold Wip;rw[hc];rfl
    rw[gT]at hp⊢;simp only[Xcy,cond_true,WgU h.mem hp hN,ret,Xc,rgI hr h.rA];generalize WaD m f.1 (o.2.2.1,(0,(0,0)))=q;rw[Ws (by simp;omega),Ws (by simp;omega)];unfold bne;cases q.2.1==4<;>cases q.2.1==3<;>rfl
   .have gT:Wip x o.2.2.1=Q11 x:=by unfold Wip;rw[hc];rfl
    rw[gT]at hp⊢;simp only[Xaj,cond_false,WgU h.mem hp hN,ret,Xc,rgI hr h.rA,cond_true];generalize WaD m f.1 (Q11 x)=q;rw[Ws (by simp;omega),Ws (by simp;omega),Wk6 hc];unfold bne;cases q.2.1==4<;>cases q.2.1==3<;>rfl
  .have hm:=WdO he;have hmem:r.2∈P6 f:=by
    have:=hm.2.2.2;exact List.mem_of_getElem? this
   have hv:=h.ver _ hmem;have e2:decide (r.2.2.2<0)=false:=by simp;omega
   simp only[ret,Xc,e2,cond_false,rgI hr h.rA,cond_true];rw[Ws (by simp;omega),Ws (by simp;omega)];cases decide (r.2.2.2>x.2.2.1)<;>rfl
 .simp only[opI,Xc,cond_true];rw[Wew (show(P6 x).length<=1048576 by omega),Wc4 (by have:=h.pc;omega)];simp only[ret,Xc,rgI hr h.rA,cond_true]
variable{N:Nat}{m:Mm}{f g:Fm}{x y:Kd}{k:Nat}{n:Int}{code:List Opn}{codes:List (List Opn)}
theorem Wka(hk:k<f.kids.length)(hm:WaB m=true)(be:KC code)(hF:FOk codes n f)(aq:codes.getD k []=code)(aT:f.kids[k]=x)(h0:x.phase=0)(hn:n<=100000)(hN:1048576<N):
  Zeq N m f.e x.e code=some ((m,()),((Wkx m f x code).1.e,((Wkx m f x code).2.e,()))):=by
 have hx:=hF.kid k hk;rw[aq,aT]at hx;obtain⟨k0,k1,k2,k3,k4,k5,k6,k7,k8,k9,k10⟩:=kdP x;have cG:=hx.pc;have hlen:=be.len;have hQ:=hx.wl;unfold Zeq Wkx;simp only[Wk,Wec,k1,k6,k8,k9,show Wc code=(code.length:Int)from rfl,WbB];by_cases cI:x.pc>=code.length
 .rw[if_pos (by omega),if_pos cI];rfl
 .rw[if_neg (by omega),if_neg cI];obtain⟨j,hj,ej,eo⟩:=Wnu (l:=code) cG.1 (by omega);have nE:Xd code (Xa x.pc) ((0,0,0,0):Opn)=opN code x.pc:=rfl;have dG:inb x.pc code.length=true:=by rw[ej,Waf];exact decide_eq_true hj
  rw[dG];obtain⟨ok,o1,fx⟩:=be.ok j hj;have cW:=be.k10 j hj;simp only[cond_true,nE];rw[←eo]at ok o1 cW;generalize opN code x.pc=o at*;have fB:=hx.regs.len;rw[Wc4 (show 0<=x.pc/\x.pc<=1000000 by omega)];by_cases h5:o.1=5
  .rw[if_pos h5,if_pos h5];have:=WqO ok h5;have iz:=Wis hF hx be hm hn this.1 this.2;rw[Wid iz hN];simp only[Xc,Wjq]
  rw[if_neg h5,if_neg h5];have gw:x.marks.length<=24:=by
   have:=congrArg Xb (hx.marks h0).pcs;simp only[Xad]at this;have h2:=Wbe be.up x.pc.toNat (by omega);have h3:=(WbM code x.pc.toNat).2;omega
  by_cases ba:o.1=10
  .rw[if_pos ba,if_neg (by omega),if_neg (by omega),if_neg (by omega),if_neg (by omega),if_pos ba];unfold WfR;by_cases hz:x.marks.length=0
   .rw[if_pos (show Wc x.marks=0 by unfold Wc;omega),if_pos hz];rfl
   rw[if_neg (show¬Wc x.marks=0 by unfold Wc;omega),if_neg hz];obtain⟨i,q,y,e1,kT,kU,⟨hi,jH⟩,kS,bz,fP,e5,e6⟩:=Whd (d:=((0,0,[]):KM)) be.toCC (show x.pc.toNat<=code.length by omega) (hx.marks h0).pcs hz;have fI:x.marks.length=q.length+1:=by rw[e1];simp
   have i1:Wa8 .i64 (Wc x.marks) 1=(q.length:Int):=by rw[Whe (by omega),fI];omega
   have g1:Xd x.marks (Xa (q.length:Int)) ((0,0,[]):KM)=y:=by rw[e1];simp
   have t1:List.take (Xa (q.length:Int)) x.marks=x.marks.dropLast:=by rw[e1];simp
   have b1:(decide ((0:Int)<=(q.length:Int))&&decide ((q.length:Int)<=(x.marks.length:Int)))=true:=by simp;omega
   have hdl:x.marks.dropLast.length<=24:=by rw[Xct];omega
   have hy:y∈x.marks:=by rw[e1];simp
   obtain⟨y1,y2,y3,y4⟩:=(hx.marks h0).each y hy;rw[i1,Waf,decide_eq_true (show q.length<x.marks.length by omega),b1];simp only[cond_true,g1,t1,kT];rw[Ws (by simp;omega),Wew (by rw[y1.len];omega)];simp only[ret,Xc,cond_true];rw[kU,Waf,decide_eq_true hi];have li:Xd code (Xa ((i:Nat):Int)) ((0,0,0,0):Opn)=opN code (i:Int):=rfl;have hr:=WqA (be.ok i hi).1 jH;rw[←WhL hi]at hr;simp only[cond_true,li];rw[Wa2 hr y1.len];have b2:(decide ((0:Int)<=y.2.1)&&decide (y.2.1<=(x.writes.length:Int)))=true:=by simp;omega
   rw[b2,Ws (by rw[List.length_take];simp;omega),WjX (by omega) hN ⟨hi,jH⟩ bz];simp only[ret,Xc,cond_true];rw[Wc4 (by have:=bz.len;omega),Xu];rw[WgW bz];rfl
  rw[if_neg ba,if_neg ba];by_cases h6:o.1=6
  .rw[if_pos h6,if_pos h6];rw[Wa2 (WqT ok h6).2 fB,Ws (by simp;omega),Ws (by simp;omega)];simp only[cond_true,Wec];rfl
  rw[if_neg h6,if_neg h6];by_cases h7:o.1=7
  .rw[if_pos h7,if_pos h7];have h:=Wq2 ok h7;rw[Wa2 h.1 fB,W3 (a:=x.pc) (b:=o.2.2.1) (by unfold I64;omega),Wc4 (a:=x.pc+o.2.2.1) (by omega)];simp only[cond_true,WbB];by_cases hg:Xd x.regs (Xa o.2.1) 0=0
   .rw[if_pos hg,if_pos (show WeW x.regs o.2.1 0=0 from hg)];rfl
   .rw[if_neg hg,if_neg (show¬WeW x.regs o.2.1 0=0 from hg)];rfl
  rw[if_neg h7,if_neg h7];by_cases h8:o.1=8
  .rw[if_pos h8,if_pos h8];rw[Wew (show x.regs.length<=1048576 by omega),Ws (by simp;omega)];simp only[ret,Xc,cond_true];rw[Ws (by simp;omega)];rfl
  rw[if_neg h8,if_neg h8];by_cases h9:o.1=9
  .rw[if_pos h9,if_pos h9];have hz:x.marks.length≠0:=by
    intro hz;have h1:=congrArg Xb (hx.marks h0).pcs;simp only[Xad,hz]at h1;have h2:=Wbe be.up j (by omega);have h3:=be.up j hj;rw[Wam hj,WhK (by rw[←eo];exact h9)]at h3;rw[ej,Xu]at h1;omega
   obtain⟨i,q,y,e1,kT,kU,⟨hi,jH⟩,kS,bz,fP,e5,e6⟩:=Whd (d:=((0,0,[]):KM)) be.toCC (show x.pc.toNat<=code.length by omega) (hx.marks h0).pcs hz;have fI:x.marks.length=q.length+1:=by rw[e1];simp
   have i1:Wa8 .i64 (Wc x.marks) 1=(q.length:Int):=by rw[Whe (by omega),fI];omega
   have g1:Xd x.marks (Xa (q.length:Int)) ((0,0,[]):KM)=y:=by rw[e1];simp
   have t1:List.take (Xa (q.length:Int)) x.marks=x.marks.dropLast:=by rw[e1];simp
   have b1:(decide ((0:Int)<=(q.length:Int))&&decide ((q.length:Int)<=(x.marks.length:Int)))=true:=by simp;omega
   have hdl:x.marks.dropLast.length<=24:=by rw[Xct];omega
   rw[i1,Waf,decide_eq_true (show q.length<x.marks.length by omega),b1];simp only[cond_true,g1,t1,kT];rw[Ws (by simp;omega),Wew (show x.regs.length<=1048576 by omega)];simp only[ret,Xc,cond_true];rw[kU,Waf,decide_eq_true hi];have o1:Xd code (Xa ((i:Nat):Int)) ((0,0,0,0):Opn)=opN code (i:Int):=rfl;have hr:=WqA (be.ok i hi).1 jH;rw[←WhL hi]at hr;simp only[cond_true,o1];rw[Wa2 hr fB];rfl
  rw[if_neg h9,if_neg h9];have:=WiY hN ok (by omega) (by omega) hx.regs;rw[this];rfl
end
section
variable{N:Nat}{m:Mm}{f g:Fm}{x y:Kd}{k:Nat}{n:Int}{code:List Opn}{codes:List (List Opn)}{e:En}
def goP(e:En):List En->Bool->List En->Bool×List En
 | [],d,o=>(d,o)
 |z::l,d,o=>if d=true then goP e l true (if z.1=e.1 then o else o++ [z])else
  if z.1>=e.1 then goP e l true (if z.1=e.1 then o++ [e]else o++ [e]++ [z])else goP e l false (o++ [z])
theorem WoK{z:En}{l o:List En}:goP e (z::l) false o=if z.1>=e.1 then goP e l true (if z.1=e.1 then o++ [e]else o++ [e]++ [z])else goP e l false (o++ [z]):=by
 rw[goP];exact if_neg (λh=>by cases h)
theorem Wk1:∀(l:List En) (o:List En),(∀z∈l,z.1≠e.1)->goP e l true o=(true,o++l)
 | [],o,_=>by simp[goP]
 |z::l,o,h=>by
  rw[goP,if_pos rfl,if_neg (h z (Xg ..)),Wk1 l _ λy hy=>h y (Xe _ hy)];simp
theorem Wm3:∀(l:List En) (o:List En),Ris cfE l->(if(goP e l false o).1=true then(goP e l false o).2 else(goP e l false o).2++ [e])=o++WcU cfE l e
 | [],o,_=>by simp[goP,WcU]
 |z::l,o,h=>by
  have hp:=List.pairwise_cons.1 h;have hlt:∀y∈l,z.1<y.1:=λy hy=>by have:=hp.1 y hy;unfold cfE at this;omega
  rw[WoK,WcU];by_cases h1:z.1>=e.1
  .rw[if_pos h1,Wk1 l _ (λy hy=>by have:=hlt y hy;omega)];rw[if_pos rfl,if_neg (show¬cfE z e<0 by unfold cfE;omega)];by_cases h2:z.1=e.1
   .rw[if_pos h2,if_neg (show¬cfE e z<0 by unfold cfE;omega)];simp
   .rw[if_neg h2,if_pos (show cfE e z<0 by unfold cfE;omega)];simp
  .rw[if_neg h1,Wm3 l _ hp.2,if_pos (show cfE z e<0 by unfold cfE;omega)];simp
theorem WlZ{R:Type}{l:List En}{K0:Bool->Int->Bool->List En->Option R}(hl:l.length<=1000):∀(dd j n:Nat) (d:Bool) (o:List En),j+dd=l.length->dd<n->o.length<=j+d.toNat->
  Zh N l e K0 n d (j:Int) o=K0 (goP e (l.drop j) d o).1 (l.length:Int) false (goP e (l.drop j) d o).2:=by
 intro dd
 induction dd with
 |zero=>
  intro j n d o hj hn ho;obtain⟨n,rfl⟩:∃n',n=n'+1:=⟨n-1,by omega⟩;have:j=l.length:=by omega
  subst this;simp only[Zh,Wac (Xj _),cond_false,Xch,goP]
 |succ dd ih=>
  intro j n d o hj hn ho;obtain⟨n,rfl⟩:∃n',n=n'+1:=⟨n-1,by omega⟩;have hlt:j<l.length:=by omega
  have hdt:d.toNat<=1:=by cases d<;>simp
  have r1:∀z:En,WT (o.length+ [z].length)=true:=λz=>Ws (by simp;omega);have r2:∀z:En,WT ((Xp o [e]).length+ [z].length)=true:=λz=>Ws (by simp[Xbo];omega);have hne:(l[j].1 !=e.1)=decide (l[j].1≠e.1):=by by_cases z:l[j].1=e.1<;>simp[z]
  have cI:∀z:Bool,goP e (l.drop j) z o=goP e (l[j]::l.drop (j+1)) z o:=λz=>by rw[←Xbb hlt]
  have g2:Xd l (Xa (j:Int)) ((0:Int),((0:Int),(0:Int)))=l[j]:=Wv hlt _;by_cases heq:l[j].1=e.1
  .have e1:decide (l[j].1≠e.1)=false:=decide_eq_false (λz=>z heq);have e2:decide (l[j].1>=e.1)=true:=decide_eq_true (by omega);cases d with
   |true=>
    simp only[Zh,WX hlt,Wn hlt,g2,cond_true,hne,e1,cond_false,Xaj,Wh (show j<4611686018427387904 by omega)];rw[ih (j+1) n true o (by omega) (by omega) (by simp at ho⊢;omega),cI true,goP,if_pos rfl,if_pos heq]
   |false=>
    simp only[Zh,WX hlt,Wn hlt,g2,cond_true,hne,e1,e2,cond_false,Xcy,r1,Wh (show j<4611686018427387904 by omega),Xbo];rw[ih (j+1) n true _ (by omega) (by omega) (by simp at ho⊢;omega),cI false,WoK,if_pos (by omega),if_pos heq]
  .have e1:decide (l[j].1≠e.1)=true:=decide_eq_true heq;cases d with
   |true=>
    simp only[Zh,WX hlt,Wn hlt,g2,cond_true,hne,e1,cond_false,Xaj,r1,Wh (show j<4611686018427387904 by omega),Xbo];rw[ih (j+1) n true _ (by omega) (by omega) (by simp at ho⊢;omega),cI true,goP,if_pos rfl,if_neg heq]
   |false=>
    by_cases h2:l[j].1>=e.1
    .have e2:decide (l[j].1>=e.1)=true:=decide_eq_true h2;simp only[Zh,WX hlt,Wn hlt,g2,cond_true,hne,e1,e2,cond_false,Xcy,r1,r2,Wh (show j<4611686018427387904 by omega)];simp only[Xbo];rw[ih (j+1) n true _ (by omega) (by omega) (by simp at ho⊢;omega),cI false,WoK,if_pos h2,if_neg heq]
    .have e2:decide (l[j].1>=e.1)=false:=decide_eq_false h2;simp only[Zh,WX hlt,Wn hlt,g2,cond_true,hne,e1,e2,cond_false,Xcy,r1,Wh (show j<4611686018427387904 by omega),Xbo];rw[ih (j+1) n false _ (by omega) (by omega) (by simp at ho⊢;omega),cI false,WoK,if_neg h2]
theorem WkM{l:List En}(h:Ris cfE l)(hl:l.length<=1000)(hN:1048576<N):Zel N l e=ret (WcU cfE l e):=by
 unfold Zel;rw[show(0:Int)=((0:Nat):Int)from rfl,WlZ hl l.length 0 N false [] (by omega) (by omega) (by simp)];have hg:=Wm3 (e:=e) l [] h;rw[Xav];have hlen:(goP e l false []).2.length<=2000:=by
  have:∀(l:List En) (d:Bool) (o:List En),(goP e l d o).2.length<=o.length+2*l.length:=by
   intro l
   induction l with
   |nil=>intro d o;simp[goP]
   |cons z l ih=>
    intro d o;rw[goP];split
    .split
     .have:=ih true o;simp;omega
     .have:=ih true (o++ [z]);simp at this⊢;omega
    .split
     .split
      .have:=ih true (o++ [e]);simp at this⊢;omega
      .have:=ih true (o++ [e]++ [z]);simp at this⊢;omega
     .have:=ih false (o++ [z]);simp at this⊢;omega
  have:=this l false [];simp at this;omega
 cases hd:(goP e l false []).1 with
 |true=>
  rw[hd,if_pos rfl,Xbj]at hg;rw[hg];rfl
 |false=>
  rw[hd,if_neg (by simp),Xbj]at hg;rw[Ws (by simp;omega)];simp only[Xcy,cond_true,Xbo,hg]
theorem WlM{R:Type}{rows:List Rw}{c:Int}{a1 a2 a3:Int}{a4:Bool}{a5:List Int}{a6:List Rw}{a7:Y_KidRun}{a8:List Int}{a9:List Rw}{bf:List Y_KidRun}{K0:Int->Bool->List En->Option R}(hr:rows.length<=8)(hN:1048576<N):∀(dd j n:Nat) (b:List En),j+dd=rows.length->dd<n->Ris cfE b->b.length<=100+j->
  Zan N a1 a2 c a3 a4 a5 a6 a7 rows a8 a9 bf K0 n (j:Int) b=K0 (rows.length:Int) false (WbZ c b (rows.drop j)):=by
 intro dd
 induction dd with
 |zero=>
  intro j n b hj hn hb hbl;obtain⟨n,rfl⟩:∃n',n=n'+1:=⟨n-1,by omega⟩;have:j=rows.length:=by omega
  subst this;simp only[Zan,Wac (Xj _),cond_false,Xch];rfl
 |succ dd ih=>
  intro j n b hj hn hb hbl;obtain⟨n,rfl⟩:∃n',n=n'+1:=⟨n-1,by omega⟩;have hlt:j<rows.length:=by omega
  have g2:Xd rows (Xa (j:Int)) ((0:Int),(0:Int))=rows[j]:=Wv hlt _;simp only[Zan,WX hlt,Wn hlt,g2,cond_true];rw[WkM hb (by omega) hN];simp only[ret,Xc,Wh (show j<4611686018427387904 by omega)];have dr:=Wjg (cf:=cfE) b ((rows[j].1,(rows[j].2,c)):En);rw[ih (j+1) n _ (by omega) (by omega) (WcP Wpj hb) (by omega),Xbb hlt];rfl
theorem Wkp{R:Type}{z:Kd}{a0 a1 a2 a3:Int}{a4:Bool}{a5:List En}{a6:List Int}{a8:List Int}{a9:List Rw}{bf:List Y_KidRun}{K0:Int->Bool->List Rw->Option R}(hs:z.seen.length<=100)(hv:∀e∈z.seen,-1<=e.2.2):∀(dd j n:Nat) (o:List Rw),j+dd=z.seen.length->dd<n->o.length<=1000+j->
  Z6 N a0 a1 a2 a3 a4 a5 a6 z.e a8 a9 bf K0 n (j:Int) o=K0 (z.seen.length:Int) false (o++W7 (z.seen.drop j)):=by
 have e7:P7 z.e=z.seen:=rfl;intro dd
 induction dd with
 |zero=>
  intro j n o hj hn ho;obtain⟨n,rfl⟩:∃n',n=n'+1:=⟨n-1,by omega⟩;have:j=z.seen.length:=by omega
  subst this;simp only[Z6,e7,Wac (Xj _),cond_false,Xch];simp[W7]
 |succ dd ih=>
  intro j n o hj hn ho;obtain⟨n,rfl⟩:∃n',n=n'+1:=⟨n-1,by omega⟩;have hlt:j<z.seen.length:=by omega
  have g2:Xd z.seen (Xa (j:Int)) ((0:Int),((0:Int),(0:Int)))=z.seen[j]:=Wv hlt _;have h1:=hv _ (Xas hlt);have aj:∀x:Rw,WT (o.length+ [x].length)=true:=λx=>Ws (by simp;omega);simp only[Z6,Wk,e7,WX hlt,Wn hlt,g2,cond_true,aj,Wh (show j<4611686018427387904 by omega),Xbo];rw[Xbb hlt];by_cases hz:z.seen[j].2.2= -1
  .rw[decide_eq_true (show z.seen[j].2.2<0 by omega),cond_true,ih (j+1) n _ (by omega) (by omega) (by simp;omega)];unfold W7;rw[List.filter_cons_of_pos (by simpa using hz),Xag,Xbk];rfl
  .rw[decide_eq_false (show¬z.seen[j].2.2<0 by omega),cond_false,ih (j+1) n _ (by omega) (by omega) (by omega)];unfold W7;rw[List.filter_cons_of_neg (by simpa using hz)]
theorem WhP(hk:k<f.kids.length)(h3:f.kids.length<=3)(jk:code.length<=24)(hF:FOk codes n f)(aq:codes.getD k []=code)(aT:f.kids[k]=x)(hN:1048576<N):
  Zc4 N f.e x.e (k:Int)=some ((),((Wfn f x k).1.e,((Wfn f x k).2.e,()))):=by
 have hx:=hF.kid k hk;rw[aq,aT]at hx;have cG:=hx.pc;have hQ:=hx.wl;have hsl:=hx.sl;have oC:=hF.buf8;have nG:f.order.length<=3:=by
  have h1:=hF.done;have:=Xdh (p:=λx:Kd=>decide (x.phase=3)) (l:=f.kids);omega
 have qj:=hF.readsL;unfold Zc4;have e8:P8 x.e=x.writes:=rfl;rw[e8,WfJ (by omega) hN];simp only[ret,Xc];have hcl:Wf .i64 f.e.2.1 1=f.clock+1:=Wc4 (by have:=hF.clock;show 0<=f.clock/\f.clock<=1000000;omega);have hP6:P6 f.e=f.buf:=rfl;have eO:=Weo x.writes;rw[hcl,hP6,show(0:Int)=((0:Nat):Int)from rfl];rw[WlM (rows:=Wdo x.writes) eO hN (Wdo x.writes).length 0 N _ (by omega) (by omega) hF.bufR (by omega)];have h8:P8 f.e=f.reads:=rfl;have h7:P7 f.e=f.order:=rfl;rw[h8,h7,Ws (by simp;omega)];simp only[cond_true,Xav,Xbo,Xbj];rw[Wkp (by omega) (λe he=>(hx.seen e he).2.2.1) x.seen.length 0 N _ (by omega) (by omega) (by omega)];rw[Wew (by omega)];simp only[ret,Xc,Xav];rw[Ws (by simp;omega)];rfl
theorem Wik(hk:k<f.kids.length)(h3:f.kids.length<=3)(hm:WaB m=true)(be:KC code)(hF:FOk codes n f)(aq:codes.getD k []=code)(kd:codes.length<=3)(hn:n<=100000)(hN:1048576<N):
  Za9 N m f.e codes (k:Int)=some ((m,()),((WfN m f k code).e,())):=by
 obtain⟨x,aT⟩:∃x,f.kids[k]=x:=⟨_,rfl⟩;have hx:=hF.kid k hk;rw[aq,aT]at hx;have hlen:=hF.len;obtain⟨k0,k1,k2,k3,k4,k5,k6,k7,k8,k9,k10⟩:=kdP x;obtain⟨f0,f1,f2,f3,f4,f5,f6,f7,f8,f9⟩:=fmP f;unfold Za9 WfN;rw[f3];by_cases hl:f.lost=true
 .rw[hl,if_pos rfl];rfl
 have jz:f.lost=false:=by simpa using hl
 rw[jz,cond_false,if_neg (by simp),show f.kids.getD k {}=f.kids[k]from WL hk _,aT];have bP:Fm.put (f,x) k=f:=by unfold Fm.put;simp only;rw[←aT,Xbz]
 have kW:inb (k:Int) (f.kids.map Kd.e).length=true:=by rw[Waf,Xad];exact decide_eq_true hk
 have jl:inb (k:Int) codes.length=true:=by rw[Waf];exact decide_eq_true (by omega)
 have e2:Xd (f.kids.map Kd.e) (Xa (k:Int)) d_KidRun=x.e:=by
  have:=Wei Kd.e f.kids k {};rw[WL hk,aT]at this;exact this
 have e3:U9 (f.kids.map Kd.e) f.e=f.e:=rfl;have ec:Xd codes (Xa (k:Int)) ([]:List Opn)=code:=by rw[Xu];exact aq
 have mD:decide ((k:Int)<0)=false:=decide_eq_false (by omega);have fW:decide ((k:Int)>=Wc (f.kids.map Kd.e))=false:=decide_eq_false (by unfold Wc;rw[Xad];omega);have fin:∀q:Fm×Kd,q.1.kids=f.kids->U9 (Xl (Q9 q.1.e) (Xa (k:Int)) q.2.e) q.1.e=(Fm.put q k).e:=λq hq=>by
  rw[Xu];exact U9e q.1 k q.2
 have lE:∀q:Fm,q.kids=f.kids->inb (k:Int) (Q9 q.e).length=true:=λq hq=>by
  show inb (k:Int) (q.kids.map Kd.e).length=true;rw[hq];exact kW
 have aj:WT (([]:List Y_KidRun).length+(f.kids.map Kd.e).length)=true:=Ws (by simp;omega);simp only[Wk,Wec,f9,mD,fW,cond_false,aj,cond_true,Xbo,Xbj,kW,e2,k0,WbB];unfold WfV;by_cases h0:x.phase=0
 .rw[if_pos h0,if_pos h0];simp only[jl,cond_true,e3,ec];rw[Wka hk hm be hF aq aT h0 hn hN];have eQ:(Wkx m f x code).1.kids=f.kids:=by
   unfold Wkx;split
   .rfl
   .simp only;split
    .exact WeV m f x _
    .repeat' split
     all_goals rfl
  simp only[Xc,lE _ eQ,cond_true,fin _ eQ]
 rw[if_neg h0,if_neg h0];by_cases h1:x.phase=1
 .rw[if_pos h1,if_pos h1];by_cases ho:f.owner=0
  .rw[if_pos (show f.e.2.2.1=0 from ho),if_pos ho];rw[show Wf .i64 (k:Int) 1=(k:Int)+1 from Wc4 (by omega)];exact congrArg (λz=>some ((m,()),(z,()))) (fin ({f with owner:=(k:Int)+1},{x with phase:=2}) rfl)
  .rw[if_neg (show¬f.e.2.2.1=0 from ho),if_neg ho,bP];have:=fin (f,x) rfl;rw[bP]at this;exact congrArg (λz=>some ((m,()),(z,()))) this
 rw[if_neg h1,if_neg h1];by_cases h2:x.phase=2
 .rw[if_pos h2,if_pos h2];simp only[k4,k7];by_cases hp:x.pos=x.seen.length
  .rw[if_pos (show x.pos=Wc x.seen by unfold Wc;exact hp),if_pos hp,e3,WhP hk h3 be.toCC.len hF aq aT hN];simp only[Xc,lE (Wfn f x k).1 rfl,cond_true,fin (Wfn f x k) rfl]
  .rw[if_neg (show¬x.pos=Wc x.seen by unfold Wc;exact hp),if_neg hp];have hpos:=hx.pos;have lL:inb x.pos x.seen.length=true:=by unfold inb;simp;omega
   have hP6:P6 f.e=f.buf:=rfl;have oC:=hF.buf8;simp only[lL,cond_true,e3];rw[Wgi (show(P6 f.e).length<=1048576 by rw[hP6];omega) hN,hP6];have eg:Xd x.seen (Xa x.pos) ((0:Int),((0:Int),(0:Int)))=WeW x.seen x.pos (0,0,0):=rfl;rw[eg];have gH:Zs N (U9 (f.kids.map Kd.e) (S2 (0:Int) f.e)) x.e=some ((Fm.e {f with owner:=0},()),((f.again x).e,())):=
    Wem (f:=Fm.e {f with owner:=0}) (x:=x.e) hF.regs.len (by have:=hx.tries;show 0<=x.tries/\x.tries<=100000;omega)
   have i1:Wf .i64 x.pos 1=x.pos+1:=Wc4 (by have:=hx.sl;have:=hx.pc;have:=be.toCC.len;omega);unfold WqU;rcases he:ent f.buf (WeW x.seen x.pos (0,0,0)).1 with _|r
   all_goals
    simp only[ret,Xc,gH,WbB,i1]
   .by_cases hz:(-1:Int)=(WeW x.seen x.pos (0,0,0)).2.2
    .rw[if_pos hz,if_pos hz];exact congrArg (λz=>some ((m,()),(z,()))) (fin (f,{x with pos:=x.pos+1}) rfl)
    .rw[if_neg hz,if_neg hz,lE {f with owner:=0} rfl,cond_true];have:=fin ({f with owner:=0},f.again x) rfl;rw[←this];show _=some ((m,()),((f.rv,(f.clock,((0:Int),(f.lost,(f.regs,(f.start,(f.buf,(f.order,(f.reads,Xl (f.kids.map Kd.e) (Xa (k:Int)) (f.again x).e))))))))),()));rw[jz];rfl
   .by_cases hz:r.2.2.2=(WeW x.seen x.pos (0,0,0)).2.2
    .rw[if_pos hz,if_pos hz];exact congrArg (λz=>some ((m,()),(z,()))) (fin (f,{x with pos:=x.pos+1}) rfl)
    .rw[if_neg hz,if_neg hz,lE {f with owner:=0} rfl,cond_true];have:=fin ({f with owner:=0},f.again x) rfl;rw[←this];show _=some ((m,()),((f.rv,(f.clock,((0:Int),(f.lost,(f.regs,(f.start,(f.buf,(f.order,(f.reads,Xl (f.kids.map Kd.e) (Xa (k:Int)) (f.again x).e))))))))),()));rw[jz];rfl
 .rw[if_neg h2,if_neg h2,bP];have:=fin (f,x) rfl;rw[bP]at this;exact congrArg (λz=>some ((m,()),(z,()))) this
end
section
abbrev FSc:=List Int×List Int×List Rw×List (List Opn)×List Int
noncomputable def WkU(s:FSc):Bool:=WbI s.1&&(Wca s.2.1&&(Wa9 s.2.2.1&&((decide (1<=(Wc s.2.2.2.1))&&decide ((Wc s.2.2.2.1)<=3))&&(decide (Wc s.2.2.2.2<=300)&&s.2.2.2.1.all Wfz))))
structure FSB(s:FSc):Prop where
 a:s.1.length<=1048576
 b:s.2.1.length<=1048576
 c:s.2.2.1.length<=1048576
 d:s.2.2.2.1.length<=1048576
 e:∀l∈s.2.2.2.1,l.length<=1048576
 f:s.2.2.2.2.length<=1048576
variable{N:Nat}{s:FSc}{m:Mm}{f:Fm}{n:Int}
theorem WfS{α V R:Type}{body:Int->α->V->(V->Option R)->Option R}{K:Int->V->Option R}{E:Option R}(p:α->Bool):∀(l:List α) (j:Nat) (v:V),(∀(j:Nat) x v k,x∈l->body j x v k=bif !p x then E else k v)->WbC body K l j v=bif l.all p then K ((j+l.length:Nat):Int) v else E
 | [],j,v,_=>rfl
 |x::l,j,v,h=>by
  rw[WbC,h j x v _ (Xg ..),WfS p l (j+1) v λj y v k hy=>h j y v k (Xe _ hy),List.all_cons];cases p x
  .rfl
  .simp only[Xaj,cond_false,Xbr,Xq];rw[show j+1+l.length=j+(l.length+1) by omega]
theorem Wjb(h:FSB s)(hN:1048576<N):Zfk N s=ret (WkU s):=by
 unfold Zfk WkU;rw[Wfu h.a hN,Wfe h.b hN,Wfq h.c hN,WbD];have h1:=Wp (l:=s.2.2.2.1) (V:=Unit) (R:=Unit×Kk) (lp:=λn j v=>Za1 N s (some ((),(false,()))) (λlx cX=>(some ((),(true,())))) n j) (n:=N) (by have:=h.d;omega)
  (body:=λj x v k=>(Zdw N x).bind λo=>bif !o.2.1 then some ((),(false,()))else k v) (K:=λ_ v=>some ((),(true,())))
  (λn i v hi=>by simp only[Za1,WX hi,Wn hi,Wv hi,Wh (show i<4611686018427387904 by have:=h.d;omega),cond_true])
  (λn v=>by simp only[Za1,Wac (Xj _),cond_false]) ()
 rw[WfS Wfz (E:=some ((),(false,()))) _ 0 () (λj x v k hx=>by rw[WjV (h.e x hx) hN];rfl)]at h1;have dz:Za1 N s (some ((),(false,()))) (λlx cX=>(some ((),(true,())))) N 0=(bif s.2.2.2.1.all Wfz then some ((),(true,()))else some ((),(false,())):Option Ke):=h1;rw[dz];have hd:decide (Wc s.2.2.2.2>300)= !decide (Wc s.2.2.2.2<=300):=by by_cases z:Wc s.2.2.2.2<=300<;>simp[z]<;>omega
 rw[hd];simp only[ret,Xc];cases WbI s.1<;>cases Wca s.2.1<;>cases Wa9 s.2.2.1<;>cases(decide (1<=Wc s.2.2.2.1)&&decide (Wc s.2.2.2.1<=3))<;>cases decide (Wc s.2.2.2.2<=300)<;>cases s.2.2.2.1.all Wfz<;>rfl
theorem WiQ(h:FSB s)(hN:1048576<N):Zfo N s=ret (WkU s):=by
 unfold Zfo WkU;rw[Wfp h.a hN,We7 h.b hN,Wc8 h.c hN,Wz];have h1:=Wp (l:=s.2.2.2.1) (V:=Unit) (R:=Unit×Kk) (lp:=λn j v=>Zb9 N s.2.2.2.1 s (some ((),(false,()))) (λaC aU=>
  ((ret (WbI s.1)).bind λdH=>
 (bif dH.2.1 then
 ((ret (Wca s.2.1)).bind λeD=>
 (bif eD.2.1 then
 ((ret (Wa9 s.2.2.1)).bind λfE=>
 (bif fE.2.1 then
 ((ret (decide (1<=Wc s.2.2.2.1)&&decide (Wc s.2.2.2.1<=3))).bind λfx=>
 (bif fx.2.1 then
 (some ((),(decide ((Wc s.2.2.2.2)<=(300:Int)),())))
 else
 (some ((),(false,())))))
 else
 (some ((),(false,())))))
 else
 (some ((),(false,())))))
 else
 (some ((),(false,())))))) n j) (n:=N) (by have:=h.d;omega)
  (body:=λj x v k=>(Zdz N x).bind λo=>bif !o.2.1 then some ((),(false,()))else k v) (K:=λ_ v=>((ret (WbI s.1)).bind λdH=>
 (bif dH.2.1 then
 ((ret (Wca s.2.1)).bind λeD=>
 (bif eD.2.1 then
 ((ret (Wa9 s.2.2.1)).bind λfE=>
 (bif fE.2.1 then
 ((ret (decide (1<=Wc s.2.2.2.1)&&decide (Wc s.2.2.2.1<=3))).bind λfx=>
 (bif fx.2.1 then
 (some ((),(decide ((Wc s.2.2.2.2)<=(300:Int)),())))
 else
 (some ((),(false,())))))
 else
 (some ((),(false,())))))
 else
 (some ((),(false,())))))
 else
 (some ((),(false,()))))))
  (λn i v hi=>by simp only[Zb9,WX hi,Wn hi,Wv hi,Wh (show i<4611686018427387904 by have:=h.d;omega),cond_true])
  (λn v=>by simp only[Zb9,Wac (Xj _),cond_false]) ()
 rw[WfS Wfz (E:=some ((),(false,()))) _ 0 () (λj x v k hx=>by rw[WkL (h.e x hx) hN];rfl)]at h1;refine h1.trans ?_;simp only[ret,Xc];cases WbI s.1<;>cases Wca s.2.1<;>cases Wa9 s.2.2.1<;>cases(decide (1<=Wc s.2.2.2.1)&&decide (Wc s.2.2.2.1<=3))<;>cases decide (Wc s.2.2.2.2<=300)<;>cases s.2.2.2.1.all Wfz<;>rfl
theorem Wki{rv:Int}{regs:List Int}{writes:List Rw}{kids:Nat}(hr:regs.length<=1000)(hw:writes.length<=1000)(hk:kids<=3)(hN:1048576<N):
  Zek N rv regs writes (kids:Int)=ret (Wby rv regs writes kids).e:=by
 unfold Zek;rw[Wew (by omega),WfJ (by omega) hN];have hn:=Weo writes;simp only[ret,Xc];generalize hnet:Wdo writes=nw at*;have qm:∀(b:List En) (dd j n:Nat) (o:List Y_KidRun),j+dd=kids->dd<n->o=Xy j (Kd.e {regs:=regs})->
   Z7 N regs (kids:Int) rv regs nw b (λmL kP iY=>(some ((),((rv,((0:Int),((0:Int),(false,(regs,(nw,(b,(([]:List Int),(([]:List Kc),iY))))))))),())))) n (j:Int) o=
   some ((),((rv,((0:Int),((0:Int),(false,(regs,(nw,(b,(([]:List Int),(([]:List Kc),Xy kids (Kd.e {regs:=regs})))))))))),())):=by
  intro b dd
  induction dd with
  |zero=>
   intro j n o hj lb ho;obtain⟨n,rfl⟩:∃n',n=n'+1:=⟨n-1,by omega⟩;have:j=kids:=by omega
   subst this;rw[Z7,decide_eq_false (show¬(j:Int)<(j:Int) by omega),cond_false,ho]
  |succ dd ih=>
   intro j n o hj lb ho;obtain⟨n,rfl⟩:∃n',n=n'+1:=⟨n-1,by omega⟩;rw[Z7,decide_eq_true (show(j:Int)<(kids:Int) by omega),cond_true,Wew (by omega)];simp only[ret,Xc];rw[Ws (by rw[ho];simp;omega),cond_true,Wh (show j<4611686018427387904 by omega),Xbo];refine ih (j+1) n _ (by omega) (by omega) ?_;rw[ho,Xfl];rfl
 have qn:∀(dd j n:Nat) (o:List En),j+dd=nw.length->dd<n->o=(nw.take j).map (λr=>((r.1,r.2,0):En))->
   Zbl N regs (kids:Int) rv nw regs nw (λpO pP cY=>
  (Z7 N regs (kids:Int) rv regs nw cY
 (λmL kP iY=>
  (some ((),((rv,((0:Int),((0:Int),(false,(regs,(nw,(cY,(([]:List Int),(([]:List Kc),iY))))))))),()))))
 N (0:Int) ([]:List Y_KidRun))) n (j:Int) o=
   (Z7 N regs (kids:Int) rv regs nw (nw.map (λr=>((r.1,r.2,0):En)))
 (λmL kP iY=>
  (some ((),((rv,((0:Int),((0:Int),(false,(regs,(nw,(nw.map (λr=>((r.1,r.2,0):En)),(([]:List Int),(([]:List Kc),iY))))))))),()))))
 N (0:Int) ([]:List Y_KidRun)):=by
  intro dd
  induction dd with
  |zero=>
   intro j n o hj lb ho;obtain⟨n,rfl⟩:∃n',n=n'+1:=⟨n-1,by omega⟩;have:j=nw.length:=by omega
   subst this;simp only[Zbl,Wac (Xj _),cond_false];rw[ho,List.take_length]
  |succ dd ih=>
   intro j n o hj lb ho;obtain⟨n,rfl⟩:∃n',n=n'+1:=⟨n-1,by omega⟩;have hlt:j<nw.length:=by omega
   have g2:Xd nw (Xa (j:Int)) ((0:Int),(0:Int))=nw[j]:=Wv hlt _;have aj:∀x:En,WT (o.length+ [x].length)=true:=λx=>Ws (by rw[ho];simp;omega);simp only[Zbl,WX hlt,Wn hlt,g2,cond_true,aj,Wh (show j<4611686018427387904 by omega),Xbo];refine ih (j+1) n _ (by omega) (by omega) ?_;rw[ho,List.take_succ_eq_append_getElem hlt,List.map_append];rfl
 refine(qn nw.length 0 N [] (by omega) (by omega) (by simp)).trans ?_;have:=qm (nw.map (λr=>((r.1,r.2,0):En))) kids 0 N [] (by omega) (by omega) rfl;refine this.trans ?_;unfold Wby Fm.e;simp only[hnet,Xfs]
def WlQ(m:Mm)(i:Int):Mm:=((Wd7 m).1.1,Wo0 (Wd7 m).1.2 i (((WeW (Wd7 m).1.2 i zWd).1+1)%65536,((Wd7 m).2,(WeW (Wd7 m).1.2 i zWd).2.2)))
def WgA(codes:List (List Opn))(p:Mm×Fm)(a:Int):Mm×Fm:=
 if 10<=a/\a<=17 then(WlQ p.1 (a-10),p.2)else
 if 0<=a/\a<codes.length then(p.1,WfN p.1 p.2 a.toNat (codes.getD a.toNat []))else p
structure PI(codes:List (List Opn))(n:Int)(p:Mm×Fm):Prop where
 mem:WaB p.1=true
 clk:p.1.1<=n
 fam:FOk codes n p.2
theorem Wp6(h:WaB m=true)(hc:m.1<1000000){i:Int}(hi:0<=i/\i<=7):WaB (WlQ m i)=true/\(WlQ m i).1=m.1+1:=by
 have et:Wd7 m=((m.1+1,m.2),m.1+1):=by unfold Wd7;rw[if_pos hc]
 obtain⟨t1,t2,t3,t4,t5⟩:=WpI h;unfold WlQ;rw[et]at t1⊢;simp only at t1⊢;refine⟨?_,trivial⟩;have h0:=(WV h).2.1;have hw:=Wfj.1 (WkR t1 hi);have:=WpD t1 (i:=i) (w:=(((WeW m.2 i zWd).1+1)%65536,(m.1+1,(WeW m.2 i zWd).2.2))) (Wfj.2 (by
  have e:WoJ (m.1+1,m.2) i=WeW m.2 i zWd:=rfl;rw[e]at hw;refine⟨by omega,by simp only;omega,hw.2.2⟩))
 exact this
theorem WkB{codes:List (List Opn)}{p:Mm×Fm}{a:Int}(hk:∀c∈codes,KC c)(h:PI codes n p)(hn:n<1000000):PI codes (n+1) (WgA codes p a):=by
 unfold WgA;split
 .have:=Wp6 h.mem (by have:=h.clk;omega) (i:=a-10) (by omega);exact⟨this.1,by rw[this.2];have:=h.clk;omega,h.fam.wk (by omega)⟩
 .split
  .rename_i ha;have hl:=h.fam.len;have kX:codes.getD a.toNat []=codes[a.toNat]'(by omega):=WL (by omega) _;refine⟨h.mem,by have:=h.clk;show p.1.1<=n+1;omega,?_⟩;exact Wob (by omega) h.mem (by rw[kX];exact hk _ (Xas _)) h.fam rfl
  .exact⟨h.mem,by have:=h.clk;omega,h.fam.wk (by omega)⟩
theorem Whj{i:Int}(h:WaB m=true)(hc:m.1<1000000)(hi:0<=i/\i<=7):inb i (Wd7 m).1.2.length=true/\Wj9 (Wf .i64 (Xd (Wd7 m).1.2 (Xa i) ((0:Int),((0:Int),(0:Int)))).1 (1:Int)) (65536:Int)=((WeW (Wd7 m).1.2 i zWd).1+1)%65536:=by
 have et:Wd7 m=((m.1+1,m.2),m.1+1):=by unfold Wd7;rw[if_pos hc]
 rw[et];have h8:=(WV h).1;have hw:=Wfj.1 (WkR h hi);have e:Xd m.2 (Xa i) ((0:Int),((0:Int),(0:Int)))=WoJ m i:=rfl;have e':WeW m.2 i zWd=WoJ m i:=rfl;refine⟨by unfold inb;simp;omega,?_⟩;simp only;rw[e,e',W3 (by unfold I64;omega)];unfold Wj9;exact Int.tmod_eq_emod_of_nonneg (by omega)
theorem Wq6{l:List Wd}{i:Nat}{u:Int}{r:Int×Int}{b:Int}(h:i<l.length):Xl (Xl l i (u,r)) i ((Xd (Xl l i (u,r)) i ((0:Int),((0:Int),(0:Int)))).1,(b,(Xd (Xl l i (u,r)) i ((0:Int),((0:Int),(0:Int)))).2.2))=Xl l i (u,(b,r.2)):=by
 have:Xd (Xl l i (u,r)) i ((0:Int),((0:Int),(0:Int)))=(u,r):=by
  rw[WL (by rw[Xau];exact h)];exact List.getElem_set_self ..
 rw[this,List.set_set]
theorem WjL{R:Type}{K0:Int->Bool->Int->Int->Int->Int->Bool->Kl->Kl->Kh->Kn->Kh->Kn->(List Y_KidRun)->Option R}(hN:1048576<N)(hk:∀c∈s.2.2.2.1,KC c)(h3:s.2.2.2.1.length<=3)(hl:s.2.2.2.2.length<=300):
  ∀(d j fuel:Nat) (n:Int) (p:Mm×Fm),j+d=s.2.2.2.2.length->d<fuel->PI s.2.2.2.1 n p->n+d<=90000->
  Zaf N s K0 fuel (j:Int) p.1.1 p.2.e.1 p.2.e.2.1 p.2.e.2.2.1 p.2.e.2.2.2.1 (P6 p.2.e) p.1.2 (P4 p.2.e) (P5 p.2.e) (P7 p.2.e) (P8 p.2.e) (Q9 p.2.e)=
  (λq:Mm×Fm=>K0 (s.2.2.2.2.length:Int) false q.1.1 q.2.e.1 q.2.e.2.1 q.2.e.2.2.1 q.2.e.2.2.2.1 (P6 q.2.e) q.1.2 (P4 q.2.e) (P5 q.2.e) (P7 q.2.e) (P8 q.2.e) (Q9 q.2.e)) ((s.2.2.2.2.drop j).foldl (WgA s.2.2.2.1) p):=by
 intro d
 induction d with
 |zero=>
  intro j fuel n p hj hf hp hn;obtain⟨g,rfl⟩:∃g,fuel=g+1:=⟨fuel-1,by omega⟩;have:j=s.2.2.2.2.length:=by omega
  subst this;simp only[Zaf,Wac (Xj _),cond_false,Xch,Xfk]
 |succ d ih=>
  intro j fuel n p hj hf hp hn;obtain⟨g,rfl⟩:∃g,fuel=g+1:=⟨fuel-1,by omega⟩;have hlt:j<s.2.2.2.2.length:=by omega
  have nH:=WkB (a:=s.2.2.2.2[j]) hk hp (by omega);have cj:=ih (j+1) g (n+1) _ (by omega) (by omega) nH (by omega);rw[Xbb hlt,Xdf,←cj];have jm:p.1.1<1000000:=by have:=hp.clk;omega
  simp only[Zaf,Wk,WX hlt,Wn hlt,Wv hlt,cond_true,WbD,ret,Xc,Wh (show j<4611686018427387904 by omega)];generalize s.2.2.2.2[j]=a at*;by_cases ba:10<=a/\a<=17
  .have e1:(decide (10<=a)&&decide (a<=17))=true:=by simp[ba]
   have ha:Wa8 .i64 a 10=a-10:=WaE (by unfold I64;omega);obtain⟨c1,c2⟩:=Whj hp.mem jm (i:=a-10) (by omega);have gm:WgA s.2.2.2.1 p a=(WlQ p.1 (a-10),p.2):=by unfold WgA;rw[if_pos ba]
   have dG:(a-10).toNat<(Wd7 p.1).1.2.length:=by unfold inb at c1;simp at c1;omega
   rw[e1,cond_true,show((p.1.1,p.1.2):Mm)=p.1 from rfl,WjH hp.mem hN];simp only[Xc,ha,c1,c2,cond_true,show inz (65536:Int)=true from rfl,Xau];rw[gm,Wq6 dG];rfl
  .have e1:(decide (10<=a)&&decide (a<=17))=false:=by
    rw[Xdg];intro z;simp at z;exact ba z
   have nI:=hp.fam.len;have gI:((p.2.e.1,(p.2.e.2.1,(p.2.e.2.2.1,(p.2.e.2.2.2.1,(P4 p.2.e,(P5 p.2.e,(P6 p.2.e,(P7 p.2.e,(P8 p.2.e,Q9 p.2.e))))))))):Y_Family)=p.2.e:=rfl;rw[e1,cond_false,gI,show((p.1.1,p.1.2):Mm)=p.1 from rfl];by_cases ha:0<=a/\a<s.2.2.2.1.length
   .have kX:s.2.2.2.1.getD a.toNat []=s.2.2.2.1[a.toNat]'(by omega):=WL (by omega) _;have bT:=Wik (m:=p.1) (f:=p.2) (k:=a.toNat) (codes:=s.2.2.2.1) (code:=s.2.2.2.1.getD a.toNat []) (by omega) (by omega) hp.mem (by rw[kX];exact hk _ (Xas _)) hp.fam rfl h3 (by omega) hN;rw[show((a.toNat:Nat):Int)=a by omega]at bT;rw[bT];have gm:WgA s.2.2.2.1 p a=(p.1,WfN p.1 p.2 a.toNat (s.2.2.2.1.getD a.toNat [])):=by unfold WgA;rw[if_neg ba,if_pos ha]
    rw[gm];rfl
   .have gm:WgA s.2.2.2.1 p a=p:=by unfold WgA;rw[if_neg ba,if_neg ha]
    have bT:Za9 N p.1 p.2.e s.2.2.2.1 a=some ((p.1,()),(p.2.e,())):=by
     unfold Za9;have f9:Q9 p.2.e=p.2.kids.map Kd.e:=rfl;by_cases aA:p.2.e.2.2.2.1=true
     .rw[aA];rfl
     .rw[show p.2.e.2.2.2.1=false by simpa using aA,cond_false];by_cases h0:a<0
      .rw[decide_eq_true h0];rfl
      .rw[decide_eq_false h0,cond_false,decide_eq_true (show a>=Wc (Q9 p.2.e) by rw[f9];unfold Wc;rw[Xad];omega)];rfl
    rw[bT,gm];rfl
theorem WjP{R:Type}{K0:Int->Bool->Int->Int->Int->Int->Bool->Kl->Kh->Kn->Kl->Kh->Kn->(List Y_KidRun)->Option R}(hN:1048576<N)(hk:∀c∈s.2.2.2.1,KC c)(h3:s.2.2.2.1.length<=3)(hl:s.2.2.2.2.length<=300):
  ∀(d j fuel:Nat) (n:Int) (p:Mm×Fm),j+d=s.2.2.2.2.length->d<fuel->PI s.2.2.2.1 n p->n+d<=90000->
  Z3 N s.2.2.2.2 s K0 fuel (j:Int) p.1.1 p.2.e.1 p.2.e.2.1 p.2.e.2.2.1 p.2.e.2.2.2.1 p.1.2 (P4 p.2.e) (P5 p.2.e) (P6 p.2.e) (P7 p.2.e) (P8 p.2.e) (Q9 p.2.e)=
  (λq:Mm×Fm=>K0 (s.2.2.2.2.length:Int) false q.1.1 q.2.e.1 q.2.e.2.1 q.2.e.2.2.1 q.2.e.2.2.2.1 q.1.2 (P4 q.2.e) (P5 q.2.e) (P6 q.2.e) (P7 q.2.e) (P8 q.2.e) (Q9 q.2.e)) ((s.2.2.2.2.drop j).foldl (WgA s.2.2.2.1) p):=by
 intro d
 induction d with
 |zero=>
  intro j fuel n p hj hf hp hn;obtain⟨g,rfl⟩:∃g,fuel=g+1:=⟨fuel-1,by omega⟩;have:j=s.2.2.2.2.length:=by omega
  subst this;simp only[Z3,Wac (Xj _),cond_false,Xch,Xfk]
 |succ d ih=>
  intro j fuel n p hj hf hp hn;obtain⟨g,rfl⟩:∃g,fuel=g+1:=⟨fuel-1,by omega⟩;have hlt:j<s.2.2.2.2.length:=by omega
  have nH:=WkB (a:=s.2.2.2.2[j]) hk hp (by omega);have cj:=ih (j+1) g (n+1) _ (by omega) (by omega) nH (by omega);rw[Xbb hlt,Xdf,←cj];have jm:p.1.1<1000000:=by have:=hp.clk;omega
  have kb:Wa8 .i64 (Wc s.2.2.2.1) 1=(s.2.2.2.1.length:Int) -1:=by unfold Wc;exact WaE (by unfold I64;omega)
  simp only[Z3,Wk,WX hlt,Wn hlt,Wv hlt,cond_true,Wz,ret,Xc,Wh (show j<4611686018427387904 by omega),kb];generalize s.2.2.2.2[j]=a at*;have nI:=hp.fam.len;have gI:((p.2.e.1,(p.2.e.2.1,(p.2.e.2.2.1,(p.2.e.2.2.2.1,(P4 p.2.e,(P5 p.2.e,(P6 p.2.e,(P7 p.2.e,(P8 p.2.e,Q9 p.2.e))))))))):Y_Family)=p.2.e:=rfl;by_cases ha:0<=a/\a<s.2.2.2.1.length
  .have e1:(decide (0<=a)&&decide (a<=(s.2.2.2.1.length:Int) -1))=true:=by simp;omega
   have jl:inb a s.2.2.2.1.length=true:=by unfold inb;simp;omega
   have kX:s.2.2.2.1.getD a.toNat []=s.2.2.2.1[a.toNat]'(by omega):=WL (by omega) _;have bT:=WhO (m:=p.1) (f:=p.2) (k:=a.toNat) (codes:=s.2.2.2.1) (code:=s.2.2.2.1.getD a.toNat []) (by omega) (by omega) hp.mem (by rw[kX];exact hk _ (Xas _)) hp.fam rfl (by omega) hN;rw[show((a.toNat:Nat):Int)=a by omega]at bT;rw[e1,cond_true,jl,cond_true,gI,show((p.1.1,p.1.2):Mm)=p.1 from rfl];have gm:WgA s.2.2.2.1 p a=(p.1,WfN p.1 p.2 a.toNat (s.2.2.2.1.getD a.toNat [])):=by unfold WgA;rw[if_neg (by omega),if_pos ha]
   have nJ:Zc1 N p.2.e a (Xd s.2.2.2.1 (Xa a) ([]:List Ka)) p.1=_:=bT;rw[nJ,gm];rfl
  .have e1:(decide (0<=a)&&decide (a<=(s.2.2.2.1.length:Int) -1))=false:=by
    rw[Xdg];intro z;simp at z;omega
   rw[e1,cond_false];by_cases ba:10<=a/\a<=17
   .have e2:(decide (10<=a)&&decide (a<=17))=true:=by simp[ba]
    have qo:Wa8 .i64 a 10=a-10:=WaE (by unfold I64;omega);obtain⟨c1,c2⟩:=Whj hp.mem jm (i:=a-10) (by omega);have gm:WgA s.2.2.2.1 p a=(WlQ p.1 (a-10),p.2):=by unfold WgA;rw[if_pos ba]
    have dG:(a-10).toNat<(Wd7 p.1).1.2.length:=by unfold inb at c1;simp at c1;omega
    rw[e2,cond_true,show((p.1.1,p.1.2):Mm)=p.1 from rfl,WiU hp.mem hN];simp only[Xc,qo,c1,c2,cond_true,show inz (65536:Int)=true from rfl,Xau];rw[gm,Wq6 dG];rfl
   .have e2:(decide (10<=a)&&decide (a<=17))=false:=by
     rw[Xdg];intro z;simp at z;exact ba z
    have gm:WgA s.2.2.2.1 p a=p:=by unfold WgA;rw[if_neg ba,if_neg ha]
    rw[e2,cond_false,gm]
end
section
set_option synthInstance.maxSize 20000
set_option synthInstance.maxHeartbeats 4000000
def WJ(l:List Int):Nat:=l.length
theorem Wie{N:Nat}{a:List Int}{left:Int}(hN:1048576<N)(h0:0<=left)(h1:left<=1048576)(hw:Wfd (.slice (.int .i64)) a):
  Zed N a left=ret (if left<(WJ a:Int)then-1 else left-(WJ a:Int)):=by
 have hl:a.length<=9223372036854775807:=Xaz hw.1 (by decide);unfold Zed WJ;have e:Wa8 .i64 left (Wc a)=left-(a.length:Int):=WaE (by unfold I64 Wc;omega);rw[e];by_cases h:left<(a.length:Int)
 .rw[if_pos h,show decide (left-(a.length:Int)<0)=true by simp;omega];rfl
 .rw[if_neg h,show decide (left-(a.length:Int)<0)=false by simp;omega];rfl
def Way(l:List Kc):Nat:=l.length
theorem Wog{N:Nat}{a:List Kc}{left:Int}(hN:1048576<N)(h0:0<=left)(h1:left<=1048576)(hw:Wfd (.slice (.prod (.int .i64) (.int .i64))) a):
  Zib N a left=ret (if left<(Way a:Int)then-1 else left-(Way a:Int)):=by
 have hl:a.length<=9223372036854775807:=Xaz hw.1 (by decide);unfold Zib Way;have e:Wa8 .i64 left (Wc a)=left-(a.length:Int):=WaE (by unfold I64 Wc;omega);rw[e];by_cases h:left<(a.length:Int)
 .rw[if_pos h,show decide (left-(a.length:Int)<0)=true by simp;omega];rfl
 .rw[if_neg h,show decide (left-(a.length:Int)<0)=false by simp;omega];rfl
def WeL(l:List Ka):Nat:=l.length
theorem WpH{N:Nat}{a:List Ka}{left:Int}(hN:1048576<N)(h0:0<=left)(h1:left<=1048576)(hw:Wfd (.slice (.prod (.int .i64) (.prod (.int .i64) (.prod (.int .i64) (.int .i64))))) a):
  Ziy N a left=ret (if left<(WeL a:Int)then-1 else left-(WeL a:Int)):=by
 have hl:a.length<=9223372036854775807:=Xaz hw.1 (by decide);unfold Ziy WeL;have e:Wa8 .i64 left (Wc a)=left-(a.length:Int):=WaE (by unfold I64 Wc;omega);rw[e];by_cases h:left<(a.length:Int)
 .rw[if_pos h,show decide (left-(a.length:Int)<0)=true by simp;omega];rfl
 .rw[if_neg h,show decide (left-(a.length:Int)<0)=false by simp;omega];rfl
def Wdw(a:List Ka):Nat:=WeL a
theorem Wpw{N:Nat}{a:List Ka}{left:Int}(hN:1048576<N)(h0:0<=left)(h1:left<=1048576)(hw:Wfd (.slice (.prod (.int .i64) (.prod (.int .i64) (.prod (.int .i64) (.int .i64))))) a):
  Ziz N a left=ret (if left<(Wdw a:Int)then-1 else left-(Wdw a:Int)):=by
 unfold Ziz;unfold Wdw;rw[show(WeL a)=WeL a+(0) by omega];rw[WpH hN (by omega) (by omega) hw];refine WeN (z2:=0) (by omega) λh2=>?_;simp only[];exact Wnm (by omega)
def WaX(l:List Kj):Nat:=l.length+(l.map Wdw).sum
theorem Wdj{l:List Kj}{x:List Ka}(h:x∈l):Wdw x<=WaX l:=by
 have:=Wde Wdw h;unfold WaX;omega
theorem Wdi{l:List Kj}:l.length<=WaX l:=by unfold WaX;omega
theorem Wn9{N:Nat}{a:List Kj}{left:Int}(hN:1048576<N)(h0:0<=left)(h1:left<=1048576)(hw:Wfd (.slice (.slice (.prod (.int .i64) (.prod (.int .i64) (.prod (.int .i64) (.int .i64)))))) a):
  Zee N a left=ret (if left<(WaX a:Int)then-1 else left-(WaX a:Int)):=by
 have hl:a.length<=9223372036854775807:=Xaz hw.1 (by decide);unfold Zee WaX;have e:Wa8 .i64 left (Wc a)=left-(a.length:Int):=WaE (by unfold I64 Wc;omega);rw[e];by_cases h:left<(a.length:Int)
 .rw[if_pos (by omega),show decide (left-(a.length:Int)<0)=true by simp;omega];rfl
 .rw[show decide (left-(a.length:Int)<0)=false by simp;omega];simp only[cond_false];refine Won (z:=Wdw) (lp:=λn left i=>Zbd N a _ _ n left i) ?_ ?_ (by omega) (by omega) h1
  .intro n left j hj h0 h1;simp only[Zbd,WX hj,Wn hj,Wv hj,Wh (show j<4611686018427387904 by omega),cond_true,Wpw hN h0 h1 (hw.2 _ (Xas hj)),ret,Xc];by_cases h2:left<(Wdw a[j]:Int)
   .rw[if_pos h2,if_pos h2];rfl
   .rw[if_neg h2,if_neg h2,show decide (left-(Wdw a[j]:Int)<0)=false by simp;omega];rfl
  .intro n left;simp only[Zbd,Wac (Xj a.length),cond_false]
def WU(a:List Int×List Int×List Kc×List Kj×List Int):Nat:=WJ a.1+WJ a.2.1+Way a.2.2.1+WaX a.2.2.2.1+WJ a.2.2.2.2
theorem WhH{N:Nat}{a:List Int×List Int×List Kc×List Kj×List Int}{left:Int}(hN:1048576<N)(h0:0<=left)(h1:left<=1048576)(hw:Wfd (.prod (.slice (.int .i64)) (.prod (.slice (.int .i64)) (.prod (.slice (.prod (.int .i64) (.int .i64))) (.prod (.slice (.slice (.prod (.int .i64) (.prod (.int .i64) (.prod (.int .i64) (.int .i64)))))) (.slice (.int .i64)))))) a):
  Zeo N a left=ret (if left<(WU a:Int)then-1 else left-(WU a:Int)):=by
 unfold Zeo;unfold WU;rw[show(WJ a.1+WJ a.2.1+Way a.2.2.1+WaX a.2.2.2.1+WJ a.2.2.2.2)=WJ a.1+(WJ a.2.1+(Way a.2.2.1+(WaX a.2.2.2.1+(WJ a.2.2.2.2+(0))))) by omega];rw[Wie hN (by omega) (by omega) hw.1];refine WeN (z2:=WJ a.2.1+(Way a.2.2.1+(WaX a.2.2.2.1+(WJ a.2.2.2.2+(0))))) (by omega) λh2=>?_;simp only[];rw[Wie hN (by omega) (by omega) hw.2.1];refine WeN (z2:=Way a.2.2.1+(WaX a.2.2.2.1+(WJ a.2.2.2.2+(0)))) (by omega) λh3=>?_;simp only[];rw[Wog hN (by omega) (by omega) hw.2.2.1];refine WeN (z2:=WaX a.2.2.2.1+(WJ a.2.2.2.2+(0))) (by omega) λh4=>?_;simp only[];rw[Wn9 hN (by omega) (by omega) hw.2.2.2.1];refine WeN (z2:=WJ a.2.2.2.2+(0)) (by omega) λh5=>?_;simp only[];rw[Wie hN (by omega) (by omega) hw.2.2.2.2];refine WeN (z2:=0) (by omega) λh6=>?_;simp only[];exact Wnm (by omega)
theorem Whp{N:Nat}{a:List Int}(h:WJ a<=1048576)(hN:1048576<N):Zcr N a=ret a:=by
 have hl:a.length<=1048576:=h;unfold Zcr;rw[Wif a (by omega),Wdc];simp only[cond_true];have h1:=Wp (l:=a) (V:=List Int) (R:=Unit×(List Int×Unit)) (lp:=λn j v=>Zbe N a (λi8 t9 cz=>some ((),(cz,()))) n j v) (n:=N) (by omega)
  (body:=λj x v k=>bif inb j v.length then k (v.set j.toNat x)else none) (K:=λ_ v=>some ((),(v,())))
  (λn i v hi=>by simp only[Zbe,WX hi,Wn hi,Wv hi,Wh (show i<4611686018427387904 by omega),cond_true,ret,Xc])
  (λn v=>by simp only[Zbe,Wac (Xj a.length),cond_false]) (Xy a.length (0:Int))
 refine h1.trans ?_;rw[Wdl (f:=id) a (λj x v k _=>rfl)];simp
theorem Wp5{N:Nat}{a:Int×Int}(hN:1048576<N):Zi0 N a=ret a:=by
 unfold Zi0
 all_goals rfl
theorem WoU{N:Nat}{a:List Kc}(h:Way a<=1048576)(hN:1048576<N):Zef N a=ret a:=by
 have hl:a.length<=1048576:=h;unfold Zef;rw[Wif a (by omega),Wdc];simp only[cond_true];have h1:=Wp (l:=a) (V:=List Kc) (R:=Unit×(List Kc×Unit)) (lp:=λn j v=>Zbf N a (λi8 t9 cz=>some ((),(cz,()))) n j v) (n:=N) (by omega)
  (body:=λj x v k=>bif inb j v.length then k (v.set j.toNat x)else none) (K:=λ_ v=>some ((),(v,())))
  (λn i v hi=>by simp only[Zbf,WX hi,Wn hi,Wv hi,Wh (show i<4611686018427387904 by omega),cond_true,Wp5 hN,ret,Xc])
  (λn v=>by simp only[Zbf,Wac (Xj a.length),cond_false]) (Xy a.length ((0:Int),(0:Int)))
 refine h1.trans ?_;rw[Wdl (f:=id) a (λj x v k _=>rfl)];simp
theorem Wqy{N:Nat}{a:Int×Int×Int×Int}(hN:1048576<N):Zkd N a=ret a:=by
 unfold Zkd
 all_goals rfl
theorem WpY{N:Nat}{a:List Ka}(h:WeL a<=1048576)(hN:1048576<N):Zfj N a=ret a:=by
 have hl:a.length<=1048576:=h;unfold Zfj;rw[Wif a (by omega),Wdc];simp only[cond_true];have h1:=Wp (l:=a) (V:=List Ka) (R:=Unit×(List Ka×Unit)) (lp:=λn j v=>Zb6 N a (λi8 t9 cz=>some ((),(cz,()))) n j v) (n:=N) (by omega)
  (body:=λj x v k=>bif inb j v.length then k (v.set j.toNat x)else none) (K:=λ_ v=>some ((),(v,())))
  (λn i v hi=>by simp only[Zb6,WX hi,Wn hi,Wv hi,Wh (show i<4611686018427387904 by omega),cond_true,Wqy hN,ret,Xc])
  (λn v=>by simp only[Zb6,Wac (Xj a.length),cond_false]) (Xy a.length ((0:Int),((0:Int),((0:Int),(0:Int)))))
 refine h1.trans ?_;rw[Wdl (f:=id) a (λj x v k _=>rfl)];simp
theorem WpM{N:Nat}{a:List Ka}(h:Wdw a<=1048576)(hN:1048576<N):Zi1 N a=ret a:=by
 unfold Wdw at h;unfold Zi1;simp only[WpY (a:=a) (show WeL a<=1048576 by omega) hN,ret,Xc]
 all_goals rfl
theorem WoM{N:Nat}{a:List Kj}(h:WaX a<=1048576)(hN:1048576<N):Zeg N a=ret a:=by
 have hl:a.length<=1048576:=Xaz Wdi h;unfold Zeg;rw[Wif a (by omega),Wdc];simp only[cond_true];have h1:=Wp (l:=a) (V:=List Kj) (R:=Unit×(List Kj×Unit)) (lp:=λn j v=>Zbg N a (λi8 t9 cz=>some ((),(cz,()))) n j v) (n:=N) (by omega)
  (body:=λj x v k=>bif inb j v.length then k (v.set j.toNat x)else none) (K:=λ_ v=>some ((),(v,())))
  (λn i v hi=>by simp only[Zbg,WX hi,Wn hi,Wv hi,Wh (show i<4611686018427387904 by omega),cond_true,WpM (Xaz (Wdj (Xas hi)) h) hN,ret,Xc])
  (λn v=>by simp only[Zbg,Wac (Xj a.length),cond_false]) (Xy a.length ([]:List Ka))
 refine h1.trans ?_;rw[Wdl (f:=id) a (λj x v k _=>rfl)];simp
theorem Wih{N:Nat}{a:List Int×List Int×List Kc×List Kj×List Int}(h:WU a<=1048576)(hN:1048576<N):Zaz N a=ret a:=by
 unfold WU at h;unfold Zaz;simp only[Whp (a:=a.1) (show WJ a.1<=1048576 by omega) hN,Whp (a:=a.2.1) (show WJ a.2.1<=1048576 by omega) hN,WoU (a:=a.2.2.1) (show Way a.2.2.1<=1048576 by omega) hN,WoM (a:=a.2.2.2.1) (show WaX a.2.2.2.1<=1048576 by omega) hN,Whp (a:=a.2.2.2.2) (show WJ a.2.2.2.2<=1048576 by omega) hN,ret,Xc]
 all_goals rfl
theorem Wor{N:Nat}{a b:Int×Int×Int}(hN:1048576<N):Zid N a b=ret (same a b):=by
 unfold Zid;simp only[WaO,WaN,WaQ,ret,Xc];exact WB (WB (WbN))
def Wh7(l:List Kb):Nat:=l.length
theorem WmP{N:Nat}{a b:List Kb}(h:Wh7 a<=1048576)(hN:1048576<N):Zdt N a b=ret (same a b):=by
 have hl0:a.length<=1048576:=h;unfold Zdt;by_cases hl:a.length=b.length
 .have e:(Wc a !=Wc b)=false:=by simp[Wc,hl]
  rw[e];simp only[cond_false];have h1:=Wp (l:=a) (V:=Unit) (R:=Unit×Kk) (lp:=λn j v=>Za3 N a b (some ((),(false,()))) (λi8 t9=>some ((),(true,()))) n j) (n:=N) (by omega)
   (body:=λj x v k=>bif inb j b.length then(bif !same x (b.getD j.toNat ((0:Int),((0:Int),(0:Int))))then some ((),(false,()))else k v)else none) (K:=λ_ v=>some ((),(true,())))
   (λn i v hi=>by simp only[Za3,WX hi,Wn hi,Wv hi,Wh (show i<4611686018427387904 by omega),cond_true,Wor hN,ret,Xc])
   (λn v=>by simp only[Za3,Wac (Xj a.length),cond_false]) ()
  refine h1.trans ?_;rw[WaA (E:=λ_=>some ((),(false,()))) (z:=((0:Int),((0:Int),(0:Int)))) a b 0 () (by omega) (λj x v k _=>rfl)];simp only[Xav];cases same a b<;>rfl
 .have e:(Wc a !=Wc b)=true:=by simp[Wc];omega
  have e2:a≠b:=λh=>hl (by rw[h]);rw[e,Wbj e2];rfl
def Wmz(a:Int×List Kb):Nat:=Wh7 a.2
theorem Wp3{N:Nat}{a b:Int×List Kb}(h:Wmz a<=1048576)(hN:1048576<N):Zfr N a b=ret (same a b):=by
 unfold Wmz at h;unfold Zfr;simp only[WaO,WaN,WaQ,WmP (a:=a.2) (show Wh7 a.2<=1048576 by omega) hN,ret,Xc];exact WB (WbN)
theorem Wcv{N:Nat}{a b:List Int}(h:WJ a<=1048576)(hN:1048576<N):Z9 N a b=ret (same a b):=by
 have hl0:a.length<=1048576:=h;unfold Z9;by_cases hl:a.length=b.length
 .have e:(Wc a !=Wc b)=false:=by simp[Wc,hl]
  rw[e];simp only[cond_false];have h1:=Wp (l:=a) (V:=Unit) (R:=Unit×Kk) (lp:=λn j v=>Zbp N a b (some ((),(false,()))) (λi8 t9=>some ((),(true,()))) n j) (n:=N) (by omega)
   (body:=λj x v k=>bif inb j b.length then(bif !same x (b.getD j.toNat (0:Int))then some ((),(false,()))else k v)else none) (K:=λ_ v=>some ((),(true,())))
   (λn i v hi=>by simp only[Zbp,WX hi,Wn hi,Wv hi,Wh (show i<4611686018427387904 by omega),cond_true,WaO,WaN,WaQ,ret,Xc])
   (λn v=>by simp only[Zbp,Wac (Xj a.length),cond_false]) ()
  refine h1.trans ?_;rw[WaA (E:=λ_=>some ((),(false,()))) (z:=(0:Int)) a b 0 () (by omega) (λj x v k _=>rfl)];simp only[Xav];cases same a b<;>rfl
 .have e:(Wc a !=Wc b)=true:=by simp[Wc];omega
  have e2:a≠b:=λh=>hl (by rw[h]);rw[e,Wbj e2];rfl
theorem Wpz{N:Nat}{a b:Int×Int}(hN:1048576<N):Zi2 N a b=ret (same a b):=by
 unfold Zi2;simp only[WaO,WaN,WaQ,ret,Xc];exact WB (WbN)
theorem WfH{N:Nat}{a b:List Kc}(h:Way a<=1048576)(hN:1048576<N):Zb3 N a b=ret (same a b):=by
 have hl0:a.length<=1048576:=h;unfold Zb3;by_cases hl:a.length=b.length
 .have e:(Wc a !=Wc b)=false:=by simp[Wc,hl]
  rw[e];simp only[cond_false];have h1:=Wp (l:=a) (V:=Unit) (R:=Unit×Kk) (lp:=λn j v=>Zbq N a b (some ((),(false,()))) (λi8 t9=>some ((),(true,()))) n j) (n:=N) (by omega)
   (body:=λj x v k=>bif inb j b.length then(bif !same x (b.getD j.toNat ((0:Int),(0:Int)))then some ((),(false,()))else k v)else none) (K:=λ_ v=>some ((),(true,())))
   (λn i v hi=>by simp only[Zbq,WX hi,Wn hi,Wv hi,Wh (show i<4611686018427387904 by omega),cond_true,Wpz hN,ret,Xc])
   (λn v=>by simp only[Zbq,Wac (Xj a.length),cond_false]) ()
  refine h1.trans ?_;rw[WaA (E:=λ_=>some ((),(false,()))) (z:=((0:Int),(0:Int))) a b 0 () (by omega) (λj x v k _=>rfl)];simp only[Xav];cases same a b<;>rfl
 .have e:(Wc a !=Wc b)=true:=by simp[Wc];omega
  have e2:a≠b:=λh=>hl (by rw[h]);rw[e,Wbj e2];rfl
theorem Wm5{N:Nat}{a b:Int×Int×Int}(hN:1048576<N):Zhl N a b=ret (same a b):=by
 unfold Zhl;simp only[WaO,WaN,WaQ,ret,Xc];exact WB (WB (WbN))
def Wb4(l:List Kb):Nat:=l.length
theorem WgN{N:Nat}{a b:List Kb}(h:Wb4 a<=1048576)(hN:1048576<N):Zcm N a b=ret (same a b):=by
 have hl0:a.length<=1048576:=h;unfold Zcm;by_cases hl:a.length=b.length
 .have e:(Wc a !=Wc b)=false:=by simp[Wc,hl]
  rw[e];simp only[cond_false];have h1:=Wp (l:=a) (V:=Unit) (R:=Unit×Kk) (lp:=λn j v=>Zaq N a b (some ((),(false,()))) (λi8 t9=>some ((),(true,()))) n j) (n:=N) (by omega)
   (body:=λj x v k=>bif inb j b.length then(bif !same x (b.getD j.toNat ((0:Int),((0:Int),(0:Int))))then some ((),(false,()))else k v)else none) (K:=λ_ v=>some ((),(true,())))
   (λn i v hi=>by simp only[Zaq,WX hi,Wn hi,Wv hi,Wh (show i<4611686018427387904 by omega),cond_true,Wm5 hN,ret,Xc])
   (λn v=>by simp only[Zaq,Wac (Xj a.length),cond_false]) ()
  refine h1.trans ?_;rw[WaA (E:=λ_=>some ((),(false,()))) (z:=((0:Int),((0:Int),(0:Int)))) a b 0 () (by omega) (λj x v k _=>rfl)];simp only[Xav];cases same a b<;>rfl
 .have e:(Wc a !=Wc b)=true:=by simp[Wc];omega
  have e2:a≠b:=λh=>hl (by rw[h]);rw[e,Wbj e2];rfl
def Wbr(a:Int×Int×List Int):Nat:=WJ a.2.2
theorem WjM{N:Nat}{a b:Int×Int×List Int}(h:Wbr a<=1048576)(hN:1048576<N):Zf0 N a b=ret (same a b):=by
 unfold Wbr at h;unfold Zf0;simp only[WaO,WaN,WaQ,Wcv (a:=a.2.2) (show WJ a.2.2<=1048576 by omega) hN,ret,Xc];exact WB (WB (WbN))
def W4(l:List Kf):Nat:=l.length+(l.map Wbr).sum
theorem WdH{l:List Kf}{x:Int×Int×List Int}(h:x∈l):Wbr x<=W4 l:=by
 have:=Wde Wbr h;unfold W4;omega
theorem Wdx{l:List Kf}:l.length<=W4 l:=by unfold W4;omega
theorem Wji{N:Nat}{a b:List Kf}(h:W4 a<=1048576)(hN:1048576<N):Zcn N a b=ret (same a b):=by
 have hl0:a.length<=1048576:=Xaz Wdx h;unfold Zcn;by_cases hl:a.length=b.length
 .have e:(Wc a !=Wc b)=false:=by simp[Wc,hl]
  rw[e];simp only[cond_false];have h1:=Wp (l:=a) (V:=Unit) (R:=Unit×Kk) (lp:=λn j v=>Zab N a b (some ((),(false,()))) (λi8 t9=>some ((),(true,()))) n j) (n:=N) (by omega)
   (body:=λj x v k=>bif inb j b.length then(bif !same x (b.getD j.toNat ((0:Int),((0:Int),([]:List Int))))then some ((),(false,()))else k v)else none) (K:=λ_ v=>some ((),(true,())))
   (λn i v hi=>by simp only[Zab,WX hi,Wn hi,Wv hi,Wh (show i<4611686018427387904 by omega),cond_true,WjM (Xaz (WdH (Xas hi)) h) hN,ret,Xc])
   (λn v=>by simp only[Zab,Wac (Xj a.length),cond_false]) ()
  refine h1.trans ?_;rw[WaA (E:=λ_=>some ((),(false,()))) (z:=((0:Int),((0:Int),([]:List Int)))) a b 0 () (by omega) (λj x v k _=>rfl)];simp only[Xav];cases same a b<;>rfl
 .have e:(Wc a !=Wc b)=true:=by simp[Wc];omega
  have e2:a≠b:=λh=>hl (by rw[h]);rw[e,Wbj e2];rfl
theorem WnA{N:Nat}{a b:Int×Int×Int×Int}(hN:1048576<N):Zhm N a b=ret (same a b):=by
 unfold Zhm;simp only[WaO,WaN,WaQ,ret,Xc];exact WB (WB (WB (WbN)))
def Wbm(a:Y_KidRun):Nat:=WJ a.2.2.2.2.2.2.1+Wb4 a.2.2.2.2.2.2.2.1+Way a.2.2.2.2.2.2.2.2.1+W4 a.2.2.2.2.2.2.2.2.2.1
theorem Wmh{N:Nat}{a b:Y_KidRun}(h:Wbm a<=1048576)(hN:1048576<N):Zgo N a b=ret (same a b):=by
 unfold Wbm at h;unfold Zgo;simp only[Wk,P4,P5,P6,P7,P8,P9,P10,P11,P12,P13,Q11,Q14];simp only[WaO,WaN,WaQ,Wcv (a:=a.2.2.2.2.2.2.1) (show WJ a.2.2.2.2.2.2.1<=1048576 by omega) hN,WgN (a:=a.2.2.2.2.2.2.2.1) (show Wb4 a.2.2.2.2.2.2.2.1<=1048576 by omega) hN,WfH (a:=a.2.2.2.2.2.2.2.2.1) (show Way a.2.2.2.2.2.2.2.2.1<=1048576 by omega) hN,Wji (a:=a.2.2.2.2.2.2.2.2.2.1) (show W4 a.2.2.2.2.2.2.2.2.2.1<=1048576 by omega) hN,WnA (a:=a.2.2.2.2.2.2.2.2.2.2.2) hN,ret,Xc];exact WB (WB (WB (WB (WB (WB (WB (WB (WB (WB (WB (WbN)))))))))))
def Wa3(l:List Y_KidRun):Nat:=l.length+(l.map Wbm).sum
theorem Wer{l:List Y_KidRun}{x:Y_KidRun}(h:x∈l):Wbm x<=Wa3 l:=by
 have:=Wde Wbm h;unfold Wa3;omega
theorem Wd8{l:List Y_KidRun}:l.length<=Wa3 l:=by unfold Wa3;omega
theorem WkJ{N:Nat}{a b:List Y_KidRun}(h:Wa3 a<=1048576)(hN:1048576<N):Zcy N a b=ret (same a b):=by
 have hl0:a.length<=1048576:=Xaz Wd8 h;unfold Zcy;by_cases hl:a.length=b.length
 .have e:(Wc a !=Wc b)=false:=by simp[Wc,hl]
  rw[e];simp only[cond_false];have h1:=Wp (l:=a) (V:=Unit) (R:=Unit×Kk) (lp:=λn j v=>Zah N a b (some ((),(false,()))) (λi8 t9=>some ((),(true,()))) n j) (n:=N) (by omega)
   (body:=λj x v k=>bif inb j b.length then(bif !same x (b.getD j.toNat (d_KidRun))then some ((),(false,()))else k v)else none) (K:=λ_ v=>some ((),(true,())))
   (λn i v hi=>by simp only[Zah,WX hi,Wn hi,Wv hi,Wh (show i<4611686018427387904 by omega),cond_true,Wmh (Xaz (Wer (Xas hi)) h) hN,ret,Xc])
   (λn v=>by simp only[Zah,Wac (Xj a.length),cond_false]) ()
  refine h1.trans ?_;rw[WaA (E:=λ_=>some ((),(false,()))) (z:=(d_KidRun)) a b 0 () (by omega) (λj x v k _=>rfl)];simp only[Xav];cases same a b<;>rfl
 .have e:(Wc a !=Wc b)=true:=by simp[Wc];omega
  have e2:a≠b:=λh=>hl (by rw[h]);rw[e,Wbj e2];rfl
def Wej(a:Y_Family):Nat:=WJ a.2.2.2.2.1+Way a.2.2.2.2.2.1+Wb4 a.2.2.2.2.2.2.1+WJ a.2.2.2.2.2.2.2.1+Way a.2.2.2.2.2.2.2.2.1+Wa3 a.2.2.2.2.2.2.2.2.2
theorem WlW{N:Nat}{a b:Y_Family}(h:Wej a<=1048576)(hN:1048576<N):Zc7 N a b=ret (same a b):=by
 unfold Wej at h;unfold Zc7;simp only[Wk,P4,P5,P6,P7,P8,Q9];simp only[WaO,WaN,WaQ,Wcv (a:=a.2.2.2.2.1) (show WJ a.2.2.2.2.1<=1048576 by omega) hN,WfH (a:=a.2.2.2.2.2.1) (show Way a.2.2.2.2.2.1<=1048576 by omega) hN,WgN (a:=a.2.2.2.2.2.2.1) (show Wb4 a.2.2.2.2.2.2.1<=1048576 by omega) hN,Wcv (a:=a.2.2.2.2.2.2.2.1) (show WJ a.2.2.2.2.2.2.2.1<=1048576 by omega) hN,WfH (a:=a.2.2.2.2.2.2.2.2.1) (show Way a.2.2.2.2.2.2.2.2.1<=1048576 by omega) hN,WkJ (a:=a.2.2.2.2.2.2.2.2.2) (show Wa3 a.2.2.2.2.2.2.2.2.2<=1048576 by omega) hN,ret,Xc];exact WB (WB (WB (WB (WB (WB (WB (WB (WB (WbN)))))))))
theorem Wqo{N:Nat}{a b:Int×Int×Int×Int}(hN:1048576<N):Zki N a b=ret (same a b):=by
 unfold Zki;simp only[WaO,WaN,WaQ,ret,Xc];exact WB (WB (WB (WbN)))
theorem WpN{N:Nat}{a b:List Ka}(h:WeL a<=1048576)(hN:1048576<N):Zfs N a b=ret (same a b):=by
 have hl0:a.length<=1048576:=h;unfold Zfs;by_cases hl:a.length=b.length
 .have e:(Wc a !=Wc b)=false:=by simp[Wc,hl]
  rw[e];simp only[cond_false];have h1:=Wp (l:=a) (V:=Unit) (R:=Unit×Kk) (lp:=λn j v=>Zcc N a b (some ((),(false,()))) (λi8 t9=>some ((),(true,()))) n j) (n:=N) (by omega)
   (body:=λj x v k=>bif inb j b.length then(bif !same x (b.getD j.toNat ((0:Int),((0:Int),((0:Int),(0:Int)))))then some ((),(false,()))else k v)else none) (K:=λ_ v=>some ((),(true,())))
   (λn i v hi=>by simp only[Zcc,WX hi,Wn hi,Wv hi,Wh (show i<4611686018427387904 by omega),cond_true,Wqo hN,ret,Xc])
   (λn v=>by simp only[Zcc,Wac (Xj a.length),cond_false]) ()
  refine h1.trans ?_;rw[WaA (E:=λ_=>some ((),(false,()))) (z:=((0:Int),((0:Int),((0:Int),(0:Int))))) a b 0 () (by omega) (λj x v k _=>rfl)];simp only[Xav];cases same a b<;>rfl
 .have e:(Wc a !=Wc b)=true:=by simp[Wc];omega
  have e2:a≠b:=λh=>hl (by rw[h]);rw[e,Wbj e2];rfl
theorem WpE{N:Nat}{a b:List Ka}(h:Wdw a<=1048576)(hN:1048576<N):Zi3 N a b=ret (same a b):=by
 unfold Wdw at h;unfold Zi3;simp only[WaO,WaN,WaQ,WpN (a:=a) (show WeL a<=1048576 by omega) hN,ret,Xc];exact WbN
theorem WnY{N:Nat}{a b:List Kj}(h:WaX a<=1048576)(hN:1048576<N):Zen N a b=ret (same a b):=by
 have hl0:a.length<=1048576:=Xaz Wdi h;unfold Zen;by_cases hl:a.length=b.length
 .have e:(Wc a !=Wc b)=false:=by simp[Wc,hl]
  rw[e];simp only[cond_false];have h1:=Wp (l:=a) (V:=Unit) (R:=Unit×Kk) (lp:=λn j v=>Zbr N a b (some ((),(false,()))) (λi8 t9=>some ((),(true,()))) n j) (n:=N) (by omega)
   (body:=λj x v k=>bif inb j b.length then(bif !same x (b.getD j.toNat ([]:List Ka))then some ((),(false,()))else k v)else none) (K:=λ_ v=>some ((),(true,())))
   (λn i v hi=>by simp only[Zbr,WX hi,Wn hi,Wv hi,Wh (show i<4611686018427387904 by omega),cond_true,WpE (Xaz (Wdj (Xas hi)) h) hN,ret,Xc])
   (λn v=>by simp only[Zbr,Wac (Xj a.length),cond_false]) ()
  refine h1.trans ?_;rw[WaA (E:=λ_=>some ((),(false,()))) (z:=([]:List Ka)) a b 0 () (by omega) (λj x v k _=>rfl)];simp only[Xav];cases same a b<;>rfl
 .have e:(Wc a !=Wc b)=true:=by simp[Wc];omega
  have e2:a≠b:=λh=>hl (by rw[h]);rw[e,Wbj e2];rfl
theorem Wh8{N:Nat}{a b:List Int×List Int×List Kc×List Kj×List Int}(h:WU a<=1048576)(hN:1048576<N):Zet N a b=ret (same a b):=by
 unfold WU at h;unfold Zet;simp only[WaO,WaN,WaQ,Wcv (a:=a.1) (show WJ a.1<=1048576 by omega) hN,Wcv (a:=a.2.1) (show WJ a.2.1<=1048576 by omega) hN,WfH (a:=a.2.2.1) (show Way a.2.2.1<=1048576 by omega) hN,WnY (a:=a.2.2.2.1) (show WaX a.2.2.2.1<=1048576 by omega) hN,Wcv (a:=a.2.2.2.2) (show WJ a.2.2.2.2<=1048576 by omega) hN,ret,Xc];exact WB (WB (WB (WB (WbN))))
end
section
def mkL{α:Type}(mk:α->Int->α)(w:α->Int):List α->Int->List α
 | [],_=>[]
 |x::l,k=>mk x k::mkL mk w l (k+w x)
def wL{α:Type}(w:α->Int):List α->Int
 | []=>0
 |x::l=>w x+wL w l
theorem WgK{α:Type}{w:α->Int}(h:∀x,0<=w x):∀l:List α,0<=wL w l
 | []=>Xcf _
 |x::l=>by rw[wL];have:=h x;have:=WgK h l;omega
theorem Wa1{α:Type}(p:List α)(x:α)(l:List α)(d:α):Xd (p++x::l) (Xa (p.length:Int)) d=x:=by simp
theorem WcL{α:Type}(p:List α)(x y:α)(l:List α):Xl (p++x::l) (Xa (p.length:Int)) y=p++y::l:=by simp
theorem Wa5{α:Type}(p:List α)(x:α)(l:List α):inb (p.length:Int) (p++x::l).length=true:=by unfold inb;simp;omega
theorem Wb6{α:Type}(p:List α)(x:α)(l:List α):decide ((p.length:Int)<Wc (p++x::l))=true:=by unfold Wc;simp;omega
theorem WbX{α:Type}(l:List α):decide ((l.length:Int)<Wc l)=false:=decide_eq_false (by unfold Wc;omega)
theorem Whz{α R:Type}{mk:α->Int->α}{w:α->Int}{P:α->Prop}{lp:Nat->Int->Int->List α->Option R}{K0:Int->Int->Bool->List α->Option R}(hw:∀x,0<=w x)
  (cp:∀(n:Nat) (k:Int) (p:List α) (x:α) (l:List α),P x->0<=k->k+w x<=1000000000->(p.length:Int)+1<=2000000->lp (n+1) k (p.length:Int) (p++x::l)=lp n (k+w x) ((p.length:Int)+1) (p++mk x k::l))
  (gq:∀(n:Nat) (k:Int) (l:List α),lp (n+1) k (l.length:Int) l=K0 k (l.length:Int) false l):
  ∀(l p:List α) (n:Nat) (k:Int),(∀x∈l,P x)->l.length<n->p.length+l.length<=1500000->0<=k->k+wL w l<=1000000000->lp n k (p.length:Int) (p++l)=K0 (k+wL w l) ((p.length:Int)+l.length) false (p++mkL mk w l k)
 | [],p,n,k,_,hn,_,_,_=>by
  obtain⟨n,rfl⟩:∃n',n=n'+1:=⟨n-1,by omega⟩;rw[Xcj,gq];simp[wL,mkL]
 |x::l,p,n,k,hP,hn,hl,h0,h1=>by
  obtain⟨n,rfl⟩:∃n',n=n'+1:=⟨n-1,by omega⟩;simp only[Xq]at hn hl;rw[wL]at h1;have qp:=hw x;have hQ:=WgK hw l;rw[cp n k p x l (hP x (Xg ..)) h0 (by omega) (by omega)];have ih:=Whz hw cp gq l (p++ [mk x k]) n (k+w x) (λy hy=>hP y (Xe _ hy)) (by omega) (by simp;omega) (by omega) (by omega);simp only[Xw,Xq,Xde,Xbk,List.cons_append,Xbj]at ih
  push_cast at ih
  rw[ih,wL,mkL,Xq]
  push_cast
  rw[show k+w x+wL w l=k+(w x+wL w l) by omega,show(p.length:Int)+1+(l.length:Int)=(p.length:Int)+((l.length:Int)+1) by omega]
theorem Wkk{α R:Type}{mk:α->Int->α}{w:α->Int}{P:α->Prop}{a:List α}{lp:Nat->Int->Int->Option R}{K1:Int->Int->Bool->Option R}(hw:∀x,0<=w x)
  (cp:∀(n:Nat) (k:Int) (p:List α) (x:α) (l:List α),a=p++mk x k::l->P x->0<=k->k+w x<=1000000000->(p.length:Int)+1<=2000000->lp (n+1) k (p.length:Int)=lp n (k+w x) ((p.length:Int)+1))
  (gq:∀(n:Nat) (k:Int),lp (n+1) k (a.length:Int)=K1 k (a.length:Int) false):
  ∀(l p:List α) (n:Nat) (k:Int),a=p++mkL mk w l k->(∀x∈l,P x)->l.length<n->p.length+l.length<=1500000->0<=k->k+wL w l<=1000000000->lp n k (p.length:Int)=K1 (k+wL w l) (a.length:Int) false
 | [],p,n,k,ha,_,hn,_,_,_=>by
  obtain⟨n,rfl⟩:∃n',n=n'+1:=⟨n-1,by omega⟩;have e:p=a:=by rw[ha];simp[mkL]
  rw[e,gq];simp[wL]
 |x::l,p,n,k,ha,hP,hn,hl,h0,h1=>by
  obtain⟨n,rfl⟩:∃n',n=n'+1:=⟨n-1,by omega⟩;simp only[Xq]at hn hl;rw[wL]at h1;have qp:=hw x;have hQ:=WgK hw l;rw[mkL]at ha;rw[cp n k p x _ ha (hP x (Xg ..)) h0 (by omega) (by omega)];have ih:=Wkk hw cp gq l (p++ [mk x k]) n (k+w x) (by rw[ha];simp) (λy hy=>hP y (Xe _ hy)) (by omega) (by simp;omega) (by omega) (by omega);simp only[Xw,Xq,Xde]at ih
  push_cast at ih
  rw[ih,wL,show k+w x+wL w l=k+(w x+wL w l) by omega]
theorem ia1{a:Int}(h:0<=a)(h':a<=1000000100):Wf .i64 a 1=a+1:=W3 (by unfold I64;omega)
theorem Wc7(x:Int):(x !=x)=false:=by simp
theorem lt0{a:Int}(h:0<=a):decide (a<0)=false:=decide_eq_false (by omega)
def Wpk{α:Type}(mk:α->Int->α)(w:α->Int)(P:α->Prop)(T:Nat->List α->Int->Option ((List α×Unit)×Kg)):Prop:=
 ∀{N:Nat} {l:List α} {k:Int},1600000<N->l.length<=1500000->(∀x∈l,P x)->0<=k->k+wL w l<=1000000000->T N l k=some ((mkL mk w l k,()),(k+wL w l,()))
def Wqa{α:Type}(mk:α->Int->α)(w:α->Int)(P:α->Prop)(T:Nat->List α->Int->Option Ko):Prop:=
 ∀{N:Nat} {l:List α} {k:Int},1600000<N->l.length<=1500000->(∀x∈l,P x)->0<=k->k+wL w l<=1000000000->T N (mkL mk w l k) k=ret (k+wL w l)
def mkI(_:Int)(k:Int):Int:=k
def wI(_:Int):Int:=1
theorem WoY(x:Int):0<=wI x:=by unfold wI;omega
theorem WbS{P:Int->Prop}:Wpk mkI wI P Zt:=by
 intro N l k hN hl hP h0 h1;unfold Zt;have h:=Whz (mk:=mkI) (w:=wI) (P:=λ_=>True) (lp:=λn k i l=>Zar N (λk10 bX aU bh=>(some ((bh,()),(k10,())))) n k i l) (K0:=λk10 bX aU bh=>(some ((bh,()),(k10,())))) WoY
  (λn k p x l _ h0 h1 h2=>by
   unfold wI at h1;simp(disch:=omega) only[Zar,Wk,Wb6,Wa5,WcL,Wa1,cond_true,ia1,wI,mkI]
   try rw[show k+1=k+1 by omega])
  (λn k l=>by simp only[Zar,WbX,cond_false]) l [] N k (λ_ _=>trivial) (by omega) (by simpa using hl) h0 h1
 simpa using h
theorem Wee{P:Int->Prop}:Wqa mkI wI P Zax:=by
 intro N l k hN hl hP h0 h1;unfold Zax;generalize ea:mkL mkI wI l k=a;have h:=Wkk (mk:=mkI) (w:=wI) (P:=λ_=>True) (a:=a) (lp:=λn k i=>Zau N a (some ((),((-1:Int),()))) (λk9 aL aC=>(some ((),(k9,())))) n k i) (K1:=λk9 aL aC=>(some ((),(k9,())))) WoY
  (λn k p x l' ha _ h0 h1 h2=>by
   unfold wI at h1;rw[ha];simp only[Zau,Wb6,Wa5,Wa1,cond_true];simp(disch:=omega) only[mkI,cond_true,ia1,Wc7,cond_false,wI]
   try rw[show k+1=k+1 by omega])
  (λn k=>by simp only[Zau,WbX,cond_false]) l [] N k (by rw[←ea];rfl) (λ_ _=>trivial) (by omega) (by simpa using hl) h0 h1
 exact h
def Wmk(_:Kc)(k:Int):Kc:=(k,k+1)
def wRw(_:Kc):Int:=2
theorem Wnq(x:Kc):0<=wRw x:=by unfold wRw;omega
theorem Wdr{P:Kc->Prop}:Wpk Wmk wRw P Zaw:=by
 intro N l k hN hl hP h0 h1;unfold Zaw;have h:=Whz (mk:=Wmk) (w:=wRw) (P:=λ_=>True) (lp:=λn k i l=>Zas N (λk10 bX aU bh=>(some ((bh,()),(k10,())))) n k i l) (K0:=λk10 bX aU bh=>(some ((bh,()),(k10,())))) Wnq
  (λn k p x l _ h0 h1 h2=>by
   unfold wRw at h1;simp(disch:=omega) only[Zas,Wk,Wb6,Wa5,WcL,Wa1,cond_true,ia1,wRw,Wmk]
   try rw[show k+2=k+1+1 by omega])
  (λn k l=>by simp only[Zas,WbX,cond_false]) l [] N k (λ_ _=>trivial) (by omega) (by simpa using hl) h0 h1
 simpa using h
theorem We5{P:Kc->Prop}:Wqa Wmk wRw P Zbv:=by
 intro N l k hN hl hP h0 h1;unfold Zbv;generalize ea:mkL Wmk wRw l k=a;have h:=Wkk (mk:=Wmk) (w:=wRw) (P:=λ_=>True) (a:=a) (lp:=λn k i=>Zav N a (some ((),((-1:Int),()))) (λk9 aL aC=>(some ((),(k9,())))) n k i) (K1:=λk9 aL aC=>(some ((),(k9,())))) Wnq
  (λn k p x l' ha _ h0 h1 h2=>by
   unfold wRw at h1;rw[ha];simp only[Zav,Wb6,Wa5,Wa1,cond_true];simp(disch:=omega) only[Wmk,cond_true,ia1,Wc7,cond_false,wRw]
   try rw[show k+2=k+1+1 by omega])
  (λn k=>by simp only[Zav,WbX,cond_false]) l [] N k (by rw[←ea];rfl) (λ_ _=>trivial) (by omega) (by simpa using hl) h0 h1
 exact h
def WqB(_:Ka)(k:Int):Ka:=(k,k+1,k+1+1,k+1+1+1)
def wOp(_:Ka):Int:=4
theorem Wqs(x:Ka):0<=wOp x:=by unfold wOp;omega
theorem Wl5{P:Ka->Prop}:Wpk WqB wOp P Zdu:=by
 intro N l k hN hl hP h0 h1;unfold Zdu;have h:=Whz (mk:=WqB) (w:=wOp) (P:=λ_=>True) (lp:=λn k i l=>Za4 N (λk10 bX aU bh=>(some ((bh,()),(k10,())))) n k i l) (K0:=λk10 bX aU bh=>(some ((bh,()),(k10,())))) Wqs
  (λn k p x l _ h0 h1 h2=>by
   unfold wOp at h1;simp(disch:=omega) only[Za4,Wk,Wb6,Wa5,WcL,Wa1,cond_true,ia1,wOp,WqB]
   try rw[show k+4=k+1+1+1+1 by omega])
  (λn k l=>by simp only[Za4,WbX,cond_false]) l [] N k (λ_ _=>trivial) (by omega) (by simpa using hl) h0 h1
 simpa using h
def Wpe(_:Kb)(k:Int):Kb:=(k,k+1,k+1+1)
def wWd(_:Kb):Int:=3
theorem Wqj(x:Kb):0<=wWd x:=by unfold wWd;omega
theorem Wlt{P:Kb->Prop}:Wpk Wpe wWd P Zcz:=by
 intro N l k hN hl hP h0 h1;unfold Zcz;have h:=Whz (mk:=Wpe) (w:=wWd) (P:=λ_=>True) (lp:=λn k i l=>Zai N (λk10 bX aU bh=>(some ((bh,()),(k10,())))) n k i l) (K0:=λk10 bX aU bh=>(some ((bh,()),(k10,())))) Wqj
  (λn k p x l _ h0 h1 h2=>by
   unfold wWd at h1;simp(disch:=omega) only[Zai,Wk,Wb6,Wa5,WcL,Wa1,cond_true,ia1,wWd,Wpe]
   try rw[show k+3=k+1+1+1 by omega])
  (λn k l=>by simp only[Zai,WbX,cond_false]) l [] N k (λ_ _=>trivial) (by omega) (by simpa using hl) h0 h1
 simpa using h
theorem WlH{P:Kb->Prop}:Wqa Wpe wWd P Zc0:=by
 intro N l k hN hl hP h0 h1;unfold Zc0;generalize ea:mkL Wpe wWd l k=a;have h:=Wkk (mk:=Wpe) (w:=wWd) (P:=λ_=>True) (a:=a) (lp:=λn k i=>Zaj N a (some ((),((-1:Int),()))) (λk9 aL aC=>(some ((),(k9,())))) n k i) (K1:=λk9 aL aC=>(some ((),(k9,())))) Wqj
  (λn k p x l' ha _ h0 h1 h2=>by
   unfold wWd at h1;rw[ha];simp only[Zaj,Wb6,Wa5,Wa1,cond_true];simp(disch:=omega) only[Wpe,cond_true,ia1,Wc7,cond_false,wWd]
   try rw[show k+3=k+1+1+1 by omega])
  (λn k=>by simp only[Zaj,WbX,cond_false]) l [] N k (by rw[←ea];rfl) (λ_ _=>trivial) (by omega) (by simpa using hl) h0 h1
 exact h
def WnV(_:Kb)(k:Int):Kb:=(k,k+1,k+1+1)
def wEn(_:Kb):Int:=3
theorem WmO(x:Kb):0<=wEn x:=by unfold wEn;omega
theorem WgL{P:Kb->Prop}:Wpk WnV wEn P Zbs:=by
 intro N l k hN hl hP h0 h1;unfold Zbs;have h:=Whz (mk:=WnV) (w:=wEn) (P:=λ_=>True) (lp:=λn k i l=>Zac N (λk10 bX aU bh=>(some ((bh,()),(k10,())))) n k i l) (K0:=λk10 bX aU bh=>(some ((bh,()),(k10,())))) WmO
  (λn k p x l _ h0 h1 h2=>by
   unfold wEn at h1;simp(disch:=omega) only[Zac,Wk,Wb6,Wa5,WcL,Wa1,cond_true,ia1,wEn,WnV]
   try rw[show k+3=k+1+1+1 by omega])
  (λn k l=>by simp only[Zac,WbX,cond_false]) l [] N k (λ_ _=>trivial) (by omega) (by simpa using hl) h0 h1
 simpa using h
theorem Wg5{P:Kb->Prop}:Wqa WnV wEn P Zbt:=by
 intro N l k hN hl hP h0 h1;unfold Zbt;generalize ea:mkL WnV wEn l k=a;have h:=Wkk (mk:=WnV) (w:=wEn) (P:=λ_=>True) (a:=a) (lp:=λn k i=>Zad N a (some ((),((-1:Int),()))) (λk9 aL aC=>(some ((),(k9,())))) n k i) (K1:=λk9 aL aC=>(some ((),(k9,())))) WmO
  (λn k p x l' ha _ h0 h1 h2=>by
   unfold wEn at h1;rw[ha];simp only[Zad,Wb6,Wa5,Wa1,cond_true];simp(disch:=omega) only[WnV,cond_true,ia1,Wc7,cond_false,wEn]
   try rw[show k+3=k+1+1+1 by omega])
  (λn k=>by simp only[Zad,WbX,cond_false]) l [] N k (by rw[←ea];rfl) (λ_ _=>trivial) (by omega) (by simpa using hl) h0 h1
 exact h
def Sm{α:Type}(l:List α):Prop:=l.length<=1500000
def Wra(x:List Ka)(k:Int):List Ka:=mkL WqB wOp x k
def wKd(x:List Ka):Int:=wL wOp x
theorem Wqn(x:List Ka):0<=wKd x:=WgK Wqs x
theorem Wlx:Wpk Wra wKd Sm Zc8:=by
 intro N l k hN hl hP h0 h1;unfold Zc8;have h:=Whz (mk:=Wra) (w:=wKd) (P:=Sm) (lp:=λn k i l=>Zat N (λk10 bX aU bh=>(some ((bh,()),(k10,())))) n k i l) (K0:=λk10 bX aU bh=>(some ((bh,()),(k10,())))) Wqn
  (λn k p x l hx h0 h1 h2=>by
   simp only[Zat,Wk,Wb6,Wa5,WcL,Wa1,cond_true];rw[Wl5 (P:=λ_=>True) hN hx (λ_ _=>trivial) h0 h1];simp(disch:=omega) only[Xc,ia1];rfl)
  (λn k l=>by simp only[Zat,WbX,cond_false]) l [] N k hP (by omega) (by simpa using hl) h0 h1
 simpa using h
def WpX(x:Int×Int×List Int)(k:Int):Int×Int×List Int:=(k,k+1,mkL mkI wI x.2.2 (k+1+1))
def wKm(x:Int×Int×List Int):Int:=2+wL wI x.2.2
theorem Wmx(x:Int×Int×List Int):0<=wKm x:=by unfold wKm;have:=WgK WoY x.2.2;omega
def Wqg(x:Int×Int×List Int):Prop:=Sm x.2.2
theorem nbq(i:Nat):Nat.beq i i=true:=Nat.beq_refl i
theorem Wl4:Wpk WpX wKm Wqg Zbx:=by
 intro N l k hN hl hP h0 h1;unfold Zbx;have h:=Whz (mk:=WpX) (w:=wKm) (P:=Wqg) (lp:=λn k i l=>Z0 N (λk10 bX aU bh=>(some ((bh,()),(k10,())))) n k i l) (K0:=λk10 bX aU bh=>(some ((bh,()),(k10,())))) Wmx
  (λn k p x l hx h0 h1 h2=>by
   have hw:=WgK WoY x.2.2;unfold wKm at h1;simp(disch:=omega) only[Z0,Wk,Wb6,Wa5,WcL,Wa1,cond_true,nbq,Bool.and_true,ia1];rw[WbS (P:=λ_=>True) hN hx (λ_ _=>trivial) (by omega) (by omega)];simp only[Xc,wKm];rw[show k+1+1+wL wI x.2.2=k+(2+wL wI x.2.2) by omega];rfl)
  (λn k l=>by simp only[Z0,WbX,cond_false]) l [] N k hP (by omega) (by simpa using hl) h0 h1
 simpa using h
theorem WlS:Wqa WpX wKm Wqg Zby:=by
 intro N l k hN hl hP h0 h1;unfold Zby;generalize ea:mkL WpX wKm l k=a;have h:=Wkk (mk:=WpX) (w:=wKm) (P:=Wqg) (a:=a) (lp:=λn k i=>Z1 N a (some ((),((-1:Int),()))) (λk9 aL aC=>(some ((),(k9,())))) n k i) (K1:=λk9 aL aC=>(some ((),(k9,())))) Wmx
  (λn k p x l' ha hx h0 h1 h2=>by
   have hw:=WgK WoY x.2.2;unfold wKm at h1;rw[ha];simp only[Z1,Wb6,Wa5,Wa1,cond_true];simp(disch:=omega) only[WpX,cond_true,ia1,Wc7,cond_false];rw[Wee (P:=λ_=>True) hN hx (λ_ _=>trivial) (by omega) (by omega)];simp(disch:=omega) only[ret,Xc,lt0,cond_false,wKm];rw[show k+1+1+wL wI x.2.2=k+(2+wL wI x.2.2) by omega])
  (λn k=>by simp only[Z1,WbX,cond_false]) l [] N k (by rw[←ea];rfl) hP (by omega) (by simpa using hl) h0 h1
 exact h
def Wo8(x:Y_KidRun)(k:Int):Y_KidRun:=
 let k1:=k+1+1+1+1+1+1
 let k2:=k1+wL wI (P6 x)
 let k3:=k2+wL wEn (P7 x)
 let k4:=k3+wL wRw (P8 x)
 let k5:=k4+wL wKm (P9 x)
 (k,k+1,k+1+1,k+1+1+1,k+1+1+1+1,k+1+1+1+1+1,mkL mkI wI (P6 x) k1,mkL WnV wEn (P7 x) k2,mkL Wmk wRw (P8 x) k3,mkL WpX wKm (P9 x) k4,(Wj9 k5 (3:Int))==(0:Int),k5+1,k5+1+1,k5+1+1+1,k5+1+1+1+1)
def wKR(x:Y_KidRun):Int:=11+(wL wI (P6 x)+(wL wEn (P7 x)+(wL wRw (P8 x)+wL wKm (P9 x))))
theorem WpG(x:Y_KidRun):0<=wKR x:=by unfold wKR;have:=WgK WoY (P6 x);have:=WgK WmO (P7 x);have:=WgK Wnq (P8 x);have:=WgK Wmx (P9 x);omega
def Wp7(x:Y_KidRun):Prop:=Sm (P6 x)/\Sm (P7 x)/\Sm (P8 x)/\Sm (P9 x)/\∀y∈P9 x,Wqg y
theorem WpP(b:Bool):(!beq b b)=false:=by cases b<;>rfl
theorem Wrd:inz 3=true:=rfl
theorem Wl8:Wpk Wo8 wKR Wp7 Zcf:=by
 intro N l k hN hl hP h0 h1;unfold Zcf;have h:=Whz (mk:=Wo8) (w:=wKR) (P:=Wp7) (lp:=λn k i l=>Z4 N (λk10 bX aU bh=>(some ((bh,()),(k10,())))) n k i l) (K0:=λk10 bX aU bh=>(some ((bh,()),(k10,())))) WpG
  (λn k p x l hx h0 h1 h2=>by
   have w1:=WgK WoY (P6 x);have w2:=WgK WmO (P7 x);have w3:=WgK Wnq (P8 x);have w4:=WgK Wmx (P9 x);obtain⟨x1,x2,x3,x4,x5⟩:=hx;unfold wKR at h1;simp(disch:=omega) only[Z4,Wk,Wb6,Wa5,WcL,Wa1,cond_true,nbq,Bool.and_true,ia1,Wrd];rw[WbS (P:=λ_=>True) hN x1 (λ_ _=>trivial) (by omega) (by omega),Xc,
    WgL (P:=λ_=>True) hN x2 (λ_ _=>trivial) (by dsimp only;omega) (by dsimp only;omega),Xc,
    Wdr (P:=λ_=>True) hN x3 (λ_ _=>trivial) (by dsimp only;omega) (by dsimp only;omega),Xc,
    Wl4 hN x4 x5 (by dsimp only;omega) (by dsimp only;omega),Xc]
   dsimp only;simp(disch:=omega) only[ia1,wKR];rw[show k+(11+(wL wI (P6 x)+(wL wEn (P7 x)+(wL wRw (P8 x)+wL wKm (P9 x)))))=k+1+1+1+1+1+1+wL wI (P6 x)+wL wEn (P7 x)+wL wRw (P8 x)+wL wKm (P9 x)+1+1+1+1+1 by omega];rfl)
  (λn k l=>by simp only[Z4,WbX,cond_false]) l [] N k hP (by omega) (by simpa using hl) h0 h1
 simpa using h
theorem WlL:Wqa Wo8 wKR Wp7 Zcg:=by
 intro N l k hN hl hP h0 h1;unfold Zcg;generalize ea:mkL Wo8 wKR l k=a;have h:=Wkk (mk:=Wo8) (w:=wKR) (P:=Wp7) (a:=a) (lp:=λn k i=>Z5 N a (some ((),((-1:Int),()))) (λk9 aL aC=>(some ((),(k9,())))) n k i) (K1:=λk9 aL aC=>(some ((),(k9,())))) WpG
  (λn k p x l' ha hx h0 h1 h2=>by
   have w1:=WgK WoY (P6 x);have w2:=WgK WmO (P7 x);have w3:=WgK Wnq (P8 x);have w4:=WgK Wmx (P9 x);obtain⟨x1,x2,x3,x4,x5⟩:=hx;unfold wKR at h1;rw[ha];simp only[Z5,Wb6,Wa5,Wa1,cond_true,Wk];simp(disch:=omega) only[Wo8,P4,P5,P10,P11,P12,P13,Q14,cond_true,ia1,Wc7,cond_false];rw[show∀(a b c d e f) (g:List Int) (r:List Kb×List Kc×List Kf×Bool×Int×Int×Int×Int),P6 ((a,b,c,d,e,f,g,r):Y_KidRun)=g fromλ_ _ _ _ _ _ _ _=>rfl,
    show∀(a b c d e f) (g:List Int) h (r:List Kc×List Kf×Bool×Int×Int×Int×Int),P7 ((a,b,c,d,e,f,g,h,r):Y_KidRun)=h fromλ_ _ _ _ _ _ _ _ _=>rfl,
    show∀(a b c d e f) (g:List Int) h i (r:List Kf×Bool×Int×Int×Int×Int),P8 ((a,b,c,d,e,f,g,h,i,r):Y_KidRun)=i fromλ_ _ _ _ _ _ _ _ _ _=>rfl,
    show∀(a b c d e f) (g:List Int) h i j (r:Bool×Int×Int×Int×Int),P9 ((a,b,c,d,e,f,g,h,i,j,r):Y_KidRun)=j fromλ_ _ _ _ _ _ _ _ _ _ _=>rfl]
   rw[Wee (P:=λ_=>True) hN x1 (λ_ _=>trivial) (by omega) (by omega)];simp(disch:=omega) only[ret,Xc,lt0,cond_false];rw[Wg5 (P:=λ_=>True) hN x2 (λ_ _=>trivial) (by omega) (by omega)];simp(disch:=omega) only[ret,Xc,lt0,cond_false];rw[We5 (P:=λ_=>True) hN x3 (λ_ _=>trivial) (by omega) (by omega)];simp(disch:=omega) only[ret,Xc,lt0,cond_false];rw[WlS hN x4 x5 (by omega) (by omega)];simp(disch:=omega) only[ret,Xc,lt0,cond_false,cond_true,ia1,Wc7,Wrd,WpP,wKR];rw[show k+(11+(wL wI (P6 x)+(wL wEn (P7 x)+(wL wRw (P8 x)+wL wKm (P9 x)))))=k+1+1+1+1+1+1+wL wI (P6 x)+wL wEn (P7 x)+wL wRw (P8 x)+wL wKm (P9 x)+1+1+1+1+1 by omega])
  (λn k=>by simp only[Z5,WbX,cond_false]) l [] N k (by rw[←ea];rfl) hP (by omega) (by simpa using hl) h0 h1
 exact h
end
section
variable{N:Nat}{s:FSc}{m:Mm}{f:Fm}{n:Int}{x:Kd}{codes:List (List Opn)}{code:List Opn}
def MB(n:Int)(l:List KM):Prop:=(l.length:Int)<=n/\∀y∈l,y.2.2.length<=4
theorem MB.wk{n n':Int}{l:List KM}(h:MB n l)(hn:n<=n'):MB n' l:=⟨Int.le_trans h.1 hn,h.2⟩
theorem MB.dl{l:List KM}(h:MB n l):MB n l.dropLast:=⟨by have:=h.1;rw[Xct];omega,λy hy=>h.2 y (List.dropLast_subset _ hy)⟩
theorem MB.nil(h:0<=n):MB n []:=⟨h,λy hy=>by cases hy⟩
theorem MB.sn{l:List KM}{y:KM}(h:MB n l)(hy:y.2.2.length<=4):MB (n+1) (l++ [y]):=⟨by have:=h.1;simp;omega,λz hz=>by
 rcases Xk.1 hz with h1|h1
 .exact h.2 z h1
 .rw[List.mem_singleton.1 h1];exact hy⟩
theorem Wk2{o:Opn}(h:MB n x.marks)(h0:0<=n):MB n (Wd0 m f x o).2.marks/\(Wd0 m f x o).1.start=f.start:=by
 unfold Wd0;cases Wbq x.writes o.2.2.1 with
 |some v=>exact⟨h,rfl⟩
 |none=>
  cases ent f.buf o.2.2.1 with
  |some r=>
   simp only;split
   .exact⟨MB.nil h0,rfl⟩
   .exact⟨h,rfl⟩
  |none=>
   simp only;generalize WaD m f.rv _=p
   repeat' split
   all_goals exact⟨h,rfl⟩
theorem Wom{k:Nat}(h:MB n x.marks)(hr:x.regs.length<=4)(h0:0<=n):MB (n+1) (WfV m f x k code).2.marks/\(WfV m f x k code).1.start=f.start/\(WfV m f x k code).1.kids=f.kids:=by
 have hw:MB (n+1) x.marks:=h.wk (by omega);unfold WfV;split
 .unfold Wkx;split
  .exact⟨hw,rfl,rfl⟩
  .simp only;split
   .exact⟨(Wk2 h h0).1.wk (by omega),(Wk2 h h0).2,WeV ..⟩
   .split
    .refine⟨?_,rfl,rfl⟩;unfold WfR;split
     .exact hw
     .exact hw.dl
    .split
     .exact⟨hw,rfl,rfl⟩
     .split
      .exact⟨hw,rfl,rfl⟩
      .split
       .exact⟨h.sn hr,rfl,rfl⟩
       .split
        .exact⟨hw.dl,rfl,rfl⟩
        .exact⟨hw,rfl,rfl⟩
 .split
  .split
   .exact⟨hw,rfl,rfl⟩
   .exact⟨hw,rfl,rfl⟩
  .split
   .split
    .exact⟨MB.nil (by omega),rfl,rfl⟩
    .simp only;split
     .exact⟨hw,rfl,rfl⟩
     .exact⟨MB.nil (by omega),rfl,rfl⟩
   .exact⟨hw,rfl,rfl⟩
structure PZ(n:Int)(f:Fm):Prop where
 st:f.start.length<=8
 mks:∀x∈f.kids,MB n x.marks
theorem Wpo{p:Mm×Fm}{a:Int}(h:PI codes n p)(hz:PZ n p.2)(h0:0<=n):PZ (n+1) (WgA codes p a).2:=by
 have hw:PZ (n+1) p.2:=⟨hz.st,λx hx=>(hz.mks x hx).wk (by omega)⟩;unfold WgA;split
 .exact hw
 .split
  .rename_i ha;show PZ (n+1) (WfN p.1 p.2 a.toNat (codes.getD a.toNat []));unfold WfN;split
   .exact hw
   .have hl:=h.fam.len;have hk:a.toNat<p.2.kids.length:=by omega
    have cI:p.2.kids.getD a.toNat {}=p.2.kids[a.toNat]:=by rw[Xbg,Xr hk];rfl
    rw[cI];have jI:=h.fam.kid a.toNat hk;obtain⟨k1,k2,k3⟩:=Wom (m:=p.1) (f:=p.2) (code:=codes.getD a.toNat []) (k:=a.toNat) (hz.mks _ (Xas hk)) (by have:=jI.regs.len;omega) h0;refine⟨by show Xb (WfV ..).1.start<=8;rw[k2];exact hz.st,λx hx=>?_⟩;have jn:x∈(WfV p.1 p.2 p.2.kids[a.toNat] a.toNat (codes.getD a.toNat [])).1.kids.set a.toNat (WfV p.1 p.2 p.2.kids[a.toNat] a.toNat (codes.getD a.toNat [])).2:=hx;rw[k3]at jn;rcases Xdo jn with h1|h1
    .exact(hz.mks x h1).wk (by omega)
    .rw[h1];exact k1
  .exact hw
theorem Wnc(hk:∀c∈codes,KC c):∀(l:List Int) (n:Int) (p:Mm×Fm),PI codes n p->PZ n p.2->0<=n->n+l.length<=90000->PI codes (n+l.length) (l.foldl (WgA codes) p)/\PZ (n+l.length) (l.foldl (WgA codes) p).2
 | [],n,p,h,hz,_,_=>by simpa using⟨h,hz⟩
 |a::l,n,p,h,hz,h0,h1=>by
  rw[Xq]at h1⊢;have:=Wnc hk l (n+1) _ (WkB (a:=a) hk h (by omega)) (Wpo (a:=a) h hz h0) (by omega) (by push_cast at h1;omega);rw[show n+((l.length+1:Nat):Int)=n+1+l.length by push_cast;omega];exact this
noncomputable def Wl7(s:FSc):Mm×Fm:=s.2.2.2.2.foldl (WgA s.2.2.2.1) (Wjl s.1,Wby 0 s.2.1 s.2.2.1 s.2.2.2.1.length)
theorem Wcb(h:WkU s=true):Vals 8 s.1/\Vals 4 s.2.1/\s.2.2.1.length<=300/\s.2.2.2.1.length<=3/\s.2.2.2.2.length<=300/\∀c∈s.2.2.2.1,KC c:=by
 unfold WkU at h;simp only[Xh,decide_eq_true_eq,Xaf]at h;obtain⟨h1,h2,h3,⟨h4,h5⟩,h6,h7⟩:=h;refine⟨Wh4.1 h1,WhD.1 h2,?_,by unfold Wc at h5;omega,by unfold Wc at h6;omega,λc hc=>Wq5 (h7 c hc)⟩;unfold Wa9 at h3;simp only[Xh,decide_eq_true_eq]at h3;exact h3.1
theorem Wf9(h:WkU s=true):PI s.2.2.2.1 0 (Wjl s.1,Wby 0 s.2.1 s.2.2.1 s.2.2.2.1.length)/\PZ 0 (Wby 0 s.2.1 s.2.2.1 s.2.2.2.1.length):=by
 obtain⟨h1,h2,h3,h4,h5,h6⟩:=Wcb h;refine⟨⟨?_,Xcf _,Wmw h2 (Xcf _)⟩,?_,?_⟩
 .have:=h1.len;unfold WaB Wjl;simp only[Xad,this,decide_true,Xbr,Xh,decide_eq_true_eq,Xaf];refine⟨by omega,λw hw=>?_⟩;obtain⟨v,hv,rfl⟩:=Xt.1 hw;have:=h1.val v hv;rw[Wfj];unfold wd0;simp only;omega
 .exact Weo _
 .intro x hx;have:=List.eq_of_mem_replicate hx;rw[this];exact MB.nil (Xcf _)
theorem Wop(h:WkU s=true):PI s.2.2.2.1 300 (Wl7 s)/\PZ 300 (Wl7 s).2:=by
 obtain⟨h1,h2,h3,h4,h5,h6⟩:=Wcb h;obtain⟨p,q⟩:=Wf9 h;obtain⟨p',q'⟩:=Wnc h6 s.2.2.2.2 0 _ p q (Xcf _) (by omega);refine⟨⟨p'.mem,by have:=p'.clk;unfold Wl7;omega,p'.fam.wk (by omega)⟩,q'.st,λx hx=>(q'.mks x hx).wk (by omega)⟩
noncomputable def WdA(s:FSc):Km×Y_Family:=if WkU s=true then((Wl7 s).1,(Wl7 s).2.e)else((0,[]),d_Family)
theorem WjJ(h:FSB s)(hN:1048576<N):Zdr N s=some ((),((WdA s).1,((WdA s).2,()))):=by
 unfold Zdr WdA;rw[Wjb h hN];simp only[ret,Xc];by_cases ho:WkU s=true
 .obtain⟨h1,h2,h3,h4,h5,h6⟩:=Wcb ho;obtain⟨p,q⟩:=Wf9 ho;rw[ho,WgG (Wh4.2 h1) hN,show Wc s.2.2.2.1=(s.2.2.2.1.length:Int)from rfl,Wki (by have:=h2.len;omega) (by omega) h4 hN];simp only[ret,Xc,Xaj,cond_false,if_true];have:=WjL (s:=s) (K0:=λpS kP dO dP dQ dR dS dc mO mP mQ bI de df=>
  (some ((),((dO,mO),((dP,(dQ,(dR,(dS,(mP,(mQ,(dc,(bI,(de,df))))))))),()))))) hN h6 h4 h5 s.2.2.2.2.length 0 N 0 _ (by omega) (by omega) p (by omega)
  exact this
 .rw[show WkU s=false by simpa using ho];rfl
theorem WiW(h:FSB s)(hN:1048576<N):Zcx N s=some ((),((WdA s).1,((WdA s).2,()))):=by
 unfold Zcx WdA;rw[WiQ h hN];simp only[ret,Xc];by_cases ho:WkU s=true
 .obtain⟨h1,h2,h3,h4,h5,h6⟩:=Wcb ho;obtain⟨p,q⟩:=Wf9 ho;rw[ho,Wgx (Wh4.2 h1) hN,show Wc s.2.2.2.1=(s.2.2.2.1.length:Int)from rfl,WgB (by have:=h2.len;omega) (by omega) h4 hN];simp only[ret,Xc,Xaj,cond_false,if_true];have:=WjP (s:=s) (K0:=λt55 pY dc dT dU dV mV de df dW dX ff ck fe=>
  (some ((),((dc,de),((dT,(dU,(dV,(mV,(df,(dW,(dX,(ff,(ck,fe))))))))),()))))) hN h6 h4 h5 s.2.2.2.2.length 0 N 0 _ (by omega) (by omega) p (by omega)
  exact this
 .rw[show WkU s=false by simpa using ho];rfl
end
section
variable{N:Nat}
theorem WoF{α:Type}{w:α->Int}{z:α->Nat}{c:Int}:∀(l:List α),(∀x∈l,w x<=c*(z x+1:Nat))->wL w l<=c*((l.length+(l.map z).sum:Nat):Int)
 | [],_=>by simp[wL]
 |x::l,h=>by
  have h1:=h x (Xg ..);have h2:=WoF l λy hy=>h y (Xe _ hy);rw[wL,Xq,Xag,Xck];rw[show((l.length+1+(z x+(l.map z).sum):Nat):Int)=((z x+1:Nat):Int)+((l.length+(l.map z).sum:Nat):Int) by push_cast;omega,Int.mul_add];omega
theorem Wp9{α:Type}{w:α->Int}{c:Int}(h:∀x,w x=c):∀(l:List α),wL w l=c*(l.length:Int)
 | []=>by simp[wL]
 |x::l=>by rw[wL,h x,Wp9 h l,Xq];push_cast;rw[Int.mul_add];omega
theorem WpK(l:List Int):wL wI l=l.length:=by rw[Wp9 (w:=wI) (c:=1) (λx=>rfl)];omega
theorem Wqh(l:List Kb):wL wEn l=3*l.length:=Wp9 (λx=>rfl) l
theorem WqY(l:List Kb):wL wWd l=3*l.length:=Wp9 (λx=>rfl) l
theorem WoN(l:List Kc):wL wRw l=2*l.length:=Wp9 (λx=>rfl) l
theorem WqL(l:List Ka):wL wOp l=4*l.length:=Wp9 (λx=>rfl) l
theorem WqR(l:List Kj):wL wKd l<=4*(WaX l:Int):=WoF l λx _=>by unfold wKd Wdw WeL;rw[WqL];push_cast;omega
theorem WqQ(l:List Kf):wL wKm l<=2*(W4 l:Int):=WoF l λx _=>by unfold wKm Wbr WJ;rw[WpK];push_cast;omega
theorem WqM(l:List Y_KidRun):wL wKR l<=11*(Wa3 l:Int):=WoF l λx _=>by
 unfold wKR Wbm WJ Wb4 Way;rw[WpK,Wqh,WoN];have h:=WqQ x.2.2.2.2.2.2.2.2.2.1;show 11+((x.2.2.2.2.2.2.1.length:Int)+(3*(x.2.2.2.2.2.2.2.1.length:Int)+(2*(x.2.2.2.2.2.2.2.2.1.length:Int)+wL wKm x.2.2.2.2.2.2.2.2.2.1)))<=_
 push_cast
 omega
theorem Wq4{x:Y_KidRun}(h:Wbm x<=1048576):Wp7 x:=by
 unfold Wbm WJ Wb4 Way at h;have h9:x.2.2.2.2.2.2.2.2.2.1=P9 x:=rfl;have h6:x.2.2.2.2.2.2.1=P6 x:=rfl;have h7:x.2.2.2.2.2.2.2.1=P7 x:=rfl;have h8:x.2.2.2.2.2.2.2.2.1=P8 x:=rfl;rw[h9,h6,h7,h8]at h;have hl:(P9 x).length<=W4 (P9 x):=Wdx;refine⟨?_,?_,?_,?_,λy hy=>?_⟩
 .show(P6 x).length<=1500000;omega
 .show(P7 x).length<=1500000;omega
 .show(P8 x).length<=1500000;omega
 .show(P9 x).length<=1500000;omega
 .have:=WdH hy;unfold Wbr WJ at this;show y.2.2.length<=1500000;omega
def WpL(m:Int×List Kb)(k:Int):Int×List Kb:=(m.1,mkL Wpe wWd m.2 k)
theorem WkC{m:Int×List Kb}(hN:1600000<N)(h:Wmz m<=1048576):Zhn N m 1=some ((WpL m 1,()),(1+wL wWd m.2,()))/\Zft N (m.1,(WpL m 1).2) 1=ret (1+wL wWd m.2)/\0<=wL wWd m.2/\wL wWd m.2<=3200000:=by
 have hc:=WqY m.2;unfold Wmz Wh7 at h;refine⟨?_,?_,by omega,by omega⟩
 .unfold Zhn;rw[Wlt (P:=λ_=>True) hN (by omega) (λ_ _=>trivial) (by omega) (by omega)];rfl
 .unfold Zft WpL;rw[WlH (P:=λ_=>True) hN (by omega) (λ_ _=>trivial) (by omega) (by omega)];simp only[ret,Xc];rw[lt0 (by omega)];rfl
def Wps(f:Y_Family)(k:Int):Y_Family:=
 let k1:=k+wL wI (P4 f)
 let k2:=k1+wL wRw (P5 f)
 let k3:=k2+wL wEn (P6 f)
 let k4:=k3+wL wI (P7 f)
 let k5:=k4+wL wRw (P8 f)
 (f.1,f.2.1,f.2.2.1,f.2.2.2.1,mkL mkI wI (P4 f) k,mkL Wmk wRw (P5 f) k1,mkL WnV wEn (P6 f) k2,mkL mkI wI (P7 f) k3,mkL Wmk wRw (P8 f) k4,mkL Wo8 wKR (Q9 f) k5)
def Wpb(f:Y_Family):Int:=wL wI (P4 f)+wL wRw (P5 f)+wL wEn (P6 f)+wL wI (P7 f)+wL wRw (P8 f)+wL wKR (Q9 f)
theorem WkN{f:Y_Family}{k:Int}(hN:1600000<N)(h:Wej f<=1048576)(h0:0<=k)(h1:k<=10000000):Ze7 N f k=some ((Wps f k,()),(k+Wpb f,()))/\Zdi N (f.1,(f.2.1,(f.2.2.1,(f.2.2.2.1,(Wps f k).2.2.2.2)))) k=ret (k+Wpb f)/\0<=Wpb f:=by
 unfold Wej WJ Wb4 Way at h;have e4:f.2.2.2.2.1=P4 f:=rfl;have e5:f.2.2.2.2.2.1=P5 f:=rfl;have e6:f.2.2.2.2.2.2.1=P6 f:=rfl;have e7:f.2.2.2.2.2.2.2.1=P7 f:=rfl;have e8:f.2.2.2.2.2.2.2.2.1=P8 f:=rfl;have e9:f.2.2.2.2.2.2.2.2.2=Q9 f:=rfl;rw[e4,e5,e6,e7,e8,e9]at h;have c4:=WpK (P4 f);have c5:=WoN (P5 f);have c6:=Wqh (P6 f);have c7:=WpK (P7 f);have c8:=WoN (P8 f);have c9:=WqM (Q9 f);have d9:=WgK WpG (Q9 f);have l9:(Q9 f).length<=Wa3 (Q9 f):=Wd8;have s9:∀x∈Q9 f,Wp7 x:=λx hx=>Wq4 (by have:=Wer hx;omega);refine⟨?_,?_,by unfold Wpb;omega⟩
 .unfold Ze7;rw[e4,e5,e6,e7,e8,e9];rw[WbS (P:=λ_=>True) hN (by omega) (λ_ _=>trivial) (by omega) (by omega),Xc,
   Wdr (P:=λ_=>True) hN (by omega) (λ_ _=>trivial) (by dsimp only;omega) (by dsimp only;omega),Xc,
   WgL (P:=λ_=>True) hN (by omega) (λ_ _=>trivial) (by dsimp only;omega) (by dsimp only;omega),Xc,
   WbS (P:=λ_=>True) hN (by omega) (λ_ _=>trivial) (by dsimp only;omega) (by dsimp only;omega),Xc,
   Wdr (P:=λ_=>True) hN (by omega) (λ_ _=>trivial) (by dsimp only;omega) (by dsimp only;omega),Xc,
   Wl8 hN (by omega) s9 (by dsimp only;omega) (by dsimp only;omega),Xc]
  dsimp only;rw[show k+Wpb f=k+wL wI (P4 f)+wL wRw (P5 f)+wL wEn (P6 f)+wL wI (P7 f)+wL wRw (P8 f)+wL wKR (Q9 f) by unfold Wpb;omega];rfl
 .unfold Zdi;generalize hg:((f.1,(f.2.1,(f.2.2.1,(f.2.2.2.1,(Wps f k).2.2.2.2)))):Y_Family)=g;have g4:P4 g=mkL mkI wI (P4 f) k:=by rw[←hg];rfl
  have g5:P5 g=mkL Wmk wRw (P5 f) (k+wL wI (P4 f)):=by rw[←hg];rfl
  have g6:P6 g=mkL WnV wEn (P6 f) (k+wL wI (P4 f)+wL wRw (P5 f)):=by rw[←hg];rfl
  have g7:P7 g=mkL mkI wI (P7 f) (k+wL wI (P4 f)+wL wRw (P5 f)+wL wEn (P6 f)):=by rw[←hg];rfl
  have g8:P8 g=mkL Wmk wRw (P8 f) (k+wL wI (P4 f)+wL wRw (P5 f)+wL wEn (P6 f)+wL wI (P7 f)):=by rw[←hg];rfl
  have g9:Q9 g=mkL Wo8 wKR (Q9 f) (k+wL wI (P4 f)+wL wRw (P5 f)+wL wEn (P6 f)+wL wI (P7 f)+wL wRw (P8 f)):=by rw[←hg];rfl
  rw[g4,g5,g6,g7,g8,g9];rw[Wee (P:=λ_=>True) hN (by omega) (λ_ _=>trivial) (by omega) (by omega)];simp(disch:=omega) only[ret,Xc,lt0,cond_false];rw[We5 (P:=λ_=>True) hN (by omega) (λ_ _=>trivial) (by omega) (by omega)];simp(disch:=omega) only[ret,Xc,lt0,cond_false];rw[Wg5 (P:=λ_=>True) hN (by omega) (λ_ _=>trivial) (by omega) (by omega)];simp(disch:=omega) only[ret,Xc,lt0,cond_false];rw[Wee (P:=λ_=>True) hN (by omega) (λ_ _=>trivial) (by omega) (by omega)];simp(disch:=omega) only[ret,Xc,lt0,cond_false];rw[We5 (P:=λ_=>True) hN (by omega) (λ_ _=>trivial) (by omega) (by omega)];simp(disch:=omega) only[ret,Xc,lt0,cond_false];rw[WlL hN (by omega) s9 (by omega) (by omega)];simp(disch:=omega) only[ret,Xc,lt0,cond_false];rw[show k+Wpb f=k+wL wI (P4 f)+wL wRw (P5 f)+wL wEn (P6 f)+wL wI (P7 f)+wL wRw (P8 f)+wL wKR (Q9 f) by unfold Wpb;omega]
theorem Wj8{s:FSc}(hN:1600000<N)(h:WU s<=1048576):∃s' k,Zdn N s 1=some ((s',()),(k,()))/\0<=k:=by
 unfold WU WJ Way at h;have c1:=WpK s.1;have c2:=WpK s.2.1;have c3:=WoN s.2.2.1;have c4:=WqR s.2.2.2.1;have d4:=WgK Wqn s.2.2.2.1;have c5:=WpK s.2.2.2.2;have l4:s.2.2.2.1.length<=WaX s.2.2.2.1:=Wdi;have s4:∀x∈s.2.2.2.1,Sm x:=λx hx=>by
  have:=Wdj hx;unfold Wdw WeL at this;show x.length<=1500000;omega
 unfold Zdn;rw[WbS (P:=λ_=>True) hN (by omega) (λ_ _=>trivial) (by omega) (by omega),Xc,
   WbS (P:=λ_=>True) hN (by omega) (λ_ _=>trivial) (by dsimp only;omega) (by dsimp only;omega),Xc,
   Wdr (P:=λ_=>True) hN (by omega) (λ_ _=>trivial) (by dsimp only;omega) (by dsimp only;omega),Xc,
   Wlx hN (by omega) s4 (by dsimp only;omega) (by dsimp only;omega),Xc,
   WbS (P:=λ_=>True) hN (by omega) (λ_ _=>trivial) (by dsimp only;omega) (by dsimp only;omega),Xc]
 refine⟨_,_,rfl,?_⟩;dsimp only;omega
theorem Wng{α:Type}{z:α->Nat}{c:Nat}:∀(l:List α),(∀x∈l,z x<=c)->(l.map z).sum<=c*l.length
 | [],_=>by simp
 |x::l,h=>by
  have h1:=h x (Xg ..);have h2:=Wng l λy hy=>h y (Xe _ hy);rw[Xag,Xck,Xq,Nat.mul_add];omega
theorem Wmp(s:FSc):Wmz (WdA s).1<=1048576/\Wej (WdA s).2<=1048576:=by
 unfold WdA;by_cases ho:WkU s=true
 .rw[if_pos ho];obtain⟨h1,h2,h3,h4,h5,h6⟩:=Wcb ho;obtain⟨p,q⟩:=Wop ho;generalize Wl7 s=w at p q;refine⟨?_,?_⟩
  .have:=(WV p.mem).1;show w.1.2.length<=_;omega
  .have hf:=p.fam;have hl:=hf.len;have hk:∀x∈w.2.kids.map Kd.e,Wbm x<=10000:=by
    intro y hy;obtain⟨x,hx,rfl⟩:=Xt.1 hy;obtain⟨i,hi,rfl⟩:=List.mem_iff_getElem.1 hx;have jI:=hf.kid i hi;have hcl:(s.2.2.2.1.getD i []).length<=24:=by
     have:s.2.2.2.1.getD i []=s.2.2.2.1[i]'(by omega):=by rw[Xbg,Xr (by omega)];rfl
     rw[this];exact(h6 _ (Xas _)).len
    have hm:=q.mks _ (Xas hi);generalize w.2.kids[i]=x at*;have r1:=jI.regs.len;have r2:=jI.wl;have r3:=jI.sl;have r4:=jI.pc;have:W4 x.marks<=300+4*300:=by
     unfold W4;have:=Wng (z:=Wbr) (c:=4) x.marks λy hy=>hm.2 y hy;have:=hm.1;omega
    show x.regs.length+x.seen.length+x.writes.length+W4 x.marks<=10000;omega
   have hs:=Wng _ hk;rw[Xad]at hs;have b1:=hf.regs.len;have b2:=hf.buf8;have b3:=hf.len3 h4;have b4:=hf.readsL;have b5:=q.st;show w.2.regs.length+w.2.start.length+w.2.buf.length+w.2.order.length+w.2.reads.length+((w.2.kids.map Kd.e).length+((w.2.kids.map Kd.e).map Wbm).sum)<=1048576;rw[Xad];omega
 .rw[if_neg ho];exact⟨by decide,by decide⟩
theorem Wj7{s:FSc}(hN:1600000<N)(hw:Wfd (.prod (.slice (.int .i64)) (.prod (.slice (.int .i64)) (.prod (.slice (.prod (.int .i64) (.int .i64))) (.prod (.slice (.slice (.prod (.int .i64) (.prod (.int .i64) (.prod (.int .i64) (.int .i64)))))) (.slice (.int .i64)))))) s):Zch N s=some ((),(true,())):=by
 unfold Zch;have hN':1048576<N:=by omega
 rw[WhH hN' (by omega) (by omega) hw];simp only[ret,Xc];by_cases hz:(1048576:Int)<(WU s:Int)
 .rw[if_pos hz];rfl
 .rw[if_neg hz,lt0 (by omega),cond_false];have lF:WU s<=1048576:=by omega
  have hb:FSB s:=by
   unfold WU WJ Way at lF;have l4:s.2.2.2.1.length<=WaX s.2.2.2.1:=Wdi;refine⟨by omega,by omega,by omega,by omega,λx hx=>?_,by omega⟩;have:=Wdj hx;unfold Wdw WeL at this;omega
  obtain⟨z1,z2⟩:=Wmp s;have fK:=WjJ hb hN';have qq:=WiW hb hN';obtain⟨s',k,hm,qr⟩:=Wj8 hN lF;obtain⟨m1,m2,m3,m4⟩:=WkC hN z1;obtain⟨f1,f2,f3⟩:=WkN hN z2 (k:=1+wL wWd (WdA s).1.2) (by omega) (by omega);rw[Wih lF hN'];simp only[ret,Xc,fK,qq];rw[Wp3 z1 hN',WlW z2 hN',Wh8 lF hN'];simp only[ret,Xc,Wch,Xaj,cond_false];rw[hm];simp only[Xc,lt0 qr,cond_false];rw[m1];simp only[Xc];rw[f1];simp only[Xc];rw[m2];simp only[ret,Xc];rw[lt0 (by omega),cond_false,f2];simp only[ret,Xc];rw[lt0 (by omega),cond_false,Wc7];rfl
theorem law_FnExactFamPlay(d:WdG [.v (.prod (.slice (.int .i64)) (.prod (.slice (.int .i64)) (.prod (.slice (.prod (.int .i64) (.int .i64))) (.prod (.slice (.slice (.prod (.int .i64) (.prod (.int .i64) (.prod (.int .i64) (.int .i64)))))) (.slice (.int .i64)))))) false])(hw:Wlq [.v (.prod (.slice (.int .i64)) (.prod (.slice (.int .i64)) (.prod (.slice (.prod (.int .i64) (.int .i64))) (.prod (.slice (.slice (.prod (.int .i64) (.prod (.int .i64) (.prod (.int .i64) (.int .i64)))))) (.slice (.int .i64)))))) false] d):∃N o,Zch N d.1=some (o,(true,())):=
 ⟨1600001,(),Wj7 (N:=1600001) (by omega) hw.1⟩
end
end Go.Sx
