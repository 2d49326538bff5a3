/- Plain laws of the Lean functions. -/
import Derived.Test.YtiagkodiffhaoaaGreatMW1
open Option renaming bind_some->Xd
open Bool renaming not_true->Xu,and_eq_true->Xl,eq_false_iff->nn,or_eq_false_iff->AK,not_eq_false'->Ed,and_self->lJ,not_false->Xeo
open Nat renaming zero_add->d4,lt_trichotomy->D4,le_refl->Xj,sub_zero->vu
open List renaming getElem_mem->Xm,map_append->Xw,map_cons->bo,map_nil->d6,dropLast_concat->HY,length_append->bX,length_cons->Xv,length_nil->kp,mem_append->Xo,pairwise_append->dZ,mem_of_mem_take->lv,length->Xa,dropLast_eq_take->yj,length_take->gv,getD->Xc,take->bM,set_set->mz,set_getElem_self->jt,drop_append_of_le_length->HT,foldl_append->p7,mem_cons_self->Xg,mem_cons_of_mem->Xe,getD_eq_getElem?_getD->Xs,getElem?_set_self->yf,cons_append->hZ,take_succ_cons->Xft,eq_nil_of_length_eq_zero->eY,take_append_of_le_length->Xcy,take_of_length_le->nm,mem_append_left->Xn,length_set->Xx,getElem?_set_ne->ly,getElem_of_mem->cN,set->Xi,getElem?_eq_getElem->Xq,all_eq_true->cS,getElem_replicate->mw,mem_iff_getElem->q8,mem_map->Xy,append_assoc->o0,length_map->aP,getElem_set->fE,replicate->Xp,pairwise_iff_getElem->fh,filter_cons->io,append->Xh,append_eq->eK,mem_filter->fc,filter_eq_self->Xfr
open Int renaming toNat_natCast->Xf,toNat->Xb,tdiv_eq_ediv_of_nonneg->HO
namespace Go.Sx
set_option linter.defProp false
set_option linter.unusedVariables false
set_option linter.unusedSimpArgs false
section
structure KCe(l:List Opn):Prop where
 len:l.length<=24
 up:Up l
 z:dep l l.length=0
 ok:∀i (h:i<l.length),aj l[i]=true/\1<=l[i].1/\l[i].1<=10
 sk:∀i (h:i<l.length),l[i].1=7->i+1+l[i].2.2.1.toNat<=l.length/\bal ((l.take (i+1+l[i].2.2.1.toNat)).drop (i+1))=true
def WyW{o}(h:aj o=true)(e:12<=o.1):qG o=2:=by
 have f:=qy h;have a:=I0 (N:=0) (o:=o);unfold rr at a;simp only[Wm]at a;rw[wN,h]at a;simp only[ret,Xd,Xu,Wc]at a;have c:(o.1==5)=false:=Φ
 have d:(o.1==6)=false:=Φ
 rw[c,d]at a;simp only[Wc]at a;have:o.1=12\/o.1=13\/o.1=14\/o.1=15\/o.1=16:=Ω
 rcases this with b|b|b|b|b<;> · rw[b]at a;simpa using a.symm
def WzO{l}(h:ff l=true):KCe l:=by
 unfold ff nj at h;simp only[Xl,Wg,Bool.not_eq_true']at h;obtain⟨⟨k,m,n⟩,o⟩:=h;obtain⟨f,g⟩:=Li.1 m;have s:∀i (a:i<l.length),kW l i l[i]=false:=λi a=>by
  rw[nn];intro s;have:lI (kW l) 0 l=true:=Dm.2 ⟨i,a,by rw[d4];exact s⟩;rw[n]at this;cases this
 have q:∀i (a:i<l.length),qp l[i]=false:=λi a=>by
  rw[nn];intro s;have:=List.any_eq_true.2 ⟨l[i],Xm a,s⟩;rw[o]at this;cases this
 have e:=λi a=>by
  have:=s i a;unfold kW at this;simp only[AK,Ed]at this;exact this.1.1
 refine⟨k,f,g,λi a=>?_,λi a p=>?_⟩
 .have c:=e i a;have b:=q i a;unfold qp at b;have r:=qy c;refine⟨c,r.1,?_⟩;by_cases j:l[i].1<=10
  .exact j
  .by_cases eW:l[i].1=11
   .simp[eW]at b
   .have:=WyW c Ω;rw[this]at b;simp at b
 .have:=s i a;unfold kW at this;simp only[AK,Ed]at this;have d:=this.1.2;rw[p]at d;have:uZ l i l[i]=true:=by simpa using d
  unfold uZ at this;simpa using this
noncomputable def mt(l:List Opn)(m:Nat):Nat:=@dite _ (∃k,Mate l m k) (Classical.propDecidable _) (λh=>Classical.choose h) λ_=>0
def WBo{l}{m k}(h:Mate l m k):Mate l m (mt l m):=by
 have a:∃k,Mate l m k:=⟨k,h⟩;unfold mt;rw[dif_pos a];exact Classical.choose_spec a
def Mate.uniq{l}{m k k'}(h:Mate l m k)(b:Mate l m k'):k=k':=by
 rcases D4 k k' with a|a|a
 .exact Wh h.eq (b.ne k (by have:=h.lt;omega) a)
 .exact a
 .exact Wh b.eq (h.ne k' (by have:=b.lt;omega) a)
def WDe{l}{m k}(h:Mate l m k):mt l m=k:=(WBo h).uniq h
abbrev Mk:=Int×Int×List Int
structure KS where
 t:List Int
 S:List Int
 P:List Rw
 back:Int
 m:List Mk
 o:List Int
def zMk:Mk:=(0,0,[])
def pI(s:KS):Mk:=s.m.getD (s.m.length-1) zMk
def CG(l:List Opn)(i:Nat):Opn:=l.getD i (0,0,0,0)
noncomputable def oj(l:List Opn)(a:Nat)(s:KS)(o:Opn):Bool×Nat×KS:=
 bif o.1==5 then(true,a+1,{s with t:=s.t.set o.2.1.toNat (s.S.getD o.2.2.1.toNat 0),o:=bif s.P.any (λr=>r.1==o.2.2.1)then s.o else s.o++ [o.2.2.1]})else
 bif o.1==6 then(true,a+1,{s with S:=s.S.set o.2.1.toNat (s.t.getD o.2.2.1.toNat 0),P:=s.P++ [(o.2.1,s.S.getD o.2.1.toNat 0)]})else
 bif o.1==7 then(true,bif s.t.getD o.2.1.toNat 0==0 then a+1+o.2.2.1.toNat else a+1,s)else
 bif o.1==8 then(true,a+1,{s with m:=s.m++ [((a:Int),(s.P.length:Int),s.t)]})else
 bif o.1==9 then(true,a+1,{s with m:=s.m.take (s.m.length-1),t:=s.t.set (CG l (pI s).1.toNat).2.1.toNat 1})else
 bif o.1==10 then
  (bif s.m.isEmpty then(false,a,{s with S:=gu s.S s.P,P:=[],back:=s.back+s.P.length})
  else(true,mt l (pI s).1.toNat+1,{s with S:=gu s.S (s.P.drop (pI s).2.1.toNat),P:=s.P.take (pI s).2.1.toNat,back:=s.back+s.P.length-(pI s).2.1,m:=s.m.take (s.m.length-1),t:=(pI s).2.2.set (CG l (pI s).1.toNat).2.1.toNat 0}))
 else(true,a+1,{s with t:=oJ o s.t})
noncomputable def eR(l:List Opn)(a:Nat)(s:KS):Bool×Nat×KS:=oj l a s (CG l a)
structure KI(l:List Opn)(c:Nat)(s:KS):Prop where
 pcl:c<=l.length
 rg:Vals 4 s.t
 cl:Vals 8 s.S
 lg:bT s.P/\s.P.length<=c
 mp:s.m.map (·.1)=(stk l c).map λm:Nat=>(m:Int)
 mr:∀m∈s.m,Vals 4 m.2.2/\0<=m.2.1/\m.2.1<=s.P.length
 mo:s.m.Pairwise λa b=>a.2.1<=b.2.1
 bk:0<=s.back/\s.back<=24*c
 rd:s.o.length<=c/\∀x∈s.o,0<=x/\x<=7
theorem DJ{l}{i}(h):CG l i=l[i]:=Wk h _
section
variable{l:List Opn}{J:Nat}{s:KS}
theorem G9(f:KCe l)(h:KI l J s)(j:s.m≠ []):∃(m:Nat) (q:List Mk) (x:Mk),s.m=q++ [x]/\pI s=x/\x.1=(m:Int)/\(∃a:m<l.length,l[m].1=8)/\Mate l m (mt l m)/\J<=mt l m/\stk l m=(stk l J).dropLast/\q.map (·.1)=(stk l m).map λm:Nat=>(m:Int):=by
 rcases tV s.m with d|⟨q,x,e⟩
 .exact Wh d j
 .have a:=h.mp;rw[e,Xw,bo,d6]at a;rcases tV (stk l J)with d|⟨t,m,b⟩
  .rw[d]at a;simp at a
  .rw[b,Xw,bo,d6]at a;obtain⟨n,c⟩:=List.append_inj' a rfl;injection c with c;obtain⟨k,r,g,i⟩:=WwQ f.up f.z h.pcl b;have p:=WDe g;obtain⟨_,o,_,_⟩:=KN J h.pcl t [] m b;refine⟨m,q,x,e,?_,c,o,by rw[p];exact g,Ω,by rw[b,HY];exact i,by rw[i];exact n⟩;unfold pI;rw[e];simp
theorem GS(j:KCe l)(h:KI l J s)(c:J<l.length):
  ((eR l J s).1=true->J<(eR l J s).2.1/\KI l (eR l J s).2.1 (eR l J s).2.2)/\
  ((eR l J s).1=false->(eR l J s).2.2.P= []/\Vals 8 (eR l J s).2.2.S/\Vals 4 (eR l J s).2.2.t/\(eR l J s).2.2.o.length<=24/\∀x∈(eR l J s).2.2.o,0<=x/\x<=7):=by
 obtain⟨k,L,Y⟩:=j.ok J c;have w:=DJ c;have V:=j.len;unfold eR;rw[w];unfold oj;by_cases z:l[J].1=5
 .have b:(l[J].1==5)=true:=by simp[z]
  obtain⟨p,t⟩:=nh k z;have v:0<=l[J].2.2.1/\l[J].2.2.1<=7:=by unfold cp at t;simpa using t
  simp only[b,We];refine⟨λ_=>⟨Ω,⟨c,h.rg.set _ (h.cl.get _),h.cl,⟨h.lg.1,by have:=h.lg.2;simp only[];omega⟩,by rw[jZ c Ω Ω];exact h.mp,h.mr,h.mo,⟨h.bk.1,by have:=h.bk.2;simp only[];omega⟩,?_⟩⟩,λh=>by simp at h⟩;have e:=h.rd;simp only[];cases s.P.any λr=>r.1==l[J].2.2.1
  .simp only[Wc,bX,Xv,kp];refine⟨Ω,λx f=>?_⟩;rcases Xo.1 f with f|f
   .exact e.2 x f
   .have:x=l[J].2.2.1:=by simpa using f
    rw[this];exact v
  .exact⟨by simp only[We];omega,e.2⟩
 .have b5:(l[J].1==5)=false:=by simp[z]
  rw[b5];by_cases A:l[J].1=6
  .have b:(l[J].1==6)=true:=by simp[A]
   obtain⟨p,t⟩:=CH k A;have v:0<=l[J].2.1/\l[J].2.1<=7:=by unfold cp at p;simpa using p
   simp only[b,We,Wc];refine⟨λ_=>⟨Ω,⟨c,h.rg,h.cl.set _ (h.rg.get _),⟨λr e=>?_,?_⟩,by rw[jZ c Ω Ω];exact h.mp,λm d=>?_,h.mo,⟨h.bk.1,by have:=h.bk.2;simp only[];omega⟩,⟨by have:=h.rd.1;simp only[];omega,h.rd.2⟩⟩⟩,λh=>by simp at h⟩
   .rcases Xo.1 e with e|e
    .exact h.lg.1 r e
    .have:r=(l[J].2.1,s.S.getD l[J].2.1.toNat 0):=by simpa using e
     rw[this];exact⟨v,h.cl.get _⟩
   .have:=h.lg.2;simp only[bX,Xv,kp];omega
   .have:=h.mr m d;refine⟨this.1,this.2.1,?_⟩;simp only[bX,Xv,kp];omega
  .have b6:(l[J].1==6)=false:=by simp[A]
   rw[b6];by_cases o:l[J].1=7
   .have b:(l[J].1==7)=true:=by simp[o]
    obtain⟨p,t,o3⟩:=pM k o;obtain⟨F,O⟩:=j.sk J c o;simp only[b,We,Wc];refine⟨λ_=>?_,λh=>by simp at h⟩;have E:stk l (J+1)=stk l J:=jZ c Ω Ω;cases s.t.getD l[J].2.1.toNat 0==0
    .simp only[Wc];exact⟨Ω,⟨c,h.rg,h.cl,⟨h.lg.1,by have:=h.lg.2;omega⟩,by rw[E];exact h.mp,h.mr,h.mo,⟨h.bk.1,by have:=h.bk.2;omega⟩,⟨by have:=h.rd.1;omega,h.rd.2⟩⟩⟩
    .simp only[We];exact⟨Ω,⟨F,h.rg,h.cl,⟨h.lg.1,by have:=h.lg.2;omega⟩,by rw[QM Ω F O,E];exact h.mp,h.mr,h.mo,⟨h.bk.1,by have:=h.bk.2;omega⟩,⟨by have:=h.rd.1;omega,h.rd.2⟩⟩⟩
   .have b7:(l[J].1==7)=false:=by simp[o]
    rw[b7];by_cases B:l[J].1=8
    .have b:(l[J].1==8)=true:=by simp[B]
     simp only[b,We,Wc];refine⟨λ_=>⟨Ω,⟨c,h.rg,h.cl,⟨h.lg.1,by have:=h.lg.2;simp only[];omega⟩,?_,λm d=>?_,?_,⟨h.bk.1,by have:=h.bk.2;simp only[];omega⟩,⟨by have:=h.rd.1;simp only[];omega,h.rd.2⟩⟩⟩,λh=>by simp at h⟩
     .simp[Xw,bo,d6,h.mp,ss c B]
     .rcases Xo.1 d with d|d
      .exact h.mr m d
      .have:m=((J:Int),(s.P.length:Int),s.t):=by simpa using d
       rw[this];exact⟨h.rg,by simp only[];omega,by simp only[];omega⟩
     .refine dZ.2 ⟨h.mo,List.pairwise_singleton ..,λa w b I=>?_⟩;have:b=((J:Int),(s.P.length:Int),s.t):=by simpa using I
      rw[this];exact(h.mr a w).2.2
    .have b8:(l[J].1==8)=false:=by simp[B]
     rw[b8];by_cases C:l[J].1=9
     .have b:(l[J].1==9)=true:=by simp[C]
      simp only[b,We,Wc];have H:∀m,m∈s.m.take (s.m.length-1)->m∈s.m:=λm d=>lv d;refine⟨λ_=>⟨Ω,⟨c,h.rg.set _ Ω,h.cl,⟨h.lg.1,by have:=h.lg.2;simp only[];omega⟩,?_,λm d=>h.mr m (H m d),h.mo.sublist (List.take_sublist _ _),⟨h.bk.1,by have:=h.bk.2;simp only[];omega⟩,⟨by have:=h.rd.1;simp only[];omega,h.rd.2⟩⟩⟩,λh=>by simp at h⟩;simp only[];rw[u9 c C,List.map_take,h.mp,<-List.map_take];congr 1;have:s.m.length=(stk l J).length:=by have:=Wq Xa h.mp;simpa using this
      rw[this,yj]
     .have b9:(l[J].1==9)=false:=by simp[C]
      rw[b9];by_cases i:l[J].1=10
      .have b:(l[J].1==10)=true:=by simp[i]
       simp only[b,We,Wc];by_cases u:s.m= []
       .have:s.m.isEmpty=true:=by rw[u];rfl
        rw[this];refine⟨λh=>by simp at h,λ_=>⟨rfl,Lh h.cl h.lg.1,h.rg,by have:=h.rd.1;simp only[We];omega,h.rd.2⟩⟩
       .have:s.m.isEmpty=false:=by cases d:s.m with|nil=>exact Wh d u|cons a b=>rfl
        rw[this];obtain⟨m,q,x,g,K,f,⟨d,W⟩,D,X,U,N⟩:=G9 j h u;have S:x∈s.m:=by rw[g];simp
        obtain⟨P,x2,x3⟩:=h.mr x S;have G:∀y∈q,y.2.1<=x.2.1:=by
         have:=h.mo;rw[g]at this
         exactλy n=>(dZ.1 this).2.2 y n x Δ
        have M:s.m.take (s.m.length-1)=q:=by rw[g];simp
        simp only[Wc,K,f,M,Xf];have T:((s.P.take x.2.1.toNat).length:Int)=x.2.1:=by rw[gv];omega
        have Z:=h.bk;have qa0:=h.lg.2;refine⟨λ_=>⟨Ω,⟨D.len,P.set _ Ω,Lh h.cl λr e=>h.lg.1 r (List.mem_of_mem_drop e),⟨λr e=>h.lg.1 r (lv e),?_⟩,?_,λy n=>?_,?_,⟨by simp only[];omega,by simp only[];omega⟩,⟨by have:=h.rd.1;simp only[];omega,h.rd.2⟩⟩⟩,λh=>by simp at h⟩
        .simp only[];omega
        .simp only[];rw[N,D.st]
        .obtain⟨Q,R,y3⟩:=h.mr y (by rw[g];simp[n]);exact⟨Q,R,by rw[T];exact G y n⟩
        .have:=h.mo;rw[g]at this;exact(dZ.1 this).1
      .have aY:(l[J].1==10)=false:=by simp[i]
       rw[aY];simp only[Wc];exact⟨λ_=>⟨Ω,⟨c,GY k L Ω h.rg,h.cl,⟨h.lg.1,by have:=h.lg.2;simp only[];omega⟩,by rw[jZ c Ω Ω];exact h.mp,h.mr,h.mo,⟨h.bk.1,by have:=h.bk.2;simp only[];omega⟩,⟨by have:=h.rd.1;simp only[];omega,h.rd.2⟩⟩⟩,λh=>by simp at h⟩
end
noncomputable def cZ(l:List Opn):Nat->Nat->KS->Bool×KS
 |0,_,s=>(false,s)
 |n+1,a,s=>bif decide (a<l.length)then(bif (eR l a s).1 then cZ l n (eR l a s).2.1 (eR l a s).2.2 else(true,(eR l a s).2.2))else(false,s)
def WsG{a}{q}{x:a}(h:q.length<1000):ah .i64 (Wi (q++ [x])) 1=(q.length:Int):=by
 rw[eh (by unfold I64 Wi;simp;omega)];unfold Wi;rw[bX];simp
def KQ{a:Type}{q}{x:a}:inb (q.length:Int) (q++ [x]).length=true:=by rw[d8];simp
def KA{a:Type}{q}{x d:a}:Xc (q++ [x]) q.length d=x:=Δ
def C5{a:Type}{q}{x:a}:bM q.length (q++ [x])=q:=Δ
def Qa{a:Type}{q}{x:a}:((decide ((0:Int)<=(q.length:Int)))&&(decide ((q.length:Int)<=((Xa (q++ [x])):Int))))=true:=Φ
def YL{l}(g:KCe l):∀(n a) (s),KI l a s->Vals 4 (cZ l n a s).2.t/\Vals 8 (cZ l n a s).2.S/\bT (cZ l n a s).2.P/\(cZ l n a s).2.P.length<=24/\((cZ l n a s).1=true->(cZ l n a s).2.P= [])/\
  (cZ l n a s).2.o.length<=24/\∀x∈(cZ l n a s).2.o,0<=x/\x<=7
 |0,a,s,h=>by
  have:=h.pcl;have:=g.len;have:=h.lg.2;have:=h.rd.1;exact⟨h.rg,h.cl,h.lg.1,by simp only[cZ];omega,λh=>by simp[cZ]at h,by simp only[cZ];omega,h.rd.2⟩
 |n+1,a,s,h=>by
  have o:=g.len;have p:=h.pcl;have q:=h.lg.2;have t:=h.rd.1;rw[cZ];by_cases i:a<l.length
  .have e:decide (a<l.length)=true:=by simpa using i
   obtain⟨k,m⟩:=GS g h i;rw[e];cases hb:(eR l a s).1
   .obtain⟨u,b,c,d,f⟩:=m hb;simp only[We,Wc];exact⟨c,b,by rw[u];exactλr j=>by simp at j,by rw[u];simp,λ_=>u,d,f⟩
   .exact YL g n _ _ (k hb).2
  .have e:decide (a<l.length)=false:=by simpa using i
   rw[e];exact⟨h.rg,h.cl,h.lg.1,by simp only[Wc];omega,λh=>by simp at h,by simp only[Wc];omega,h.rd.2⟩
def ks0(b a:List Int):KS:=⟨b,a,[],0,[],[]⟩
def Rv{l}{c d}(b:Vals 4 c)(a:Vals 8 d):KI l 0 (ks0 c d) where
 pcl:=Nat.zero_le _
 rg:=b
 cl:=a
 lg:=⟨λr h=>by simp[ks0]at h,by simp[ks0]⟩
 mp:=by simp[ks0,stk]
 mr:=λm h=>by simp[ks0]at h
 mo:=List.Pairwise.nil
 bk:=by simp[ks0]
 rd:=⟨by simp[ks0],λx h=>by simp[ks0]at h⟩
abbrev Egr:=Int×List Int×List Int×List Rw×Int
noncomputable def x7(l:List Opn)(b a:List Int):Egr:=
 bif ff l&&(oz b&&oD a)then
  (λf:Bool×KS=>(bif f.1 then 2 else 1,f.2.t,f.2.S,f.2.P,f.2.back)) (cZ l (l.length+1) 0 (ks0 b a))
 else(0,[],[],[],0)
def XF{l}(c:KCe l):∀(n k a) (s),KI l a s->l.length-a<n->cZ l (n+k) a s=cZ l n a s
 |0,k,a,s,h,hn=>Ω
 |n+1,k,a,s,h,hn=>by
  rw[show n+1+k=(n+k)+1 by omega,cZ,cZ];by_cases d:a<l.length
  .obtain⟨f,g⟩:=GS c h d;cases hb:(eR l a s).1
   .rfl
   .obtain⟨i,b⟩:=f hb;rw[XF c n k _ _ b Ω]
  .have e:decide (a<l.length)=false:=by simpa using d
   rw[e];rfl
section
variable{N:Nat}{l:List Opn}{a b:List Int}
theorem TC(a:KCe l){s}(h:KI l 0 s)(c:1048576<N):cZ l N 0 s=cZ l (l.length+1) 0 s:=by
 have:=a.len;obtain⟨k,b⟩:∃k,N=l.length+1+k:=⟨N-(l.length+1),Ω⟩;rw[b];exact XF a _ _ _ _ h Ω
end
def CY{a}(b:Option a):dL b b=b:=by unfold dL;rw[Wb rfl]
def Wq1(c)(a b):gu c (a++b)=gu (gu c b) a:=by unfold gu;rw[List.foldr_append]
def WyB{c:List Int}{a}{v}:(c.set a v).set a (c.getD a 0)=c:=by
 rw[mz];by_cases h:a<c.length
 .rw[Wk h];exact jt h
 .rw[List.set_eq_of_length_le Ω]
def Po{c}{b:List Rw}{a:Int}{v}{n}(h:n<=b.length):gu (c.set a.toNat v) ((b++ [(a,c.getD a.toNat 0)]).drop n)=gu c (b.drop n):=by
 rw[HT h,WwP];simp only[];rw[WyB]
def Wst{c}{a:List Rw}{n k}(h:n<=k)(b:k<=a.length):gu (gu c (a.drop k)) ((a.take k).drop n)=gu c (a.drop n):=by
 rw[<-Wq1];congr 1;rw[<-HT (by rw[gv];omega),List.take_append_drop]
def cmk(a:List Int)(b:Int)(s:KS)(m:Mk):Int×List Int×List Int×List Int×Int:=(m.1,(m.2.2,(gu s.S (s.P.drop m.2.1.toNat),(a,b))))
def Wuh{l}{a}{s}(e:KCe l)(h:KI l a s)(f:a<l.length):gu (eR l a s).2.2.S (eR l a s).2.2.P=gu s.S s.P:=by
 have d:=DJ f;unfold eR;rw[d];unfold oj;cases l[a].1==5
 .cases l[a].1==6
  .cases l[a].1==7
   .cases l[a].1==8
    .cases l[a].1==9
     .cases l[a].1==10
      .rfl
      .by_cases ar:s.m= []
       .have:s.m.isEmpty=true:=by rw[ar];rfl
        rw[this];rfl
       .have:s.m.isEmpty=false:=by cases hm:s.m with|nil=>exact Wh hm ar|cons t b=>rfl
        rw[this];obtain⟨m,q,x,g,i,j,_⟩:=G9 e h ar;obtain⟨o,p,r⟩:=h.mr x (by rw[g];simp);simp only[We,Wc,i];have:=Wst (c:=s.S) (a:=s.P) (n:=0) (k:=x.2.1.toNat) Ω Ω;simpa using this
     .rfl
    .rfl
   .rfl
  .have:=Po (c:=s.S) (b:=s.P) (a:=l[a].2.1) (v:=s.t.getD l[a].2.2.1.toNat 0) (n:=0) Ω;simpa using this
 .rfl
def ZF{l}(b:KCe l):∀(n a) (s),KI l a s->gu (cZ l n a s).2.S (cZ l n a s).2.P=gu s.S s.P
 |0,a,s,h=>rfl
 |n+1,a,s,h=>by
  rw[cZ];by_cases d:a<l.length
  .have e:decide (a<l.length)=true:=by simpa using d
   have c:=Wuh b h d;rw[e];cases hb:(eR l a s).1
   .exact c
   .simp only[We];rw[ZF b n _ _ ((GS b h d).1 hb).2,c]
  .have e:decide (a<l.length)=false:=by simpa using d
   rw[e];rfl
def Do{N}{c b}{a}(d:c.length<=1000)(e:b.length<=1000):rE N (c,(b,a))=ret (c,(b,a)):=by
 unfold rE;have f:WH (([]:List Int).length+c.length)=true:=Ww Φ;have g:WH (([]:List Int).length+b.length)=true:=Ww Φ;simp only[f,g,We,CY];rfl
section
variable{N:Nat}{l:List Opn}{R:Type}
end
end
section
def Wum{l}(h:KC l):KCe l:=⟨h.len,h.up,h.z,λi a=>⟨(h.ok i a).1,(h.ok i a).2.1,h.k10 i a⟩,h.sk⟩
def ovl(c:List Int)(a:List Rw):List Int:=a.foldl (λc r=>c.set r.1.toNat r.2) c
def Qh(c)(l)(r):ovl c (l++ [r])=(ovl c l).set r.1.toNat r.2:=by simp[ovl,p7]
def Wuk(c)(a b):ovl c (a++b)=ovl (ovl c a) b:=by unfold ovl;rw[p7]
def lY:∀{l} {c},Vals 8 c->bT l->Vals 8 (ovl c l)
 | [],c,h,_=>h
 |r::l,c,h,a=>lY (l:=l) (h.set r.1.toNat (a r (Xg ..)).2) λx b=>a x (Xe _ b)
theorem qj{c:Int}:∀{l:List Rw} {A:List Int},Vals 8 A->bT l->0<=c->c<=7->(ovl A l).getD c.toNat 0=match lst l c with|some v=>v|none=>A.getD c.toNat 0
 | [],A,_,_,_,_=>rfl
 |r::l,A,a,d,e,h7=>by
  have g:=d r (Xg ..);have h:=qj (c:=c) (l:=l) (A:=A.set r.1.toNat r.2) (a.set r.1.toNat g.2) (λx f=>d x (Xe _ f)) e h7;show(ovl (A.set r.1.toNat r.2) l).getD c.toNat 0=_;rw[h,lst];cases lst l c with
  |some v=>rfl
  |none=>
   by_cases b:r.1=c
   .rw[Wb b,<-b,Xs,yf (by rw[a.len];omega)];rfl
   grind
def lb:List Int->List Rw->List Rw
 |_,[]=>[]
 |A,r::l=>(r.1,A.getD r.1.toNat 0)::lb (A.set r.1.toNat r.2) l
theorem KL:∀{l} {A},(lb A l).length=l.length
 | [],_=>rfl
 |r::l,A=>by rw[lb,Xv,Xv,KL]
def PC(r):∀(l) (A),lb A (l++ [r])=lb A l++ [(r.1,(ovl A l).getD r.1.toNat 0)]
 | [],_=>rfl
 |x::l,A=>by
  rw[hZ,lb,lb,PC r l,hZ];rfl
def WwF(n):∀(l) (A),(lb A l).take n=lb A (l.take n):=by
 induction n with
 |zero=>simp[lb]
 |succ n ih=>
  intro l A;cases l with
  |nil=>rfl
  |cons r l=>rw[lb,Xft,Xft,lb,ih]
def Ye{A}{n}:∀{l},gu (ovl A l) ((lb A l).drop n)=ovl A (l.take n):=by
 intro l;generalize a:l.length=k
 induction k generalizing l with
 |zero=>
  grind [eY,lb,gu,ovl]
 |succ k ih=>
  rcases tV l with rfl|⟨q,r,rfl⟩
  .simp at a
  .have hq:q.length=k:=Ψ
   by_cases b:n<=q.length
   .rw[Qh,PC,Po (by grind [KL]),ih hq,Xcy b]
   .rw[List.drop_eq_nil_of_le (by grind [KL]),nm Ω];rfl
structure EM(A:List Int)(x:Kd)(s:KS):Prop where
 t:s.t=x.t
 S:s.S=ovl A x.A
 P:s.P=lb A x.A
 m:s.m=x.m
def Sim(b:List Opn)(a:List Int)(x:Kd):Prop:=∀A:List Int,Vals 8 A->(∀e∈x.M,A.getD e.1.toNat 0=e.2.1)->∀F:Nat,25<=F->
 (x.g=0/\∃(j:Nat) (s:KS),(j:Int)<=x.k/\EM A x s/\KI b x.k.toNat s/\cZ b F 0 (ks0 a A)=cZ b (F-j) x.k.toNat s)\/
 (x.g≠0/\((x.out=1/\∃s:KS,s.t=x.t/\s.S=ovl A x.A/\cZ b F 0 (ks0 a A)=(false,s))\/(x.out=2/\x.A= []/\∃s,s.S=A/\cZ b F 0 (ks0 a A)=(true,s))))
section
variable{M:Int->Int->Prop}{N:Nat}{c:List (List Opn)}{n:Int}{f:Fm}{k:Nat}{l:List Opn}{m:Mm}{x y:Kd}{a:List Int}
theorem Sim.new(h:Vals 4 a)(b:x.g=0)(g:x.k=0)(c:x.t=a)(i:x.A= [])(d:x.m= []):Sim l a x:=λA e _ F f=>by
 refine .inl ⟨b,0,ks0 a A,Ω,⟨by rw[c];rfl,by rw[i];rfl,by rw[i];rfl,by rw[d];rfl⟩,?_,?_⟩
 .simp_all [Rv]
 simp_all
theorem Sim.same(h:Sim l a x)(o:y.g=x.g)(r:y.k=x.k)(k:y.t=x.t)(f:y.A=x.A)(u:y.m=x.m)(t:y.M=x.M)(q:y.out=x.out):Sim l a y:=λA g m F i=>by
 rcases h A g (λe p=>m e Ψ) F i with⟨v,j,s,b,c,d,e⟩|⟨v,⟨b,s,c,n,d⟩|⟨b,c,s,d,e⟩⟩
 .exact .inl ⟨Ω,j,s,Ω,⟨by rw[k];exact c.t,by rw[f];exact c.S,by rw[f];exact c.P,by rw[u];exact c.m⟩,Ψ,Ψ⟩
 .simp_all
 simp_all
theorem Sim.fin(h:Sim l a x)(k:x.g≠0)(r:y.g≠0)(n:y.t=x.t)(q:y.A=x.A)(p:y.M=x.M)(o:y.out=x.out):Sim l a y:=λA f i F g=>by
 rcases h A f (λe m=>i e Ψ) F g with⟨t,_⟩|⟨t,⟨b,s,c,j,d⟩|⟨b,c,s,d,e⟩⟩
 .omega
 .simp_all
 simp_all
theorem Wz9{F j e}{s s'}{a}(b:j+1<=F)(d:e<l.length)(h:eR l e s=(true,a,s')):cZ l (F-j) e s=cZ l (F-(j+1)) a s':=by
 rw[show F-j=(F-(j+1))+1 by omega,cZ,h];simp[d]
theorem Sim.go(k:KCe l)(h:Sim l a x)(z:x.g=0)(B:0<=x.k)(t:x.k.toNat<l.length)(u:y.g=0)(v:0<=y.k)(n:∀e∈x.M,e∈y.M)
  (p:∀A s,Vals 8 A->(∀e∈y.M,A.getD e.1.toNat 0=e.2.1)->EM A x s->KI l x.k.toNat s->∃f,eR l x.k.toNat s=(true,y.k.toNat,f)/\EM A y f):Sim l a y:=λA i C F q=>by
 rcases h A i (λe r=>C e (n e r)) F q with⟨_,j,s,b,c,d,e⟩|⟨D,_⟩
 .obtain⟨f,g,o⟩:=p A s i C c d;have m:=(GS k d t).1 (by rw[g]);rw[g]at m;have w:=k.len;refine .inl ⟨u,j+1,f,?_,o,m.2,?_⟩
  .grind
  grind [Wz9]
 omega
theorem Sim.stop(n:KCe l)(h:Sim l a x)(w:x.g=0)(C:0<=x.k)(o:x.k.toNat<l.length)(u:y.g≠0)(r:y.out=2)(p:y.A= [])(B:y.M=x.M)
  (D:∀A s,Vals 8 A->EM A x s->KI l x.k.toNat s->∃q f,eR l x.k.toNat s=(false,q,f)/\f.S=A):Sim l a y:=λA g t F m=>by
 rcases h A g (λe z=>t e Ψ) F m with⟨_,j,s,b,c,d,e⟩|⟨E,_⟩
 .obtain⟨q,f,i,k⟩:=D A s g c d;have v:=n.len;refine .inr ⟨u,.inr ⟨r,p,f,k,?_⟩⟩;rw[e,show F-j=(F-(j+1))+1 by omega,cZ,i];simp[o]
 omega
theorem Sim.over(i:KCe l)(h:Sim l a x)(q:x.g=0)(v:0<=x.k)(p:x.k<=l.length)(t:l.length<=x.k)(o:y.g≠0)(m:y.out=1)(k:y.t=x.t)(w:y.A=x.A)(u:y.M=x.M):Sim l a y:=λA f n F g=>by
 rcases h A f (λe r=>n e Ψ) F g with⟨_,j,s,b,c,d,e⟩|⟨z,_⟩
 .have aa:=i.len;refine .inr ⟨o,.inl ⟨m,s,by rw[k];exact c.t,by rw[w];exact c.S,?_⟩⟩;rw[e,show F-j=(F-(j+1))+1 by omega,cZ,Wj Ω];rfl
 omega
theorem Wsu{i}:opN l i=CG l i.toNat:=rfl
theorem EM.cell{A:List Int}{s}(h:EM A x s)(d:Vals 8 A)(e:bT x.A){c:Int}(a:0<=c)(b:c<=7):s.S.getD c.toNat 0=match lst x.A c with|some v=>v|none=>A.getD c.toNat 0:=by
 rw[h.S,qj d e a b]
theorem Wyo(E:KC l)(hF:FOk c n f)(F:KOk l f.K n x)(d:x.g=0)(h:Sim l f.t x):Sim l f.t (eI m f x l).2:=by
 have k:=Wum E;have aa:=E.len;have g:=F.k;have j9:x.A.length<=300:=by have:=F.wl;omega
 have de:Sim l f.t (f.again x):=Sim.new hF.t rfl rfl rfl rfl rfl;unfold eI;by_cases N:x.k>=l.length
 .rw[Wb N];exact h.over k d g.1 g.2 N Ψ rfl rfl rfl rfl
 .rw[Wa N];have i:x.k.toNat<l.length:=Ω
  have tF:opN l x.k=l[x.k.toNat]:=by grind [Wsu,DJ]
  have K:=E.ok _ i;have vt:=E.k10 _ i;rw[<-tF]at K vt;have t:∀s,eR l x.k.toNat s=oj l x.k.toNat s (opN l x.k):=λs=>by unfold eR;rw[Wsu]
  have C:(x.k+1).toNat=x.k.toNat+1:=Ω
  simp only;generalize ho:opN l x.k=o at*;by_cases G:o.1=5
  .rw[Wb G];have D:=(nh K.1 G).2;unfold cp at D;simp at D;have R:∀(v:Int) (J:List En) (y:Kd),(∀e∈x.M,e∈J)->(∀A:List Int,Vals 8 A->(∀e∈J,A.getD e.1.toNat 0=e.2.1)->(match lst x.A o.2.2.1 with|some v=>v|none=>A.getD o.2.2.1.toNat 0)=v)->
     y.g=0->y.k=x.k+1->y.t=gh x.t o.2.1 v->y.A=x.A->y.m=x.m->y.M=J->Sim l f.t y:=λv J y dS hv y0 y1 y2 y3 y4 y5=>by
    refine h.go k d g.1 i y0 Ω Ψ λA s j w a p=>?_;refine⟨_,by rw[t];unfold oj;rw[G,y1,C];rfl,?_,?_,?_,?_⟩
    .rw[a.cell j F.Eo D.1 D.2,hv A j Θ,a.t,y2];rfl
    .show s.S=_;rw[a.S,y3]
    .show s.P=_;rw[a.P,y3]
    .show s.m=_;rw[a.m,y4]
   have oI:=C1 (c:=o.2.2.1) F.Eo j9;unfold c3;cases hl:bf x.A o.2.2.1 with
   |some v=>
    exact R v x.M _ (λe b=>b) (λA _ _=>by rw[<-oI,hl]) d rfl rfl rfl rfl rfl
   |none=>
    have ka:∀e:En,e.1=o.2.2.1->∀A:List Int,Vals 8 A->(∀z∈x.M++ [e],A.getD z.1.toNat 0=z.2.1)->(match lst x.A o.2.2.1 with|some v=>v|none=>A.getD o.2.2.1.toNat 0)=e.2.1:=λe b A j w=>by
     grind
    cases b:ent f.buf o.2.2.1 with
    |some r=>
     simp only;split
     .exact de
     .exact R r.2.2.1 (x.M++ [r.2]) _ (λe b=>Xn _ b) (ka r.2 (GU b).2) d rfl rfl rfl rfl rfl
    |none=>
     simp only;generalize WU m f.u _=Q;split
     .exact h.same rfl rfl rfl rfl rfl rfl rfl
     .split
      .exact R Q.2.2.2 (x.M++ [(o.2.2.1,Q.2.2.2,-1)]) _ (λe b=>Xn _ b) (ka (o.2.2.1,Q.2.2.2,-1) rfl) d rfl rfl rfl rfl rfl
      .exact h.same rfl rfl rfl rfl rfl rfl rfl
  .rw[Wa G];have B:(o.1==5)=false:=Ψ
   by_cases U:o.1=10
   .rw[Wb U];have T:(o.1==10)=true:=Ψ
    have V:(o.1==6)=false:=Φ
    have W:(o.1==7)=false:=Φ
    have X:(o.1==8)=false:=Φ
    have Y:(o.1==9)=false:=Φ
    unfold pu;by_cases H:x.m.length=0
    .rw[Wb H];have S:x.m= []:=eY H;refine h.stop k d g.1 i Ψ rfl rfl rfl λA s j a p=>?_;have b:s.m.isEmpty=true:=by rw[a.m,S];rfl
     refine⟨_,_,by rw[t];unfold oj;rw[B,V,W,X,Y,T,b];rfl,?_⟩;show gu s.S s.P=A;have:=Ye (A:=A) (n:=0) (l:=x.A);rw[List.drop_zero]at this;rw[a.S,a.P,this];rfl
    .rw[Wa H];have S:x.m≠ []:=λz=>H (by rw[z];rfl);have Dg:0<=kR l (eQ x.m (0,0,[])).1.toNat+1:=Ω
     refine h.go k d g.1 i d Θ (λe b=>b) λA s j w a p=>?_;have ar:s.m≠ []:=by rw[a.m];exact S
     have b:s.m.isEmpty=false:=Ψ
     obtain⟨mm,q,z,O,ht,hx,⟨nQ,M⟩,bP,ia,aG,mW⟩:=G9 k p ar;obtain⟨z1,z2,z3⟩:=p.mr z Θ;have cG:eQ x.m (0,0,[])=z:=by rw[<-a.m,O];exact Vu q z _
     have px:x.m.dropLast=q:=by rw[<-a.m,O,HY]
     have Dh:kR l z.1.toNat=mt l z.1.toNat:=by grind [Xf,VR]
     have kD:s.m.take (s.m.length-1)=q:=by rw[O];simp
     rw[cG];refine⟨_,by rw[t];unfold oj;rw[B,V,W,X,Y,T,b,ht,kD];simp only[Wc,We];refine Wq (λu:Nat=>(true,u,_)) ?_;omega,?_,?_,?_,?_⟩
     .rfl
     .show gu s.S (s.P.drop z.2.1.toNat)=ovl A (x.A.take z.2.1.toNat);rw[a.S,a.P,Ye]
     .show s.P.take z.2.1.toNat=lb A (x.A.take z.2.1.toNat);rw[a.P,WwF]
     simp_all
   .rw[Wa U];have ls:(o.1==10)=false:=Ψ
    by_cases Z:o.1=6
    .rw[Wb Z];have b6:(o.1==6)=true:=Ψ
     refine h.go k d g.1 i d Θ (λe b=>b) λA s j w a p=>?_;refine⟨_,by rw[t];unfold oj;rw[B,b6];show _=(true,(x.k+1).toNat,_);rw[C];rfl,?_,?_,?_,?_⟩
     .exact a.t
     .rw[Qh,a.S,a.t];rfl
     .show s.P++ [(o.2.1,s.S.getD o.2.1.toNat 0)]=lb A (x.A++ [(o.2.1,ac x.t o.2.2.1 0)]);rw[PC,a.P,a.S]
     .exact a.m
    .rw[Wa Z];have I:(o.1==6)=false:=Ψ
     by_cases L:o.1=7
     .rw[Wb L];have b7:(o.1==7)=true:=Ψ
      have o7:=pM K.1 L;refine h.go k d g.1 i d (by show 0<=(if ac x.t o.2.1 0=0 then x.k+o.2.2.1 else x.k)+1;split<;>omega) (λe b=>b) λA s j w a p=>?_;refine⟨s,?_,a.t,a.S,a.P,a.m⟩;rw[t];unfold oj;rw[B,I,b7,a.t];show(true,(bif x.t.getD o.2.1.toNat 0==0 then x.k.toNat+1+o.2.2.1.toNat else x.k.toNat+1),s)=(true,((if ac x.t o.2.1 0=0 then x.k+o.2.2.1 else x.k)+1).toNat,s);have pG:ac x.t o.2.1 0=x.t.getD o.2.1.toNat 0:=rfl
      grind
     .rw[Wa L];have P:(o.1==7)=false:=Ψ
      by_cases M:o.1=8
      .rw[Wb M];have b8:(o.1==8)=true:=Ψ
       refine h.go k d g.1 i d Θ (λe b=>b) λA s j w a p=>?_;refine⟨{s with m:=s.m++ [((x.k.toNat:Int),(s.P.length:Int),s.t)]},by rw[t];unfold oj;rw[B,I,P,b8];simp only[Wc,We];show _=(true,(x.k+1).toNat,_);rw[C],a.t,a.S,a.P,?_⟩;show s.m++ [((x.k.toNat:Int),(s.P.length:Int),s.t)]=x.m++ [(x.k,(x.A.length:Int),x.t)];rw[a.m,a.P,a.t,KL,show((x.k.toNat:Nat):Int)=x.k by omega]
      .rw[Wa M];have n8:(o.1==8)=false:=Ψ
       by_cases h9:o.1=9
       .rw[Wb h9];have b9:(o.1==9)=true:=Ψ
        refine h.go k d g.1 i d Θ (λe b=>b) λA s j w a p=>?_;refine⟨{s with m:=s.m.take (s.m.length-1),t:=s.t.set (CG l (pI s).1.toNat).2.1.toNat 1},by rw[t];unfold oj;rw[B,I,P,n8,b9];simp only[Wc,We];show _=(true,(x.k+1).toNat,_);rw[C],?_,a.S,a.P,?_⟩
        .have:pI s=eQ x.m (0,0,[]):=by unfold pI eQ;rw[a.m];rfl
         rw[this,a.t];rfl
        .show s.m.take (s.m.length-1)=x.m.dropLast;rw[a.m,yj]
       .rw[Wa h9];have n9:(o.1==9)=false:=Ψ
        refine h.go k d g.1 i d Θ (λe b=>b) λA s j w a p=>?_;refine⟨{s with t:=oJ o s.t},by rw[t];unfold oj;rw[B,I,P,n8,n9,ls];simp only[Wc];show _=(true,(x.k+1).toNat,_);rw[C],?_,a.S,a.P,a.m⟩;show oJ o s.t=oJ o x.t;rw[a.t]
end
end
section
section
variable{M:Int->Int->Prop}{N:Nat}{a:List (List Opn)}{n:Int}{f g:Fm}{k:Nat}{b:List Opn}{m:Mm}{x y:Kd}{c:List Int}
def VL(f:Fm)(x:Kd):Prop:=∀j:Nat,(j:Int)<x.pos->∀h:j<x.M.length,oY f.buf x.M[j].1=x.M[j].2.2
structure FV(M:Int->Int->Prop)(a:List (List Opn))(f:Fm):Prop where
 sim:∀(k:Nat) (h:k<f.κ.length),Sim (a.getD k []) f.t f.κ[k]
 T:∀(k:Nat) (h:k<f.κ.length),f.κ[k].g=2->f.Ep=(k:Int)+1
 val:∀(k:Nat) (h:k<f.κ.length),f.κ[k].g=2->VL f f.κ[k]
 pz:∀(k:Nat) (h:k<f.κ.length),f.κ[k].g≠2->f.κ[k].pos=0
 mrg:∀(i:Nat) (h:i<f.B.length),∀e∈(f.κ.getD f.B[i].toNat {}).M,lst (WR f i) e.1=some e.2.1\/(lst (WR f i) e.1=none/\e.2.2= -1/\M e.1 e.2.1)
theorem WwV{b}{c t}(h:oY b c=t)(a:0<=t):∃r:Nat×En,ent b c=some r/\r.2.2.2=t:=by
 unfold oY at h
 grind
theorem Wwr{b}{c}(h:oY b c= -1)(a:∀e∈b,0<=e.2.2):ent b c=none:=by
 unfold oY at h;cases he:ent b c<;>grind [ent,GU]
theorem Wzd(h:FT M f)(i:FOk a n f)(y:x.Ew<=f.K)(p:SN M f x)(m:∀e∈x.M,0<=e.1/\e.1<=7){e}(j:e∈x.M)(k:oY f.buf e.1=e.2.2):
  lst (WR f f.B.length) e.1=some e.2.1\/(lst (WR f f.B.length) e.1=none/\e.2.2= -1/\M e.1 e.2.1):=by
 have s:=i.K;rcases p e j with⟨A,b,c⟩|⟨A,b,c,d⟩
 .right;have o:=Wwr (k.trans A) λz q=>(i.bufE z q).2.2.1;have:=m e j;exact⟨h.non _ this.1 this.2 (Qg o) _ (Xj _),A,c⟩
 .left;obtain⟨r,l,v⟩:=WwV k A;obtain⟨g,w⟩:=GU l;have t:=h.buf r.2 g e.2.2.toNat Ω Ω;have u:=h.buf r.2 g f.B.length Ω (Xj _);simp_all
theorem FV.put(c:FV M a f)(h:FT M f)(hk)(w:f.κ[k].g≠3)(z:g.start=f.start)(l:g.B=f.B)(u:g.buf=f.buf)(o:g.κ=f.κ.set k y)(x:g.t=f.t)
  (G:Sim (a.getD k []) f.t y) (C:∀(j) (I),j≠k->f.κ[j].g=2->g.Ep=(j:Int)+1) (A:y.g=2->g.Ep=(k:Int)+1/\VL f y) (H:y.g≠2->y.pos=0):FV M a g:=by
 have d:∀(j:Nat) (I:j<g.κ.length) (r:j<f.κ.length),g.κ[j]=if k=j then y else f.κ[j]:=λj I r=>Θ
 have D:g.κ.length=f.κ.length:=by rw[o,Xx]
 have q:∀j∈f.B,k≠j.toNat:=λj I e=>by
  obtain⟨E,F,B⟩:=h.ord j I;subst e;exact w B
 have p:∀j∈f.B,g.κ.getD j.toNat {}=f.κ.getD j.toNat {}:=λj I=>by
  rw[o,Xs,Xs,ly (q j I)]
 have t:∀n,WR g n=WR f n:=λn=>J2 z (by rw[l]) λj I=>by unfold kS;rw[p j I]
 refine⟨λj I=>?_,λj I b=>?_,λj I b=>?_,λj I b=>?_,λi v e m=>?_⟩
 .rw[d j I Ω,x];split
  .simp_all
  .exact c.sim j Ω
 .grind
 .rw[d j I Ω]at b|-;unfold VL;rw[u];split at b
  .rename_i e;rw[Wb e];exact(A b).2
  .rename_i e;rw[Wa e];exact c.val j Ω b
 .rw[d j I Ω]at b|-;split at b
  .simp_all
  .rename_i e;rw[Wa e];exact c.pz j Ω b
 .have fT:i<f.B.length:=by rw[<-l];exact v
  have s:g.B[i]=f.B[i]:=by simp[l]
  rw[s,p _ (Xm fT)]at m;rw[t];exact c.mrg i fT e m
theorem Wuy(d:FV M a f)(h:FT M f)(A:FOk a n f)(hk)(g:f.κ[k]=x)(y:x.g=2)(Q:x.pos=x.M.length):FV M a (Fm.put (dr f x k) k):=by
 have p:=A.kid k hk;rw[g]at p;have t:(Fm.put (dr f x k) k).κ=f.κ.set k {x with g:=3,pos:=0,m:=[]}:=rfl;have O:(Fm.put (dr f x k) k).κ.length=f.κ.length:=by rw[t,Xx]
 have s:(Fm.put (dr f x k) k).B=f.B++ [(k:Int)]:=rfl;have L:(Fm.put (dr f x k) k).t=f.t:=rfl;have N:(Fm.put (dr f x k) k).start=f.start:=rfl;have u:∀(j:Nat) (c:j<(Fm.put (dr f x k) k).κ.length) (H:j<f.κ.length),(Fm.put (dr f x k) k).κ[j]=if k=j then{x with g:=3,pos:=0,m:=[]}else f.κ[j]:=λj c H=>Θ
 have F:∀j∈f.B,k≠j.toNat:=λj c e=>by
  obtain⟨S,T,U⟩:=h.ord j c;simp_all
 have C:∀j∈f.B,(Fm.put (dr f x k) k).κ.getD j.toNat {}=f.κ.getD j.toNat {}:=λj c=>by
  rw[t,Xs,Xs,ly (F j c)]
 have v:∀n,n<=f.B.length->WR (Fm.put (dr f x k) k) n=WR f n:=λn I=>J2 N (by rw[s,Xcy I]) λj c=>by unfold kS;rw[C j c]
 have G:∀(j:Nat) (c:j<f.κ.length),j≠k->f.κ[j].g≠2:=λj c P J=>by
  have V:=d.T j c J;have b:=d.T k hk (by rw[g];exact y);omega
 have D:∀(j:Nat) (c:j<(Fm.put (dr f x k) k).κ.length),(Fm.put (dr f x k) k).κ[j].g≠2:=λj c=>by
  grind
 refine⟨λj c=>?_,λj c r=>Wh r (D j c),λj c r=>Wh r (D j c),λj c _=>?_,λi R e l=>?_⟩
 .rw[u j c Ω,L];split
  .rename_i e;subst e;have:=d.sim k hk;rw[g]at this;exact this.fin Ω Ψ rfl rfl rfl rfl
  .exact d.sim j Ω
 .rw[u j c Ω];split
  .rfl
  .rename_i e;exact d.pz j Ω (G j Ω λq=>e q.symm)
 .have fT:i<f.B.length+1:=Θ
  by_cases m:i<f.B.length
  .have o:(Fm.put (dr f x k) k).B[i]=f.B[i]:=by simp only[s];rw[List.getElem_append_left m]
   rw[o,C _ (Xm m)]at l;rw[v i Ω];exact d.mrg i m e l
  .have ie:i=f.B.length:=Ω
   subst ie;have o:(Fm.put (dr f x k) k).B[f.B.length]=(k:Int):=by simp only[s];simp
   rw[o,Xf,t,Xs,yf hk]at l;have w:e∈x.M:=l;rw[v _ (Xj _)];obtain⟨j,c,E⟩:=cN w;have B:=d.val k hk (by rw[g];exact y);rw[g]at B;have:=B j Ω c;rw[E]at this;exact Wzd h A p.Ew.2 (g▸h.sn k hk) (λz K=>(p.M z K).1) w this
theorem WxL(c:FV M a f)(h:FT M f)(C:FOk a n f)(T:k<f.κ.length)(P:KC b)(p:a.getD k []=b):FV M a (aC m f k b):=by
 unfold aC;split
 .exact c
 .rw[sw T];obtain⟨x,l⟩:∃x,f.κ[k]=x:=⟨_,rfl⟩;have t:=c.sim k T;have L:=C.kid k T;have z:=c.T k T;have B:=c.val k T;have y:=c.pz k T;rw[l]at t z B y|-;rw[l,p]at L;rw[p]at t;have d:∀(o:Int),(o=f.Ep\/f.Ep=0\/x.g=2)->∀(j:Nat) (g:j<f.κ.length),j≠k->f.κ[j].g=2->o=(j:Int)+1:=λo Q j g A w=>by
   have S:=c.T j g w;omega
  unfold bn;by_cases s:x.g=0
  .rw[Wb s];have i:f.κ[k].g≠3:=by rw[l];omega
   have O:(eI m f x b).1.start=f.start/\(eI m f x b).1.B=f.B/\(eI m f x b).1.buf=f.buf/\(eI m f x b).1.κ=f.κ/\(eI m f x b).1.t=f.t/\(eI m f x b).1.Ep=f.Ep/\(eI m f x b).2.g≠2/\(eI m f x b).2.pos=0:=by
    have R:=y Ω;unfold eI;split
    .simp_all
    .simp only;split
     .unfold c3;cases bf x.A (opN b x.k).2.2.1 with
      |some v=>simp_all
      |none=>
       cases ent f.buf (opN b x.k).2.2.1 with
       |some r=>
        simp only;split
        .exact⟨rfl,rfl,rfl,rfl,rfl,rfl,by show(0:Int)≠2;omega,rfl⟩
        simp_all
       |none=>
        grind
     .split
      .unfold pu
       grind
      .repeat' split
       all_goals simp_all
   obtain⟨D,E,F,G,H,I,J,K⟩:=O;exact c.put h T i D E F (by show Xi (eI m f x b).1.κ _ _=_;rw[G]) H (by grind [Wyo]) (λj g A w=>d _ (.inl I) j g A w) (λq=>Wh q J) λ_=>K
  .rw[Wa s];split
   .rename_i h1;have N:x.g≠2:=Ω
    have i:f.κ[k].g≠3:=by rw[l];omega
    split
    .rename_i hz;exact c.put h T i rfl rfl rfl rfl rfl (by rw[p];exact t.fin s Ψ rfl rfl rfl rfl) (d _ (.inr (.inl hz))) (λ_=>⟨rfl,λj g u=>by
      grind⟩) λq=>Wh rfl q
    .exact c.put h T i rfl rfl rfl rfl rfl Ψ (d _ (.inl rfl)) (λq=>Wh q N) y
   .split
    .rename_i h1 h2;have i:f.κ[k].g≠3:=by rw[l];omega
     split
     .grind [Wuy]
     .rename_i dg;simp only;split
      .rename_i tZ;refine c.put h T i rfl rfl rfl rfl rfl (by rw[p];exact t.fin s s rfl rfl rfl rfl) (d _ (.inl rfl)) (λ_=>⟨z h2,λj g u=>?_⟩) (λq=>Wh h2 q);have g:(j:Int)<x.pos+1:=g;have u:j<x.M.length:=u;by_cases e:(j:Int)=x.pos
       .grind [ac,Xf,Xq]
       .exact B h2 j Ω u
      .exact c.put h T i rfl rfl rfl rfl rfl (by rw[p];exact Sim.new C.t rfl rfl rfl rfl rfl) (d _ (.inr (.inr h2))) (λq=>(by change (0:Int)=2 at q;omega)) λ_=>rfl
    .have e:Fm.put (f,x) k=f:=by
      unfold Fm.put;simp only;rw[<-l,jt T]
     rw[e];exact c
end
end
section
def zWd:Wd:=(0,0,0)
def Wy(m:Mm)(i:Int):Wd:=ac m.2 i zWd
def lG(m:Mm)(i:Int)(w:Wd):Mm:=(m.1,gh m.2 i w)
variable{m:Mm}
theorem RD(a:W4 m=true){i}{w}(f:ki m.1 w=true):W4 (lG m i w)=true:=by
 obtain⟨e,c,d,b⟩:=WK a;unfold W4 lG gh
 grind
theorem zI(b:W4 m=true){i}(a:0<=i/\i<=7):ki m.1 (Wy m i)=true:=Wzs b a
theorem K9(a:W4 m=true):W4 (tick m).1=true/\0<=(tick m).2/\(tick m).2<=1000000/\((tick m).2≠0->(tick m).2=m.1+1/\(tick m).1=(m.1+1,m.2))/\((tick m).2=0->(tick m).1=m):=by
 obtain⟨e,c,d,b⟩:=WK a;unfold tick;split
 .refine⟨?_,Ω,Ω,λ_=>⟨rfl,rfl⟩,λh=>Ω⟩;unfold W4;simp only[Xl,Wg,cS]
  grind [rX]
 simp_all
end
section
section
variable{M:Int->Int->Prop}{Z:Pb->Prop}{N:Nat}{a:List (List Opn)}{n:Int}{f g:Fm}{k:Nat}{b:List Opn}{m:Mm}{x y:Kd}{c:Int}
def PK(Z:Pb->Prop)(b:List Opn)(f:Fm)(x:Kd):Prop:=x.L=true->x.g=0/\x.k<b.length/\(opN b x.k).1=5/\Z x.E/\x.E.1=(opN b x.k).2.2.1/\bf x.A (opN b x.k).2.2.1=none/\∀e∈f.buf,e.1=(opN b x.k).2.2.1->x.Ew<e.2.2
def ZS(M:Int->Int->Prop)(Z a:Pb->Prop)(m:Mm)(c:Int):Prop:=∀(d:Int) (p:Pb),0<=d->d<=7->(p=(d,0,0,0)\/(Z p/\p.1=d))->
 (WU m c p).2.1=4\/((WU m c p).2.1=3/\M d (WU m c p).2.2.2)\/((WU m c p).2.1≠3/\a (WU m c p)/\(WU m c p).1=d)
theorem PK.no(h:x.L=false):PK Z b f x:=λe=>by rw[h]at e;cases e
theorem WCq(g:ZS M Z Z m c)(h:PK Z b f x)(l:0<=(opN b x.k).2.2.1/\(opN b x.k).2.2.1<=7):RdM M m c x (opN b x.k).2.2.1:=by
 unfold RdM;have i:∀p,(p=((opN b x.k).2.2.1,0,0,0)\/(Z p/\p.1=(opN b x.k).2.2.1))->(WU m c p).2.1=3->M (opN b x.k).2.2.1 (WU m c p).2.2.2:=λp e d=>by
  rcases g _ p l.1 l.2 e with a|⟨_,a⟩|⟨a,_⟩
  .omega
  .exact a
  .exact Wh d a
 by_cases j:x.L=true
 .rw[Wb j];have:=h j
  grind
 simp_all
theorem V2{o}:(c3 m f x o).1.u=f.u/\(c3 m f x o).1.t=f.t/\(c3 m f x o).1.start=f.start/\(c3 m f x o).1.κ=f.κ/\(c3 m f x o).1.buf=f.buf:=by
 unfold c3
 grind
theorem Pn:(bn m f x k b).1.u=f.u/\(bn m f x k b).1.t=f.t/\(bn m f x k b).1.start=f.start/\(bn m f x k b).1.κ=f.κ/\
  ((bn m f x k b).1.buf=f.buf\/(bn m f x k b).1.buf=lX (f.K+1) f.buf (al x.A)):=by
 unfold bn;split
 .unfold eI;split
  .simp_all
  .simp only;split
   .grind [V2,opN]
   grind
 .split
  .split<;>exact⟨rfl,rfl,rfl,rfl,.inl rfl⟩
  .split
   .split
    .exact⟨rfl,rfl,rfl,rfl,.inr rfl⟩
    grind
   simp_all
theorem PK.buf(h:PK Z b f x)(i:g.buf=f.buf\/∃j,j.Pairwise (λa u:Rw=>a.1<u.1)/\g.buf=lX (f.K+1) f.buf j)(o:Ris cfE f.buf)(t:x.Ew<=f.K):PK Z b g x:=λs=>by
 obtain⟨a,u,c,d,e,l,m⟩:=h s;refine⟨a,u,c,d,e,l,λz k p=>?_⟩;rcases i with i|⟨j,q,i⟩
 .grind
 .rw[i]at k;rcases(G6 o q).1 k with⟨r,_,rfl⟩|⟨n,_⟩
  .simp only;omega
  .exact m z n p
theorem Wzk(B:ZS M Z Z m f.u)(u:KC b)(w:KOk b f.K n x)(h:PK Z b f x):(bn m f x k b).1.Ey=true\/PK Z b f (bn m f x k b).2:=by
 unfold bn;by_cases c:x.g=0
 .rw[Wb c];unfold eI;by_cases s:x.k>=b.length
  .rw[Wb s];refine .inr (PK.no ?_);by_cases a:x.L=true
   .have:=h a;omega
   .simpa using a
  .rw[Wa s];simp only;by_cases G:(opN b x.k).1=5
   .rw[Wb G];have j:0<=(opN b x.k).2.2.1/\(opN b x.k).2.2.1<=7:=by
     obtain⟨i,A,o,d⟩:=jV (l:=b) w.k.1 Ω;have:=(nh (u.ok i A).1 (by rw[<-d];exact G)).2
     grind [cp]
    unfold c3;cases D:bf x.A (opN b x.k).2.2.1 with
    |some v=>
     refine .inr (PK.no ?_);by_cases a:x.L=true
     .have:=(h a).2.2.2.2.2.1;simp_all
     .simpa using a
    |none=>
     cases he:ent f.buf (opN b x.k).2.2.1 with
     |some r=>
      simp only;split
      .exact .inr (PK.no rfl)
      .refine .inr (PK.no ?_);by_cases a:x.L=true
       .obtain⟨o,d⟩:=GU he;have:=(h a).2.2.2.2.2.2 _ o d;omega
       .simpa using a
     |none=>
      have C:=B (opN b x.k).2.2.1 (if x.L=true then x.E else((opN b x.k).2.2.1,0,0,0)) j.1 j.2 (by
       by_cases a:x.L=true
       .rw[Wb a];have:=h a;simp_all
       simp_all)
      generalize WU m f.u _=t at*;by_cases p:t.2.1=4
      .simp_all
      .rw[Wa p];right;by_cases g:t.2.1=3
       .rw[Wb g];exact PK.no rfl
       .rw[Wa g];rcases C with q|⟨q,_⟩|⟨_,E,F⟩
        .exact Wh q p
        .exact Wh q g
        .exactλ_=>⟨c,by show x.k<_;omega,G,E,F,D,λe y z=>Wh z (Qg he e y)⟩
   .rw[Wa G];have a:x.L=false:=by
     by_cases a:x.L=true
     .exact Wh (h a).2.2.1 G
     .simpa using a
    grind [PK.no,pu]
 .rw[Wa c];have a:x.L=false:=by
   by_cases a:x.L=true
   .exact Wh (h a).1 c
   .simpa using a
  split
  .split<;>exact .inr (PK.no a)
  .split
   .split
    .exact .inr (PK.no a)
    .simp only;split
     .exact .inr (PK.no a)
     .exact .inr (PK.no rfl)
   simp_all
structure FP(M:Int->Int->Prop)(Z:Pb->Prop)(a:List (List Opn))(f:Fm):Prop where
 ft:FT M f
 pk:f.Ey=false->∀(k:Nat) (h:k<f.κ.length),PK Z (a.getD k []) f f.κ[k]
theorem Wyi(h:FP M Z a f)(c:FOk a n f)(l:k<f.κ.length)(G:W4 m=true)(p:KC b)(g:a.getD k []=b)(H:ZS M Z Z m f.u):FP M Z a (aC m f k b)/\(aC m f k b).u=f.u/\(aC m f k b).t=f.t/\(aC m f k b).start=f.start:=by
 by_cases r:f.Ey=true
 .have e:aC m f k b=f:=by unfold aC;rw[Wb r]
  simp_all
 .have uH:f.Ey=false:=by simpa using r
  have e:aC m f k b=Fm.put (bn m f f.κ[k] k b) k:=by unfold aC;rw[Wa r,sw l]
  obtain⟨I,J,K,L,o⟩:=Pn (m:=m) (f:=f) (x:=f.κ[k]) (k:=k) (b:=b);have t:=c.kid k l;rw[g]at t;have v:=h.pk uH k l;rw[g]at v;refine⟨⟨Wyl h.ft c l p g λO B D=>?_,λy j P=>?_⟩,by rw[e];exact I,by rw[e];exact J,by rw[e];exact K⟩
  .have au:0<=(opN b f.κ[k].k).2.2.1/\(opN b f.κ[k].k).2.2.1<=7:=by
    obtain⟨i,F,N,s⟩:=jV t.k.1 B;have:=(nh (p.ok i F).1 (by rw[<-s];exact D)).2
    grind [cp]
   grind [WCq]
  .have bw:(bn m f f.κ[k] k b).1.Ey=false:=by rw[e]at y;exact y
   have Q:(aC m f k b).κ=f.κ.set k (bn m f f.κ[k] k b).2:=by rw[e];show Xi (bn m f f.κ[k] k b).1.κ _ _=_;rw[L]
   have z:(aC m f k b).buf=f.buf\/∃d,d.Pairwise (λR S:Rw=>R.1<S.1)/\(aC m f k b).buf=lX (f.K+1) f.buf d:=by
    rw[e];rcases o with o|o
    .exact .inl o
    .exact .inr ⟨_,Ax _,o⟩
   have w:j<f.κ.length:=Ψ
   have C:(aC m f k b).κ[j]=if k=j then(bn m f f.κ[k] k b).2 else f.κ[j]:=Θ
   rw[C];split
   .rename_i ej;subst ej;rw[g];rcases Wzk (k:=k) H p t v with q|q
    .simp_all
    .by_cases u:(bn m f f.κ[k] k b).2.L=true
     .have T:f.κ[k].g=0:=by
       by_cases T:f.κ[k].g=0
       .exact T
       .have sE:f.κ[k].L=false:=by
         by_cases u:f.κ[k].L=true
         .exact Wh (v u).1 T
         .simpa using u
        have:(bn m f f.κ[k] k b).2.L=false:=by
         unfold bn;rw[Wa T];split
         .split<;>exact sE
         .split
          .split
           .exact sE
           .simp only;split
            .exact sE
            .rfl
          .exact sE
        simp_all
      have A:(aC m f k b).buf=f.buf:=by
       rw[e];show(bn m f f.κ[k] k b).1.buf=f.buf;unfold bn;rw[Wb T]
       grind [eI,V2]
      exact q.buf (.inl A) c.bufR (by
       have:=(KG (m:=m) l G p c g).kid k Ω;have s:(aC m f k b).κ[k]'Ω=(bn m f f.κ[k] k b).2:=Ψ
       rw[s]at this;have E:(aC m f k b).K=f.K:=by
        rw[e];show(bn m f f.κ[k] k b).1.K=f.K;unfold bn;rw[Wb T]
        grind [eI,c3,bf,opN,ent,WU]
       rw[E]at this;exact this.Ew.2)
     grind [PK.no]
   .exact(h.pk uH j w).buf z c.bufR (c.kid j w).Ew.2
theorem Wwo{d}{θ}{l}:FP M Z a (cq c d θ l):=by
 have b:∀(j:Nat) (e:j<(cq c d θ l).κ.length),(cq c d θ l).κ[j]={t:=d}:=λj e=>mw ..;refine⟨XT,λ_ j e=>?_⟩;rw[b];exact PK.no rfl
structure FA(M:Int->Int->Prop)(Z:Pb->Prop)(a:List (List Opn))(f:Fm):Prop where
 ft:FT M f
 fv:FV M a f
 pk:f.Ey=false->∀(k:Nat) (h:k<f.κ.length),PK Z (a.getD k []) f f.κ[k]
theorem Wut{d}{θ}(e:Vals 4 d):FA M Z a (cq c d θ a.length):=by
 have b:∀(j:Nat) (h:j<(cq c d θ a.length).κ.length),(cq c d θ a.length).κ[j]={t:=d}:=λj h=>mw ..;refine⟨XT,⟨λj h=>?_,λj h l=>?_,λj h l=>?_,λj h _=>?_,λi o=>Wh o (Nat.not_lt_zero _)⟩,λ_ j h=>?_⟩
 .rw[b];exact Sim.new e rfl rfl rfl rfl rfl
 .simp_all
 .simp_all
 .rw[b]
 .rw[b];exact PK.no rfl
end
end
section
def QT{e a V R:Type}{g}{K:Int->V->Option R}{f}(P:V->Prop):∀(l:List e) (j) (v),P v->(∀x∈l,∀v,P v->P (f v x))->(∀(j:Nat) x v k,x∈l->P v->g j x v k=k (f v x))->eP g K l j v=K ((j+l.length:Nat):Int) (l.foldl f v)
 | [],j,v,_,_,_=>rfl
 |x::l,j,v,c,b,h=>by
  rw[eP,h j x v _ (Xg ..) c,QT (a:=a) P l (j+1) _ (b x (Xg ..) v c) (λy d=>b y (Xe _ d)) λj y v k d=>h j y v k (Xe _ d),List.foldl_cons,Xv];rw[show j+1+l.length=j+(l.length+1) by omega]
section
variable{M:Int->Int->Prop}{Z:Pb->Prop}{N:Nat}{a:List (List Opn)}{n:Int}{f g:Fm}{k:Nat}{b:List Opn}{m:Mm}{x y:Kd}{d:Int}{c:List Int}
theorem WBG{c}{r:Rw}(a:Vals 8 c)(b:0<=r.1/\r.1<=7):inb r.1 c.length=true:=by unfold inb;rw[a.len];simp;omega
theorem Pa{c}{l}(a:Vals 8 c)(d:bT l)(p:l.length<=300)(h:1048576<N):vU N c l=ret (ovl c l):=by
 unfold vU;have q:=a.len;rw[Gm Ω h,CV Ω h,uy.2 a,zx d p];rw[Ww Φ];have o:=WF (l:=l) (V:=List Int) (R:=Unit×(List Int×Unit)) (c:=λn j v=>Bn N l (λs t m=>some ((),(m,()))) n j v) (n:=N) Ω
  (b:=λj x v k=>bif inb x.1 v.length then k (v.set x.1.toNat x.2)else none) (K:=λ_ v=>some ((),(v,())))
  (λn i v b=>by simp only[Bn,WM b,Wp b,Wu b,Wl (j:=i),We])
  (λn v=>by simp[Bn,W0 (Xj l.length),Wc]) c
 refine o.trans ?_;rw[QT (a:=Unit) (f:=λv r=>v.set r.1.toNat r.2) (λv=>Vals 8 v) l 0 c a (λx g v e=>e.set _ (d x g).2) (λj x v k g e=>by rw[WBG e (d x g).1];rfl)];rfl
structure FZ(f:Fm):Prop where
 st:bT f.start/\f.start.length<=300
 l3:f.κ.length<=3
 wr:∀x∈f.κ,bT x.A/\x.A.length<=300
 sn:∀x∈f.κ,x.M.length<=300/\0<=x.Ew/\x.Ew<=300/\∀e∈x.M,0<=e.1/\e.1<=7
 ord:f.B.length<=300/\∀k∈f.B,0<=k/\k<f.κ.length
theorem FZ.of{rows0}(h:FT M f)(j:FOk a n f)(p:a.length<=3)(m:∀c∈a,c.length<=24)(s:f.start=al rows0):FZ f:=by
 have t:=j.len;have l:∀x∈f.κ,∃c:List Opn,c.length<=24/\KOk c f.K n x:=λx g=>by
  obtain⟨i,r,rfl⟩:=q8.1 g;refine⟨_,?_,j.kid i r⟩;rw[Xs,Xq Ω];exact m _ (Xm _)
 have m:=j.K;have u:=j.len3 p;refine⟨by rw[s];exact⟨zA,by have:=Dc rows0;omega⟩,Ω,λx g=>?_,λx g=>?_,Ω,λk l=>?_⟩
 .obtain⟨c,o,d⟩:=l x g;have:=d.wl;have:=d.k;exact⟨d.Eo,Ω⟩
 .obtain⟨c,o,d⟩:=l x g;have:=d.sl;have:=d.k;have:=d.Ew;exact⟨Ω,Ω,Ω,λe q=>(d.M e q).1⟩
 .obtain⟨v,b,_⟩:=h.ord k l;omega
theorem FZ.Eo(h:FZ f)(n):bT (WR f n):=by
 intro r c;rcases Xo.1 c with c|c
 .exact h.st.1 r c
 .obtain⟨l,e,c⟩:=List.mem_flatten.1 c;obtain⟨k,d,rfl⟩:=Xy.1 e;obtain⟨a,b⟩:=h.ord.2 k (lv d);unfold kS at c;rw[sw (k:=k.toNat) Ω]at c;exact(h.wr _ (Xm _)).1 r c
theorem Vi{i}(h):WR f (i+1)=WR f i++kS f f.B[i]:=by
 unfold WR;rw[List.take_succ_eq_append_getElem h,Xw,List.flatten_append,o0];simp
theorem Wtv{i}(h:f.B.length<=i):WR f i=WR f f.B.length:=by
 unfold WR;rw[nm h,List.take_length]
theorem FZ.kid(h:FZ f){i}(c:i<f.B.length):∃d:(f.B[i]).toNat<f.κ.length,kS f f.B[i]=f.κ[(f.B[i]).toNat].A/\0<=f.B[i]:=by
 obtain⟨a,b⟩:=h.ord.2 _ (Xm c);have d:(f.B[i]).toNat<f.κ.length:=Ω
 refine⟨d,?_,a⟩;unfold kS;rw[sw d]
theorem LW(hk):Xc (f.κ.map Kd.e) k d_KidRun=Kd.e f.κ[k]:=by
 rw[Wk (show k<(f.κ.map Kd.e).length by simpa using hk),List.getElem_map]
theorem Yb(b:FZ f)(k:Vals 8 c)(t)(i:1048576<N):∀(d j a),j+d=min t f.B.length->d<a->
  tf N (t:Int) f.e (λz y p=>some ((),(p,()))) a (j:Int) (ovl c (WR f j))=ret (ovl c (WR f t))
 |0,j,a,u,hf=>by
  obtain⟨g,rfl⟩:∃g,a=g+1:=⟨a-1,Ω⟩;have e:P7 f.e=f.B:=rfl;have s:WR f j=WR f t:=by
   by_cases h:t<=f.B.length
   .rw[show j=t by omega]
   .rw[show j=f.B.length by omega,Wtv (Ω:f.B.length<=t)]
  rw[tf,e,s];by_cases h:j<f.B.length
  .rw[WM h,Wj (show¬(j:Int)<(t:Int) by omega)];rfl
  .rw[W0 (Ω:f.B.length<=j)];rfl
 |d+1,j,a,u,hf=>by
  obtain⟨g,rfl⟩:∃g,a=g+1:=⟨a-1,Ω⟩;have h:j<f.B.length:=Ω
  have e:P7 f.e=f.B:=rfl;have r:Q9 f.e=f.κ.map Kd.e:=rfl;obtain⟨l,v,q⟩:=b.kid h;obtain⟨n,o⟩:=b.wr _ (Xm l);have m:=Yb b k t i d (j+1) g Ω Ω;rw[Vi h,Wuk,v]at m;rw[tf,e,r];simp only[Wm,WM h,Wp h,Wu h,Wf (show(j:Int)<(t:Int) by omega),We,Wl (show j<4611686018427387904 by have:=b.ord.1;omega)];have w:=LW l;have x:(Kd.e f.κ[(f.B[j]).toNat]).2.2.2.2.2.2.2.2.1=f.κ[(f.B[j]).toNat].A:=rfl;rw[Wf (q),Wf (by unfold Wi;rw[aP];omega),show inb f.B[j] (f.κ.map Kd.e).length=true by unfold inb;simp;omega];simp only[We,w,x];rw[CV Ω i,zx n o];rw[Pa (lY k (b.Eo j)) n o i];exact m
theorem WtB(a:FZ f)(e:Vals 8 c){t:Nat}(g:t<=300)(b:1048576<N):FR N c f.e (t:Int)=ret (ovl c (WR f t)):=by
 unfold FR;have d:f.e.2.2.2.2.2.1=f.start:=rfl;have h:=e.len;rw[d,Gm Ω b,CV (by have:=a.st.2;omega) b,uy.2 e,zx a.st.1 a.st.2];rw[Pa e a.st.1 a.st.2 b];have:=Yb a e t b (min t f.B.length) 0 N Ω Ω;rw[show WR f 0=f.start by unfold WR;simp]at this;exact this
def Hw(c:List Int)(f:Fm):Prop:=∀x∈f.κ,∀e∈x.M,(ovl c (WR f x.Ew.toNat)).getD e.1.toNat 0=e.2.1
theorem Wuq(h:FT M f)(l:FZ f)(n:Vals 8 c)(m:∀p v,0<=p->p<=7->M p v->c.getD p.toNat 0=v):Hw c f:=λx k e j=>by
 obtain⟨i,o,rfl⟩:=q8.1 k;obtain⟨a,g⟩:=(l.sn _ k).2.2.2 e j;rw[qj n (l.Eo _) a g];rcases h.sn i o e j with⟨_,b,p⟩|⟨_,_,_,d⟩
 .rw[b];exact m _ _ a g p
 .rw[d]
theorem WtZ{c}(a:0<=c)(b:c<=7):tv N c=ret true:=by
 unfold tv;rw[oN,Wf a,Wf b];rfl
theorem X1{R}{a}{b:Ka8 R}{i}(D:i<f.κ.length){A}(n:Vals 8 A)(u:f.κ[i].M.length<=300)(m:∀e∈f.κ[i].M,0<=e.1/\e.1<=7)(o:∀e∈f.κ[i].M,A.getD e.1.toNat 0=e.2.1):
  ∀(d j z),j+d=f.κ[i].M.length->d<z->Br N c (i:Int) f.e A a b z (j:Int)=b (f.κ[i].M.length:Int) false
 |0,j,z,t,hf=>by
  obtain⟨g,rfl⟩:∃g,z=g+1:=⟨z-1,Ω⟩;have q:j=f.κ[i].M.length:=Ω
  have C:Q9 f.e=f.κ.map Kd.e:=rfl;have l:inb (i:Int) (f.κ.map Kd.e).length=true:=Wp (by rw[aP];exact D);have k:P7 (Kd.e f.κ[i])=f.κ[i].M:=rfl;have h:Xc (f.κ.map Kd.e) (Xb (i:Int)) d_KidRun=Kd.e f.κ[i]:=by exact LW D
  simp only[Br,Wm,C,l,We,h,k,W0 (Ω:f.κ[i].M.length<=j),Wc];rw[q]
 |d+1,j,z,t,hf=>by
  obtain⟨g,rfl⟩:∃g,z=g+1:=⟨z-1,Ω⟩;have B:j<f.κ[i].M.length:=Ω
  have C:Q9 f.e=f.κ.map Kd.e:=rfl;have l:inb (i:Int) (f.κ.map Kd.e).length=true:=Wp (by rw[aP];exact D);have k:P7 (Kd.e f.κ[i])=f.κ[i].M:=rfl;have h:Xc (f.κ.map Kd.e) (Xb (i:Int)) d_KidRun=Kd.e f.κ[i]:=by exact LW D
  have p:Xc f.κ[i].M (Xb (j:Int)) ((0:Int),((0:Int),(0:Int)))=f.κ[i].M[j]:=Wu B _;obtain⟨r,s⟩:=m _ (Xm B);have v:=o _ (Xm B);have w:=X1 (a:=a) (b:=b) D n u m o d (j+1) g Ω Ω;simp only[Br,Wm,C,l,We,h,k,WM B,Wp B,p,WtZ r s,ret,Xd,Xu,Wc,Wl (j:=j)];rw[show inb f.κ[i].M[j].1 A.length=true by unfold inb;rw[n.len];simp;omega,v];simp only[We,bne_self_eq_false,Wc];exact w
theorem Yc(b:FZ f)(i:Vals 8 c)(m:Hw c f)(l:1048576<N):∀(d j a),j+d=f.κ.length->d<a->
  Bu N c f.e (some ((),(false,()))) (λx u=>some ((),(true,()))) a (j:Int)=ret true
 |0,j,a,o,hf=>by
  obtain⟨g,rfl⟩:∃g,a=g+1:=⟨a-1,Ω⟩;have h:f.e.2.2.2.2.2.2.2.2.2=f.κ.map Kd.e:=rfl;simp[Bu,h,W0 (show(f.κ.map Kd.e).length<=j by rw[aP];omega),Wc]
 |d+1,j,a,o,hf=>by
  obtain⟨g,rfl⟩:∃g,a=g+1:=⟨a-1,Ω⟩;have e:j<f.κ.length:=Ω
  have k:j<(f.κ.map Kd.e).length:=by rw[aP];omega
  have h:f.e.2.2.2.2.2.2.2.2.2=f.κ.map Kd.e:=rfl;have q:Xc (f.κ.map Kd.e) (Xb (j:Int)) d_KidRun=Kd.e f.κ[j]:=by exact LW e
  have p:=Yc b i m l d (j+1) g Ω Ω;obtain⟨r,v,w,s⟩:=b.sn _ (Xm e);have n:(Kd.e f.κ[j]).2.2.1=((f.κ[j].Ew.toNat:Nat):Int):=by show f.κ[j].Ew=_;omega
  have t:=b.l3;simp only[Bu,h,WM k,Wp k,We,q,n,WtB b i (Ω:f.κ[j].Ew.toNat<=300) l,ret,Xd,Wl (j:=j)];rw[show(0:Int)=((0:Nat):Int)from rfl,X1 e (lY i (b.Eo _)) r s (m _ (Xm e)) f.κ[j].M.length 0 N Ω Ω];exact p
theorem WoY(a:FZ f)(e:Vals 8 c)(g:Hw c f)(b:1048576<N):Fw N c f.e=ret true:=by
 unfold Fw;have d:f.e.2.2.2.2.2.1=f.start:=rfl;have i:=e.len;have h:=a.l3;rw[d,Gm Ω b,CV (by have:=a.st.2;omega) b,uy.2 e,zx a.st.1 a.st.2];exact Yc a e g b f.κ.length 0 N Ω Ω
end
end
section
def cE(s:Int):Int:=(s-1)/65536
def ec(k:Int):Int:=(7*k+3)%4
structure SlOk(l:List Int):Prop where
 len:l.length=16
 I:∀i (h:i<l.length),l[i]=0\/((1<=l[i]/\l[i]<=524288)/\ec (cE l[i])=((i/4:Nat):Int))
 one:∀i j (a:i<l.length) (hj:j<l.length),i<j->l[i]≠0->l[j]≠0->cE l[i]≠cE l[j]
def vd(k s:Int):Bool:=decide (s>0)&&decide (cE s=k)
def ik(l:List Int)(k:Int):Option (Nat×Int):=fnd (vd k) l 0
def uV(l:List Int)(k:Int):Nat:=if ac l (4*ec k) 0=0 then(4*ec k).toNat else(4*ec k).toNat+1
def kN(l:List Int)(k v:Int):List Int:=match ik l k with
 |some r=>l.set r.1 (1+65536*k+v)
 |none=>l.set (uV l k) (1+65536*k+v)
def WE(l:List Int)(k:Int):Int:=match ik l k with
 |some r=>(r.2-1)%65536+1
 |none=>0
def sc(l:List Int)(k:Int):List Int:=match ik l k with
 |some r=>l.set r.1 0
 |none=>l
variable{N:Nat}{l:List Int}{k v:Int}
theorem HI{n}(h:I64 n):IntKind.wrap .i64 n=n:=Dq h
theorem Yw{s}(h:1<=s/\s<=524288):Cs N s=ret (cE s):=by
 unfold Cs;rw[eh Λ];have:kc .i64 (s-1) 65536=cE s:=by
  unfold kc cE;rw[HO Ω,HI Λ]
 rw[this];rfl
theorem WsJ{s}(h:1<=s/\s<=524288):0<=cE s/\cE s<=7:=by unfold cE;omega
theorem GL:mX N k=ret (decide (0<=k)&&decide (k<=7)):=by simp[mX,ij]
theorem VO(b:0<=k/\k<=7)(c:0<=v/\v<=65535):FH N k v=ret (1+65536*k+v):=by
 unfold FH;rw[Aj Λ,WB (a:=1) Λ,WB Λ]
theorem V9(a:0<=k/\k<=7):Ix N k=ret (ec k):=by
 unfold Ix;rw[GL,Aj Λ,WB Λ];have:cj (7*k+3) 4=ec k:=by grind [cj,ec,Int.tmod_eq_emod_of_nonneg]
 simp only[ret,Xd,Wf a.1,Wf a.2,lJ,Xu,Wc,this];rfl
theorem SlOk.val(h:SlOk l){i}(a:i<l.length)(b:l[i]≠0):1<=l[i]/\l[i]<=524288:=by
 rcases h.I i a with c|c
 .omega
 omega
theorem OV(h:SlOk l)(g:1048576<N):wh N l k=ret (match ik l k with|some r=>(r.1:Int)|none=>-1):=by
 unfold wh ik;have i:=h.len;have c:=Hc (l:=l) (p:=vd k) (N:=N) (c:=λn j=>yS N k l (λb=>(some ((),(b,())))) (λe d=>(some ((),((-1:Int),())))) n j) (a:=λj=>some ((),(j,()))) (b:=some ((),((-1:Int),()))) Ω Ω
  (λn j a=>by
   simp only[yS,WM a,Wp a,Wu a,Wl (j:=j),We];unfold vd;by_cases f:l[j]>0
   .rw[Yw (h.val a Ω)]
    grind
   grind)
  (λn=>by simp[yS,W0,Xj,Wc])
 rw[c];cases fnd (vd k) l 0<;>rfl
theorem Gf(h:SlOk l)(E:1048576<N):tl N l=ret true:=by
 have F:=h.len;have A:∀(d j n:Nat) (s:List Bool),j+d=16->d<n->s.length=8->(∀c:Nat,s.getD c false=true->∃i,∃o:i<l.length,i<j/\l[i]≠0/\cE l[i]=c)->
   yz N l (some ((),(false,()))) (λG I H=>(some ((),(true,())))) n (j:Int) s=ret true:=by
  intro d
  induction d with
  |zero=>
   intro j n s w y _ _;obtain⟨n,rfl⟩:∃m,n=m+1:=⟨n-1,Ω⟩;have:j=l.length:=Ω
   subst this;simp[yz,W0,Xj,Wc]
  |succ d ih=>
   intro j n s w y p t;obtain⟨n,rfl⟩:∃m,n=m+1:=⟨n-1,Ω⟩;have a:j<l.length:=Ω
   simp only[yz,WM a,Wp a,Wu a,Wl (j:=j),We,WJ];by_cases b:l[j]=0
   .rw[Wb b];exact ih (j+1) n s Ω Ω p λc e=>by
     grind
   .rw[Wa b];have f:=h.val a b;have x:=WsJ f;have B:ec (cE l[j])=((j/4:Nat):Int):=by
     rcases h.I j a with g|g
     .omega
     omega
    have z:kc .i64 (j:Int) 4=((j/4:Nat):Int):=by
     unfold kc;rw[HO Ω,HI Λ];omega
    have q:s.getD (Xb (cE l[j])) false=false:=by
     rw[nn];intro e;obtain⟨i,o,g,r,C⟩:=t _ e;exact h.one i j o a g r b Ω
    rw[VO (k:=7) (v:=65535) Ω Ω,Yw f];simp only[ret,Xd,ij,show(1:Int)+65536*7+65535=524288 from rfl,Wf f.1,Wf f.2,lJ,Xu,Wc,V9 x,B,z,bne_self_eq_false];rw[show inz (4:Int)=true from rfl];simp only[We];rw[show inb (cE l[j]) 8=true by grind [inb],p,Wf rfl,q];simp only[lJ,We,Wc];refine ih (j+1) n _ Ω Ω Ψ λc e=>?_;by_cases u:c=(cE l[j]).toNat
    .grind
    .have:s.getD c false=true:=by
      grind
     grind
 unfold tl;rw[show((Wi l) !=(16:Int))=false by grind [Wi]];refine A 16 0 N _ Ω Ω Δ λc e=>?_;by_cases D:c<8
 .grind
 simp_all
theorem rJ(h:SlOk l){r}(e:ik l k=some r):∃g:r.1<l.length,l[r.1]=r.2/\1<=r.2/\r.2<=524288/\cE r.2=k/\ec k=((r.1/4:Nat):Int):=by
 obtain⟨c,f,a,b⟩:=m4 e;rw[d4]at a;rw[vu,Xq a]at b;injection b with b;unfold vd at c;simp only[Xl,Wg]at c;rcases h.I r.1 a with d|d
 .omega
 simp_all
theorem JW(h:SlOk l)(b:ik l k=none)(i)(a:i<l.length)(d:l[i]≠0):cE l[i]≠k:=by
 have:=Dp b l[i] (Xm a);unfold vd at this;have c:=h.val a d
 grind
theorem WBJ(k):0<=ec k/\ec k<=3:=by unfold ec;omega
theorem PH(h:SlOk l)(q:0<=k/\k<=7)(g:ik l k=none):∃p:uV l k<l.length,l[uV l k]=0/\ec k=((uV l k/4:Nat):Int)/\(uV l k=(4*ec k).toNat\/(uV l k=(4*ec k).toNat+1/\ac l (4*ec k) 0≠0)):=by
 have r:=h.len;have o:=WBJ k;unfold uV;have b:(4*ec k).toNat<l.length:=Ω
 have i:ac l (4*ec k) 0=l[(4*ec k).toNat]:=Wk b _;by_cases a:ac l (4*ec k) 0=0
 .grind
 .simp only[Wa a];have c:(4*ec k).toNat+1<l.length:=Ω
  refine⟨c,?_,Ω,.inr ⟨trivial,a⟩⟩;refine Classical.byContradiction λd=>?_;rw[i]at a;have j:=JW h g _ b a;have m:=JW h g _ c d;have n:=h.one _ _ b c Ω a d;rcases h.I _ b with e|e
  .exact a e
  .rcases h.I _ c with f|f
   .exact d f
   grind [cE,ec]
theorem ZE(a:0<=k/\k<=7)(b:0<=v/\v<=65535):(1<=1+65536*k+v/\1+65536*k+v<=524288)/\cE (1+65536*k+v)=k:=by unfold cE;omega
theorem Qw(h:SlOk l){i}(p:i<l.length){s}(o:s=0\/((1<=s/\s<=524288)/\ec (cE s)=((i/4:Nat):Int)))(n:s≠0->∀j (c),j≠i->l[j]≠0->cE l[j]≠cE s):SlOk (l.set i s) where
 len:=by rw[Xx];exact h.len
 I:=λj c=>by
  rw[Xx]at c;rw[fE];by_cases k:i=j
  .simp_all
  .rw[Wa k];exact h.I j c
 one:=λa b d e m=>by
  rw[Xx]at d e;rw[fE,fE];by_cases f:i=a
  .grind
  .rw[Wa f];by_cases g:i=b
   .grind
   .rw[Wa g];exact h.one a b d e m
theorem Dk(h:SlOk l)(m:0<=k/\k<=7)(n:0<=v/\v<=65535):SlOk (kN l k v):=by
 obtain⟨o,p⟩:=ZE m n;unfold kN;cases a:ik l k with
 |some r=>
  obtain⟨b,g,q,s,i,t⟩:=rJ h a;refine Qw h b (.inr ⟨o,Ψ⟩) λ_ j c f d=>?_;rw[p,<-i,<-g];rcases Nat.lt_or_gt_of_ne f with u|u
  .exact h.one j r.1 c b u d Ω
  .exactλe=>h.one r.1 j b c u Ω d e.symm
 |none=>
  grind [PH,Qw,JW]
theorem PQ(h:SlOk l):SlOk (sc l k):=by
 unfold sc;cases a:ik l k with
 |some r=>
  obtain⟨c,b,_⟩:=rJ h a;exact Qw h c (.inl rfl) λh=>Wh rfl h
 |none=>exact h
theorem Dd(l)(k):0<=WE l k/\WE l k<=65536:=by
 unfold WE;cases ik l k<;>simp only<;>omega
theorem IZ(h:SlOk l)(c:0<=k/\k<=7)(j:1048576<N):B9 N l k=some ((),((if WE l k=0 then 0 else WE l k-1),(decide (WE l k≠0),()))):=by
 unfold B9 WE;rw[Gf h j,GL,OV h j];simp only[ret,Xd,Xu,Wc,Wf c.1,Wf c.2,lJ];cases a:ik l k with
 |none=>rfl
 |some r=>
  obtain⟨b,d,e,f,g,i⟩:=rJ h a;simp only[Wj (show¬((r.1:Int)<0) by omega),Wc,d8,Wf b,We,Wu b,d];rw[eh Λ,rH Ω,Wa Ω,Wf Ω];simp only[Int.add_sub_cancel];rfl
theorem ON(h:SlOk l)(x:0<=k/\k<=7)(i:0<=v/\v<=65535)(e:1048576<N):yY N l k v=some ((),(kN l k v,(WE l k,(true,())))):=by
 have u:=h.len;unfold yY;rw[wu Ω,Gf h e,GL,qe,OV h e,IZ h x e,VO x i,V9 x];simp only[ret,Xd,Xu,Wc,Wf x.1,Wf x.2,lJ,qf.2 i];unfold kN WE;cases a:ik l k with
 |some r=>
  obtain⟨d,f,m,b,g,t⟩:=rJ h a;simp only[Wf Ω,We,d8,Wf d,Xf];rw[Wa Ω,WB Λ];simp_all
 |none=>
  obtain⟨d,f,m,b⟩:=PH h x a;rw[Aj Λ];obtain⟨c,rfl⟩:∃c,N=c+1+1:=⟨N-2,Ω⟩;have q:4*ec k=(((4*ec k).toNat:Nat):Int):=Ω
  have p:∀n,AU (c+1+1) k v l (λj w=>(bif inb j (Xa l)then(some ((),(Xi l (Xb j) (1+65536*k+v),(0,(true,())))))else none)) (n+1) (uV l k:Int)=some ((),(l.set (uV l k) (1+65536*k+v),((0:Int),(true,())))):=λn=>by
   simp only[AU,Wp d,Wu d,f,We,bne_self_eq_false,Wc];rw[Xf]
  rcases b with b|⟨b,g⟩
  .grind
  .have ab:(4*ec k).toNat<l.length:=Ω
   have o:ac l (4*ec k) 0=l[(4*ec k).toNat]:=Wk ab _;rw[o]at g;have s:=p c;rw[q];rw[AU];simp only[Wp ab,Wu ab,We];rw[show(l[(4*ec k).toNat] !=0)=true by grind,Wl,<-b]
   grind
theorem Ul(h:SlOk l)(b:0<=k/\k<=7)(m:1048576<N):Iy N l k=some ((),(sc l k,(WE l k,(true,())))):=by
 have j:=h.len;unfold Iy;rw[wu Ω,Gf h m,GL,OV h m,IZ h b m];simp only[ret,Xd,Xu,Wc,Wf b.1,Wf b.2,lJ];unfold sc WE;cases a:ik l k with
 |some r=>
  obtain⟨c,d,e,f,g,i⟩:=rJ h a;simp only[Wj (show¬((r.1:Int)<0) by omega),We,Wc,d8,Wf c,Xf];rw[Wa Ω,WB Λ];simp_all
 |none=>rfl
end
section
abbrev Shf:=List Int×Int
abbrev Un:=Int×Int×Int
structure ShOk(s:Shf):Prop where
 Q:SlOk s.1
 W:0<=s.2/\s.2<=65535
def UnV(u:Un):Prop:=(u.1=1/\(0<=u.2.1/\u.2.1<=7)/\0<=u.2.2/\u.2.2<=65535)\/(u.1=2/\(0<=u.2.1/\u.2.1<=7)/\u.2.2=0)\/(u.1=3/\u.2.1=0/\0<=u.2.2/\u.2.2<=65535)
def gL(s:Shf)(u:Un):Shf:=
 if u.1=1 then(kN s.1 u.2.1 u.2.2,s.2)else if u.1=2 then(sc s.1 u.2.1,s.2)else if u.1=3 then(s.1,(s.2-u.2.2+65536)%65536)else s
def jX(k e:Int):Un:=if e=0 then(2,k,0)else(1,k,e-1)
def WN(s:Shf)(o:Opn)(r:List Int):Shf×List Int×Un:=
 if o.1=12 then((kN s.1 o.2.1 (ac r o.2.2.1 0),s.2),gh r o.2.2.2 (WE s.1 o.2.1%65536),jX o.2.1 (WE s.1 o.2.1))else
 if o.1=13 then(s,gh r o.2.1 (WE s.1 o.2.2.1%65536),(0,0,0))else
 if o.1=14 then((sc s.1 o.2.1,s.2),gh r o.2.2.1 (WE s.1 o.2.1%65536),jX o.2.1 (WE s.1 o.2.1))else
 if o.1=15 then((s.1,(s.2+ac r o.2.1 0)%65536),r,(3,0,ac r o.2.1 0))else
 (s,gh r o.2.1 s.2,(0,0,0))
def WO(o:Opn):Int×Int:=
 if o.1=12\/o.1=14 then(o.2.1,2)else if o.1=13 then(o.2.2.1,1)else if o.1=15 then(8,1)else(8,2)
section
variable{o:Opn}
theorem u3(h:aj o=true)(d:o.1=12):jg o.2.1=true/\aL o.2.2.1=true/\aL o.2.2.2=true:=by
 obtain⟨k,a,b,c⟩:=o;subst d;have:(jg a&&aL b&&aL c)=true:=h;simp_all
theorem D2(h:aj o=true)(d:o.1=13):aL o.2.1=true/\jg o.2.2.1=true:=by
 obtain⟨k,a,b,c⟩:=o;subst d;have:(aL a&&jg b&&(c==(0:Int)))=true:=h;simp_all
theorem u5(h:aj o=true)(d:o.1=14):jg o.2.1=true/\aL o.2.2.1=true:=by
 obtain⟨k,a,b,c⟩:=o;subst d;have:(jg a&&aL b&&(c==(0:Int)))=true:=h;simp_all
theorem TO(h:aj o=true)(d:o.1=15):aL o.2.1=true:=by
 obtain⟨k,a,b,c⟩:=o;subst d;have:(aL a&&(b==(0:Int))&&(c==(0:Int)))=true:=h;simp_all
theorem WzX(h:aj o=true)(d:o.1=16):aL o.2.1=true:=by
 obtain⟨k,a,b,c⟩:=o;subst d;have:(aL a&&(b==(0:Int))&&(c==(0:Int)))=true:=h;simp_all
end
theorem kE{x}:jg x=true↔0<=x/\x<=7:=by unfold jg;simp
variable{N:Nat}{s:Shf}{u:Un}{o:Opn}{r:List Int}
theorem X5{k e}(b:0<=k/\k<=7)(a:0<=e/\e<=65536):UnV (jX k e):=by
 unfold jX UnV
 grind
theorem Wtr(h:ShOk s)(d:UnV u):ShOk (gL s u):=by
 unfold gL;rcases d with⟨a,b,c⟩|⟨a,b,c⟩|⟨a,b,c⟩
 .rw[Wb a];exact⟨Dk h.Q b c,h.W⟩
 .rw[Wa Ω,Wb a];exact⟨PQ h.Q,h.W⟩
 .rw[Wa Ω,Wa Ω,Wb a];exact⟨h.Q,Ω⟩
theorem Wtl(h:ShOk s)(d:Vals 4 r)(f:aj o=true)(g:12<=o.1):ShOk (WN s o r).1/\Vals 4 (WN s o r).2.1/\((WN s o r).2.2.1≠0->UnV (WN s o r).2.2)/\((WN s o r).2.2.1=0->(WN s o r).1=s):=by
 unfold WN;split
 .obtain⟨a,b,c⟩:=u3 f ‹_›;rw[kE]at a;have e:=Dd s.1 o.2.1;exact⟨⟨Dk h.Q a (d.get _),h.W⟩,d.set _ Ω,λ_=>X5 a e,λh=>by unfold jX at h;split at h<;>(simp_all)⟩
 .split
  .exact⟨h,d.set _ Ω,λh=>Wh rfl h,λ_=>rfl⟩
  .split
   .obtain⟨a,b⟩:=u5 f ‹_›;rw[kE]at a;have e:=Dd s.1 o.2.1;exact⟨⟨PQ h.Q,h.W⟩,d.set _ Ω,λ_=>X5 a e,λh=>by unfold jX at h;split at h<;>(simp_all)⟩
   .split
    .refine⟨⟨h.Q,Θ⟩,d,λ_=>.inr (.inr ⟨rfl,rfl,d.get _⟩),λh=>Ψ⟩
    .exact⟨h,d.set _ h.W,λh=>Wh rfl h,λ_=>rfl⟩
theorem Ui(h:ShOk s)(a:1048576<N):IC N s=ret true:=by
 unfold IC;rw[Gf h.Q a,qe,qf.2 h.W];rfl
theorem Uw(h:ShOk s):Iq N s=ret s:=by
 unfold Iq;rw[wu (by have:=h.Q.len;omega)];rfl
theorem Wlo(d:UnV u):N0 N u=ret true:=by
 unfold N0;simp only[WJ,GL,qe,ret,Xd];rcases d with⟨a,b,c⟩|⟨a,b,c⟩|⟨a,b,c⟩
 .simp_all [Wa,Wb,qf]
 .simp_all
 simp_all [Wa,Wb,qf]
theorem WkX(h:ShOk s)(e:UnV u)(d:1048576<N):NI N s u=some ((),(gL s u,(true,()))):=by
 unfold NI gL;rw[Uw h,Wlo e];simp only[ret,Xd];rw[Ui h d];simp only[ret,Xd,Xu,Wc,WJ];have f:=h.W;rcases e with⟨a,b,c⟩|⟨a,b,c⟩|⟨a,b,c⟩
 .rw[Wb a,Wb a,ON h.Q b c d];rfl
 .rw[Wa Ω,Wb a,Wa Ω,Wb a,Ul h.Q b d];rfl
 .rw[Wa Ω,Wa Ω,Wb a,Wa Ω,Wa Ω,Wb a];rw[eh Λ,WB Λ,rH Ω];rfl
theorem Uq{k e}(a:0<=e/\e<=65536):IJ N k e=ret (jX k e):=by
 unfold IJ jX;rw[WJ,eh Λ];split<;>rfl
theorem WmX(a:aj o=true)(b:12<=o.1):MX N o=some ((),((WO o).1,((WO o).2,()))):=by
 have c:=qy a;unfold MX WO;rw[Gr,a];simp only[ret,Xd,Xu,Wc,WJ];have:o.1=12\/o.1=13\/o.1=14\/o.1=15\/o.1=16:=Ω
 rcases this with h|h|h|h|h<;>simp[h]
theorem Wke(h:ShOk s)(m:Vals 4 r)(d:aj o=true)(p:12<=o.1)(k:1048576<N):
  NJ N s o r=some ((),((WN s o r).1,((WN s o r).2.1,((WN s o r).2.2,(true,()))))):=by
 have u:=qy d;have e:=m.len;have q:=h.W;unfold NJ WN;rw[Uw h,wu Ω];simp only[ret,Xd];rw[Ui h k,Gh Ω k,nC.2 m,Uv,Wvu d p];simp only[ret,Xd,Xu,Wc,bne_self_eq_false,WJ,show inz (65536:Int)=true from rfl,We,Wm,Xx];by_cases f:o.1=12
 .obtain⟨a,b,c⟩:=u3 d f;rw[kE]at a;rw[Wb f,Wb f,d7 b e,d7 c e];have l:=Dd s.1 o.2.1;rw[ON h.Q a (m.get _) k];simp only[We,Xd,Uq l,ret];rw[rH Ω];rfl
 .rw[Wa f,Wa f];by_cases g:o.1=13
  .obtain⟨a,b⟩:=D2 d g;rw[kE]at b;have l:=Dd s.1 o.2.2.1;rw[Wb g,Wb g,d7 a e,IZ h.Q b k];simp only[We,Xd];by_cases n:WE s.1 o.2.2.1=0
   .rw[n];rfl
   .rw[Wa n,Wf n,WB Λ,rH Ω,Int.sub_add_cancel];simp only[We,mz];rfl
  .rw[Wa g,Wa g];by_cases i:o.1=14
   .obtain⟨a,b⟩:=u5 d i;rw[kE]at a;have l:=Dd s.1 o.2.1;rw[Wb i,Wb i,d7 b e,Ul h.Q a k];simp only[We,Xd,Uq l,ret];rw[rH Ω];rfl
   .rw[Wa i,Wa i];by_cases j:o.1=15
    .have a:=TO d j;have t:=m.get o.2.1.toNat;rw[Wb j,Wb j,d7 a e];rw[WB Λ,rH Ω];rfl
    .have a:=WzX d Ω;rw[Wa j,Wa j,d7 a e];rfl
def x6(l:List Int):Bool:=decide (l.length=8)&&l.all λx=>decide (0<=x)&&decide (x<=65536)
structure ThOk(t:List Int×List Int×Int):Prop where
 S:Vals 8 t.1
 map:t.2.1.length=8/\∀x∈t.2.1,0<=x/\x<=65536
 W:0<=t.2.2/\t.2.2<=65535
def ve(t:List Int×List Int×Int):Bool:=oD t.1&&(x6 t.2.1&&dK t.2.2)
theorem zL{t}:ve t=true↔ThOk t:=by
 unfold ve x6;simp only[Xl,uy,qf,Wg,cS];exact⟨λh=>⟨h.1,h.2.1,h.2.2⟩,λh=>⟨h.S,h.map,h.W⟩⟩
theorem Vo{l}(g:l.length<=1048576)(f:1048576<N):Cn N l=ret (x6 l):=by
 unfold Cn x6;have b:=WF (l:=l) (V:=Unit) (R:=Unit×Ks) (c:=λn j v=>B0 N l (some ((),(false,()))) (λc d=>(some ((),((Wi l)==(8:Int),())))) n j) (n:=N) Ω
  (b:=λj x v k=>bif !(decide (0<=x)&&decide (x<=65536))then some ((),(false,()))else k v) (K:=λ_ v=>some ((),((Wi l)==(8:Int),())))
  (λn i v a=>by simp only[B0,WM a,Wp a,Wu a,Wl (j:=i),We,ij,ret,Xd])
  (λn v=>by simp[B0,W0,Xj,Wc]) ()
 refine b.trans ?_;rw[kF (p:=λx=>!(decide (0<=x)&&decide (x<=65536))) (E:=λ_=>some ((),(false,()))) l 0 () (λj x v k _=>rfl),me];have e:((Wi l)==(8:Int))=decide (l.length=8):=by
  grind [Wi]
 rw[e];cases l.all _<;>cases decide (l.length=8)<;>rfl
theorem OR{t}(b:t.1.length<=1048576)(c:t.2.1.length<=1048576)(a:1048576<N):Fh N t=ret (ve t):=by
 unfold Fh ve;rw[UF b a,Vo c a,qe];cases oD t.1<;>cases x6 t.2.1<;>rfl
def uz:List Int->Nat->List Int->List Int
 | [],_,l=>l
 |x::m,k,l=>uz m (k+1) (if x>0 then kN l k (x-1)else l)
def DT(m:List Int):List Int:=uz m 0 (Xp 16 0)
theorem JQ:SlOk (Xp 16 0) where
 len:=Δ
 I:=λi h=>.inl (mw ..)
 one:=λi j a b _ h=>Wh (mw ..) h
theorem Vq:∀(m) (k) (l),k+m.length<=8->(∀x∈m,0<=x/\x<=65536)->SlOk l->SlOk (uz m k l)
 | [],_,l,_,_,h=>h
 |x::m,k,l,a,b,h=>by
  rw[Xv]at a;refine Vq m (k+1) _ Ω (λy c=>b y (Xe _ c)) ?_
  grind [Dk]
theorem Ww0{m}(b:m.length=8)(a:∀x∈m,0<=x/\x<=65536):SlOk (DT m):=Vq m 0 _ Ω a JQ
theorem WiD{m}(t:m.length=8)(o:∀x∈m,0<=x/\x<=65536)(e:1048576<N):B3 N m=ret (DT m):=by
 have i:x6 m=true:=by simp_all [x6,Xl,Wg,cS]
 unfold B3 DT;rw[Vo Ω e,i];simp only[ret,Xd,Xu,Wc];rw[show Ti N=ret (Xp 16 0)from rfl];simp only[ret,Xd];have p:∀(d j n:Nat) (l:List Int),j+d=m.length->d<n->SlOk l->yr N m (λr q g=>(some ((),(g,())))) n (j:Int) l=ret (uz (m.drop j) j l):=by
  intro d
  induction d with
  |zero=>
   intro j n l h k f;obtain⟨n,rfl⟩:∃b,n=b+1:=⟨n-1,Ω⟩;have:j=m.length:=Ω
   subst this;simp[yr,W0,Xj,Wc,List.drop_length,uz]
  |succ d ih=>
   intro j n l h k f;obtain⟨n,rfl⟩:∃b,n=b+1:=⟨n-1,Ω⟩;have a:j<m.length:=Ω
   have s:=o m[j] (Xm a);simp only[yr,WM a,Wp a,Wu a,Wl (j:=j),We,jP];rw[List.drop_eq_getElem_cons a,uz];by_cases c:m[j]>0
   .rw[Wb c,Wb c,eh Λ,ON f Ω Ω e]
    grind [Dk]
   grind
 have:=p m.length 0 N (Xp 16 0) Ω Ω JQ;simp_all
end
section
abbrev Hd:=Int×Int×Int
def HdV(h:Hd):Prop:=(1<=h.1/\h.1<=9)/\(0<=h.2.1/\h.2.1<=8)/\1<=h.2.2/\h.2.2<=2
def HdB(a b:Hd):Prop:=cfH a b<0/\(a.2.1=b.2.1->a.2.2≠2/\b.2.2≠2)
structure HOk(l:List Hd):Prop where
 val:∀h∈l,HdV h
 up:l.Pairwise HdB
def HOk.ris{l}(h:HOk l):Ris cfH l:=h.up.imp λh=>h.1
def w9(l:List Hd)(a:Int):List Int:=(l.filter λh=>decide (h.1=a)).map (·.2.1)
def blk(a b c:Int)(h:Hd):Bool:=decide (h.2.1=b)&&(decide (h.1≠a)&&(decide (c=2)||decide (h.2.2=2)))
def rZ(l:List Hd)(a b c:Int):List Int:=(l.filter (blk a b c)).map (·.1)
def nf(a b:Int)(h:Hd):Bool:=decide (h.1=a)&&decide (h.2.1=b)
def j8(l:List Hd)(a b:Int):Int:=match fnd (nf a b) l 0 with
 |some r=>r.2.2.2
 |none=>0
def kh(a b:Int):Int:=if a<=b then b else a
def Hm(l:List Hd)(a b c:Int):List Hd:=gA cfH l (a,b,kh (j8 l a b) c)
def fN(l:List Hd)(a b c:Int):Option (List Hd):=if rZ l a b c= []then some (Hm l a b c)else none
def W1(l:List Hd)(a:Int):List Hd:=l.filter λh=>!(h.1==a)
def wP{b:Type}{a c:Int}{x y:b}:(bif a !=c then x else y)=if a=c then y else x:=by
 simp_all
def WAx{b}{d}(e:Lin d){L M:List b}(a:Ris d L)(c:Ris d M)(f:∀x,x∈L↔x∈M):L=M:=by
 rw[<-Ds e c (a.imp λh=>.inl h) f,Ds e a (a.imp λh=>.inl h) λx=>Iff.rfl]
theorem apH{a b:Hd}:Ap cfH a b↔¬(a.1=b.1/\a.2.1=b.2.1):=by grind [Ap,nP]
def X0{a b c d:Hd}(e:a.1=c.1)(f:a.2.1=c.2.1)(g:b.1=d.1)(h:b.2.1=d.2.1):cfH a b<0↔cfH c d<0:=by simp_all [nP]
variable{N:Nat}{l:List Hd}{a b c:Int}
theorem Wzf(h:Ris cfH l){i}(a){e}(d:e.1=l[i].1)(f:e.2.1=l[i].2.1):Ris cfH (l.set i e):=by
 unfold Ris at*;rw[fh]at*;intro n b g j m;rw[Xx]at g j;rw[fE,fE];have:=h n b g j m;by_cases c:i=n
 .subst c;rw[Wb rfl,Wa Ω];exact(X0 d f rfl rfl).2 this
 .rw[Wa c];by_cases k:i=b
  .subst k;rw[Wb rfl];exact(X0 rfl rfl d f).2 this
  simp_all
theorem WAU(h:Ris cfH l){i}(a){e}(c:e.1=l[i].1)(b:e.2.1=l[i].2.1):l.set i e=gA cfH l e:=by
 refine WAx lH (Wzf h a c b) (rF lH h) λx=>?_;rw[(X3 lH (h.imp λh=>.inl h) a (by grind [apH])).2 x,nF lH h]
theorem WBv{h}:(decide (1<=h.1)&&decide (h.1<=9))=true/\(decide (0<=h.2.1)&&decide (h.2.1<=8))=true/\(decide (1<=h.2.2)&&decide (h.2.2<=2))=true↔HdV h:=by
 simp[HdV,Xl,Wg]
theorem Ut{h}(d:HdV h):FI N h.1 h.2.1 h.2.2=ret true:=by
 obtain⟨a,b,c⟩:=WBv.2 d;simp_all [FI,ij,ret,Xd,We]
theorem Wox{a b}(c:HdV a)(d:HdV b):Mo N a b=ret (cfH a b):=by
 obtain⟨e,f,g⟩:=c;obtain⟨h,i,j⟩:=d
 grind [Mo,cfH,eh,I64]
theorem IY(h:HOk l)(v:l.length<=1048576)(u:1048576<N):yZ N l=ret true:=by
 have q:∀(d j n:Nat),j+d=l.length->d<n->vF N l (some ((),(false,()))) (λs r=>(some ((),(true,())))) n (j:Int)=ret true:=by
  intro d
  induction d with
  |zero=>
   intro j n m o;obtain⟨n,rfl⟩:∃f,n=f+1:=⟨n-1,Ω⟩;simp_all [vF,W0,Xj,Wc]
  |succ d ih=>
   intro j n m o;obtain⟨n,rfl⟩:∃f,n=f+1:=⟨n-1,Ω⟩;have a:j<l.length:=Ω
   have g:=h.val l[j] (Xm a);have i:=ih (j+1) n Ω Ω;simp only[vF,Wm,WM a,Wp a,Wu a,Wl (j:=j),We,Ut g,ret,Xd,Xu,Wc,i];by_cases t:j=0
   .grind
   .have e1:decide ((j:Int)>0)=true:=Φ
    have k:ah .i64 (j:Int) 1=((j-1:Nat):Int):=by grind [eh,I64]
    have b:j-1<l.length:=Ω
    have p:=h.val l[j-1] (Xm b);have c:=fh.1 h.up (j-1) j b a Ω;simp only[e1,k,We,Wp b,Wu b,Wox p g,ret,Xd];rw[Wj (show¬(cfH l[j-1] l[j]>=0) by have:=c.1;omega)];simp only[Wc,WJ];by_cases e:l[j-1].2.1=l[j].2.1
    .rw[Wb e,Wa (c.2 e).2,Wa (c.2 e).1]
    simp_all
 exact q l.length 0 N Ω Ω
theorem PZ{g d R}{b}{K:Int->List d->Option R}{p}{f}:∀(l:List g) (j) (o),o.length+l.length<=2000000->
  (∀(j:Nat) x (v) k,x∈l->v.length<=2000000->b j x v k=bif p x then k (v++ [f x])else k v)->eP b K l j o=K ((j+l.length:Nat):Int) (o++(l.filter p).map f)
 | [],j,o,_,_=>by simp[eP]
 |x::l,j,o,h,hb=>by
  rw[eP,hb j x o _ (Xg ..) Ω,io];have i:=λc e=>PZ (b:=b) (K:=K) (p:=p) (f:=f) l (j+1) c e λj y v k a=>hb j y v k (Xe _ a)
  grind
theorem Wj5(h:HOk l)(e:l.length<=1048576)(d:1048576<N):Ca N l a=ret (w9 l a):=by
 unfold Ca w9;rw[IY h e d];have c:=WF (l:=l) (V:=List Int) (R:=Unit×(List Int×Unit)) (c:=λn j v=>yA N a l (λm g b=>(some ((),(b,())))) n j v) (n:=N) Ω
  (b:=λj x v k=>bif x.1==a then(bif WH (v.length+ [x.2.1].length)then k (Xh v [x.2.1])else none)else k v) (K:=λ_ v=>ret v)
  (λn i v q=>by simp only[yA,WM q,Wp q,Wu q,Wl (j:=i),We])
  (λn v=>by simp[yA,W0,Xj,Wc]) []
 refine c.trans ?_;rw[PZ (p:=λh=>decide (h.1=a)) (f:=(·.2.1)) l 0 [] Φ (λj x v k _ o=>by rw[Ww Φ];simp only[WJ,jP,We,eK])];rfl
theorem Wlv(h:HOk l)(y:1<=c/\c<=2)(r:l.length<=1048576)(q:1048576<N):FJ N l a b c=ret (rZ l a b c):=by
 unfold FJ rZ;rw[IY h r q];simp only[ret,Xd,Xu,Wc,ij,Wf y.1,Wf y.2,lJ];have o:=WF (l:=l) (V:=List Int) (R:=Unit×(List Int×Unit)) (c:=λn j v=>sW N a b c l (λs u z=>(some ((),(z,())))) n j v) (n:=N) Ω
  (b:=λj x v k=>bif x.2.1==b then(bif x.1 !=a then(bif c==2 then(bif WH (v.length+ [x.1].length)then k (Xh v [x.1])else none)else(bif x.2.2==2 then(bif WH (v.length+ [x.1].length)then k (Xh v [x.1])else none)else k v))else k v)else k v) (K:=λ_ v=>ret v)
  (λn i v w=>by simp only[sW,Wm,WM w,Wp w,Wu w,Wl (j:=i),We])
  (λn v=>by simp[sW,W0,Xj,Wc]) []
 refine o.trans ?_;rw[PZ (p:=blk a b c) (f:=(·.1)) l 0 [] Φ (λj x v k _ t=>by
  rw[Ww Φ];unfold blk;simp only[WJ,wP,We,eK];by_cases d:x.2.1=b<;>by_cases e:x.1=a<;>by_cases g:c=2<;>by_cases m:x.2.2=2<;>simp[d,e,g,m])]
 rfl
theorem WwG(h:HOk l):0<=j8 l a b/\j8 l a b<=2:=by
 unfold j8;cases hf:fnd (nf a b) l 0 with
 |none=>simp
 |some r=>
  have:=m4 hf;have:=h.val r.2 (List.mem_of_getElem? this.2.2.2)
  grind [HdV]
theorem Wkh(h:HOk l)(v:1<=a/\a<=9)(u:0<=b/\b<=8)(m:1<=c/\c<=2)(z:l.length<=1048000)(k:1048576<N):
  Ft N l a b c=some ((),((fN l a b c).getD l,((fN l a b c).isSome,()))):=by
 unfold Ft fN;have w:B4 N l=ret l:=by grind [B4,Ww]
 have q:FI N a b c=ret true:=Ut (h:=(a,b,c)) ⟨v,u,m⟩;rw[w,IY h Ω k,q,Wlv h m Ω k];simp only[ret,Xd,Xu,Wc,jP];by_cases f:rZ l a b c= []
 .rw[Wa (by rw[f];simp[Wi]),Wb f];have t:=Hc (l:=l) (p:=nf a b) (N:=N) (c:=λn j=>yB N a b c (Wi l) l (λs=>(some ((),(s,(true,()))))) (λB C=>
  (bif WH ((Xa l)+(Xa ([(a,(b,c))])))then
 ((Zs N (Xh l ([(a,(b,c))]))).bind λi=>
 (some ((),(i.1.1,(true,())))))else none)) n j)
   (a:=λj=>some ((),(l.set j.toNat ((l.getD j.toNat (0,0,0)).1,(l.getD j.toNat (0,0,0)).2.1,CB (l.getD j.toNat (0,0,0)).2.2 c),(true,())))) (b:=(bif WH ((Xa l)+(Xa ([(a,(b,c))])))then
 ((Zs N (Xh l ([(a,(b,c))]))).bind λi=>
 (some ((),(i.1.1,(true,())))))else none)) Ω Ω
   (λn j g=>by
    simp only[yB,WM g,Wp g,Wu g,Wl (j:=j),We];simp[nf,WJ,WyQ,jP])
   (λn=>by simp[yB,W0,Xj,Wc])
  rw[t];unfold Hm j8;cases hf:fnd (nf a b) l 0 with
  |some r=>
   obtain⟨F,y,G,d⟩:=m4 hf;rw[d4]at G;rw[vu,Xq G]at d;injection d with d;unfold nf at F;simp only[Xl,Wg]at F;simp only[Wu G,d,Option.getD_some,Option.isSome_some];rw[Xf];have:CB r.2.2.2 c=kh r.2.2.2 c:=by grind [CB,kh]
   rw[this,F.1,F.2,WAU h.ris G (e:=(a,b,kh r.2.2.2 c)) Ψ Ψ]
  |none=>
   have A:=Dp hf;rw[Ww Φ];have D:kh 0 c=c:=by unfold kh;rw[Wb Ω]
   have o:=VI (b:=cfH) (L:=l) (e:=(a,b,c)) (h.ris.imp λh=>.inl h) (λx E=>by
    grind [apH,nf,Bool.and_eq_false_iff,decide_eq_false_iff_not])
   unfold Zs;simp only[We,eK];rw[YZ (rng:=zj) (N:=N) lH (M:=gA cfH l (a,b,c)) (rF lH h.ris) o.1 (λx=>by rw[o.2 x,nF lH h.ris]) (λx E=>by
    rcases Xo.1 E with E|E
    .have:=h.val x E
     grind [HdV,zj,x9]
    grind [List.mem_singleton,zj,x9]) Φ]
   simp_all
 .rw[Wb (by
   simp_all [rZ,eY,Wi]),Wa f]
  rfl
theorem Ws8(h:HOk l)(D:1<=a/\a<=9)(C:0<=b/\b<=8)(K:1<=c/\c<=2)(I:rZ l a b c= []):HOk (Hm l a b c):=by
 have L:=WwG (a:=a) (b:=b) h;have E:∀x∈l,x.2.1=b->x.1≠a->c≠2/\x.2.2≠2:=λx Q f q=>by
  refine Classical.byContradiction λJ=>?_;have:x.1∈rZ l a b c:=Xy.2 ⟨x,fc.2 ⟨Q,by grind [blk]⟩,rfl⟩;simp_all
 have F:∀x∈l,x.2.1=b->x.1≠a->j8 l a b≠2:=λx Q f q=>by
  unfold j8;cases hf:fnd (nf a b) l 0 with
  |none=>simp
  |some r=>
   obtain⟨k,H,o,p⟩:=m4 hf;rw[d4]at o;rw[vu,Xq o]at p;injection p with p;unfold nf at k;simp only[Xl,Wg]at k;obtain⟨j,g,rfl⟩:=cN Q;have m:=fh.1 h.up;simp only;rw[<-p]at k|-;rcases D4 r.1 j with d|M|d
   .exact((m r.1 j o g d).2 (by rw[f,k.2])).1
   .simp_all
   .exact((m j r.1 g o d).2 (by rw[f,k.2])).2
 unfold Hm;refine⟨λx Q=>?_,?_⟩
 .rcases(nF lH h.ris).1 Q with rfl|Q
  .refine⟨D,C,?_⟩;simp only;unfold kh;split<;>omega
  .exact h.val x Q.1
 .have R:=rF (e:=(a,b,kh (j8 l a b) c)) lH h.ris;have v:=λx=>nF (e:=(a,b,kh (j8 l a b) c)) (x:=x) lH h.ris;have G:∀x∈l,x.2.1=b->x.1≠a->kh (j8 l a b) c≠2:=λx Q f q=>by
   have:=F x Q f q;have:=(E x Q f q).1;unfold kh;split<;>omega
  unfold Ris at R;rw[fh]at R|-;intro i j s g A;refine⟨R i j s g A,λB=>?_⟩;have d:=R i j s g A;have t:=(v _).1 (Xm s);have u:=(v _).1 (Xm g);generalize (gA cfH l (a,b,kh (j8 l a b) c))[i]=x at*;generalize (gA cfH l (a,b,kh (j8 l a b) c))[j]=y at*;rcases t with rfl|t<;>rcases u with rfl|u
  .exact Wh d (lH.irr _)
  .grind [apH]
  .grind [apH]
  .obtain⟨O,z,rfl⟩:=cN t.1;obtain⟨P,w,rfl⟩:=cN u.1;have m:=fh.1 h.up;rcases D4 O P with n|n|n
   .exact(m O P z w n).2 B
   .subst n;exact Wh d (lH.irr _)
   .exact Wh (lH.tr _ _ _ d (m P O w z n).1) (lH.irr _)
theorem UZ(h:HOk l):HOk (W1 l a):=⟨λx b=>h.val x (fc.1 b).1,h.up.filter _⟩
theorem Qf(h:HOk l):l.length<=81:=by
 have d:∀(l:List Hd) (c:Int),Ris cfH l->(∀e∈l,HdV e/\c<=9*e.2.1+e.1)->1<=c->(l.length:Int)<=82-c\/l= []:=by
  intro l
  induction l with
  |nil=>simp_all
  |cons a l ih=>
   intro c j f k;have g:=List.pairwise_cons.1 j;have i:=f a (Xg ..);unfold HdV at i;rcases ih (9*a.2.1+a.1+1) g.2 (λe b=>⟨(f e (Xe _ b)).1,by
    grind [nP,Xe,HdV]⟩) Ω with h|h
   .grind
   grind
 rcases d l 1 h.ris (λe b=>⟨h.val e b,by have:=h.val e b;grind [HdV]⟩) Ω with h|h
 .omega
 simp_all
theorem Vd{n V R}{b}{K}{p:n->Bool}{E:Int->V->Option R}:∀(l) (j) (v),(∀(j:Nat) x v k,x∈l->b j x v k=bif p x then E j v else k v)->
  (∃a x r,l=a++x::r/\(∀y∈a,p y=false)/\p x=true/\eP b K l j v=E ((j+a.length:Nat):Int) v)\/((∀y∈l,p y=false)/\eP b K l j v=K ((j+l.length:Nat):Int) v)
 | [],j,v,_=>.inr ⟨Δ,rfl⟩
 |x::l,j,v,h=>by
  rw[eP,h j x v _ (Xg ..)];cases e:p x
  .simp only[Wc];rcases Vd (E:=E) l (j+1) v λj y v k i=>h j y v k (Xe _ i)with⟨a,y,r,c,d,f,g⟩|⟨c,d⟩
   .refine .inl ⟨x::a,y,r,by rw[c];rfl,λz m=>?_,f,?_⟩
    .rcases List.mem_cons.1 m with rfl|m
     .exact e
     .exact d z m
    .rw[g,Xv,show j+1+a.length=j+(a.length+1) by omega]
   grind
  .exact .inl ⟨[],x,l,rfl,Δ,e,rfl⟩
theorem RY{N}(d){R}(K:Int->Int->Bool->List Hd->Int->Option R):
  ∀(r a m:List Hd) (n),r.length<n->a.length+m.length+r.length<=1048576->∃c,
   Zb N K n (a.length:Int) ((a.length+m.length:Nat):Int) (a++m++r) d=
    K ((a++r.filter λx=>!(x.1==d)).length:Int) ((a.length+m.length+r.length:Nat):Int) false ((a++r.filter λx=>!(x.1==d))++c) d
 | [],a,m,0,h,_=>by simp at h
 | [],a,m,n+1,h,_=>by
  refine⟨m,?_⟩;have j:decide (((a.length+m.length:Nat):Int)<Wi (a++m++ []))=false:=by simp[Wi]
  simp only[Zb,j,Wc];simp
 |x::r,a,m,0,h,_=>by simp at h
 |x::r,a,m,n+1,h,hb=>by
  simp only[Xv]at h hb;have o:a.length+m.length<(a++m++x::r).length:=Δ
  have f:a.length<(a++m++x::r).length:=Ω
  have g:Xc (a++m++x::r) (a.length+m.length) ((0:Int),((0:Int),(0:Int)))=x:=by
   simp_all
  cases hp:x.1==d
  .obtain⟨e,l,i⟩:∃e:List Hd,e.length=m.length/\(a++m++x::r).set a.length x=(a++ [x])++e++r:=by
    cases m with
    |nil=>simp_all
    |cons y m=>grind
   obtain⟨c,b⟩:=RY (N:=N) d K r (a++ [x]) e n Ω Φ;refine⟨c,?_⟩;simp only[Zb,EY,WM o,Wp o,Wp f,Xf,g,hp,Xd,We,Xeo,Xf,i,
    Wl (Ω:a.length<4611686018427387904),Wl (Ω:a.length+m.length<4611686018427387904)]
   have k:(a++ [x]).length=a.length+1:=Δ
   rw[k,l,show a.length+1+m.length=a.length+m.length+1 by omega]at b;rw[b];simp only[io,hp,Xeo,gp,o0,List.singleton_append,Xv];rw[show a.length+m.length+1+r.length=a.length+m.length+(r.length+1) by omega]
  .obtain⟨c,b⟩:=RY (N:=N) d K r a (m++ [x]) n Ω Φ;refine⟨c,?_⟩;simp only[Zb,EY,WM o,Wp o,Wp f,Xf,g,hp,Xd,We,Wc,Xu,
    Wl (Ω:a.length+m.length<4611686018427387904)]
   simp only[bX,Xv,kp,d4]at b;rw[show a.length+(m.length+1)=a.length+m.length+1 by omega,show a++(m++ [x])++r=a++m++x::r by simp]at b;rw[b];simp only[io,hp,Xu,jN,Bool.false_eq_true,Xv];simp only[bX];rw[show a.length+m.length+1+r.length=a.length+m.length+(r.length+1) by omega]
theorem WtC{N}{s:List Hd}{b}(B:1048576<N)(D:s.length<=100000):
  Zo N s b=some ((b,()),(s.filter λx=>!(x.1==b),())):=by
 unfold Zo;have u:=WF (l:=s) (V:={v:Int//v=b}) (R:=Kk×Kk) (c:=λn j v=>Zi N s (λo m=>some ((m,()),(o,()))) (λt H e=>some ((e,()),((-1:Int),()))) n j v.1) (n:=N) Ω
  (b:=λj x v k=>bif x.1==b then some ((v.1,()),(j,()))else k v) (K:=λ_ v=>some ((v.1,()),((-1:Int),())))
  (λn i v g=>by
   obtain⟨v,rfl⟩:=v;simp only[Zi,WM g,Wp g,Wu g,Wl (j:=i),We,EY,Xd])
  (λn v=>by simp[Zi,W0,Xj,Wc]) ⟨b,rfl⟩
 unfold Zv;rw[u];rcases Vd (b:=λj x (v:{v:Int//v=b}) k=>bif x.1==b then some ((v.1,()),(j,()))else k v) (K:=λ_ v=>(some ((v.1,()),((-1:Int),())):Option (Kk×Kk))) (p:=λx=>x.1==b)
  (E:=λj v=>some ((v.1,()),(j,()))) s 0 ⟨b,rfl⟩ (λj x v k _=>rfl)with⟨a,x,r,A,w,F,h⟩|⟨w,h⟩
 .rw[h];simp only[Xd,d4];have q:((a.length:Int)== -1)=false:=Δ
  rw[q,Wl (Θ:a.length<4611686018427387904)];simp only[Wc];obtain⟨I,f⟩:=RY (N:=N) b (λd z t c e=>
     (bif (decide ((0:Int)<=d))&&(decide (d<=((Xa c):Int)))then
      (bif (decide ((0:Int)<=d))&&(decide (d<=((Xa ((bM (Xb d) c)++Xp ((Xa c) -(Xb d)) ((0:Int),((0:Int),(0:Int)))++(List.drop (Xa c) c))):Int)))then
       (some ((e,()),(bM (Xb d) ((bM (Xb d) c)++Xp ((Xa c) -(Xb d)) ((0:Int),((0:Int),(0:Int)))++(List.drop (Xa c) c)),())))else none)else none)) r a [x] N Θ Θ
  rw[show a++ [x]++r=s by simp_all]at f;simp only[Xv,kp,d4]at f;rw[f];have C:(s.filter λx=>!(x.1==b))=a++r.filter λx=>!(x.1==b):=by
   have:(a.filter λx=>!(x.1==b))=a:=Xfr.2 λy G=>Θ
   grind
  grind
 grind [Xfr]
theorem Wji(h:HOk l)(b:l.length<=100000)(d:1048576<N):Nj N l a=ret (W1 l a):=by
 have c:B4 N l=ret l:=by grind [B4,Ww]
 unfold Nj;rw[c,IY h Ω d];simp only[ret,Xd,Xu,Wc];rw[WtC d b];rfl
end
section
structure Cm where
 J:Int:=0
 u:Int:=0
 g:Int:=0
 pos:Int:=0
 F:Int:=0
 w:List Rw:=[]
 o:List Int:=[]
def Cm.e(c:Cm):Int×Int×Int×Int×Int×List Kf×List Int:=(c.J,c.u,c.g,c.pos,c.F,c.w,c.o)
def Cm.steps(c:Cm):Int:=
 if c.g=1\/c.g=4\/c.g=5\/c.g=7 then c.w.length else if c.g=3 then c.o.length else 1
def cw(c:Cm)(n:Int):Cm:=if n=0 then{c with g:=8,pos:=0}else{c with g:=7,pos:=n-1}
def bm(c:Cm)(a:Int):Int:=
 if(a=3/\c.o.length=0\/a=4)/\c.w.length=0 then 6 else if a=3/\c.o.length=0 then 4 else a
def ei(c:Cm)(a:Int):Cm:={c with g:=bm c a,pos:=0}
def Wz(c:Cm)(a:Int):Cm:=if c.pos+1=c.steps then ei c a else{c with pos:=c.pos+1}
def qH(m:Mm)(i a:Int):Mm:=lG m i ((Wy m i).1,(Wy m i).2.1,a)
def jS(m:Mm)(i a v:Int):Mm:=if(Wy m i).2.2=a then lG m i (v,(Wy m i).2)else m
def gK(m:Mm)(i b a:Int):Mm:=if(Wy m i).2.2=b/\(Wy m i).2.1<=a/\a<=m.1 then lG m i ((Wy m i).1,a,0)else m
def Wv(m:Mm)(c:Cm):Mm×Cm:=
 let p:=ac c.w c.pos (0,0)
 if c.g=1 then(if(Wy m p.1).2.2=0 then(qH m p.1 c.J,Wz c 2)else(m,cw c c.pos))else
 if c.g=2 then(if(tick m).2=0 then((tick m).1,cw c c.w.length)else((tick m).1,ei {c with F:=(tick m).2} 3))else
 if c.g=3 then
  let w:=Wy m (ac c.o c.pos 0)
  if(w.2.2≠0/\w.2.2≠c.J)\/w.2.1>c.u then(m,cw c c.w.length)else(m,Wz c 4)
 else
 if c.g=4 then(jS m p.1 c.J p.2,Wz c 5)else
 if c.g=5 then(gK m p.1 c.J c.F,Wz c 6)else
 if c.g=7 then(gK m p.1 c.J (Wy m p.1).2.1,cw c c.pos)else
 (m,c)
def WY(c:Cm):Cm:=
 if c.g=1 then cw c c.pos else if c.g=2\/c.g=3 then cw c c.w.length else c
def cx(b a:Int)(ψ ξ:List Rw):Cm:=
 {J:=b,u:=a,g:=if(al ψ).length=0 then 2 else 1,w:=al ψ,o:=(al ξ).map (·.1)}
structure CmOk(c:Cm):Prop where
 J:1<=c.J/\c.J<=99
 u:0<=c.u/\c.u<=1000000
 F:0<=c.F/\c.F<=1000000
 g:1<=c.g/\c.g<=8
 Eo:bT c.w
 pup:c.w.Pairwise λa b=>a.1<b.1
 plen:c.w.length<=8
 rd:∀x∈c.o,0<=x/\x<=7
 rup:c.o.Pairwise (· < ·)
 rlen:c.o.length<=8
 pos:0<=c.pos/\c.pos<c.steps
section
variable{N:Nat}{c:Cm}{m:Mm}
theorem CmOk.back(h:CmOk c){n:Int}(a:0<=n/\n<=c.w.length):CmOk (cw c n):=by
 unfold cw;split
 .exact{h with g:=Ψ,pos:=by simp[Cm.steps]}
 .exact{h with g:=Ψ,pos:=by grind [Cm.steps]}
theorem Wy6(c){a}(h:2<=a/\a<=6):2<=bm c a/\bm c a<=6:=by unfold bm;split<;>(try split)<;>omega
theorem CmOk.adv(h:CmOk c){a}(d:2<=a/\a<=6)(b:a=5->c.w.length≠0):CmOk (ei c a):=by
 unfold ei;have:=Wy6 c d;refine{h with g:=Θ,pos:=⟨Int.le_refl _,?_⟩}
 grind [Cm.steps,bm]
theorem CmOk.next(h:CmOk c){a}(b:2<=a/\a<=6)(d:a=5->c.w.length≠0):CmOk (Wz c a):=by
 unfold Wz;split
 .exact h.adv b d
 .have:=h.pos;exact{h with pos:=⟨Θ,by show c.pos+1<c.steps;omega⟩}
theorem Wx4(d:W4 m=true){i a}(e:0<=i/\i<=7)(b:0<=a/\a<=99):W4 (qH m i a)=true:=by
 have:=rX.1 (zI d e);exact RD d (by grind [rX])
theorem Wuo(d:W4 m=true){i a v}(e:0<=i/\i<=7)(b:0<=v/\v<=65535):W4 (jS m i a v)=true:=by
 grind [rX,zI,jS,RD]
theorem VQ(b:W4 m=true){i e a}(d:0<=i/\i<=7):W4 (gK m i e a)=true:=by
 grind [rX,zI,gK,RD]
theorem CmOk.put(h:CmOk c)(d:c.g=1\/c.g=4\/c.g=5\/c.g=7):∃(j:Nat) (a:j<c.w.length),c.pos=j/\ac c.w c.pos (0,0)=c.w[j]/\(0<=c.w[j].1/\c.w[j].1<=7)/\0<=c.w[j].2/\c.w[j].2<=65535:=by
 have:=h.pos;unfold Cm.steps at this;have a:c.pos.toNat<c.w.length:=Ω
 have b:=h.Eo _ (Xm a);exact⟨c.pos.toNat,a,Ω,Wk a _,b.1,b.2⟩
theorem CmOk.read(h:CmOk c)(d:c.g=3):∃(j:Nat) (a:j<c.o.length),c.pos=j/\ac c.o c.pos 0=c.o[j]/\0<=c.o[j]/\c.o[j]<=7:=by
 have:=h.pos;unfold Cm.steps at this;have a:c.pos.toNat<c.o.length:=Ω
 have b:=h.rd _ (Xm a);exact⟨c.pos.toNat,a,Ω,Wk a _,b⟩
theorem Yi(h:CmOk c)(a:W4 m=true):CmOk (Wv m c).2/\W4 (Wv m c).1=true:=by
 have o:=h.pos;have l:c.g=1\/c.g=4\/c.g=5\/c.g=7->c.w.length≠0:=λi=>by obtain⟨j,f,_⟩:=h.put i;omega
 have n:c.g=1\/c.g=4\/c.g=5\/c.g=7->c.pos<c.w.length:=λi=>by simp_all [Cm.steps,Wb]
 have p:=h.J;unfold Wv;simp only;split
 .obtain⟨j,f,g,b,d,e⟩:=h.put Ω;rw[b];split
  .exact⟨h.next Ω Ω,Wx4 a d Ω⟩
  .exact⟨h.back Ω,a⟩
 .split
  .have ht:=K9 a;split
   .exact⟨h.back Ω,ht.1⟩
   .refine⟨?_,ht.1⟩;have k:CmOk {c with F:=(tick m).2}:={h with F:=⟨ht.2.1,ht.2.2.1⟩};exact k.adv Ω Ω
  .split
   .split
    .exact⟨h.back Ω,a⟩
    .exact⟨h.next Ω Ω,a⟩
   .split
    .obtain⟨j,f,g,b,d,e⟩:=h.put Ω;rw[b];exact⟨h.next Ω (λ_=>l Ω),Wuo a d e⟩
    .split
     .obtain⟨j,f,g,b,d,e⟩:=h.put Ω;rw[b];exact⟨h.next Ω Ω,VQ a d⟩
     .split
      .obtain⟨j,f,g,b,d,e⟩:=h.put Ω;rw[b];exact⟨h.back Ω,VQ a d⟩
      simp_all
theorem Wtu(h:CmOk c):CmOk (WY c):=by
 have a:=h.pos;unfold WY;split
 .have:c.pos<c.w.length:=by simp_all [Cm.steps,Wb]
  exact h.back Ω
 .split
  .exact h.back Ω
  .exact h
theorem Qp{d e}{ψ ξ}(b:1<=d/\d<=99)(a:0<=e/\e<=1000000):CmOk (cx d e ψ ξ) where
 J:=b
 u:=a
 F:=by simp[cx]
 g:=by unfold cx;simp only;split<;>omega
 Eo:=zA
 pup:=Ax ψ
 plen:=Dc ψ
 rd:=λx c=>by
  obtain⟨r,a,rfl⟩:=Xy.1 c;exact(zA r a).1
 rup:=by
  simp[cx,List.pairwise_map,Ax]
 rlen:=by simp[cx,aP,Dc]
 pos:=by
  unfold cx Cm.steps
  grind
theorem cmP(c:Cm):c.e.1=c.J/\c.e.2.1=c.u/\c.e.2.2.1=c.g/\c.e.2.2.2.1=c.pos/\c.e.2.2.2.2.1=c.F/\c.e.2.2.2.2.2.1=c.w/\c.e.2.2.2.2.2.2=c.o:=⟨rfl,rfl,rfl,rfl,rfl,rfl,rfl⟩
theorem Gi{a}:y6 N a=ret (decide (1<=a)&&decide (a<=99)):=by simp[y6,ij]
theorem JE(a:W4 m=true):ti N m=ret m:=by
 grind [WK,ti,Ww]
theorem VC(h:CmOk c):Iu N c.e=ret c.e:=by
 unfold Iu;have:=h.plen;have:=h.rlen;rw[show ry N c.e.2.2.2.2.2.1=ret c.w from C0 (Ω:c.w.length<=1048576),show Zg N c.e.2.2.2.2.2.2=ret c.o from wu (Ω:c.o.length<=1048576)];rfl
theorem X7:EL N c.e=ret c.steps:=by
 unfold EL Cm.steps;obtain⟨f,g,a,h,i,b,d⟩:=cmP c;simp only[WJ,a,b,d,Wi]
 grind
theorem UM(h:CmOk c)(I:1048576<N):BY N c.e=ret true:=by
 obtain⟨z,A,B,C,D,g,r⟩:=cmP c;have M:=h.plen;have L:=h.rlen;have v:=h.J;have u:=h.u;have t:=h.F;have q:=h.g;have F:=h.pos;have E:fO c.w=true:=by unfold fO;rw[J9.2 h.Eo,Wf Ω];rfl
 unfold BY;simp only[z,A,B,C,D,g,r,Gi,ij,Gn (Ω:c.w.length<=1048576) I,X7,ret,Xd,Wf v.1,Wf v.2,Wf u.1,Wf u.2,Wf t.1,Wf t.2,Wf q.1,Wf q.2,E,lJ,Xu,Wc];have S:c.steps<=8:=by unfold Cm.steps;split<;>(try split)<;>omega
 have w:ah .i64 c.steps 1=c.steps-1:=eh Λ;rw[w,Wf F.1,Wf Ω];have m:∀(d j n:Nat),j+d=c.o.length->d<n->vE N c.o c.e (some ((),(false,()))) (λl G=>(some ((),(true&&true,())))) n (j:Int)=ret true:=by
  intro d
  induction d with
  |zero=>
   intro j n i k;obtain⟨n,rfl⟩:∃b,n=b+1:=⟨n-1,Ω⟩;simp_all [vE,W0,Xj,Wc]
  |succ d ih=>
   intro j n i k;obtain⟨n,rfl⟩:∃b,n=b+1:=⟨n-1,Ω⟩;have a:j<c.o.length:=Ω
   have p:=ih (j+1) n Ω Ω;have Q:=h.rd _ (Xm a);have y:cp c.o[j]=true:=by grind [cp]
   simp only[vE,r,WM a,Wp a,Wu a,Wl (j:=j),We,tO,ret,Xd,y,Xu,Wc,p];by_cases P:j=0
   .grind
   .have e1:decide ((j:Int)>0)=true:=Φ
    have s:ah .i64 (j:Int) 1=((j-1:Nat):Int):=by grind [eh,I64]
    have f:j-1<c.o.length:=Ω
    have J:=fh.1 h.rup (j-1) j f a Ω;simp_all [We,Wp,Wu,Wj]
 have x:∀(d j n:Nat),j+d=c.w.length->d<n->1<=j->yv N c.e (some ((),(false,()))) (λO K=>(vE N c.o c.e (some ((),(false,()))) (λl G=>(some ((),(true&&true,())))) N (0:Int))) n (j:Int)=ret true:=by
  intro d
  induction d with
  |zero=>
   intro j n i k _;obtain⟨n,rfl⟩:∃b,n=b+1:=⟨n-1,Ω⟩;have:j=c.w.length:=Ω
   subst this;simp only[yv,g,W0 (Xj _),Wc];exact m c.o.length 0 N Ω Ω
  |succ d ih=>
   intro j n i k H;obtain⟨n,rfl⟩:∃b,n=b+1:=⟨n-1,Ω⟩;have a:j<c.w.length:=Ω
   have p:=ih (j+1) n Ω Ω Ω;have s:ah .i64 (j:Int) 1=((j-1:Nat):Int):=by grind [eh,I64]
   have f:j-1<c.w.length:=Ω
   have J:=fh.1 h.pup (j-1) j f a Ω;simp only[yv,g,WM a,Wp a,Wu a,Wl (j:=j),We,s,Wp f,Wu f]
   grind
 by_cases R:c.w.length=0
 .obtain⟨o,rfl⟩:∃o,N=o+1:=⟨N-1,Ω⟩;rw[yv,g,Wj (by unfold Wi;omega)];exact m c.o.length 0 _ Ω Ω
 .exact x (c.w.length-1) 1 N Ω Ω Ω
theorem KR(h:CmOk c){n}(a:0<=n/\n<=8):rq N c.e n=some (((cw c n).e,()),()):=by
 unfold rq cw;rw[WJ,eh Λ];split<;>rfl
theorem Wws{a}:Ic N c.e a=some (((ei c a).e,()),()):=by
 obtain⟨h,i,j,k,l,d,f⟩:=cmP c;unfold Ic ei bm;simp only[WJ,d,f,Wi];by_cases b:a=3
 .subst b;by_cases g:c.o.length=0<;>by_cases e:c.w.length=0<;>simp[g,e]<;>rfl
 .by_cases h4:a=4
  .subst h4;by_cases e:c.w.length=0<;>simp[e]<;>rfl
  .simp[b,h4];rfl
theorem WxO(h:CmOk c){a}:Bl N c.e a=some (((Wz c a).e,()),()):=by
 obtain⟨d,f,g,b,i,j,k⟩:=cmP c;have l:=h.pos;have m:c.steps<=8:=by have:=h.plen;have:=h.rlen;unfold Cm.steps;split<;>(try split)<;>omega
 have e:EL N (Cm.e {c with pos:=c.pos+1})=ret c.steps:=X7;unfold Bl Wz;rw[b,WB Λ];rw[show(c.e.1,(c.e.2.1,(c.e.2.2.1,(c.pos+1,c.e.2.2.2.2))))=Cm.e {c with pos:=c.pos+1}from rfl,e];simp only[ret,Xd,WJ,Wws];split<;>rfl
theorem Wv1(h:CmOk c)(k:1048576<N):∃b,Mi N c.e=some ((),((WY c).e,(b,()))):=by
 obtain⟨l,m,g,i,n,j,o⟩:=cmP c;have p:=h.pos;have q:=h.plen;have r:c.steps<=8:=by have:=h.plen;have:=h.rlen;unfold Cm.steps;split<;>(try split)<;>omega
 unfold Mi WY;rw[VC h];simp only[ret,Xd];rw[UM h k];simp only[ret,Xd,Xu,Wc,WJ,g,i,j,KR h (Ω:0<=c.pos/\c.pos<=8),KR h (show 0<=Wi c.w/\Wi c.w<=8 by unfold Wi;omega)];by_cases d:c.g=1
 .simp_all
 .rw[Wa d,Wa d];by_cases a:c.g=2
  .rw[Wb a,Wb a,Wb (.inl a)];exact⟨_,rfl⟩
  .rw[Wa a];by_cases f:c.g=3
   .rw[Wb f,Wb (.inr f)];exact⟨_,rfl⟩
   simp_all
theorem WqU{l:List Rw}(e:l.length<=1048576)(d:1048576<N):Fs N l=ret ((al l).map (·.1)):=by
 unfold Fs;rw[I3 e d];have m:=Dc l;have c:=WF (l:=al l) (V:=List Int) (R:=Unit×(List Int×Unit)) (c:=λn j v=>Bj N (Wi (al l)) (al l) (λh g b=>(some ((),(b,())))) n j v) (n:=N) Ω
  (b:=λj x v k=>bif WH (v.length+ [x.1].length)then k (Xh v [x.1])else none) (K:=λ_ v=>ret v)
  (λn i v a=>by simp only[Bj,WM a,Wp a,Wu a,Wl (j:=i),We])
  (λn v=>by simp[Bj,W0,Xj,Wc]) []
 refine c.trans ?_;rw[zt (f:=λx:Rw=>x.1) (al l) 0 [] Φ (λj x v k _=>rfl)];rfl
theorem WA2{j a}{ψ ξ}(c:1<=j/\j<=99)(b:0<=a/\a<=1000000)(f:fO ψ=true)(d:fO ξ=true)(e:1048576<N):
  ER N j a ψ ξ=some ((),((cx j a ψ ξ).e,(true,()))):=by
 have h:ψ.length<=300:=by grind [fO]
 have i:ξ.length<=300:=by grind [fO]
 unfold ER;simp only[Gi,ij,Gn (Ω:ψ.length<=1048576) e,Gn (Ω:ξ.length<=1048576) e,I3 (Ω:ψ.length<=1048576) e,WqU (Ω:ξ.length<=1048576) e,ret,Xd,Wf c.1,Wf c.2,Wf b.1,Wf b.2,f,d,lJ,Xu,Wc,WJ];unfold cx Cm.e;by_cases g:(al ψ).length=0
 .simp_all [Wb,Wi]
 simp_all [Wa,Wi]
theorem K3{m:Mm}{i}:Xc m.2 (Xb i) ((0:Int),((0:Int),(0:Int)))=Wy m i:=rfl
theorem Dz(b:W4 m=true){i}(a:0<=i/\i<=7):inb i m.2.length=true:=by
 grind [WK,inb]
theorem PS{i}(a:0<=i/\i<=7):cp i=true:=by grind [cp]
theorem WoH(d:W4 m=true){i a}(e:0<=i/\i<=7)(b:1<=a/\a<=99)(c:1048576<N):
  N8 N m i a=some ((),((if(Wy m i).2.2=0 then qH m i a else m),(decide ((Wy m i).2.2=0),()))):=by
 unfold N8;rw[JE d,zs (by grind [WK]) c,d];simp only[ret,Xd,Xu,Wc,tO,PS e,Gi,Wf b.1,Wf b.2,lJ,Dz d e,We,K3,wP];by_cases h:(Wy m i).2.2=0
 .rw[Wb h,Wb h,Wf h];rfl
 simp_all
theorem WmQ(f:W4 m=true){i a v}(g:0<=i/\i<=7)(c:1<=a/\a<=99)(e:0<=v/\v<=65535)(d:1048576<N):
  ∃b,N5 N m i a v=some ((),(jS m i a v,(b,()))):=by
 unfold N5 jS;rw[JE f,zs (by grind [WK]) d,f];simp only[ret,Xd,Xu,Wc,tO,PS g,Gi,qe,qf.2 e,Wf c.1,Wf c.2,lJ,Dz f g,We,K3,wP];by_cases h:(Wy m i).2.2=a
 .rw[Wb h,Wb h];exact⟨_,rfl⟩
 simp_all
theorem Ur(c:W4 m=true){i k a}(j:0<=i/\i<=7)(d:1<=k/\k<=99)(e:1048576<N):
  ∃b,IK N m i k a=some ((),(gK m i k a,(b,()))):=by
 have f:=(WK c).1;unfold IK gK;rw[JE c,zs Ω e,c];simp only[ret,Xd,Xu,Wc,tO,PS j,Gi,ij,Wf d.1,Wf d.2,lJ,Dz c j,We,K3,wP,Xx,Wm];by_cases h:(Wy m i).2.2=k
 .rw[Wb h];by_cases g:(Wy m i).2.1<=a/\a<=m.1
  .rw[Wb ⟨h,g.1,g.2⟩,Wf g.1,Wf g.2];refine⟨true,?_⟩;have:i.toNat<m.2.length:=Ω
   simp only[lJ,Xu,Wc,WnI this,mz];rfl
  .refine⟨false,?_⟩
   grind
 simp_all
theorem Wpz(h:CmOk c)(i:W4 m=true)(l:1048576<N):ME N m c.e=some ((),((Wv m c).1,((Wv m c).2.e,()))):=by
 obtain⟨A,B,C,D,E,F,G⟩:=cmP c;have H:=h.pos;have I:=h.plen;have s:=h.J;have J:c.steps<=8:=by have:=h.plen;have:=h.rlen;unfold Cm.steps;split<;>(try split)<;>omega
 have y:=KR (N:=N) h (Ω:0<=c.pos/\c.pos<=8);have z:=KR (N:=N) h (show 0<=Wi c.w/\Wi c.w<=8 by unfold Wi;omega);unfold ME Wv;simp only[Wm];rw[JE i,VC h];simp only[ret,Xd];rw[zs (by grind [WK]) l,UM h l,i];simp only[ret,Xd,Xu,Wc,WJ,A,B,C,D,E,F,G,C8,y,z,WxO h];by_cases t:c.g=1
 .obtain⟨j,k,f,d,g,n⟩:=h.put Ω;rw[show Xc c.w (Xb c.pos) ((0:Int),(0:Int))=c.w[j]from d,d,f,d8,Wf k,WoH i g s l,<-f]
  grind
 .rw[Wa t,Wa t];by_cases p:c.g=2
  .rw[Wb p,Wb p,Wp7 i l];simp only[Xd];by_cases q:(tick m).2=0
   .rw[Wb q,Wb q];rfl
   .rw[Wa q,Wa q];rw[show(c.J,(c.u,(c.g,(c.pos,((tick m).2,c.e.2.2.2.2.2)))))=Cm.e {c with F:=(tick m).2}from rfl,Wws];rfl
  .rw[Wa p,Wa p];by_cases o:c.g=3
   .rw[Wb o,Wb o];obtain⟨j,k,f,d,g,n⟩:=h.read o;rw[show Xc c.o (Xb c.pos) (0:Int)=c.o[j]from d,d,f,d8,Wf k,Dz i ⟨g,n⟩];simp only[We,wP,jP];rw[show Xc m.2 (Xb c.o[j]) ((0:Int),((0:Int),(0:Int)))=Wy m c.o[j]from rfl];by_cases a:(Wy m c.o[j]).2.2=0
    .rw[Wb a];by_cases b:(Wy m c.o[j]).2.1>c.u
     .rw[Wb b,Wb (.inr b)];rfl
     grind
    .rw[Wa a];by_cases r:(Wy m c.o[j]).2.2=c.J
     .rw[Wb r];by_cases b:(Wy m c.o[j]).2.1>c.u
      .rw[Wb b,Wb (.inr b)];rfl
      grind
     .rw[Wa r,Wb (.inl ⟨a,r⟩)];rfl
   .rw[Wa o,Wa o];by_cases u:c.g=4
    .obtain⟨j,k,f,d,g,n⟩:=h.put Ω
     grind [WmQ,Xc,Xb,d8,decide_eq_true]
    .rw[Wa u,Wa u];by_cases v:c.g=5
     .obtain⟨j,k,f,d,g,n⟩:=h.put Ω;obtain⟨b,x⟩:=Ur (a:=c.F) i g s l
      grind [Xc,Xb,d8,decide_eq_true]
     .rw[Wa v,Wa v];by_cases w:c.g=7
      .rw[Wb w,Wb w];obtain⟨j,k,f,d,g,n⟩:=h.put Ω;obtain⟨b,x⟩:=Ur (a:=(Wy m c.w[j].1).2.1) i g s l;rw[show Xc c.w (Xb c.pos) ((0:Int),(0:Int))=c.w[j]from d,d,f,d8,Wf k,Dz i g];simp only[We,K3,x,<-f];rfl
      simp_all
end
end
section
abbrev RM:=Int×Int×Int×Int×List Int
abbrev Wr:=Int×Int×List Rw
abbrev Pg:=List Opn×List (List Opn)
abbrev Ac:=Int×Int×Int
abbrev Sc:=Kg×List Pg×List Ac
structure Rt where
 g:Int:=0
 G:Int:=0
 Ez:Int:=0
 k:Int:=0
 u:Int:=0
 EC:Int:=0
 pos:Int:=0
 H:Int:=0
 ED:Int:=0
 EA:Int:=0
 EB:Int:=0
 U:Bool:=false
 t:List Int:=[]
 o:List Rw:=[]
 A:List Rw:=[]
 m:List RM:=[]
 y:List Un:=[]
 B:List Int:=[]
 L:Bool:=false
 E:Pb:=(0,0,0,0)
 l:Cm:={}
 n:Fm:={}
def Rt.e(r:Rt):Y_Root:=(r.g,r.G,r.Ez,r.k,r.u,r.EC,r.pos,r.H,r.ED,r.EA,r.EB,r.U,r.t,r.o,r.A,r.m,r.y,r.B,r.L,r.E,r.l.e,r.n.e)
structure Wo where
 j:Int:=0
 N:Int:=0
 i:Mm:=(0,[])
 D:Shf:=([],0)
 a:List Hd:=[]
 c:List Rt:=[]
 C:List Wr:=[]
def Wo.e(w:Wo):Y_World:=(w.j,w.N,w.i,w.D,w.a,w.c.map Rt.e,w.C)
def zRM:RM:=(0,0,0,0,[])
def Rt.last(x:Rt):RM:=eQ x.m zRM
def dE(x:Rt):Rt:={g:=6,G:=x.G,y:=x.y}
def WA(x:Rt):Rt:=
 if x.m.length=0\/x.Ez=2 then dE x else{x with Ez:=x.Ez+1,L:=false,E:=(0,0,0,0),g:=3}
def ez(w:Wo)(x:Rt):Wo×Rt:=({w with D:=gL w.D (eQ x.y (0,0,0))},{x with y:=x.y.dropLast})
def gi(w:Wo)(x:Rt)(k:Nat):Wo×Rt:=
 ({w with N:=if w.N=(k:Int)+1 then 0 else w.N},{x with g:=8,EB:=w.j,y:=[],U:=false})
def W9(w:Wo)(x:Rt)(k:Nat)(a:Int):Wo×Rt:=
 let b:=if a=2 then []else x.A
 if b.length=0/\(w9 w.a ((k:Int)+1)).length=0 then gi w {x with H:=a,ED:=x.u} k
 else(w,{x with H:=a,l:=cx ((k:Int)+1) x.u b x.o,g:=5})
def dX(w:Wo)(x:Rt)(o:Opn):Rt:=
 match bf x.A o.2.2.1 with
 |some v=>{x with t:=gh x.t o.2.1 v,k:=x.k+1}
 |none=>
  let p:=WU w.i x.u (if x.L then x.E else(o.2.2.1,0,0,0))
  if p.2.1=4 then WA {x with L:=true,E:=p}
  else if p.2.1=3 then{x with t:=gh x.t o.2.1 p.2.2.2,o:=x.o++ [(o.2.2.1,p.2.2.2)],L:=false,E:=(0,0,0,0),k:=x.k+1}
  else{x with L:=true,E:=p}
def fV(w:Wo)(x:Rt)(k:Nat)(a:List Opn):Wo×Rt:=
 if x.m.length=0 then W9 w x k 2 else
 if(x.y.length:Int)>x.last.2.2.2.1 then ez w x else
 (w,{x with m:=x.m.dropLast,t:=gh x.last.2.2.2.2 (opN a x.last.1).2.1 0,A:=x.A.take x.last.2.2.1.toNat,k:=kR a x.last.1.toNat+1})
def eN(w:Wo)(x:Rt)(k:Nat)(o:Opn):Wo×Rt:=
 match fN w.a ((k:Int)+1) (WO o).1 (WO o).2 with
 |none=>(w,WA x)
 |some a=>
  let b:=WN w.D o x.t
  ({w with a:=a,D:=b.1},{x with t:=b.2.1,y:=if b.2.2.1=0 then x.y else x.y++ [b.2.2],k:=x.k+1})
def am(w:Wo)(x:Rt)(k:Nat)(p:Pg):Wo×Rt:=
 if x.k>=p.1.length then W9 w x k 1 else
 let o:=opN p.1 x.k
 if o.1=5 then(w,dX w x o)else
 if o.1=10 then fV w x k p.1 else
 if o.1=11 then(w,{x with g:=2,n:=cq x.u x.t x.A p.2.length})else
 if o.1>=12 then eN w x k o else
 if o.1=6 then(w,{x with A:=x.A++ [(o.2.1,ac x.t o.2.2.1 0)],k:=x.k+1})else
 if o.1=7 then(w,{x with k:=(if ac x.t o.2.1 0=0 then x.k+o.2.2.1 else x.k)+1})else
 if o.1=8 then(w,{x with m:=x.m++ [(x.k,(x.o.length:Int),(x.A.length:Int),(x.y.length:Int),x.t)],k:=x.k+1})else
 if o.1=9 then(w,{x with m:=x.m.dropLast,t:=gh x.t (opN p.1 x.last.1).2.1 1,k:=x.k+1})else
 (w,{x with t:=oJ o x.t,k:=x.k+1})
def lA(k:Nat):List Rt->Nat->Bool
 | [],_=>true
 |x::l,i=>(decide (i=k)||(decide (x.g=0)||decide (x.g=8)))&&lA k l (i+1)
def gH(w:Wo)(x:Rt)(k:Nat):Wo×Rt:=
 if w.N≠0/\w.N≠(k:Int)+1 then(w,x)else
 if x.G>=3/\w.N=0 then({w with N:=(k:Int)+1},x)else
 if w.N=(k:Int)+1/\lA k w.c 0=false then(w,x)else
 (w,{g:=1,G:=x.G,u:=w.i.1,EA:=w.j,t:=[0,0,0,0]})
def ch(x:Rt):Rt:=
 if x.n.Ey then dE x else
 if ig x.n then{x with t:=rN x.n,A:=m5 x.n,o:=x.o++x.n.o,B:=x.n.B,n:={},g:=1,k:=x.k+1}
 else x
def fK(w:Wo)(x:Rt):Wo×Rt:=
 if(x.y.length:Int)>x.last.2.2.2.1 then ez w x else(w,{x with EC:=w.i.1,pos:=0,g:=4})
def W6(w:Wo)(x:Rt):Rt:=
 if x.pos<x.last.2.1 then
  let c:=Wy w.i (ac x.o x.pos (0,0)).1
  if c.2.2≠0\/c.2.1>x.u then dE x else{x with pos:=x.pos+1}
 else{x with u:=x.EC,EC:=0,pos:=0,o:=x.o.take x.last.2.1.toNat,A:=x.A.take x.last.2.2.1.toNat,t:=x.last.2.2.2.2,k:=x.last.1+1,g:=1}
def cX(x:Rt):Rt:=
 if x.l.g=8 then dE x else
 if x.l.g=6 then{x with ED:=x.l.F,l:={},g:=if x.H=2 then 6 else 7}else x
def W7(w:Wo)(x:Rt)(k:Nat):Wo×Rt:=
 if x.U then(w,if(WY x.l).g=8 then dE x else{x with l:=WY x.l,U:=false})else
 let q:=Wv w.i x.l
 ({w with i:=q.1,C:=if x.l.g<=3/\q.2.g=4 then w.C++ [(q.2.F,(k:Int)+1,q.2.w)]else w.C},cX {x with l:=q.2})
def WS(w:Wo)(x:Rt)(k:Nat)(p:Pg):Wo×Rt:=
 if x.U=true/\1<=x.g/\x.g<=4 then(w,dE x)else
 if x.g=0 then gH w x k else
 if x.g=1 then am w x k p else
 if x.g=2 then(w,ch x)else
 if x.g=3 then fK w x else
 if x.g=4 then(w,W6 w x)else
 if x.g=5 then W7 w x k else
 if x.g=6 then(if x.y.length>0 then ez w x else(w,{x with g:=7}))else
 if x.g=7 then
  (if x.H=0 then({w with a:=W1 w.a ((k:Int)+1)},{G:=x.G+1})
   else gi {w with a:=W1 w.a ((k:Int)+1)} x k)
 else(w,x)
def Wo.put(q:Wo×Rt)(k:Nat):Wo:={q.1 with c:=q.1.c.set k q.2}
def rt0:Rt:={}
def pg0:Pg:=([],[])
def m9(w:Wo)(k:Nat)(p:Pg):Wo:=Wo.put (WS w (w.c.getD k rt0) k p) k
def OC(w:Wo)(x:Rt)(k j:Nat)(p:Pg):Wo:=Wo.put (w,{x with n:=aC w.i x.n j (p.2.getD j [])}) k
def aq(s:Sc)(a:Wo)(b:Ac):Wo:=
 let w:={a with j:=a.j+1}
 if 0<=b.2.1/\b.2.1<w.c.length then
  let k:=b.2.1.toNat
  let x:=w.c.getD k rt0
  let p:=s.2.1.getD k pg0
  if b.1=1 then m9 w k p else
  if b.1=2 then(if x.g=2/\0<=b.2.2/\b.2.2<p.2.length then OC w x k b.2.2.toNat p else w)else
  if b.1=3 then(if(1<=x.g/\x.g<=4)\/(x.g=5/\x.l.g<=3)then Wo.put (w,{x with U:=true}) k else w)else w
 else w
def aX(s:Sc):Wo:={i:=DR s.1.1,D:=(DT s.1.2.1,s.1.2.2),c:=Xp s.2.1.length {}}
def kL(s:Sc):Wo:=s.2.2.foldl (aq s) (aX s)
structure RMk(c:List Opn)(d:Nat)(μ:List RM)(g e f:Nat):Prop where
 Z:μ.map (·.1)=(stk c d).map λm:Nat=>(m:Int)
 I:∀q∈μ,Vals 4 q.2.2.2.2/\(0<=q.2.1/\q.2.1<=q.1+72*frk c q.1.toNat/\q.2.1<=g)/\(0<=q.2.2.1/\q.2.2.1<=q.1+8/\q.2.2.1<=e)/\0<=q.2.2.2.1/\q.2.2.2.1<=q.1/\q.2.2.2.1<=f
 up:μ.Pairwise λa b=>a.2.1<=b.2.1/\a.2.2.1<=b.2.2.1/\a.2.2.2.1<=b.2.2.2.1
structure RLive(p:Pg)(n:Int)(x:Rt):Prop where
 k:0<=x.k/\x.k<=p.1.length
 Ez:0<=x.Ez/\x.Ez<=2
 u:0<=x.u/\x.u<=1000000
 t:Vals 4 x.t
 o:bT x.o
 rl:(x.o.length:Int)<=x.k+72*frk p.1 x.k.toNat
 A:bT x.A
 wl:(x.A.length:Int)<=x.k+8
 ul:(x.y.length:Int)<=x.k
 m:RMk p.1 x.k.toNat x.m x.o.length x.A.length x.y.length
 E:x.L=true->jn x.E=true
 V:x.g=2->x.k<p.1.length/\(opN p.1 x.k).1=11/\FOk p.2 n x.n
 back:x.g=3\/x.g=4->x.m.length≠0
 EC:0<=x.EC/\x.EC<=1000000
 pos:x.g=4->0<=x.pos/\x.pos<=x.last.2.1
 unw:x.g=4->(x.y.length:Int)<=x.last.2.2.2.1
structure ROk(p:Pg)(n:Int)(x:Rt):Prop where
 g:0<=x.g/\x.g<=8
 G:0<=x.G/\x.G<=n
 Ev:1<=x.g/\x.g<=4->RLive p n x
 R:x.g=5->CmOk x.l
 y:∀u∈x.y,UnV u
 ul:x.y.length<=24
 rg:x.t.length<=4
 ord:x.B.length<=3
structure POk(p:Pg):Prop where
 Y:CC p.1
 κ:∀c∈p.2,KC c
 k3:p.2.length<=3
def HE(h:Wr):Prop:=h.2.2.length<=8/\bT h.2.2/\1<=h.2.1/\h.2.1<=9
structure WOk(ps:List Pg)(n:Int)(w:Wo):Prop where
 len:w.c.length=ps.length
 l4:ps.length<=4
 O:∀p∈ps,POk p
 j:w.j=n
 n0:0<=n
 i:W4 w.i=true
 D:ShOk w.D
 a:HOk w.a
 C:(w.C.length:Int)<=n
 histE:∀h∈w.C,HE h
 x:∀(k:Nat) (h:k<w.c.length),ROk (ps.getD k pg0) n w.c[k]
end
end Go.Sx
