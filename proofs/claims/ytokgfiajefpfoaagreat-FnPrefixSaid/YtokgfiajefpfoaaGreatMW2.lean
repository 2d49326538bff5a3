/- Plain laws of the Lean functions. -/
import Derived.Test.YtokgfiajefpfoaaGreatMW1
open List renaming cons_append→fG,take_succ_eq_append_getElem→l6,take_length→gt,mem_cons_of_mem→Xf,pairwise_cons→bq,foldl_cons→cP,mem_cons→Xs,mem_cons_self→Xg,map_congr_left→xS,mem_of_mem_take→jO,getD_eq_getElem?_getD→Xq,getElem?_set_ne→kD,mem_append→Xn,getElem?_set_self→oQ,take_append_of_le_length→N4,take_of_length_le→mc,flatten_append→XR,append_assoc→lB,set→Xk,set_getElem_self→jN,mem_map→Xz,getElem_mem→Xo,map_append→Xw,map_cons→bK,map_nil→cV,dropLast_concat→E8,length_append→Xx,length_cons→Xu,length_nil→jQ,pairwise_append→dx,length→Xb,dropLast_eq_take→uv,length_take→di,mem_of_mem_drop→E9,getD→Xc,take→aI,set_set→nv,drop_append_of_le_length→E6,length_map→Xy,append→Xe,drop_length→oS,foldl_append→B3,take_succ_cons→V7,eq_nil_of_length_eq_zero→Xv,mem_append_left→Xm,getElem_set→ex,length_set→aK,getElem_of_mem→eI,getElem?_eq_getElem→Xp,all_eq_true→cq,getElem_replicate→kw,mem_iff_getElem→nq,replicate→Xt,pairwise_iff_getElem→eH,filter_cons→gy,append_eq→cU,mem_filter→dA,filter_eq_self→XQ
open Bool renaming and_eq_true→Xj,not_true→Xr,eq_false_iff→nm,or_eq_false_iff→uu,not_eq_false'→B4,and_self→hL,not_false→Fb
open Nat renaming le_refl→Xl,zero_add→dj,lt_trichotomy→BV,add_sub_cancel→XB,sub_zero→mA
open Int renaming toNat_natCast→Xi,toNat→Xa,tdiv_eq_ediv_of_nonneg→E5
open Option renaming bind_some→Xd
namespace Go.Sx
set_option linter.unusedVariables false
set_option linter.unusedSimpArgs false
section
def lst:List Rw->Int->Option Int
 | [],_=>none
 |r::l,c=>match lst l c with
  |some v=>some v
  |none=>if r.1=c then some r.2 else none
theorem Hl(a b:List Rw)(c:Int):lst (a++b) c=match lst b c with|some v=>some v|none=>lst a c:=by
 induction a with
 |nil=>rw[List.nil_append];cases lst b c<;>rfl
 |cons r a ih=>
  rw[fG,lst,ih];cases lst b c<;>rfl
theorem Qv{l:List Rw}{c:Int}:∀i,i<=l.length->oz l c i=lst (l.take i) c
 |0,_=>by simp[oz,lst]
 |i+1,h=>by
  rw[oz,l6 (by omega),Hl,Qv i (by omega),Wn (show i<l.length by omega)];show _=match(if l[i].1=c then some l[i].2 else none)with|some v=>some v|none=>_
  grind
theorem vW{l:List Rw}(h:aZ l)(a:l.length<=300):ed l=true:=by
 unfold ed;rw[Xj]
 grind [decide_eq_true,GV]
theorem AE{l:List Rw}{c:Int}(h:aZ l)(a:l.length<=300):bm l c=lst l c:=by
 unfold bm;rw[Wb (vW h a),Qv _ (Xl _),gt]
theorem Bp{c v:Int}:∀{l:List Rw},lst l c=some v->(c,v)∈l
 | [],h=>by cases h
 |r::l,h=>by
  rw[lst]at h;cases hl:lst l c with
  |some w=>rw[hl]at h;cases h;exact Xf _ (Bp hl)
  |none=>
   grind
theorem Ee{b:List En}{c:Int}{r:Nat×En}(h:ent b c=some r):r.2∈b/\r.2.1=c:=by
 obtain⟨a,d,e,f⟩:=kT h
 grind
theorem Mw{b:List En}{c:Int}(h:ent b c=none):∀e∈b,e.1≠c:=λe a=>by
 have:=A9 h e a;simp_all
theorem Er{c:Int}{e:En}:∀{ε:List Rw} {b:List En},Ris cfE b->ε.Pairwise (λa b=>a.1<b.1)->
  (e∈iG c b ε↔(∃r∈ε,e=(r.1,r.2,c))\/(e∈b/\∀r∈ε,r.1≠e.1))
 | [],b,_,_=>by unfold iG;simp
 |r::ε,b,h,hr=>by
  obtain⟨l,j⟩:=bq.1 hr;have:=Er (c:=c) (e:=e) (ε:=ε) (b:=eR cfE b (r.1,r.2,c)) (n7 qz h) j;unfold iG at this⊢;rw[cP,this,kF qz h];constructor
  .rintro(⟨i,d,f⟩|⟨d|⟨d,f⟩,k⟩)
   .simp_all
   .simp_all
   .refine .inr ⟨d,λi g=>?_⟩;rcases Xs.1 g with rfl|g
    .grind [apE]
    grind
  .rintro(⟨i,d,f⟩|⟨d,f⟩)
   .grind
   grind [Xf,apE,Xg]
def ip(f:Fm)(k:Int):List Rw:=(f.π.getD k.toNat {}).ι
def WJ(f:Fm)(n:Nat):List Rw:=f.start++((f.υ.take n).map (ip f)).flatten
theorem Gz{f f':Fm}{n:Nat}(b:f'.start=f.start)(a:f'.υ.take n=f.υ.take n)(c:∀k∈f.υ,ip f' k=ip f k):WJ f' n=WJ f n:=by
 grind [WJ,xS,jO]
def SN(M:Int->Int->Prop)(f:Fm)(x:Kd):Prop:=∀e∈x.C1,
 (e.2.2= -1/\lst (WJ f x.C5.toNat) e.1=none/\M e.1 e.2.1)\/
 (0<=e.2.2/\e.2.2<=x.C5/\lst (WJ f e.2.2.toNat) e.1=some e.2.1/\lst (WJ f x.C5.toNat) e.1=some e.2.1)
structure FT(M:Int->Int->Prop)(f:Fm):Prop where
 buf:∀e∈f.buf,∀n:Nat,e.2.2<=(n:Int)->n<=f.υ.length->lst (WJ f n) e.1=some e.2.1
 non:∀c:Int,0<=c->c<=7->(∀e∈f.buf,e.1≠c)->∀n:Nat,n<=f.υ.length->lst (WJ f n) c=none
 sn:∀(k:Nat) (h:k<f.π.length),SN M f f.π[k]
 nod:f.υ.Nodup
 ord:∀k∈f.υ,0<=k/\∃h:k.toNat<f.π.length,f.π[k.toNat].ζ=3
theorem FT.wk{M d:Int->Int->Prop}{f:Fm}(h:FT M f)(g:∀c v,M c v->d c v):FT d f:=
 ⟨h.buf,h.non,λk j e i=>(h.sn k j e i).imp (λ⟨a,b,c⟩=>⟨a,b,g _ _ c⟩) id,h.nod,h.ord⟩
section
variable{M:Int->Int->Prop}{N:Nat}{codes:List (List Opn)}{n:Int}{f:Fm}{k:Nat}{θ:List Opn}{m:Mm}{x y:Kd}
theorem oN(a:k<f.π.length):f.π.getD k {}=f.π[k]:=by simp_all
theorem FT.put(h:FT M f)(D:k<f.π.length)(F:f.π[k].ζ≠3){g:Fm}(t:g.start=f.start)(i:g.υ=f.υ)(B:g.buf=f.buf)(s:g.π=f.π.set k y)(v:SN M f y):FT M g:=by
 have u:∀j∈f.υ,ip g j=ip f j:=λj b=>by
  obtain⟨w,x,z⟩:=h.ord j b;unfold ip;have l:k≠j.toNat:=λe=>by simp_all
  rw[s,Xq,Xq,kD l]
 have d:∀n,WJ g n=WJ f n:=λn=>Gz t (by rw[i]) u;refine⟨λe a n r A=>?_,λc o p C n E=>?_,λj b e a=>?_,by rw[i];exact h.nod,λj b=>?_⟩
 .rw[d];exact h.buf e (by simp_all) n r (by simp_all)
 .rw[d];exact h.non c o p (by grind) n (by simp_all)
 .rw[d,d];have m:j<f.π.length:=by grind
  have q:g.π[j]=if k=j then y else f.π[j]:=by grind
  rw[q]at a⊢;split at a
  .rename_i e1;rw[Wb e1];exact v e a
  .rename_i e1;rw[Wa e1];exact h.sn j m e a
 .rw[i]at b;obtain⟨w,x,z⟩:=h.ord j b
  grind
theorem SN.nil(h:x.C1= []):SN M f x:=λe a=>by simp_all
theorem SN.same(h:SN M f x)(c:y.C1=x.C1)(a:y.C5=x.C5):SN M f y:=λe b=>by rw[a];exact h e (by simp_all)
theorem SN.snoc(h:SN M f x){e:En}(c:y.C1=x.C1++ [e])(b:y.C5=x.C5)(d:(e.2.2= -1/\lst (WJ f x.C5.toNat) e.1=none/\M e.1 e.2.1)\/(0<=e.2.2/\e.2.2<=x.C5/\lst (WJ f e.2.2.toNat) e.1=some e.2.1/\lst (WJ f x.C5.toNat) e.1=some e.2.1)):SN M f y:=λz a=>by
 rw[c]at a;rw[b];rcases Xn.1 a with a|a
 .exact h z a
 simp_all
def RdM(M:Int->Int->Prop)(m:Mm)(rv:Int)(x:Kd)(c:Int):Prop:=(W7 m rv (if x.C3 then x.pb else(c,0,0,0))).2.1=3->M c (W7 m rv (if x.C3 then x.pb else(c,0,0,0))).2.2.2
theorem Wv3(h:FT M f)(c:FOk codes n f)(i:k<f.π.length)(l:f.π[k]=x){o:Opn}(j:0<=o.2.2.1/\o.2.2.1<=7)(d:RdM M m f.rv x o.2.2.1):SN M f (c5 m f x o).2:=by
 unfold RdM at d;have a:SN M f x:=l▸h.sn k i;have g:=c.kid k i;rw[l]at g;have s:=c.C2;have q:=g.C5;unfold c5;cases hl:bm x.ι o.2.2.1 with
 |some v=>exact a.same rfl rfl
 |none=>
  cases he:ent f.buf o.2.2.1 with
  |some r=>
   simp only;split
   .exact SN.nil rfl
   .rename_i hv;obtain⟨b,t⟩:=Ee he;have p:=c.bufE _ b;refine a.snoc (e:=r.2) rfl rfl (.inr ⟨p.2.2.1,by omega,?_,?_⟩)
    .exact h.buf _ b _ (by omega) (by omega)
    .exact h.buf _ b _ (by omega) (by omega)
  |none=>
   simp only;generalize W7 m f.rv (if x.C3 then x.pb else(o.2.2.1,0,0,0))=u at d;split
   .exact a.same rfl rfl
   .split
    .rename_i h3;exact a.snoc (e:=(o.2.2.1,_,-1)) rfl rfl (.inl ⟨rfl,h.non _ j.1 j.2 (Mw he) _ (by omega),d h3⟩)
    .exact a.same rfl rfl
theorem WuN(a:SN M f x):SN M f (oo x θ):=by
 unfold oo;split
 .exact a.same rfl rfl
 .exact a.same rfl rfl
theorem Wsn(h:FT M f)(i:FOk codes n f)(C:k<f.π.length)(E:f.π[k]=x)(W:x.ζ=2)(bU:θ.length<=24)(O:codes.getD k []=θ):FT M (Fm.put (dX f x k) k):=by
 have m:=i.kid k C;rw[E,O]at m;have bN:=i.C2;have jj:x.ι.length<=300:=by have:=m.wl;have:=m.pc;omega
 have kW:∀c,bm x.ι c=lst x.ι c:=λc=>AE m.ε jj;have Z:(k:Int)∉f.υ:=λN=>by
  obtain⟨_,G,H⟩:=h.ord _ N;simp_all
 let g:=Fm.put (dX f x k) k
 have R:g.start=f.start:=rfl;have S:g.υ=f.υ++ [(k:Int)]:=rfl;have T:g.π=f.π.set k {x with ζ:=3,pos:=0,κ:=[]}:=rfl;have g4:g.buf=iG (f.C2+1) f.buf (al x.ι):=rfl;have hw:∀j∈f.υ,ip g j=ip f j:=λj u=>by
  obtain⟨j0,G,H⟩:=h.ord j u;unfold ip;have s:k≠j.toNat:=λe=>by simp_all
  rw[T,Xq,Xq,kD s]
 have hwk:ip g k=x.ι:=by
  grind [ip,Xi,oQ]
 have D:∀n,n<=f.υ.length->WJ g n=WJ f n:=λn p=>Gz R (by rw[S,N4 p]) hw;have I:WJ g (f.υ.length+1)=WJ f f.υ.length++x.ι:=by
  grind [WJ,mc,gt,XR,lB,xS]
 have B:=wW x.ι;have s:∀c,0<=c->c<=7->(∀r∈al x.ι,r.1≠c)->lst x.ι c=none:=λc U X l=>by
  cases hl:lst x.ι c with
  |none=>rfl
  |some v=>exact Wi rfl (l (c,v) (wg.2 ⟨⟨U,X⟩,by simp_all⟩))
 refine⟨λe o n V W=>?_,λc y A Y n p=>?_,λj u e o=>?_,?_,λj u=>?_⟩
 .have ln:n<=f.υ.length+1:=by grind
  show lst (WJ g n) e.1=_;have Q:e∈iG (f.C2+1) f.buf (al x.ι):=o;rcases(Er i.bufR B).1 Q with⟨r,w,rfl⟩|⟨t,l⟩
  .grind [Hl,wg]
  .by_cases p:n<=f.υ.length
   .rw[D n p];exact h.buf e t n V p
   .have:n=f.υ.length+1:=by omega
    subst this;have K:=i.bufE e t;rw[I,Hl,s e.1 K.1.1 K.1.2 l];exact h.buf e t _ (by omega) (Xl _)
 .have ln:n<=f.υ.length+1:=by grind
  show lst (WJ g n) c=_;have F:∀e∈iG (f.C2+1) f.buf (al x.ι),e.1≠c:=Y;have l:∀r∈al x.ι,r.1≠c:=λr w=>F _ ((Er (e:=(r.1,r.2,f.C2+1)) i.bufR B).2 (.inl ⟨r,w,rfl⟩));have J:∀e∈f.buf,e.1≠c:=λe o q=>F e ((Er i.bufR B).2 (.inr ⟨o,λr w=>by grind⟩)) q;by_cases L:n<=f.υ.length
  .rw[D n L];exact h.non c y A J n L
  .have:n=f.υ.length+1:=by omega
   subst this;rw[I,Hl,s c y A l];exact h.non c y A J _ (Xl _)
 .have d:j<f.π.length:=by
   grind
  have P:(Fm.put (dX f x k) k).π[j]=if k=j then{x with ζ:=3,pos:=0,κ:=[]}else f.π[j]:=by
   grind
  have jl:SN M f ((Fm.put (dX f x k) k).π[j])/\((Fm.put (dX f x k) k).π[j]).C5<=f.C2:=by
   rw[P];split
   .exact⟨(E▸h.sn k C:SN M f x).same rfl rfl,m.C5.2⟩
   .exact⟨h.sn j d,(i.kid j d).C5.2⟩
  generalize (Fm.put (dX f x k) k).π[j]=z at*;show _\/(_/\_/\lst (WJ g e.2.2.toNat) _=_/\lst (WJ g z.C5.toNat) _=_);have uL:=jl.1 e o
  grind
 .show(f.υ++ [(k:Int)]).Nodup;rw[List.nodup_append];refine⟨h.nod,by simp,λa ha b t=>?_⟩
  grind
 .have d:j∈f.υ++ [(k:Int)]:=u;have aa:(Fm.put (dX f x k) k).π=f.π.set k {x with ζ:=3,pos:=0,κ:=[]}:=rfl;rcases Xn.1 d with d|d
  .obtain⟨j0,G,H⟩:=h.ord j d
   grind
  simp_all
theorem WvZ(h:FT M f)(p:FOk codes n f)(a:k<f.π.length)(r:KC θ)(q:codes.getD k []=θ)
  (t:f.π[k].ζ=0->f.π[k].pc<θ.length->(opN θ f.π[k].pc).1=5->RdM M m f.rv f.π[k] (opN θ f.π[k].pc).2.2.1):FT M (bJ m f k θ):=by
 unfold bJ;split
 .exact h
 .rw[oN a];obtain⟨x,d⟩:∃x,f.π[k]=x:=⟨_,rfl⟩;have c:SN M f x:=d▸h.sn k a;have s:=p.kid k a;rw[d]at t⊢;rw[d,q]at s;unfold cH;by_cases l:x.ζ=0
  .rw[Wb l];have b:f.π[k].ζ≠3:=by simp_all
   unfold dU;split
   .exact h.put a b rfl rfl rfl rfl (c.same rfl rfl)
   .rename_i j;have j:=Int.not_le.1 j;simp only;split
    .rename_i h5;have u:0<=(opN θ x.pc).2.2.1/\(opN θ x.pc).2.2.1<=7:=by
      obtain⟨i,v,y,z⟩:=kV s.pc.1 j;have:=(lz (r.ok i v).1 (by simp_all)).2
      grind [bY]
     have w:=Wv3 (o:=opN θ x.pc) h p a d u (t l (by omega) h5);have g:(c5 m f x (opN θ x.pc)).1.start=f.start/\(c5 m f x (opN θ x.pc)).1.υ=f.υ/\(c5 m f x (opN θ x.pc)).1.buf=f.buf/\(c5 m f x (opN θ x.pc)).1.π=f.π:=by
      unfold c5
      grind
     exact h.put a b g.1 g.2.1 g.2.2.1 (by show Xk (c5 ..).1.π _ _=_;rw[g.2.2.2]) w
    .split
     .exact h.put a b rfl rfl rfl rfl (WuN c)
     .repeat' split
      all_goals exact h.put a b rfl rfl rfl rfl (c.same rfl rfl)
  .rw[Wa l];split
   .have b:f.π[k].ζ≠3:=by simp_all
    split
    .exact h.put a b rfl rfl rfl rfl (c.same rfl rfl)
    .exact h.put a b rfl rfl rfl rfl (c.same rfl rfl)
   .split
    .rename_i h2;have b:f.π[k].ζ≠3:=by simp_all
     split
     .exact Wsn h p a d h2 r.len q
     .simp only;split
      .exact h.put a b rfl rfl rfl rfl (c.same rfl rfl)
      .exact h.put a b rfl rfl rfl rfl (SN.nil rfl)
    .have e:Fm.put (f,x) k=f:=by
      unfold Fm.put;simp only;rw[←d,jN a]
     simp_all
theorem EF{r:Rw}:∀{l:List Rw},l.Pairwise (λa b=>a.1<b.1)->r∈l->lst l r.1=some r.2
 | [],_,h=>by cases h
 |a::l,c,hm=>by
  obtain⟨d,e⟩:=bq.1 c;rw[lst];rcases Xs.1 hm with rfl|hm
  .cases hl:lst l r.1 with
   |some v=>have:=d _ (Bp hl);omega
   |none=>simp
  .rw[EF e hm]
theorem Rp{rv:Int}{ξ:List Int}{ι:List Rw}{π:Nat}:FT M (eO rv ξ ι π):=by
 have b:∀n,WJ (eO rv ξ ι π) n=al ι:=λn=>by
  simp[WJ,eO]
 have h:∀r∈al ι,lst (al ι) r.1=some r.2:=λr d=>EF (wW ι) d;refine⟨λe a n m o=>?_,λc i l f n s=>?_,λj q e a=>?_,List.nodup_nil,λk g=>by cases g⟩
 .rw[b];obtain⟨r,p,rfl⟩:=Xz.1 (show e∈(al ι).map λr=>((r.1,r.2,0):En)from a)
  grind
 .rw[b];cases hl:lst (al ι) c with
  |none=>rfl
  |some v=>exact Wi rfl (f (c,v,0) (Xz.2 ⟨(c,v),Bp hl,rfl⟩))
 grind [eO]
end
end
section
structure KCe(l:List Opn):Prop where
 len:l.length<=24
 up:Up l
 z:dep l l.length=0
 ok:∀i (h:i<l.length),ax l[i]=true/\1<=l[i].1/\l[i].1<=10
 sk:∀i (h:i<l.length),l[i].1=7->i+1+l[i].2.2.1.toNat<=l.length/\bal ((l.take (i+1+l[i].2.2.1.toNat)).drop (i+1))=true
theorem Www{o:Opn}(h:ax o=true)(e:12<=o.1):m4 o=2:=by
 have f:=ly h;have a:=FR (N:=0) (o:=o);unfold nI at a;rw[vQ,h]at a;simp only[ret,Xd,Xr,Wc]at a;have c:(o.1==5)=false:=by simp;omega
 have d:(o.1==6)=false:=by simp;omega
 rw[c,d]at a;simp only[Wc]at a;have:o.1=12\/o.1=13\/o.1=14\/o.1=15\/o.1=16:=by omega
 rcases this with b|b|b|b|b<;> · rw[b]at a;simpa using a.symm
theorem Vl{l:List Opn}(h:dz l=true):KCe l:=by
 unfold dz kt at h;simp only[Xj,Wg,Bool.not_eq_true']at h;obtain⟨⟨m,n,o⟩,p⟩:=h;obtain⟨f,g⟩:=HD.1 n;have a:∀i (hi:i<l.length),io l i l[i]=false:=λi hi=>by
  rw[nm];intro a;have:jp (io l) 0 l=true:=A3.2 ⟨i,hi,by rw[dj];exact a⟩;rw[o]at this;cases this
 have r:∀i (hi:i<l.length),mS l[i]=false:=λi hi=>by
  rw[nm];intro a;have:=List.any_eq_true.2 ⟨l[i],Xo hi,a⟩;rw[p]at this;cases this
 have e:∀i (hi:i<l.length),ax l[i]=true:=λi hi=>by
  have:=a i hi;unfold io at this;simp only[uu,B4]at this;exact this.1.1
 refine⟨m,f,g,λi hi=>?_,λi hi q=>?_⟩
 .have c:=e i hi;have b:=r i hi;unfold mS at b;simp only[uu]at b;have s:=ly c;refine⟨c,s.1,?_⟩;by_cases j:l[i].1<=10
  .exact j
  .exfalso;by_cases k:l[i].1=11
   .simp[k]at b
   .have:=Www c (by omega);rw[this]at b;simp at b
 .have:=a i hi;unfold io at this;simp only[uu,B4]at this;have d:=this.1.2;rw[q]at d;have:qg l i l[i]=true:=by simpa using d
  unfold qg at this;simpa using this
noncomputable def mt(l:List Opn)(m:Nat):Nat:=@dite _ (∃k,Mate l m k) (Classical.propDecidable _) (λh=>Classical.choose h) λ_=>0
theorem WyR{l:List Opn}{m k:Nat}(h:Mate l m k):Mate l m (mt l m):=by
 have a:∃k,Mate l m k:=⟨k,h⟩;unfold mt;rw[dif_pos a];exact Classical.choose_spec a
theorem Mate.uniq{l:List Opn}{m k k':Nat}(h:Mate l m k)(b:Mate l m k'):k=k':=by
 rcases BV k k' with a|a|a
 .exact Wi h.eq (b.ne k (by have:=h.lt;omega) a)
 .exact a
 .exact Wi b.eq (h.ne k' (by have:=b.lt;omega) a)
theorem ZH{l:List Opn}{m k:Nat}(h:Mate l m k):mt l m=k:=(WyR h).uniq h
abbrev Mk:=Int×Int×List Int
structure KS where
 ξ:List Int
 ω:List Int
 log:List Rw
 back:Int
 κ:List Mk
 μ:List Int
def zMk:Mk:=(0,0,[])
def lA(s:KS):Mk:=s.κ.getD (s.κ.length-1) zMk
def tB(l:List Opn)(i:Nat):Opn:=l.getD i (0,0,0,0)
noncomputable def ld(l:List Opn)(pc:Nat)(s:KS)(o:Opn):Bool×Nat×KS:=
 bif o.1==5 then(true,pc+1,{s with ξ:=s.ξ.set o.2.1.toNat (s.ω.getD o.2.2.1.toNat 0),μ:=bif s.log.any (λr=>r.1==o.2.2.1)then s.μ else s.μ++ [o.2.2.1]})else
 bif o.1==6 then(true,pc+1,{s with ω:=s.ω.set o.2.1.toNat (s.ξ.getD o.2.2.1.toNat 0),log:=s.log++ [(o.2.1,s.ω.getD o.2.1.toNat 0)]})else
 bif o.1==7 then(true,bif s.ξ.getD o.2.1.toNat 0==0 then pc+1+o.2.2.1.toNat else pc+1,s)else
 bif o.1==8 then(true,pc+1,{s with κ:=s.κ++ [((pc:Int),(s.log.length:Int),s.ξ)]})else
 bif o.1==9 then(true,pc+1,{s with κ:=s.κ.take (s.κ.length-1),ξ:=s.ξ.set (tB l (lA s).1.toNat).2.1.toNat 1})else
 bif o.1==10 then
  (bif s.κ.isEmpty then(false,pc,{s with ω:=dV s.ω s.log,log:=[],back:=s.back+s.log.length})
  else(true,mt l (lA s).1.toNat+1,{s with ω:=dV s.ω (s.log.drop (lA s).2.1.toNat),log:=s.log.take (lA s).2.1.toNat,back:=s.back+s.log.length-(lA s).2.1,κ:=s.κ.take (s.κ.length-1),ξ:=(lA s).2.2.set (tB l (lA s).1.toNat).2.1.toNat 0}))
 else(true,pc+1,{s with ξ:=lh o s.ξ})
noncomputable def dy(l:List Opn)(pc:Nat)(s:KS):Bool×Nat×KS:=ld l pc s (tB l pc)
structure KI(l:List Opn)(pc:Nat)(s:KS):Prop where
 pcl:pc<=l.length
 rg:Vals 4 s.ξ
 cl:Vals 8 s.ω
 lg:aZ s.log/\s.log.length<=pc
 mp:s.κ.map (·.1)=(stk l pc).map λm:Nat=>(m:Int)
 mr:∀m∈s.κ,Vals 4 m.2.2/\0<=m.2.1/\m.2.1<=s.log.length
 mo:s.κ.Pairwise λa b=>a.2.1<=b.2.1
 bk:0<=s.back/\s.back<=24*pc
 rd:s.μ.length<=pc/\∀x∈s.μ,0<=x/\x<=7
theorem rP{l:List Opn}{i:Nat}(h:i<l.length):tB l i=l[i]:=Wn h _
section
variable{l:List Opn}{pc:Nat}{s:KS}
theorem Ei(f:KCe l)(h:KI l pc s)(j:s.κ≠ []):∃(m:Nat) (q:List Mk) (x:Mk),s.κ=q++ [x]/\lA s=x/\x.1=(m:Int)/\(∃a:m<l.length,l[m].1=8)/\Mate l m (mt l m)/\pc<=mt l m/\stk l m=(stk l pc).dropLast/\q.map (·.1)=(stk l m).map λm:Nat=>(m:Int):=by
 rcases pH s.κ with d|⟨q,x,e⟩
 .exact Wi d j
 .have a:=h.mp;rw[e,Xw,bK,cV]at a;rcases pH (stk l pc)with d|⟨t,m,b⟩
  .rw[d]at a;simp at a
  .rw[b,Xw,bK,cV]at a;obtain⟨n,c⟩:=List.append_inj' a rfl;injection c with c;obtain⟨k,r,g,i⟩:=Uq f.up f.z h.pcl b;have p:=ZH g;obtain⟨_,o,_,_⟩:=Hb pc h.pcl t [] m b;refine⟨m,q,x,e,?_,c,o,by rw[p];exact g,by omega,by rw[b,E8];exact i,by rw[i];exact n⟩;unfold lA;rw[e];simp
theorem Ec(j:KCe l)(h:KI l pc s)(c:pc<l.length):
  ((dy l pc s).1=true->pc<(dy l pc s).2.1/\KI l (dy l pc s).2.1 (dy l pc s).2.2)/\
  ((dy l pc s).1=false->(dy l pc s).2.2.log= []/\Vals 8 (dy l pc s).2.2.ω/\Vals 4 (dy l pc s).2.2.ξ/\(dy l pc s).2.2.μ.length<=24/\∀x∈(dy l pc s).2.2.μ,0<=x/\x<=7):=by
 obtain⟨k,K,Y⟩:=j.ok pc c;have w:=rP c;have V:=j.len;unfold dy;rw[w];unfold ld;by_cases z:l[pc].1=5
 .have b:(l[pc].1==5)=true:=by simp[z]
  obtain⟨p,t⟩:=lz k z;have v:0<=l[pc].2.2.1/\l[pc].2.2.1<=7:=by unfold bY at t;simpa using t
  simp only[b,We];refine⟨λ_=>⟨by omega,⟨c,h.rg.set _ (h.cl.get _),h.cl,⟨h.lg.1,by have:=h.lg.2;simp only[];omega⟩,by simp only[];rw[gO c (by omega) (by omega)];exact h.mp,h.mr,h.mo,⟨h.bk.1,by have:=h.bk.2;simp only[];omega⟩,?_⟩⟩,λh=>by simp at h⟩;have e:=h.rd;simp only[];cases s.log.any λr=>r.1==l[pc].2.2.1
  .simp only[Wc,Xx,Xu,jQ];refine⟨by omega,λx f=>?_⟩;rcases Xn.1 f with f|f
   .exact e.2 x f
   .have:x=l[pc].2.2.1:=by simpa using f
    rw[this];exact v
  .exact⟨by simp only[We];omega,e.2⟩
 .have b5:(l[pc].1==5)=false:=by simp[z]
  rw[b5];by_cases A:l[pc].1=6
  .have b:(l[pc].1==6)=true:=by simp[A]
   obtain⟨p,t⟩:=xM k A;have v:0<=l[pc].2.1/\l[pc].2.1<=7:=by unfold bY at p;simpa using p
   simp only[b,We,Wc];refine⟨λ_=>⟨by omega,⟨c,h.rg,h.cl.set _ (h.rg.get _),⟨λr e=>?_,?_⟩,by simp only[];rw[gO c (by omega) (by omega)];exact h.mp,λm d=>?_,h.mo,⟨h.bk.1,by have:=h.bk.2;simp only[];omega⟩,⟨by have:=h.rd.1;simp only[];omega,h.rd.2⟩⟩⟩,λh=>by simp at h⟩
   .rcases Xn.1 e with e|e
    .exact h.lg.1 r e
    .have:r=(l[pc].2.1,s.ω.getD l[pc].2.1.toNat 0):=by simpa using e
     rw[this];exact⟨v,h.cl.get _⟩
   .have:=h.lg.2;simp only[Xx,Xu,jQ];omega
   .have:=h.mr m d;refine⟨this.1,this.2.1,?_⟩;simp only[Xx,Xu,jQ];omega
  .have b6:(l[pc].1==6)=false:=by simp[A]
   rw[b6];by_cases o:l[pc].1=7
   .have b:(l[pc].1==7)=true:=by simp[o]
    obtain⟨p,t,o3⟩:=qx k o;obtain⟨F,N⟩:=j.sk pc c o;simp only[b,We,Wc];refine⟨λ_=>?_,λh=>by simp at h⟩;have E:stk l (pc+1)=stk l pc:=gO c (by omega) (by omega);cases s.ξ.getD l[pc].2.1.toNat 0==0
    .simp only[Wc];exact⟨by omega,⟨c,h.rg,h.cl,⟨h.lg.1,by have:=h.lg.2;omega⟩,by rw[E];exact h.mp,h.mr,h.mo,⟨h.bk.1,by have:=h.bk.2;omega⟩,⟨by have:=h.rd.1;omega,h.rd.2⟩⟩⟩
    .simp only[We];exact⟨by omega,⟨F,h.rg,h.cl,⟨h.lg.1,by have:=h.lg.2;omega⟩,by rw[Mi (by omega) F N,E];exact h.mp,h.mr,h.mo,⟨h.bk.1,by have:=h.bk.2;omega⟩,⟨by have:=h.rd.1;omega,h.rd.2⟩⟩⟩
   .have b7:(l[pc].1==7)=false:=by simp[o]
    rw[b7];by_cases B:l[pc].1=8
    .have b:(l[pc].1==8)=true:=by simp[B]
     simp only[b,We,Wc];refine⟨λ_=>⟨by omega,⟨c,h.rg,h.cl,⟨h.lg.1,by have:=h.lg.2;simp only[];omega⟩,?_,λm d=>?_,?_,⟨h.bk.1,by have:=h.bk.2;simp only[];omega⟩,⟨by have:=h.rd.1;simp only[];omega,h.rd.2⟩⟩⟩,λh=>by simp at h⟩
     .simp only[Xw,bK,cV,h.mp,oJ c B]
     .rcases Xn.1 d with d|d
      .exact h.mr m d
      .have:m=((pc:Int),(s.log.length:Int),s.ξ):=by simpa using d
       rw[this];exact⟨h.rg,by simp only[];omega,by simp only[];omega⟩
     .refine dx.2 ⟨h.mo,List.pairwise_singleton ..,λa w b I=>?_⟩;have:b=((pc:Int),(s.log.length:Int),s.ξ):=by simpa using I
      rw[this];exact(h.mr a w).2.2
    .have b8:(l[pc].1==8)=false:=by simp[B]
     rw[b8];by_cases C:l[pc].1=9
     .have b:(l[pc].1==9)=true:=by simp[C]
      simp only[b,We,Wc];have H:∀m,m∈s.κ.take (s.κ.length-1)->m∈s.κ:=λm d=>jO d;refine⟨λ_=>⟨by omega,⟨c,h.rg.set _ (by omega),h.cl,⟨h.lg.1,by have:=h.lg.2;simp only[];omega⟩,?_,λm d=>h.mr m (H m d),h.mo.sublist (List.take_sublist _ _),⟨h.bk.1,by have:=h.bk.2;simp only[];omega⟩,⟨by have:=h.rd.1;simp only[];omega,h.rd.2⟩⟩⟩,λh=>by simp at h⟩;simp only[];rw[qu c C,List.map_take,h.mp,←List.map_take];congr 1;have:s.κ.length=(stk l pc).length:=by have:=Wp Xb h.mp;simpa using this
      rw[this,uv]
     .have b9:(l[pc].1==9)=false:=by simp[C]
      rw[b9];by_cases i:l[pc].1=10
      .have b:(l[pc].1==10)=true:=by simp[i]
       simp only[b,We,Wc];by_cases u:s.κ= []
       .have:s.κ.isEmpty=true:=by rw[u];rfl
        rw[this];refine⟨λh=>by simp at h,λ_=>⟨rfl,HC h.cl h.lg.1,h.rg,by have:=h.rd.1;simp only[We];omega,h.rd.2⟩⟩
       .have:s.κ.isEmpty=false:=by cases d:s.κ with|nil=>exact Wi d u|cons a b=>rfl
        rw[this];obtain⟨m,q,x,g,J,f,⟨d,X⟩,D,W,U,L⟩:=Ei j h u;have O:x∈s.κ:=by rw[g];simp
        obtain⟨P,x2,x3⟩:=h.mr x O;have G:∀y∈q,y.2.1<=x.2.1:=by
         have:=h.mo;rw[g]at this
         exactλy n=>(dx.1 this).2.2 y n x (by simp)
        have M:s.κ.take (s.κ.length-1)=q:=by rw[g];simp
        simp only[Wc,J,f,M,Xi];have S:((s.log.take x.2.1.toNat).length:Int)=x.2.1:=by rw[di];omega
        have Z:=h.bk;have T:=h.lg.2;refine⟨λ_=>⟨by omega,⟨D.len,P.set _ (by omega),HC h.cl λr e=>h.lg.1 r (E9 e),⟨λr e=>h.lg.1 r (jO e),?_⟩,?_,λy n=>?_,?_,⟨by simp only[];omega,by simp only[];omega⟩,⟨by have:=h.rd.1;simp only[];omega,h.rd.2⟩⟩⟩,λh=>by simp at h⟩
        .simp only[];rw[di];omega
        .simp only[];rw[L,D.st]
        .obtain⟨Q,R,y3⟩:=h.mr y (by rw[g];simp[n]);exact⟨Q,R,by rw[S];exact G y n⟩
        .have:=h.mo;rw[g]at this;exact(dx.1 this).1
      .have bj:(l[pc].1==10)=false:=by simp[i]
       rw[bj];simp only[Wc];exact⟨λ_=>⟨by omega,⟨c,G4 k K (by omega) h.rg,h.cl,⟨h.lg.1,by have:=h.lg.2;simp only[];omega⟩,by simp only[];rw[gO c (by omega) (by omega)];exact h.mp,h.mr,h.mo,⟨h.bk.1,by have:=h.bk.2;simp only[];omega⟩,⟨by have:=h.rd.1;simp only[];omega,h.rd.2⟩⟩⟩,λh=>by simp at h⟩
end
noncomputable def b1(l:List Opn):Nat->Nat->KS->Bool×KS
 |0,_,s=>(false,s)
 |n+1,pc,s=>bif decide (pc<l.length)then(bif (dy l pc s).1 then b1 l n (dy l pc s).2.1 (dy l pc s).2.2 else(true,(dy l pc s).2.2))else(false,s)
theorem G8{α:Type}{q:List α}{x:α}(h:q.length<1000):W3 .i64 (Wh (q++ [x])) 1=(q.length:Int):=by
 rw[dZ (by unfold I64 Wh;rw[Xx];simp;omega)];unfold Wh;rw[Xx];simp
theorem Hc{α:Type}{q:List α}{x:α}:inb (q.length:Int) (q++ [x]).length=true:=by rw[dc];simp
theorem GZ{α:Type}{q:List α}{x d:α}:Xc (q++ [x]) q.length d=x:=by simp
theorem AH{α:Type}{q:List α}{x:α}:aI q.length (q++ [x])=q:=by simp
theorem Hg{α:Type}{q:List α}{x:α}:((decide ((0:Int)<=(q.length:Int)))&&(decide ((q.length:Int)<=((Xb (q++ [x])):Int))))=true:=by rw[Xx];simp;omega
theorem Tn{l:List Opn}{m:Nat}:Xc l m ((0:Int),((0:Int),((0:Int),(0:Int))))=tB l m:=rfl
theorem RY{l:List Opn}(g:KCe l):∀(n pc:Nat) (s:KS),KI l pc s->Vals 4 (b1 l n pc s).2.ξ/\Vals 8 (b1 l n pc s).2.ω/\aZ (b1 l n pc s).2.log/\(b1 l n pc s).2.log.length<=24/\((b1 l n pc s).1=true->(b1 l n pc s).2.log= [])/\
  (b1 l n pc s).2.μ.length<=24/\∀x∈(b1 l n pc s).2.μ,0<=x/\x<=7
 |0,pc,s,h=>by
  have:=h.pcl;have:=g.len;have:=h.lg.2;have:=h.rd.1;exact⟨h.rg,h.cl,h.lg.1,by simp only[b1];omega,λh=>by simp[b1]at h,by simp only[b1];omega,h.rd.2⟩
 |n+1,pc,s,h=>by
  have o:=g.len;have p:=h.pcl;have q:=h.lg.2;have t:=h.rd.1;rw[b1];by_cases i:pc<l.length
  .have e:decide (pc<l.length)=true:=by simpa using i
   obtain⟨k,m⟩:=Ec g h i;rw[e];cases hb:(dy l pc s).1
   .obtain⟨a,b,c,d,f⟩:=m hb;simp only[We,Wc];exact⟨c,b,by rw[a];exactλr j=>by simp at j,by rw[a];simp,λ_=>a,d,f⟩
   .simp only[We];exact RY g n _ _ (k hb).2
  .have e:decide (pc<l.length)=false:=by simpa using i
   rw[e];exact⟨h.rg,h.cl,h.lg.1,by simp only[Wc];omega,λh=>by simp at h,by simp only[Wc];omega,h.rd.2⟩
def ks0(ξ ω:List Int):KS:=⟨ξ,ω,[],0,[],[]⟩
theorem M3{l:List Opn}{ξ ω:List Int}(b:Vals 4 ξ)(a:Vals 8 ω):KI l 0 (ks0 ξ ω) where
 pcl:=Nat.zero_le _
 rg:=b
 cl:=a
 lg:=⟨λr h=>by simp[ks0]at h,by simp[ks0]⟩
 mp:=by simp[ks0,stk]
 mr:=λm h=>by simp[ks0]at h
 mo:=List.Pairwise.nil
 bk:=by simp[ks0]
 rd:=⟨by simp[ks0],λx h=>by simp[ks0]at h⟩
abbrev Egr:=Int×List Int×List Int×List Rw×Int
noncomputable def sA(l:List Opn)(ξ ω:List Int):Egr:=
 bif dz l&&(jL ξ&&la ω)then
  (λf:Bool×KS=>(bif f.1 then 2 else 1,f.2.ξ,f.2.ω,f.2.log,f.2.back)) (b1 l (l.length+1) 0 (ks0 ξ ω))
 else(0,[],[],[],0)
theorem QS{l:List Opn}(c:KCe l):∀(n k pc:Nat) (s:KS),KI l pc s->l.length-pc<n->b1 l (n+k) pc s=b1 l n pc s
 |0,k,pc,s,h,hn=>by omega
 |n+1,k,pc,s,h,hn=>by
  rw[show n+1+k=(n+k)+1 by omega,b1,b1];by_cases d:pc<l.length
  .obtain⟨f,g⟩:=Ec c h d;cases hb:(dy l pc s).1
   .rfl
   .obtain⟨a,b⟩:=f hb;rw[QS c n k _ _ b (by omega)]
  .have e:decide (pc<l.length)=false:=by simpa using d
   rw[e];rfl
section
variable{N:Nat}{l:List Opn}{ξ ω:List Int}
theorem VM(a:KCe l){s:KS}(h:KI l 0 s)(c:1048576<N):b1 l N 0 s=b1 l (l.length+1) 0 s:=by
 have:=a.len;obtain⟨k,b⟩:∃k,N=l.length+1+k:=⟨N-(l.length+1),by omega⟩;rw[b];exact QS a _ _ _ _ h (by omega)
end
theorem QD{α:Type}(a:Option α):dg a a=a:=by unfold dg;rw[Wb rfl]
theorem WpC(c:List Int)(a b:List Rw):dV c (a++b)=dV (dV c b) a:=by unfold dV;rw[List.foldr_append]
theorem Wwe{c:List Int}{a:Nat}{v:Int}:(c.set a v).set a (c.getD a 0)=c:=by
 rw[nv];by_cases h:a<c.length
 .rw[Wn h];exact jN h
 .rw[List.set_eq_of_length_le (by omega)]
theorem LI{c:List Int}{log:List Rw}{a v:Int}{n:Nat}(h:n<=log.length):dV (c.set a.toNat v) ((log++ [(a,c.getD a.toNat 0)]).drop n)=dV c (log.drop n):=by
 rw[E6 h,WuE];simp only[];rw[Wwe]
theorem Sp{c:List Int}{log:List Rw}{n k:Nat}(h:n<=k)(a:k<=log.length):dV (dV c (log.drop k)) ((log.take k).drop n)=dV c (log.drop n):=by
 rw[←WpC];congr 1;rw[←E6 (by rw[di];omega),List.take_append_drop]
def cmk(mp:List Int)(ct:Int)(s:KS)(m:Mk):Int×List Int×List Int×List Int×Int:=(m.1,(m.2.2,(dV s.ω (s.log.drop m.2.1.toNat),(mp,ct))))
theorem Wsw{l:List Opn}{pc:Nat}{s:KS}(e:KCe l)(h:KI l pc s)(f:pc<l.length):dV (dy l pc s).2.2.ω (dy l pc s).2.2.log=dV s.ω s.log:=by
 have d:=rP f;unfold dy;rw[d];unfold ld;cases l[pc].1==5
 .cases l[pc].1==6
  .cases l[pc].1==7
   .cases l[pc].1==8
    .cases l[pc].1==9
     .cases l[pc].1==10
      .rfl
      .by_cases aH:s.κ= []
       .have:s.κ.isEmpty=true:=by rw[aH];rfl
        rw[this];rfl
       .have:s.κ.isEmpty=false:=by cases hm:s.κ with|nil=>exact Wi hm aH|cons a b=>rfl
        rw[this];obtain⟨m,q,x,g,i,j,_⟩:=Ei e h aH;obtain⟨o,p,r⟩:=h.mr x (by rw[g];simp);simp only[We,Wc,i];have:=Sp (c:=s.ω) (log:=s.log) (n:=0) (k:=x.2.1.toNat) (by omega) (by omega);simpa using this
     .rfl
    .rfl
   .rfl
  .have:=LI (c:=s.ω) (log:=s.log) (a:=l[pc].2.1) (v:=s.ξ.getD l[pc].2.2.1.toNat 0) (n:=0) (by omega);simp only[We,Wc];simpa using this
 .rfl
theorem SW{l:List Opn}(b:KCe l):∀(n pc:Nat) (s:KS),KI l pc s->dV (b1 l n pc s).2.ω (b1 l n pc s).2.log=dV s.ω s.log
 |0,pc,s,h=>rfl
 |n+1,pc,s,h=>by
  rw[b1];by_cases a:pc<l.length
  .have e:decide (pc<l.length)=true:=by simpa using a
   have c:=Wsw b h a;rw[e];cases hb:(dy l pc s).1
   .exact c
   .simp only[We];rw[SW b n _ _ ((Ec b h a).1 hb).2,c]
  .have e:decide (pc<l.length)=false:=by simpa using a
   rw[e];rfl
theorem rq{N:Nat}{c mp:List Int}{ct:Int}(d:c.length<=1000)(e:mp.length<=1000):pt N (c,(mp,ct))=ret (c,(mp,ct)):=by
 unfold pt;have a:WC (([]:List Int).length+c.length)=true:=Ww (by simp;omega);have b:WC (([]:List Int).length+mp.length)=true:=Ww (by simp;omega);simp only[a,b,We,QD];rfl
section
variable{N:Nat}{l:List Opn}{R:Type}
theorem TP(L:1048576<N)(j:KCe l){rec:List Opn->List (List Opn)->List Int->List Int->Kh->Option Kz}{π:List (List Opn)}{υ:List Int}
  {mp:List Int} {ct az:Int} {aP aA:List Int} (T:mp.length<=1000) (K0:List Int->Option R) (K1:List Int->Int->List Int->List Int->Option R):
  ∀(n pc:Nat) (s:KS),KI l pc s->l.length-pc<n->Zd N rec l π υ az aP aA K0 (λ_ _ r b _ c m=>K1 r b c m) n (pc:Int) s.ξ ct (s.κ.map (cmk mp ct s)) s.ω mp=
   (λf:Bool×KS=>bif f.1 then K0 f.2.ξ else K1 f.2.ξ ct f.2.ω mp) (b1 l n pc s)
 |0,pc,s,h,hn=>by omega
 |n+1,pc,s,h,hn=>by
  have aa:=j.len;have Y:=h.pcl;by_cases p:pc<l.length
  .have m5:=Ec j h p;have ih:=TP L j (rec:=rec) (π:=π) (υ:=υ) (mp:=mp) (ct:=ct) (az:=az) (aP:=aP) (aA:=aA) T K0 K1 n;have g:∀dq o,dy l pc s=(true,dq,o)->Zd N rec l π υ az aP aA K0 (λ_ _ r b _ c m=>K1 r b c m) n (dq:Int) o.ξ ct (o.κ.map (cmk mp ct o)) o.ω mp=(λf:Bool×KS=>bif f.1 then K0 f.2.ξ else K1 f.2.ξ ct f.2.ω mp) (b1 l (n+1) pc s):=λdq o t=>by
    rw[t]at m5;obtain⟨h1,h2⟩:=m5.1 rfl;rw[ih dq o h2 (by simp only[]at h1;omega),b1,t];simp[p]
   have d:∀dq o,dy l pc s=(false,dq,o)->K0 o.ξ=(λf:Bool×KS=>bif f.1 then K0 f.2.ξ else K1 f.2.ξ ct f.2.ω mp) (b1 l (n+1) pc s):=λdq o t=>by
    rw[b1,t];simp[p]
   obtain⟨F,k1,k2⟩:=j.ok pc p;have ha:=rP p;have Aj:=h.lg;have G:s.κ.length<=24:=by
    have C:=Wp Xb h.mp;simp only[Xy]at C;have K:=fh j.up pc Y;have:=gJ l pc;omega
   have r0:WC (([]:List Int).length+s.ξ.length)=true:=Ww (by rw[h.rg.len];simp);have X:∀x:List Int,Xe ([]:List Int) x=x:=λx=>rfl;simp only[Zd,WQ p,Ws p,Wu p,We,Wk (show pc<4611686018427387904 by omega)];unfold dy at g d;rw[ha]at g d;unfold ld at g d;by_cases O:l[pc].1=5
   .have b:(l[pc].1==5)=true:=by simp[O]
    obtain⟨B,H⟩:=lz F O;rw[b]at g;simp only[b,We,GX H h.cl.len,W2 B h.rg.len];exact g _ _ rfl
   .have b5:(l[pc].1==5)=false:=by simp[O]
    rw[b5]at g d;by_cases P:l[pc].1=6
    .have b:(l[pc].1==6)=true:=by simp[P]
     obtain⟨B,H⟩:=xM F P;rw[b]at g;simp only[b5,b,We,Wc,GX B h.cl.len,W2 H h.rg.len];refine Eq.trans ?_ (g _ _ rfl);congr 1;apply xS;intro m i;unfold cmk;simp only[];rw[LI (by have:=h.mr m i;omega)]
    .have b6:(l[pc].1==6)=false:=by simp[P]
     rw[b6]at g d;by_cases Q:l[pc].1=7
     .have b:(l[pc].1==7)=true:=by simp[Q]
      obtain⟨B,H,o3⟩:=qx F Q;rw[b]at g;simp only[b5,b6,b,We,Wc,W2 B h.rg.len];have K:Wm .i64 ((pc+1:Nat):Int) l[pc].2.2.1=((pc+1+l[pc].2.2.1.toNat:Nat):Int):=by rw[WE (by unfold I64;omega)];omega
      rw[K];refine Eq.trans ?_ (g _ _ rfl);cases s.ξ.getD l[pc].2.1.toNat 0==0<;>rfl
     .have b7:(l[pc].1==7)=false:=by simp[Q]
      rw[b7]at g d;by_cases Z:l[pc].1=8
      .have b:(l[pc].1==8)=true:=by simp[Z]
       rw[b]at g;have V:WC ((s.κ.map (cmk mp ct s)).length+ [((pc:Int),(s.ξ,(s.ω,(mp,ct))))].length)=true:=Ww (by simp;omega);simp only[b5,b6,b7,b,We,Wc,r0,rq (ct:=ct) (show s.ω.length<=1000 by rw[h.cl.len];omega) T,ret,Xd,X,V];refine Eq.trans ?_ (g _ _ rfl);simp only[Xw,bK,cV,cmk,Xi,oS];rfl
      .have b8:(l[pc].1==8)=false:=by simp[Z]
       rw[b8]at g d;by_cases S:l[pc].1=9
       .have b:(l[pc].1==9)=true:=by simp[S]
        rw[b]at g;have v:s.κ≠ []:=λh0=>by
         have C:=Wp Xb h.mp;rw[h0]at C;simp only[Xy,jQ]at C;have K:=fh j.up pc Y;have D:=j.up pc p;have e4:=gD p;rw[qp S]at e4;omega
        obtain⟨m,q,x,u,M,w,⟨i,E⟩,J,fK,aL,pd⟩:=Ei j h v;have U:=tq (j.ok m i).1 E;rw[M]at g;rw[u]at g⊢;rw[u]at G;have W:(q.map (cmk mp ct s)).length<1000:=by rw[Xx]at G;simp;omega
        have I:(cmk mp ct s x).1=(m:Int):=w;simp only[b5,b6,b7,b8,b,We,Wc,Xw,bK,cV,G8 W,Hc,Xi,GZ,AH,Hg,I,Ws i,Tn,rP i,W2 U h.rg.len];refine Eq.trans ?_ (g _ _ rfl);simp only[w,Xi,rP i,Xx,Xu,jQ,dj,XB,AH];rfl
       .have b9:(l[pc].1==9)=false:=by simp[S]
        rw[b9]at g d;by_cases A:l[pc].1=10
        .have b:(l[pc].1==10)=true:=by simp[A]
         rw[b]at g d;simp only[b5,b6,b7,b8,b9,b,We,Wc];by_cases v:s.κ= []
         .have t:s.κ.isEmpty=true:=by rw[v];rfl
          rw[t]at d;have D:(Wh (s.κ.map (cmk mp ct s))==0)=true:=by rw[v];rfl
          rw[D];exact d pc {s with ω:=dV s.ω s.log,log:=[],back:=s.back+s.log.length} rfl
         .have t:s.κ.isEmpty=false:=by cases i:s.κ with|nil=>exact Wi i v|cons a b=>rfl
          rw[t]at g;obtain⟨m,q,x,u,M,w,⟨i,E⟩,J,fK,aL,pd⟩:=Ei j h v;have uK:x∈s.κ:=by rw[u];simp
          obtain⟨x1,x2,x3⟩:=h.mr x uK;have U:=tq (j.ok m i).1 E;have bS:∀y∈q,y.2.1<=x.2.1:=by
           have:=h.mo;rw[u]at this
           exactλy z=>(dx.1 this).2.2 y z x (by simp)
          have hqy:∀y∈q,0<=y.2.1:=λy z=>(h.mr y (by rw[u];simp[z])).2.1;rw[M]at g;rw[u]at g⊢;rw[u]at G;have W:(q.map (cmk mp ct s)).length<1000:=by rw[Xx]at G;simp;omega
          have D:(Wh (q.map (cmk mp ct s)++ [cmk mp ct s x])==0)=false:=by
           have:Wh (q.map (cmk mp ct s)++ [cmk mp ct s x])≠0:=by unfold Wh;rw[Xx];simp;omega
           simpa using this
          have BY:=J.len;have hu:=HC h.cl (l:=s.log.drop x.2.1.toNat) λr hr=>Aj.1 r (E9 hr);have I:(cmk mp ct s x).1=(m:Int):=w;have c2:(cmk mp ct s x).2.1=x.2.2:=rfl;have c3:(cmk mp ct s x).2.2=(dV s.ω (s.log.drop x.2.1.toNat),(mp,ct)):=rfl;have V:WC (([]:List Int).length+x.2.2.length)=true:=Ww (by rw[x1.len];simp);simp only[Xw,bK,cV];simp only[D,G8 W,Wc,Hc,Xi,GZ,AH,Hg,We,I,c2,c3,V,rq (ct:=ct) (show(dV s.ω (s.log.drop x.2.1.toNat)).length<=1000 by rw[hu.len];omega) T,Xd,Ws i,Tn,rP i,X,W2 U x1.len,
           PP (N:=N) (l:=l) (by omega) L ⟨i,E⟩ J,ret,Wk (show mt l m<4611686018427387904 by omega)]
          refine Eq.trans ?_ (g _ _ rfl);simp only[w,Xi,rP i,Xx,Xu,jQ,dj,XB,AH];congr 1;apply xS;intro y z;unfold cmk;simp only[];rw[Sp (by have:=bS y z;omega) (by omega)]
        .have bj:(l[pc].1==10)=false:=by simp[A]
         rw[bj]at g d;have e:∀k:Int,11<=k->(l[pc].1==k)=false:=λk hk=>by simp;omega
         simp only[b5,b6,b7,b8,b9,bj,e 11 (by omega),e 12 (by omega),e 13 (by omega),e 14 (by omega),e 15 (by omega),e 16 (by omega),Wc,Pi L F k1 (by omega) h.rg,Xd];exact g _ _ rfl
  .have e:pc=l.length:=by omega
   subst e;simp only[Zd,W6 (Xl l.length),Wc];rw[b1];simp
end
end
section
theorem WsA{l:List Opn}(h:KC l):KCe l:=⟨h.len,h.up,h.z,λi a=>⟨(h.ok i a).1,(h.ok i a).2.1,h.k10 i a⟩,h.sk⟩
def ovl(c:List Int)(ε:List Rw):List Int:=ε.foldl (λc r=>c.set r.1.toNat r.2) c
theorem Mx(c:List Int)(l:List Rw)(r:Rw):ovl c (l++ [r])=(ovl c l).set r.1.toNat r.2:=by simp[ovl,B3]
theorem TH(c:List Int)(a b:List Rw):ovl c (a++b)=ovl (ovl c a) b:=by unfold ovl;rw[B3]
theorem jH:∀{l:List Rw} {c:List Int},Vals 8 c->aZ l->Vals 8 (ovl c l)
 | [],c,h,_=>h
 |r::l,c,h,hr=>jH (l:=l) (h.set r.1.toNat (hr r (Xg ..)).2) λx a=>hr x (Xf _ a)
theorem mK{c:Int}:∀{l:List Rw} {A:List Int},Vals 8 A->aZ l->0<=c->c<=7->(ovl A l).getD c.toNat 0=match lst l c with|some v=>v|none=>A.getD c.toNat 0
 | [],A,_,_,_,_=>rfl
 |r::l,A,a,d,f,h7=>by
  have e:=d r (Xg ..);have h:=mK (c:=c) (l:=l) (A:=A.set r.1.toNat r.2) (a.set r.1.toNat e.2) (λx g=>d x (Xf _ g)) f h7;show(ovl (A.set r.1.toNat r.2) l).getD c.toNat 0=_;rw[h,lst];cases lst l c with
  |some v=>rfl
  |none=>
   simp only;by_cases b:r.1=c
   .rw[Wb b,←b,Xq,oQ (by rw[a.len];omega)];rfl
   grind
def iq:List Int->List Rw->List Rw
 |_,[]=>[]
 |A,r::l=>(r.1,A.getD r.1.toNat 0)::iq (A.set r.1.toNat r.2) l
theorem Ha:∀{l:List Rw} {A:List Int},(iq A l).length=l.length
 | [],_=>rfl
 |r::l,A=>by rw[iq,Xu,Xu,Ha]
theorem Md(r:Rw):∀(l:List Rw) (A:List Int),iq A (l++ [r])=iq A l++ [(r.1,(ovl A l).getD r.1.toNat 0)]
 | [],_=>rfl
 |x::l,A=>by
  rw[fG,iq,iq,Md r l,fG];rfl
theorem Wuw(n:Nat):∀(l:List Rw) (A:List Int),(iq A l).take n=iq A (l.take n):=by
 induction n with
 |zero=>simp[iq]
 |succ n ih=>
  intro l A;cases l with
  |nil=>rfl
  |cons r l=>rw[iq,V7,V7,iq,ih]
theorem RD{A:List Int}{n:Nat}:∀{l:List Rw},dV (ovl A l) ((iq A l).drop n)=ovl A (l.take n):=by
 intro l;generalize a:l.length=k
 induction k generalizing l with
 |zero=>
  grind [Xv,iq,dV,ovl]
 |succ k ih=>
  rcases pH l with rfl|⟨q,r,rfl⟩
  .simp at a
  .have hq:q.length=k:=by simp_all
   by_cases b:n<=q.length
   .rw[Mx,Md,LI (by grind [Ha]),ih hq,N4 b]
   .rw[List.drop_eq_nil_of_le (by grind [Ha]),mc (by simp;omega)];rfl
structure EM(A:List Int)(x:Kd)(s:KS):Prop where
 ξ:s.ξ=x.ξ
 ω:s.ω=ovl A x.ι
 log:s.log=iq A x.ι
 κ:s.κ=x.κ
def Sim(θ:List Opn)(r0:List Int)(x:Kd):Prop:=∀A:List Int,Vals 8 A->(∀e∈x.C1,A.getD e.1.toNat 0=e.2.1)->∀F:Nat,25<=F->
 (x.ζ=0/\∃(j:Nat) (s:KS),(j:Int)<=x.pc/\EM A x s/\KI θ x.pc.toNat s/\b1 θ F 0 (ks0 r0 A)=b1 θ (F-j) x.pc.toNat s)\/
 (x.ζ≠0/\((x.out=1/\∃s:KS,s.ξ=x.ξ/\s.ω=ovl A x.ι/\b1 θ F 0 (ks0 r0 A)=(false,s))\/(x.out=2/\x.ι= []/\∃s,s.ω=A/\b1 θ F 0 (ks0 r0 A)=(true,s))))
section
variable{M:Int->Int->Prop}{N:Nat}{codes:List (List Opn)}{n:Int}{f:Fm}{k:Nat}{θ:List Opn}{m:Mm}{x y:Kd}{r0:List Int}
theorem Sim.new(h:Vals 4 r0)(b:x.ζ=0)(g:x.pc=0)(c:x.ξ=r0)(a:x.ι= [])(d:x.κ= []):Sim θ r0 x:=λA e _ F f=>by
 refine .inl ⟨b,0,ks0 r0 A,by omega,⟨by rw[c];rfl,by rw[a];rfl,by rw[a];rfl,by rw[d];rfl⟩,?_,?_⟩
 .simp_all [M3]
 simp_all
theorem Sim.same(h:Sim θ r0 x)(o:y.ζ=x.ζ)(r:y.pc=x.pc)(l:y.ξ=x.ξ)(f:y.ι=x.ι)(m:y.κ=x.κ)(t:y.C1=x.C1)(q:y.out=x.out):Sim θ r0 y:=λA i g F k=>by
 rcases h A i (λe p=>g e (by simp_all)) F k with⟨a,j,s,b,c,d,e⟩|⟨a,⟨b,s,c,n,d⟩|⟨b,c,s,d,e⟩⟩
 .exact .inl ⟨by omega,j,s,by omega,⟨by rw[l];exact c.ξ,by rw[f];exact c.ω,by rw[f];exact c.log,by rw[m];exact c.κ⟩,by simp_all,by simp_all⟩
 .simp_all
 simp_all
theorem Sim.fin(h:Sim θ r0 x)(k:x.ζ≠0)(l:y.ζ≠0)(n:y.ξ=x.ξ)(q:y.ι=x.ι)(p:y.C1=x.C1)(o:y.out=x.out):Sim θ r0 y:=λA g f F i=>by
 rcases h A g (λe m=>f e (by simp_all)) F i with⟨a,_⟩|⟨a,⟨b,s,c,j,d⟩|⟨b,c,s,d,e⟩⟩
 .omega
 .simp_all
 simp_all
theorem WxH{F j pc:Nat}{s s':KS}{dq:Nat}(b:j+1<=F)(a:pc<θ.length)(h:dy θ pc s=(true,dq,s')):b1 θ (F-j) pc s=b1 θ (F-(j+1)) dq s':=by
 rw[show F-j=(F-(j+1))+1 by omega,b1,h];simp[a]
theorem Sim.go(l:KCe θ)(h:Sim θ r0 x)(B:x.ζ=0)(z:0<=x.pc)(t:x.pc.toNat<θ.length)(u:y.ζ=0)(v:0<=y.pc)(n:∀e∈x.C1,e∈y.C1)
  (p:∀A s,Vals 8 A->(∀e∈y.C1,A.getD e.1.toNat 0=e.2.1)->EM A x s->KI θ x.pc.toNat s->∃f,dy θ x.pc.toNat s=(true,y.pc.toNat,f)/\EM A y f):Sim θ r0 y:=λA k i F q=>by
 rcases h A k (λe r=>i e (n e r)) F q with⟨_,j,s,b,c,d,e⟩|⟨a,_⟩
 .obtain⟨f,g,o⟩:=p A s k i c d;have m:=(Ec l d t).1 (by rw[g]);rw[g]at m;have w:=l.len;refine .inl ⟨u,j+1,f,?_,o,m.2,?_⟩
  .grind
  grind [WxH]
 omega
theorem Sim.stop(p:KCe θ)(h:Sim θ r0 x)(z:x.ζ=0)(w:0<=x.pc)(r:x.pc.toNat<θ.length)(u:y.ζ≠0)(n:y.out=2)(t:y.ι= [])(C:y.C1=x.C1)
  (m:∀A s,Vals 8 A->EM A x s->KI θ x.pc.toNat s->∃q f,dy θ x.pc.toNat s=(false,q,f)/\f.ω=A):Sim θ r0 y:=λA g l F o=>by
 rcases h A g (λe B=>l e (by simp_all)) F o with⟨_,j,s,b,c,d,e⟩|⟨a,_⟩
 .obtain⟨q,f,i,k⟩:=m A s g c d;have v:=p.len;refine .inr ⟨u,.inr ⟨n,t,f,k,?_⟩⟩;rw[e,show F-j=(F-(j+1))+1 by omega,b1,i];simp[r]
 omega
theorem Sim.over(l:KCe θ)(h:Sim θ r0 x)(r:x.ζ=0)(p:0<=x.pc)(q:x.pc<=θ.length)(u:θ.length<=x.pc)(o:y.ζ≠0)(g:y.out=1)(m:y.ξ=x.ξ)(n:y.ι=x.ι)(v:y.C1=x.C1):Sim θ r0 y:=λA i f F k=>by
 rcases h A i (λe t=>f e (by simp_all)) F k with⟨_,j,s,b,c,d,e⟩|⟨a,_⟩
 .have aa:=l.len;refine .inr ⟨o,.inl ⟨g,s,by rw[m];exact c.ξ,by rw[n];exact c.ω,?_⟩⟩;rw[e,show F-j=(F-(j+1))+1 by omega,b1,Wl (show¬x.pc.toNat<θ.length by omega)];rfl
 omega
theorem Sq{i:Int}:opN θ i=tB θ i.toNat:=rfl
theorem EM.cell{A:List Int}{s:KS}(h:EM A x s)(d:Vals 8 A)(e:aZ x.ι){c:Int}(a:0<=c)(b:c<=7):s.ω.getD c.toNat 0=match lst x.ι c with|some v=>v|none=>A.getD c.toNat 0:=by
 rw[h.ω,mK d e a b]
theorem Wv2(E:KC θ)(hF:FOk codes n f)(F:KOk θ f.C2 n x)(d:x.ζ=0)(h:Sim θ f.ξ x):Sim θ f.ξ (dU m f x θ).2:=by
 have k:=WsA E;have aa:=E.len;have i:=F.pc;have jj:x.ι.length<=300:=by have:=F.wl;omega
 have cY:Sim θ f.ξ (f.again x):=Sim.new hF.ξ rfl rfl rfl rfl rfl;unfold dU;by_cases N:x.pc>=θ.length
 .rw[Wb N];exact h.over k d i.1 i.2 N (by simp_all) rfl rfl rfl rfl
 .rw[Wa N];have g:x.pc.toNat<θ.length:=by omega
  have su:opN θ x.pc=θ[x.pc.toNat]:=by grind [Sq,rP]
  have K:=E.ok _ g;have yg:=E.k10 _ g;rw[←su]at K yg;have t:∀s,dy θ x.pc.toNat s=ld θ x.pc.toNat s (opN θ x.pc):=λs=>by unfold dy;rw[Sq]
  have C:(x.pc+1).toNat=x.pc.toNat+1:=by omega
  simp only;generalize ho:opN θ x.pc=o at*;by_cases G:o.1=5
  .rw[Wb G];have D:=(lz K.1 G).2;unfold bY at D;simp at D;have R:∀(v:Int) (J:List En) (y:Kd),(∀e∈x.C1,e∈J)->(∀A:List Int,Vals 8 A->(∀e∈J,A.getD e.1.toNat 0=e.2.1)->(match lst x.ι o.2.2.1 with|some v=>v|none=>A.getD o.2.2.1.toNat 0)=v)->
     y.ζ=0->y.pc=x.pc+1->y.ξ=d8 x.ξ o.2.1 v->y.ι=x.ι->y.κ=x.κ->y.C1=J->Sim θ f.ξ y:=λv J y dH hv y0 y1 y2 y3 y4 y5=>by
    refine h.go k d i.1 g y0 (by omega) (by simp_all) λA s j w a p=>?_;refine⟨_,by rw[t];unfold ld;rw[G,y1,C];rfl,?_,?_,?_,?_⟩
    .show s.ξ.set o.2.1.toNat (s.ω.getD o.2.2.1.toNat 0)=_;rw[a.cell j F.ε D.1 D.2,hv A j (by grind),a.ξ,y2];rfl
    .show s.ω=_;rw[a.ω,y3]
    .show s.log=_;rw[a.log,y3]
    .show s.κ=_;rw[a.κ,y4]
   have kW:=AE (c:=o.2.2.1) F.ε jj;unfold c5;cases hl:bm x.ι o.2.2.1 with
   |some v=>
    exact R v x.C1 _ (λe b=>b) (λA _ _=>by rw[←kW,hl]) d rfl rfl rfl rfl rfl
   |none=>
    have jl:∀e:En,e.1=o.2.2.1->∀A:List Int,Vals 8 A->(∀z∈x.C1++ [e],A.getD z.1.toNat 0=z.2.1)->(match lst x.ι o.2.2.1 with|some v=>v|none=>A.getD o.2.2.1.toNat 0)=e.2.1:=λe b A j w=>by
     grind
    cases b:ent f.buf o.2.2.1 with
    |some r=>
     simp only;split
     .exact cY
     .exact R r.2.2.1 (x.C1++ [r.2]) _ (λe b=>Xm _ b) (jl r.2 (Ee b).2) d rfl rfl rfl rfl rfl
    |none=>
     simp only;generalize W7 m f.rv _=Q;split
     .exact h.same rfl rfl rfl rfl rfl rfl rfl
     .split
      .exact R Q.2.2.2 (x.C1++ [(o.2.2.1,Q.2.2.2,-1)]) _ (λe b=>Xm _ b) (jl (o.2.2.1,Q.2.2.2,-1) rfl) d rfl rfl rfl rfl rfl
      .exact h.same rfl rfl rfl rfl rfl rfl rfl
  .rw[Wa G];have B:(o.1==5)=false:=by simp_all
   by_cases U:o.1=10
   .rw[Wb U];have T:(o.1==10)=true:=by simp_all
    have V:(o.1==6)=false:=by simp;omega
    have W:(o.1==7)=false:=by simp;omega
    have X:(o.1==8)=false:=by simp;omega
    have Y:(o.1==9)=false:=by simp;omega
    unfold oo;by_cases H:x.κ.length=0
    .rw[Wb H];have S:x.κ= []:=Xv H;refine h.stop k d i.1 g (by simp_all) rfl rfl rfl λA s j a p=>?_;have b:s.κ.isEmpty=true:=by rw[a.κ,S];rfl
     refine⟨_,_,by rw[t];unfold ld;rw[B,V,W,X,Y,T,b];rfl,?_⟩;show dV s.ω s.log=A;have:=RD (A:=A) (n:=0) (l:=x.ι);rw[List.drop_zero]at this;rw[a.ω,a.log,this];rfl
    .rw[Wa H];have S:x.κ≠ []:=λz=>H (by rw[z];rfl);have BZ:0<=i8 θ (c0 x.κ (0,0,[])).1.toNat+1:=by omega
     refine h.go k d i.1 g d (by grind) (λe b=>b) λA s j w a p=>?_;have aH:s.κ≠ []:=by rw[a.κ];exact S
     have b:s.κ.isEmpty=false:=by simp_all
     obtain⟨mm,q,z,O,ht,hx,⟨nf,M⟩,ci,fK,aL,pd⟩:=Ei k p aH;obtain⟨z1,z2,z3⟩:=p.mr z (by grind);have bS:c0 x.κ (0,0,[])=z:=by rw[←a.κ,O];exact Qu q z _
     have oE:x.κ.dropLast=q:=by rw[←a.κ,O,E8]
     have B0:i8 θ z.1.toNat=mt θ z.1.toNat:=by grind [Xi,Qm]
     have qe:s.κ.take (s.κ.length-1)=q:=by rw[O];simp
     rw[bS];refine⟨_,by rw[t];unfold ld;rw[B,V,W,X,Y,T,b,ht,qe];simp only[Wc,We];refine Wp (λu:Nat=>(true,u,_)) ?_;omega,?_,?_,?_,?_⟩
     .rfl
     .show dV s.ω (s.log.drop z.2.1.toNat)=ovl A (x.ι.take z.2.1.toNat);rw[a.ω,a.log,RD]
     .show s.log.take z.2.1.toNat=iq A (x.ι.take z.2.1.toNat);rw[a.log,Wuw]
     simp_all
   .rw[Wa U];have jh:(o.1==10)=false:=by simp_all
    by_cases Z:o.1=6
    .rw[Wb Z];have b6:(o.1==6)=true:=by simp_all
     refine h.go k d i.1 g d (by grind) (λe b=>b) λA s j w a p=>?_;refine⟨_,by rw[t];unfold ld;rw[B,b6];show _=(true,(x.pc+1).toNat,_);rw[C];rfl,?_,?_,?_,?_⟩
     .exact a.ξ
     .show s.ω.set o.2.1.toNat (s.ξ.getD o.2.2.1.toNat 0)=ovl A (x.ι++ [(o.2.1,ah x.ξ o.2.2.1 0)]);rw[Mx,a.ω,a.ξ];rfl
     .show s.log++ [(o.2.1,s.ω.getD o.2.1.toNat 0)]=iq A (x.ι++ [(o.2.1,ah x.ξ o.2.2.1 0)]);rw[Md,a.log,a.ω]
     .exact a.κ
    .rw[Wa Z];have I:(o.1==6)=false:=by simp_all
     by_cases L:o.1=7
     .rw[Wb L];have b7:(o.1==7)=true:=by simp_all
      have o7:=qx K.1 L;refine h.go k d i.1 g d (by show 0<=(if ah x.ξ o.2.1 0=0 then x.pc+o.2.2.1 else x.pc)+1;split<;>omega) (λe b=>b) λA s j w a p=>?_;refine⟨s,?_,a.ξ,a.ω,a.log,a.κ⟩;rw[t];unfold ld;rw[B,I,b7,a.ξ];show(true,(bif x.ξ.getD o.2.1.toNat 0==0 then x.pc.toNat+1+o.2.2.1.toNat else x.pc.toNat+1),s)=(true,((if ah x.ξ o.2.1 0=0 then x.pc+o.2.2.1 else x.pc)+1).toNat,s);have hgi:ah x.ξ o.2.1 0=x.ξ.getD o.2.1.toNat 0:=rfl
      grind
     .rw[Wa L];have P:(o.1==7)=false:=by simp_all
      by_cases M:o.1=8
      .rw[Wb M];have b8:(o.1==8)=true:=by simp_all
       refine h.go k d i.1 g d (by grind) (λe b=>b) λA s j w a p=>?_;refine⟨{s with κ:=s.κ++ [((x.pc.toNat:Int),(s.log.length:Int),s.ξ)]},by rw[t];unfold ld;rw[B,I,P,b8];simp only[Wc,We];show _=(true,(x.pc+1).toNat,_);rw[C],a.ξ,a.ω,a.log,?_⟩;show s.κ++ [((x.pc.toNat:Int),(s.log.length:Int),s.ξ)]=x.κ++ [(x.pc,(x.ι.length:Int),x.ξ)];rw[a.κ,a.log,a.ξ,Ha,show((x.pc.toNat:Nat):Int)=x.pc by omega]
      .rw[Wa M];have n8:(o.1==8)=false:=by simp_all
       by_cases h9:o.1=9
       .rw[Wb h9];have b9:(o.1==9)=true:=by simp_all
        refine h.go k d i.1 g d (by grind) (λe b=>b) λA s j w a p=>?_;refine⟨{s with κ:=s.κ.take (s.κ.length-1),ξ:=s.ξ.set (tB θ (lA s).1.toNat).2.1.toNat 1},by rw[t];unfold ld;rw[B,I,P,n8,b9];simp only[Wc,We];show _=(true,(x.pc+1).toNat,_);rw[C],?_,a.ω,a.log,?_⟩
        .show s.ξ.set (tB θ (lA s).1.toNat).2.1.toNat 1=d8 x.ξ (opN θ (c0 x.κ (0,0,[])).1).2.1 1;have:lA s=c0 x.κ (0,0,[]):=by unfold lA c0;rw[a.κ];rfl
         rw[this,a.ξ];rfl
        .show s.κ.take (s.κ.length-1)=x.κ.dropLast;rw[a.κ,uv]
       .rw[Wa h9];have n9:(o.1==9)=false:=by simp_all
        refine h.go k d i.1 g d (by grind) (λe b=>b) λA s j w a p=>?_;refine⟨{s with ξ:=lh o s.ξ},by rw[t];unfold ld;rw[B,I,P,n8,n9,jh];simp only[Wc];show _=(true,(x.pc+1).toNat,_);rw[C],?_,a.ω,a.log,a.κ⟩;show lh o s.ξ=lh o x.ξ;rw[a.ξ]
end
end
section
section
variable{M:Int->Int->Prop}{N:Nat}{codes:List (List Opn)}{n:Int}{f g:Fm}{k:Nat}{θ:List Opn}{m:Mm}{x y:Kd}{r0:List Int}
def VL(f:Fm)(x:Kd):Prop:=∀j:Nat,(j:Int)<x.pos->∀h:j<x.C1.length,tv f.buf x.C1[j].1=x.C1[j].2.2
structure FV(M:Int->Int->Prop)(codes:List (List Opn))(f:Fm):Prop where
 sim:∀(k:Nat) (h:k<f.π.length),Sim (codes.getD k []) f.ξ f.π[k]
 own:∀(k:Nat) (h:k<f.π.length),f.π[k].ζ=2->f.C0=(k:Int)+1
 val:∀(k:Nat) (h:k<f.π.length),f.π[k].ζ=2->VL f f.π[k]
 pz:∀(k:Nat) (h:k<f.π.length),f.π[k].ζ≠2->f.π[k].pos=0
 mrg:∀(i:Nat) (h:i<f.υ.length),∀e∈(f.π.getD f.υ[i].toNat {}).C1,lst (WJ f i) e.1=some e.2.1\/(lst (WJ f i) e.1=none/\e.2.2= -1/\M e.1 e.2.1)
theorem WuK{b:List En}{c t:Int}(h:tv b c=t)(a:0<=t):∃r:Nat×En,ent b c=some r/\r.2.2.2=t:=by
 unfold tv at h;cases he:ent b c with
 |none=>rw[he]at h;simp only at h;omega
 |some r=>rw[he]at h;exact⟨r,rfl,h⟩
theorem Wun{b:List En}{c:Int}(h:tv b c= -1)(a:∀e∈b,0<=e.2.2):ent b c=none:=by
 unfold tv at h;cases he:ent b c with
 |none=>rfl
 |some r=>rw[he]at h;simp only at h;have:=a _ (Ee he).1;omega
theorem WwL(h:FT M f)(k:FOk codes n f)(y:x.C5<=f.C2)(t:SN M f x)(q:∀e∈x.C1,0<=e.1/\e.1<=7){e:En}(l:e∈x.C1)(m:tv f.buf e.1=e.2.2):
  lst (WJ f f.υ.length) e.1=some e.2.1\/(lst (WJ f f.υ.length) e.1=none/\e.2.2= -1/\M e.1 e.2.1):=by
 have v:=k.C2;rcases t e l with⟨a,b,c⟩|⟨a,b,c,d⟩
 .right;have s:=Wun (m.trans a) λz u=>(k.bufE z u).2.2.1;have:=q e l;exact⟨h.non _ this.1 this.2 (Mw s) _ (Xl _),a,c⟩
 .left;obtain⟨r,o,w⟩:=WuK m a;obtain⟨j,p⟩:=Ee o;have g:=h.buf r.2 j e.2.2.toNat (by omega) (by omega);have i:=h.buf r.2 j f.υ.length (by omega) (Xl _);rw[p]at g i;rw[c]at g;rw[i];exact g.symm
theorem FV.put(d:FV M codes f)(h:FT M f)(H:k<f.π.length)(B:f.π[k].ζ≠3)(D:g.start=f.start)(m:g.υ=f.υ)(z:g.buf=f.buf)(l:g.π=f.π.set k y)(C:g.ξ=f.ξ)
  (x:Sim (codes.getD k []) f.ξ y) (t:∀(j:Nat) (a:j<f.π.length),j≠k->f.π[j].ζ=2->g.C0=(j:Int)+1) (p:y.ζ=2->g.C0=(k:Int)+1/\VL f y) (F:y.ζ≠2->y.pos=0):FV M codes g:=by
 have c:∀(j:Nat) (a:j<g.π.length) (u:j<f.π.length),g.π[j]=if k=j then y else f.π[j]:=λj a u=>by simp only[l,ex]
 have G:g.π.length=f.π.length:=by rw[l,aK]
 have s:∀j∈f.υ,k≠j.toNat:=λj a e=>by
  obtain⟨I,J,E⟩:=h.ord j a;subst e;exact B E
 have r:∀j∈f.υ,g.π.getD j.toNat {}=f.π.getD j.toNat {}:=λj a=>by
  rw[l,Xq,Xq,kD (s j a)]
 have v:∀n,WJ g n=WJ f n:=λn=>Gz D (by rw[m]) λj a=>by unfold ip;rw[r j a]
 refine⟨λj a=>?_,λj a b=>?_,λj a b=>?_,λj a b=>?_,λi A e o=>?_⟩
 .rw[c j a (by omega),C];split
  .rename_i e;subst e;exact x
  .exact d.sim j (by omega)
 .rw[c j a (by omega)]at b;split at b
  .rename_i e;subst e;exact(p b).1
  .rename_i e;exact t j (by omega) (λq=>e q.symm) b
 .rw[c j a (by omega)]at b⊢;unfold VL;rw[z];split at b
  .rename_i e;rw[Wb e];exact(p b).2
  .rename_i e;rw[Wa e];exact d.val j (by omega) b
 .rw[c j a (by omega)]at b⊢;split at b
  .rename_i e;rw[Wb e];exact F b
  .rename_i e;rw[Wa e];exact d.pz j (by omega) b
 .have eY:i<f.υ.length:=by rw[←m];exact A
  have w:g.υ[i]=f.υ[i]:=by simp only[m]
  rw[w,r _ (Xo eY)]at o;rw[v];exact d.mrg i eY e o
theorem WsN(d:FV M codes f)(h:FT M f)(w:FOk codes n f)(l:k<f.π.length)(g:f.π[k]=x)(C:x.ζ=2)(T:x.pos=x.C1.length):FV M codes (Fm.put (dX f x k) k):=by
 have v:=w.kid k l;rw[g]at v;have S:=w.C2;have p:(Fm.put (dX f x k) k).π=f.π.set k {x with ζ:=3,pos:=0,κ:=[]}:=rfl;have R:(Fm.put (dX f x k) k).π.length=f.π.length:=by rw[p,aK]
 have o:(Fm.put (dX f x k) k).υ=f.υ++ [(k:Int)]:=rfl;have H:(Fm.put (dX f x k) k).ξ=f.ξ:=rfl;have Q:(Fm.put (dX f x k) k).start=f.start:=rfl;have s:∀(j:Nat) (c:j<(Fm.put (dX f x k) k).π.length) (K:j<f.π.length),(Fm.put (dX f x k) k).π[j]=if k=j then{x with ζ:=3,pos:=0,κ:=[]}else f.π[j]:=λj c K=>by simp only[p,ex]
 have J:∀j∈f.υ,k≠j.toNat:=λj c e=>by
  obtain⟨V,W,P⟩:=h.ord j c;subst e;rw[g]at P;omega
 have E:∀j∈f.υ,(Fm.put (dX f x k) k).π.getD j.toNat {}=f.π.getD j.toNat {}:=λj c=>by
  rw[p,Xq,Xq,kD (J j c)]
 have A:∀n,n<=f.υ.length->WJ (Fm.put (dX f x k) k) n=WJ f n:=λn L=>Gz Q (by rw[o,N4 L]) λj c=>by unfold ip;rw[E j c]
 have y:∀(j:Nat) (c:j<f.π.length),j≠k->f.π[j].ζ≠2:=λj c U N=>by
  have a:=d.own j c N;have b:=d.own k l (by rw[g];exact C);omega
 have G:∀(j:Nat) (c:j<(Fm.put (dX f x k) k).π.length),(Fm.put (dX f x k) k).π[j].ζ≠2:=λj c=>by
  rw[s j c (by omega)];split
  .show(3:Int)≠2;omega
  .rename_i e;exact y j (by omega) λq=>e q.symm
 refine⟨λj c=>?_,λj c t=>Wi t (G j c),λj c t=>Wi t (G j c),λj c _=>?_,λi D e m=>?_⟩
 .rw[s j c (by omega),H];split
  .rename_i e;subst e;have:=d.sim k l;rw[g]at this;exact this.fin (by omega) (by show(3:Int)≠0;omega) rfl rfl rfl rfl
  .exact d.sim j (by omega)
 .rw[s j c (by omega)];split
  .rfl
  .rename_i e;exact d.pz j (by omega) (y j (by omega) λq=>e q.symm)
 .have eY:i<f.υ.length+1:=by rw[o]at D;simpa using D
  by_cases r:i<f.υ.length
  .have u:(Fm.put (dX f x k) k).υ[i]=f.υ[i]:=by simp only[o];rw[List.getElem_append_left r]
   rw[u,E _ (Xo r)]at m;rw[A i (by omega)];exact d.mrg i r e m
  .have ie:i=f.υ.length:=by omega
   subst ie;have u:(Fm.put (dX f x k) k).υ[f.υ.length]=(k:Int):=by simp only[o];simp
   rw[u,Xi,p,Xq,oQ l]at m;have B:e∈x.C1:=m;rw[A _ (Xl _)];obtain⟨j,c,I⟩:=eI B;have F:=d.val k l (by rw[g];exact C);rw[g]at F;have:=F j (by omega) c;rw[I]at this;exact WwL h w v.C5.2 (g▸h.sn k l) (λz O=>(v.C1 z O).1) B this
theorem Wvu(c:FV M codes f)(h:FT M f)(y:FOk codes n f)(b:k<f.π.length)(P:KC θ)(l:codes.getD k []=θ):FV M codes (bJ m f k θ):=by
 unfold bJ;split
 .exact c
 .rw[oN b];obtain⟨x,t⟩:∃x,f.π[k]=x:=⟨_,rfl⟩;have u:=c.sim k b;have D:=y.kid k b;have A:=c.own k b;have E:=c.val k b;have z:=c.pz k b;rw[t]at u A E z⊢;rw[t,l]at D;rw[l]at u;have g:∀(o:Int),(o=f.C0\/f.C0=0\/x.ζ=2)->∀(j:Nat) (d:j<f.π.length),j≠k->f.π[j].ζ=2->o=(j:Int)+1:=λo Q j d C B=>by
   have a:=c.own j d B;rcases Q with rfl|p|h2
   .exact a
   .omega
   .have:=A h2;omega
  unfold cH;by_cases p:x.ζ=0
  .rw[Wb p];have s:f.π[k].ζ≠3:=by rw[t];omega
   have R:(dU m f x θ).1.start=f.start/\(dU m f x θ).1.υ=f.υ/\(dU m f x θ).1.buf=f.buf/\(dU m f x θ).1.π=f.π/\(dU m f x θ).1.ξ=f.ξ/\(dU m f x θ).1.C0=f.C0/\(dU m f x θ).2.ζ≠2/\(dU m f x θ).2.pos=0:=by
    have i:=z (by omega);unfold dU;split
    .exact⟨rfl,rfl,rfl,rfl,rfl,rfl,by show(1:Int)≠2;omega,i⟩
    .simp only;split
     .unfold c5;cases bm x.ι (opN θ x.pc).2.2.1 with
      |some v=>exact⟨rfl,rfl,rfl,rfl,rfl,rfl,by show x.ζ≠2;omega,i⟩
      |none=>
       cases ent f.buf (opN θ x.pc).2.2.1 with
       |some r=>
        simp only;split
        .exact⟨rfl,rfl,rfl,rfl,rfl,rfl,by show(0:Int)≠2;omega,rfl⟩
        .exact⟨rfl,rfl,rfl,rfl,rfl,rfl,by show x.ζ≠2;omega,i⟩
       |none=>
        simp only;generalize W7 m f.rv _=S;split
        .exact⟨rfl,rfl,rfl,rfl,rfl,rfl,by show x.ζ≠2;omega,i⟩
        .split<;>exact⟨rfl,rfl,rfl,rfl,rfl,rfl,by show x.ζ≠2;omega,i⟩
     .split
      .unfold oo;split
       .exact⟨rfl,rfl,rfl,rfl,rfl,rfl,by show(1:Int)≠2;omega,i⟩
       .exact⟨rfl,rfl,rfl,rfl,rfl,rfl,by show x.ζ≠2;omega,i⟩
      .repeat' split
       all_goals exact⟨rfl,rfl,rfl,rfl,rfl,rfl,by show x.ζ≠2;omega,i⟩
   obtain⟨G,H,I,J,K,L,N,O⟩:=R;exact c.put h b s G H I (by show Xk (dU m f x θ).1.π _ _=_;rw[J]) K (by rw[l];exact Wv2 P y D p u) (λj d C B=>g _ (.inl L) j d C B) (λq=>Wi q N) λ_=>O
  .rw[Wa p];split
   .rename_i h1;have F:x.ζ≠2:=by omega
    have s:f.π[k].ζ≠3:=by rw[t];omega
    split
    .rename_i hz;exact c.put h b s rfl rfl rfl rfl rfl (by rw[l];exact u.fin p (by show(2:Int)≠0;omega) rfl rfl rfl rfl) (g _ (.inr (.inl hz))) (λ_=>⟨rfl,λj d w=>by
      have d:(j:Int)<x.pos:=d;rw[z F]at d;omega⟩) λq=>Wi rfl q
    .exact c.put h b s rfl rfl rfl rfl rfl (by rw[l];exact u) (g _ (.inl rfl)) (λq=>Wi q F) z
   .split
    .rename_i h1 h2;have s:f.π[k].ζ≠3:=by rw[t];omega
     split
     .rename_i dC;exact WsN c h y b t h2 dC
     .rename_i dC;simp only;split
      .rename_i pM;refine c.put h b s rfl rfl rfl rfl rfl (by rw[l];exact u.fin p p rfl rfl rfl rfl) (g _ (.inl rfl)) (λ_=>⟨A h2,λj d w=>?_⟩) (λq=>Wi h2 q);have d:(j:Int)<x.pos+1:=d;have w:j<x.C1.length:=w;by_cases e:(j:Int)=x.pos
       .have:ah x.C1 x.pos (0,0,0)=x.C1[j]:=by
         unfold ah;rw[←e,Xi,Xq,Xp w];rfl
        rw[this]at pM;exact pM
       .exact E h2 j (by omega) w
      .exact c.put h b s rfl rfl rfl rfl rfl (by rw[l];exact Sim.new y.ξ rfl rfl rfl rfl rfl) (g _ (.inr (.inr h2))) (λq=>(by change (0:Int)=2 at q;omega)) λ_=>rfl
    .have e:Fm.put (f,x) k=f:=by
      unfold Fm.put;simp only;rw[←t,jN b]
     rw[e];exact c
end
end
section
def zWd:Wd:=(0,0,0)
def WA(m:Mm)(i:Int):Wd:=ah m.2 i zWd
def jg(m:Mm)(i:Int)(w:Wd):Mm:=(m.1,d8 m.2 i w)
variable{m:Mm}
theorem Nb(a:aq m=true){i:Int}{w:Wd}(f:im m.1 w=true):aq (jg m i w)=true:=by
 obtain⟨e,c,d,b⟩:=WP a;unfold aq jg d8
 grind
theorem Ba(a:aq m=true){i:Int}(hi:0<=i/\i<=7):im m.1 (WA m i)=true:=Nt a hi
theorem Ht(a:aq m=true):aq (tick m).1=true/\0<=(tick m).2/\(tick m).2<=1000000/\((tick m).2≠0->(tick m).2=m.1+1/\(tick m).1=(m.1+1,m.2))/\((tick m).2=0->(tick m).1=m):=by
 obtain⟨e,c,d,b⟩:=WP a;unfold tick;split
 .refine⟨?_,by omega,by omega,λ_=>⟨rfl,rfl⟩,λh=>by omega⟩;unfold aq;simp only[Xj,Wg,cq]
  grind [mR]
 simp_all
end
section
section
variable{M:Int->Int->Prop}{Z:Pb->Prop}{N:Nat}{codes:List (List Opn)}{n:Int}{f g:Fm}{k:Nat}{θ:List Opn}{m:Mm}{x y:Kd}{rv:Int}
def PK(Z:Pb->Prop)(θ:List Opn)(f:Fm)(x:Kd):Prop:=x.C3=true->x.ζ=0/\x.pc<θ.length/\(opN θ x.pc).1=5/\Z x.pb/\x.pb.1=(opN θ x.pc).2.2.1/\bm x.ι (opN θ x.pc).2.2.1=none/\∀e∈f.buf,e.1=(opN θ x.pc).2.2.1->x.C5<e.2.2
def ZS(M:Int->Int->Prop)(Z a:Pb->Prop)(m:Mm)(rv:Int):Prop:=∀(c:Int) (p:Pb),0<=c->c<=7->(p=(c,0,0,0)\/(Z p/\p.1=c))->
 (W7 m rv p).2.1=4\/((W7 m rv p).2.1=3/\M c (W7 m rv p).2.2.2)\/((W7 m rv p).2.1≠3/\a (W7 m rv p)/\(W7 m rv p).1=c)
theorem PK.no(h:x.C3=false):PK Z θ f x:=λe=>by rw[h]at e;cases e
theorem WzK(i:ZS M Z Z m rv)(h:PK Z θ f x)(d:0<=(opN θ x.pc).2.2.1/\(opN θ x.pc).2.2.1<=7):RdM M m rv x (opN θ x.pc).2.2.1:=by
 unfold RdM;have b:∀p,(p=((opN θ x.pc).2.2.1,0,0,0)\/(Z p/\p.1=(opN θ x.pc).2.2.1))->(W7 m rv p).2.1=3->M (opN θ x.pc).2.2.1 (W7 m rv p).2.2.2:=λp g e=>by
  rcases i _ p d.1 d.2 g with a|⟨_,a⟩|⟨a,_⟩
  .omega
  .exact a
  .exact Wi e a
 by_cases c:x.C3=true
 .rw[Wb c];have:=h c;exact b _ (.inr ⟨this.2.2.2.1,this.2.2.2.2.1⟩)
 .rw[Wa c];exact b _ (.inl rfl)
theorem PZ{o:Opn}:(c5 m f x o).1.rv=f.rv/\(c5 m f x o).1.ξ=f.ξ/\(c5 m f x o).1.start=f.start/\(c5 m f x o).1.π=f.π/\(c5 m f x o).1.buf=f.buf:=by
 unfold c5;cases bm x.ι o.2.2.1 with
 |some v=>exact⟨rfl,rfl,rfl,rfl,rfl⟩
 |none=>
  cases ent f.buf o.2.2.1 with
  |some r=>simp only;split<;>exact⟨rfl,rfl,rfl,rfl,rfl⟩
  |none=>
   simp only;generalize W7 m f.rv _=a;split
   .exact⟨rfl,rfl,rfl,rfl,rfl⟩
   .split<;>exact⟨rfl,rfl,rfl,rfl,rfl⟩
theorem LH:(cH m f x k θ).1.rv=f.rv/\(cH m f x k θ).1.ξ=f.ξ/\(cH m f x k θ).1.start=f.start/\(cH m f x k θ).1.π=f.π/\
  ((cH m f x k θ).1.buf=f.buf\/(cH m f x k θ).1.buf=iG (f.C2+1) f.buf (al x.ι)):=by
 unfold cH;split
 .unfold dU;split
  .exact⟨rfl,rfl,rfl,rfl,.inl rfl⟩
  .simp only;split
   .obtain⟨a,b,c,d,e⟩:=PZ (m:=m) (f:=f) (x:=x) (o:=opN θ x.pc);exact⟨a,b,c,d,.inl e⟩
   .repeat' split
    all_goals exact⟨rfl,rfl,rfl,rfl,.inl rfl⟩
 .split
  .split<;>exact⟨rfl,rfl,rfl,rfl,.inl rfl⟩
  .split
   .split
    .exact⟨rfl,rfl,rfl,rfl,.inr rfl⟩
    .simp only;split<;>exact⟨rfl,rfl,rfl,rfl,.inl rfl⟩
   .exact⟨rfl,rfl,rfl,rfl,.inl rfl⟩
theorem PK.buf(h:PK Z θ f x)(i:g.buf=f.buf\/∃ε,ε.Pairwise (λa b:Rw=>a.1<b.1)/\g.buf=iG (f.C2+1) f.buf ε)(o:Ris cfE f.buf)(s:x.C5<=f.C2):PK Z θ g x:=λq=>by
 obtain⟨a,b,c,d,e,m,k⟩:=h q;refine⟨a,b,c,d,e,m,λz j l=>?_⟩;rcases i with i|⟨ε,p,i⟩
 .rw[i]at j;exact k z j l
 .rw[i]at j;rcases(Er o p).1 j with⟨r,_,rfl⟩|⟨n,_⟩
  .simp only;omega
  .exact k z n l
theorem WwR(C:ZS M Z Z m f.rv)(w:KC θ)(y:KOk θ f.C2 n x)(h:PK Z θ f x):(cH m f x k θ).1.Db=true\/PK Z θ f (cH m f x k θ).2:=by
 unfold cH;by_cases d:x.ζ=0
 .rw[Wb d];unfold dU;by_cases s:x.pc>=θ.length
  .rw[Wb s];refine .inr (PK.no ?_);by_cases a:x.C3=true
   .have:=h a;omega
   .simpa using a
  .rw[Wa s];simp only;by_cases b:(opN θ x.pc).1=5
   .rw[Wb b];have o:0<=(opN θ x.pc).2.2.1/\(opN θ x.pc).2.2.1<=7:=by
     obtain⟨i,B,p,c⟩:=kV (l:=θ) y.pc.1 (by omega);have:=(lz (w.ok i B).1 (by rw[←c];exact b)).2;rw[←c]at this;unfold bY at this;simp at this;exact this
    unfold c5;cases t:bm x.ι (opN θ x.pc).2.2.1 with
    |some v=>
     refine .inr (PK.no ?_);by_cases a:x.C3=true
     .have:=(h a).2.2.2.2.2.1;rw[t]at this;cases this
     .simpa using a
    |none=>
     cases he:ent f.buf (opN θ x.pc).2.2.1 with
     |some r=>
      simp only;split
      .exact .inr (PK.no rfl)
      .rename_i hv;refine .inr (PK.no ?_);by_cases a:x.C3=true
       .obtain⟨p,c⟩:=Ee he;have:=(h a).2.2.2.2.2.2 _ p c;omega
       .simpa using a
     |none=>
      simp only;have D:=C (opN θ x.pc).2.2.1 (if x.C3=true then x.pb else((opN θ x.pc).2.2.1,0,0,0)) o.1 o.2 (by
       by_cases a:x.C3=true
       .rw[Wb a];have:=h a;exact .inr ⟨this.2.2.2.1,this.2.2.2.2.1⟩
       .rw[Wa a];exact .inl rfl)
      generalize W7 m f.rv _=u at*;by_cases j:u.2.1=4
      .rw[Wb j];exact .inl rfl
      .rw[Wa j];right;by_cases g:u.2.1=3
       .rw[Wb g];exact PK.no rfl
       .rw[Wa g];rcases D with q|⟨q,_⟩|⟨_,E,F⟩
        .exact Wi q j
        .exact Wi q g
        .exactλ_=>⟨d,by show x.pc<_;omega,b,E,F,t,λe z A=>Wi A (Mw he e z)⟩
   .rw[Wa b];have a:x.C3=false:=by
     by_cases a:x.C3=true
     .exact Wi (h a).2.2.1 b
     .simpa using a
    split
    .refine .inr (PK.no ?_);unfold oo;split<;>exact a
    .repeat' split
     all_goals exact .inr (PK.no a)
 .rw[Wa d];have a:x.C3=false:=by
   by_cases a:x.C3=true
   .exact Wi (h a).1 d
   .simpa using a
  split
  .split<;>exact .inr (PK.no a)
  .split
   .split
    .exact .inr (PK.no a)
    .simp only;split
     .exact .inr (PK.no a)
     .exact .inr (PK.no rfl)
   .exact .inr (PK.no a)
structure FP(M:Int->Int->Prop)(Z:Pb->Prop)(codes:List (List Opn))(f:Fm):Prop where
 ft:FT M f
 pk:f.Db=false->∀(k:Nat) (h:k<f.π.length),PK Z (codes.getD k []) f f.π[k]
theorem WvW(h:FP M Z codes f)(g:FOk codes n f)(d:k<f.π.length)(O:aq m=true)(t:KC θ)(o:codes.getD k []=θ)(E:ZS M Z Z m f.rv):FP M Z codes (bJ m f k θ)/\(bJ m f k θ).rv=f.rv/\(bJ m f k θ).ξ=f.ξ/\(bJ m f k θ).start=f.start:=by
 by_cases z:f.Db=true
 .have e:bJ m f k θ=f:=by unfold bJ;rw[Wb z]
  rw[e];exact⟨h,rfl,rfl,rfl⟩
 .have tD:f.Db=false:=by simpa using z
  have e:bJ m f k θ=Fm.put (cH m f f.π[k] k θ) k:=by unfold bJ;rw[Wa z,oN d]
  obtain⟨P,Q,R,S,p⟩:=LH (m:=m) (f:=f) (x:=f.π[k]) (k:=k) (θ:=θ);have A:=g.kid k d;rw[o]at A;have w:=h.pk tD k d;rw[o]at w;refine⟨⟨WvZ h.ft g d t o λJ H K=>?_,λD j C=>?_⟩,by rw[e];exact P,by rw[e];exact Q,by rw[e];exact R⟩
  .have ak:0<=(opN θ f.π[k].pc).2.2.1/\(opN θ f.π[k].pc).2.2.1<=7:=by
    obtain⟨i,N,T,u⟩:=kV A.pc.1 H;have:=(lz (t.ok i N).1 (by rw[←u];exact K)).2;rw[←u]at this;unfold bY at this;simp at this;exact this
   exact WzK E w ak
  .have bI:(cH m f f.π[k] k θ).1.Db=false:=by rw[e]at D;exact D
   have s:(bJ m f k θ).π=f.π.set k (cH m f f.π[k] k θ).2:=by rw[e];show Xk (cH m f f.π[k] k θ).1.π _ _=_;rw[S]
   have F:(bJ m f k θ).buf=f.buf\/∃ε,ε.Pairwise (λa b:Rw=>a.1<b.1)/\(bJ m f k θ).buf=iG (f.C2+1) f.buf ε:=by
    rw[e];rcases p with p|p
    .exact .inl p
    .exact .inr ⟨_,wW _,p⟩
   have B:j<f.π.length:=by rw[s,aK]at C;exact C
   have I:(bJ m f k θ).π[j]=if k=j then(cH m f f.π[k] k θ).2 else f.π[j]:=by simp only[s,ex]
   rw[I];split
   .rename_i ej;subst ej;rw[o];rcases WwR (k:=k) E t A w with q|q
    .rw[bI]at q;cases q
    .by_cases c:(cH m f f.π[k] k θ).2.C3=true
     .have J:=(q c).1;have l:f.π[k].ζ=0:=by
       by_cases l:f.π[k].ζ=0
       .exact l
       .exfalso;have y:f.π[k].C3=false:=by
         by_cases c:f.π[k].C3=true
         .exact Wi (w c).1 l
         .simpa using c
        have:(cH m f f.π[k] k θ).2.C3=false:=by
         unfold cH;rw[Wa l];split
         .split<;>exact y
         .split
          .split
           .exact y
           .simp only;split
            .exact y
            .rfl
          .exact y
        rw[this]at c;cases c
      have G:(bJ m f k θ).buf=f.buf:=by
       rw[e];show(cH m f f.π[k] k θ).1.buf=f.buf;unfold cH;rw[Wb l];unfold dU;split
       .rfl
       .simp only;split
        .exact PZ.2.2.2.2
        .repeat' split
         all_goals rfl
      exact q.buf (.inl G) g.bufR (by
       have:=(Sv (m:=m) d O t g o).kid k (by rw[s,aK];exact d);have u:(bJ m f k θ).π[k]'(by rw[s,aK];exact d)=(cH m f f.π[k] k θ).2:=by simp only[s,List.getElem_set_self]
       rw[u]at this;have L:(bJ m f k θ).C2=f.C2:=by
        rw[e];show(cH m f f.π[k] k θ).1.C2=f.C2;unfold cH;rw[Wb l];unfold dU;split
        .rfl
        .simp only;split
         .unfold c5;cases bm f.π[k].ι (opN θ f.π[k].pc).2.2.1 with
          |some v=>rfl
          |none=>
           cases ent f.buf (opN θ f.π[k].pc).2.2.1 with
           |some r=>simp only;split<;>rfl
           |none=>
            simp only;generalize W7 m f.rv _=U;split
            .rfl
            .split<;>rfl
         .repeat' split
          all_goals rfl
       rw[L]at this;exact this.C5.2)
     .exact PK.no (by simpa using c)
   .exact(h.pk tD j B).buf F g.bufR (g.kid j B).C5.2
theorem Wuk{ξ:List Int}{ι:List Rw}{l:Nat}:FP M Z codes (eO rv ξ ι l):=by
 have b:∀(j:Nat) (a:j<(eO rv ξ ι l).π.length),(eO rv ξ ι l).π[j]={ξ:=ξ}:=λj a=>kw ..;refine⟨Rp,λ_ j a=>?_⟩;rw[b];exact PK.no rfl
structure FA(M:Int->Int->Prop)(Z:Pb->Prop)(codes:List (List Opn))(f:Fm):Prop where
 ft:FT M f
 fv:FV M codes f
 pk:f.Db=false->∀(k:Nat) (h:k<f.π.length),PK Z (codes.getD k []) f f.π[k]
theorem WsH{ξ:List Int}{ι:List Rw}(e:Vals 4 ξ):FA M Z codes (eO rv ξ ι codes.length):=by
 have c:∀(j:Nat) (a:j<(eO rv ξ ι codes.length).π.length),(eO rv ξ ι codes.length).π[j]={ξ:=ξ}:=λj a=>kw ..;refine⟨Rp,⟨λj a=>?_,λj a b=>?_,λj a b=>?_,λj a _=>?_,λi d=>Wi d (Nat.not_lt_zero _)⟩,λ_ j a=>?_⟩
 .rw[c];exact Sim.new e rfl rfl rfl rfl rfl
 .rw[c]at b;cases b
 .rw[c]at b;cases b
 .rw[c]
 .rw[c];exact PK.no rfl
end
end
section
theorem MQ{α β V R:Type}{body:Int->α->V->(V->Option R)->Option R}{K:Int->V->Option R}{f:V->α->V}(P:V->Prop):∀(l:List α) (j:Nat) (v:V),P v->(∀x∈l,∀v,P v->P (f v x))->(∀(j:Nat) x v k,x∈l->P v->body j x v k=k (f v x))->d5 body K l j v=K ((j+l.length:Nat):Int) (l.foldl f v)
 | [],j,v,_,_,_=>rfl
 |x::l,j,v,c,b,h=>by
  rw[d5,h j x v _ (Xg ..) c,MQ (β:=β) P l (j+1) _ (b x (Xg ..) v c) (λy a=>b y (Xf _ a)) λj y v k a=>h j y v k (Xf _ a),cP,Xu];rw[show j+1+l.length=j+(l.length+1) by omega]
section
variable{M:Int->Int->Prop}{Z:Pb->Prop}{N:Nat}{codes:List (List Opn)}{n:Int}{f g:Fm}{k:Nat}{θ:List Opn}{m:Mm}{x y:Kd}{rv:Int}{base:List Int}
theorem Wy4{c:List Int}{r:Rw}(a:Vals 8 c)(b:0<=r.1/\r.1<=7):inb r.1 c.length=true:=by unfold inb;rw[a.len];simp;omega
theorem Lu{c:List Int}{l:List Rw}(a:Vals 8 c)(d:aZ l)(p:l.length<=300)(h:1048576<N):qT N c l=ret (ovl c l):=by
 unfold qT;have q:=a.len;rw[DF (by omega) h,Ai (by omega) h,pV.2 a,vW d p];simp only[ret,Xd,Xr,Wc];rw[Ww (by simp;omega)];simp only[We,show Xe ([]:List Int) c=c from rfl];have o:=WH (l:=l) (V:=List Int) (R:=Unit×(List Int×Unit)) (lp:=λn j v=>yq N l (λs t m=>some ((),(m,()))) n j v) (n:=N) (by omega)
  (body:=λj x v k=>bif inb x.1 v.length then k (v.set x.1.toNat x.2)else none) (K:=λ_ v=>some ((),(v,())))
  (λn i v b=>by simp only[yq,WQ b,Ws b,Wu b,Wk (show i<4611686018427387904 by omega),We])
  (λn v=>by simp only[yq,W6 (Xl l.length),Wc]) c
 refine o.trans ?_;rw[MQ (β:=Unit) (f:=λv r=>v.set r.1.toNat r.2) (λv=>Vals 8 v) l 0 c a (λx g v e=>e.set _ (d x g).2) (λj x v k g e=>by rw[Wy4 e (d x g).1];rfl)];rfl
structure FZ(f:Fm):Prop where
 st:aZ f.start/\f.start.length<=300
 l3:f.π.length<=3
 wr:∀x∈f.π,aZ x.ι/\x.ι.length<=300
 sn:∀x∈f.π,x.C1.length<=300/\0<=x.C5/\x.C5<=300/\∀e∈x.C1,0<=e.1/\e.1<=7
 ord:f.υ.length<=300/\∀k∈f.υ,0<=k/\k<f.π.length
theorem FZ.of{o:List Rw}(h:FT M f)(j:FOk codes n f)(q:codes.length<=3)(m:∀c∈codes,c.length<=24)(t:f.start=al o):FZ f:=by
 have u:=j.len;have l:∀x∈f.π,∃c:List Opn,c.length<=24/\KOk c f.C2 n x:=λx g=>by
  obtain⟨i,s,rfl⟩:=nq.1 g;refine⟨_,?_,j.kid i s⟩;rw[Xq,Xp (by omega)];exact m _ (Xo _)
 have m:=j.C2;have v:=j.len3 q;refine⟨by rw[t];exact⟨vZ,by have:=Bi o;omega⟩,by omega,λx g=>?_,λx g=>?_,by omega,λk l=>?_⟩
 .obtain⟨c,p,d⟩:=l x g;have:=d.wl;have:=d.pc;exact⟨d.ε,by omega⟩
 .obtain⟨c,p,d⟩:=l x g;have:=d.sl;have:=d.pc;have:=d.C5;exact⟨by omega,by omega,by omega,λe r=>(d.C1 e r).1⟩
 .obtain⟨a,b,_⟩:=h.ord k l;omega
theorem FZ.ε(h:FZ f)(n:Nat):aZ (WJ f n):=by
 unfold WJ;intro r c;rcases Xn.1 c with c|c
 .exact h.st.1 r c
 .obtain⟨l,e,c⟩:=List.mem_flatten.1 c;obtain⟨k,d,rfl⟩:=Xz.1 e;obtain⟨a,b⟩:=h.ord.2 k (jO d);unfold ip at c;rw[oN (k:=k.toNat) (by omega)]at c;exact(h.wr _ (Xo _)).1 r c
theorem PM{i:Nat}(h:i<f.υ.length):WJ f (i+1)=WJ f i++ip f f.υ[i]:=by
 unfold WJ;rw[l6 h,Xw,XR,lB];simp
theorem WrI{i:Nat}(h:f.υ.length<=i):WJ f i=WJ f f.υ.length:=by
 unfold WJ;rw[mc h,gt]
theorem FZ.kid(h:FZ f){i:Nat}(hi:i<f.υ.length):∃c:(f.υ[i]).toNat<f.π.length,ip f f.υ[i]=f.π[(f.υ[i]).toNat].ι/\0<=f.υ[i]:=by
 obtain⟨a,b⟩:=h.ord.2 _ (Xo hi);have c:(f.υ[i]).toNat<f.π.length:=by omega
 refine⟨c,?_,a⟩;unfold ip;rw[oN c]
theorem HZ(a:k<f.π.length):Xc (f.π.map Kd.e) k d_KidRun=Kd.e f.π[k]:=by
 rw[Wn (show k<(f.π.map Kd.e).length by simpa using a),List.getElem_map]
theorem Rx(b:FZ f)(l:Vals 8 base)(t:Nat)(i:1048576<N):∀(d j a:Nat),j+d=min t f.υ.length->d<a->
  o8 N (t:Int) f.e (λA z p=>some ((),(p,()))) a (j:Int) (ovl base (WJ f j))=ret (ovl base (WJ f t))
 |0,j,a,u,hf=>by
  obtain⟨g,rfl⟩:∃g,a=g+1:=⟨a-1,by omega⟩;have c:P7 f.e=f.υ:=rfl;have s:WJ f j=WJ f t:=by
   by_cases h:t<=f.υ.length
   .rw[show j=t by omega]
   .rw[show j=f.υ.length by omega,WrI (show f.υ.length<=t by omega)]
  rw[o8,c,s];by_cases h:j<f.υ.length
  .rw[WQ h,Wl (show¬(j:Int)<(t:Int) by omega)];rfl
  .rw[W6 (show f.υ.length<=j by omega)];rfl
 |d+1,j,a,u,hf=>by
  obtain⟨g,rfl⟩:∃g,a=g+1:=⟨a-1,by omega⟩;have h:j<f.υ.length:=by omega
  have c:P7 f.e=f.υ:=rfl;have r:Q9 f.e=f.π.map Kd.e:=rfl;obtain⟨k,w,q⟩:=b.kid h;obtain⟨n,o⟩:=b.wr _ (Xo k);have m:=Rx b l t i d (j+1) g (by omega) (by omega);rw[PM h,TH,w]at m;rw[o8,c,r];simp only[Wz,WQ h,Ws h,Wu h,Wf (show(j:Int)<(t:Int) by omega),We,Wk (show j<4611686018427387904 by have:=b.ord.1;omega)];have v:(f.υ[j]).toNat<f.π.length:=k;have x:Xc (f.π.map Kd.e) (Xa f.υ[j]) d_KidRun=Kd.e f.π[(f.υ[j]).toNat]:=HZ k;have y:(Kd.e f.π[(f.υ[j]).toNat]).2.2.2.2.2.2.2.2.1=f.π[(f.υ[j]).toNat].ι:=rfl;rw[Wf (show f.υ[j]>=0 from q),Wf (show f.υ[j]<Wh (f.π.map Kd.e) by unfold Wh;rw[Xy];omega),show inb f.υ[j] (f.π.map Kd.e).length=true by unfold inb;rw[Xy];simp;omega];simp only[We,x,y];rw[Ai (by omega) i,vW n o];simp only[ret,Xd,We];rw[Lu (jH l (b.ε j)) n o i];simp only[ret,Xd];exact m
theorem WrQ(a:FZ f)(c:Vals 8 base){t:Nat}(g:t<=300)(b:1048576<N):DB N base f.e (t:Int)=ret (ovl base (WJ f t)):=by
 unfold DB;have d:f.e.2.2.2.2.2.1=f.start:=rfl;have h:=c.len;rw[d,DF (by omega) b,Ai (by have:=a.st.2;omega) b,pV.2 c,vW a.st.1 a.st.2];simp only[ret,Xd,Xr,Wc];rw[Lu c a.st.1 a.st.2 b];simp only[ret,Xd];have:=Rx a c t b (min t f.υ.length) 0 N (by omega) (by have:=a.ord.1;omega);rw[show WJ f 0=f.start by unfold WJ;simp]at this;exact this
def EL(base:List Int)(f:Fm):Prop:=∀x∈f.π,∀e∈x.C1,(ovl base (WJ f x.C5.toNat)).getD e.1.toNat 0=e.2.1
theorem WsF(h:FT M f)(l:FZ f)(n:Vals 8 base)(m:∀c v,0<=c->c<=7->M c v->base.getD c.toNat 0=v):EL base f:=λx k e j=>by
 obtain⟨i,o,rfl⟩:=nq.1 k;obtain⟨a,g⟩:=(l.sn _ k).2.2.2 e j;rw[mK n (l.ε _) a g];rcases h.sn i o e j with⟨_,b,c⟩|⟨_,_,_,d⟩
 .rw[b];exact m _ _ a g c
 .rw[d]
theorem Wsg{c:Int}(a:0<=c)(b:c<=7):pp N c=ret true:=by
 unfold pp;rw[ls,Wf a,Wf b];rfl
theorem QJ{R:Type}{K0:Option R}{K1:Int->Bool->Option R}{i:Nat}(hi:i<f.π.length){A:List Int}(n:Vals 8 A)(u:f.π[i].C1.length<=300)(m:∀e∈f.π[i].C1,0<=e.1/\e.1<=7)(o:∀e∈f.π[i].C1,A.getD e.1.toNat 0=e.2.1):
  ∀(d j a:Nat),j+d=f.π[i].C1.length->d<a->yt N base (i:Int) f.e A K0 K1 a (j:Int)=K1 (f.π[i].C1.length:Int) false
 |0,j,a,t,hf=>by
  obtain⟨g,rfl⟩:∃g,a=g+1:=⟨a-1,by omega⟩;have p:j=f.π[i].C1.length:=by omega
  have c:Q9 f.e=f.π.map Kd.e:=rfl;have l:inb (i:Int) (f.π.map Kd.e).length=true:=Ws (by rw[Xy];exact hi);have h:P7 (Kd.e f.π[i])=f.π[i].C1:=rfl;have k:Xc (f.π.map Kd.e) (Xa (i:Int)) d_KidRun=Kd.e f.π[i]:=by rw[Xi];exact HZ hi
  simp only[yt,Wz,c,l,We,k,h,W6 (show f.π[i].C1.length<=j by omega),Wc];rw[p]
 |d+1,j,a,t,hf=>by
  obtain⟨g,rfl⟩:∃g,a=g+1:=⟨a-1,by omega⟩;have b:j<f.π[i].C1.length:=by omega
  have c:Q9 f.e=f.π.map Kd.e:=rfl;have l:inb (i:Int) (f.π.map Kd.e).length=true:=Ws (by rw[Xy];exact hi);have h:P7 (Kd.e f.π[i])=f.π[i].C1:=rfl;have k:Xc (f.π.map Kd.e) (Xa (i:Int)) d_KidRun=Kd.e f.π[i]:=by rw[Xi];exact HZ hi
  have s:Xc f.π[i].C1 (Xa (j:Int)) ((0:Int),((0:Int),(0:Int)))=f.π[i].C1[j]:=Wu b _;obtain⟨q,r⟩:=m _ (Xo b);have v:=o _ (Xo b);have w:=QJ (K0:=K0) (K1:=K1) hi n u m o d (j+1) g (by omega) (by omega);simp only[yt,Wz,c,l,We,k,h,WQ b,Ws b,s,Wsg q r,ret,Xd,Xr,Wc,Wk (show j<4611686018427387904 by omega)];rw[show inb f.π[i].C1[j].1 A.length=true by unfold inb;rw[n.len];simp;omega,v];simp only[We,bne_self_eq_false,Wc];exact w
theorem Ry(b:FZ f)(i:Vals 8 base)(m:EL base f)(l:1048576<N):∀(d j a:Nat),j+d=f.π.length->d<a->
  yu N base f.e (some ((),(false,()))) (λx u=>some ((),(true,()))) a (j:Int)=ret true
 |0,j,a,o,hf=>by
  obtain⟨g,rfl⟩:∃g,a=g+1:=⟨a-1,by omega⟩;have h:f.e.2.2.2.2.2.2.2.2.2=f.π.map Kd.e:=rfl;simp only[yu,h,W6 (show(f.π.map Kd.e).length<=j by rw[Xy];omega),Wc]
 |d+1,j,a,o,hf=>by
  obtain⟨g,rfl⟩:∃g,a=g+1:=⟨a-1,by omega⟩;have c:j<f.π.length:=by omega
  have k:j<(f.π.map Kd.e).length:=by rw[Xy];omega
  have h:f.e.2.2.2.2.2.2.2.2.2=f.π.map Kd.e:=rfl;have r:Xc (f.π.map Kd.e) (Xa (j:Int)) d_KidRun=Kd.e f.π[j]:=by rw[Xi];exact HZ c
  have q:=Ry b i m l d (j+1) g (by omega) (by omega);obtain⟨s,v,w,t⟩:=b.sn _ (Xo c);have n:(Kd.e f.π[j]).2.2.1=((f.π[j].C5.toNat:Nat):Int):=by show f.π[j].C5=_;omega
  have p:=b.l3;simp only[yu,h,WQ k,Ws k,We,r,n,WrQ b i (show f.π[j].C5.toNat<=300 by omega) l,ret,Xd,Wk (show j<4611686018427387904 by omega)];rw[show(0:Int)=((0:Nat):Int)from rfl,QJ c (jH i (b.ε _)) s t (m _ (Xo c)) f.π[j].C1.length 0 N (by omega) (by omega)];exact q
theorem WnD(a:FZ f)(c:Vals 8 base)(g:EL base f)(b:1048576<N):CH N base f.e=ret true:=by
 unfold CH;have d:f.e.2.2.2.2.2.1=f.start:=rfl;have i:=c.len;have h:=a.l3;rw[d,DF (by omega) b,Ai (by have:=a.st.2;omega) b,pV.2 c,vW a.st.1 a.st.2];simp only[ret,Xd,Xr,Wc];exact Ry a c g b f.π.length 0 N (by omega) (by omega)
end
end
section
def bT(s:Int):Int:=(s-1)/65536
def c4(k:Int):Int:=(7*k+3)%4
structure SlOk(l:List Int):Prop where
 len:l.length=16
 each:∀i (h:i<l.length),l[i]=0\/((1<=l[i]/\l[i]<=524288)/\c4 (bT l[i])=((i/4:Nat):Int))
 one:∀i j (hi:i<l.length) (hj:j<l.length),i<j->l[i]≠0->l[j]≠0->bT l[i]≠bT l[j]
def qv(k s:Int):Bool:=decide (s>0)&&decide (bT s=k)
def fF(l:List Int)(k:Int):Option (Nat×Int):=fnd (qv k) l 0
def p7(l:List Int)(k:Int):Nat:=if ah l (4*c4 k) 0=0 then(4*c4 k).toNat else(4*c4 k).toNat+1
def ij(l:List Int)(k v:Int):List Int:=match fF l k with
 |some r=>l.set r.1 (1+65536*k+v)
 |none=>l.set (p7 l k) (1+65536*k+v)
def WD(l:List Int)(k:Int):Int:=match fF l k with
 |some r=>(r.2-1)%65536+1
 |none=>0
def ou(l:List Int)(k:Int):List Int:=match fF l k with
 |some r=>l.set r.1 0
 |none=>l
variable{N:Nat}{l:List Int}{k v:Int}
theorem ER{n:Int}(h:I64 n):IntKind.wrap .i64 n=n:=v7 h
theorem Rd{s:Int}(h:1<=s/\s<=524288):z8 N s=ret (bT s):=by
 unfold z8;rw[dZ (by unfold I64;omega)];have:gV .i64 (s-1) 65536=bT s:=by
  unfold gV bT;rw[E5 (by omega),ER (by unfold I64;omega)]
 rw[this];rfl
theorem G9{s:Int}(h:1<=s/\s<=524288):0<=bT s/\bT s<=7:=by unfold bT;omega
theorem DV:jT N k=ret (decide (0<=k)&&decide (k<=7)):=by simp[jT,fI]
theorem Qk(b:0<=k/\k<=7)(c:0<=v/\v<=65535):Do N k v=ret (1+65536*k+v):=by
 unfold Do;rw[om (by unfold I64;omega),WE (a:=1) (by unfold I64;omega),WE (by unfold I64;omega)]
theorem QC(a:0<=k/\k<=7):Fx N k=ret (c4 k):=by
 unfold Fx;rw[DV,om (by unfold I64;omega),WE (by unfold I64;omega)];have:bp (7*k+3) 4=c4 k:=by grind [bp,c4,Int.tmod_eq_emod_of_nonneg]
 simp only[ret,Xd,Wf a.1,Wf a.2,hL,Xr,Wc,this];rfl
theorem SlOk.val(h:SlOk l){i:Nat}(hi:i<l.length)(b:l[i]≠0):1<=l[i]/\l[i]<=524288:=by
 rcases h.each i hi with a|a
 .omega
 omega
theorem Ld(h:SlOk l)(g:1048576<N):qX N l k=ret (match fF l k with|some r=>(r.1:Int)|none=>-1):=by
 unfold qX fF;have i:=h.len;have c:=Ek (l:=l) (p:=qv k) (N:=N) (lp:=λn j=>uZ N k l (λb=>(some ((),(b,())))) (λe d=>(some ((),((-1:Int),())))) n j) (K0:=λj=>some ((),(j,()))) (K1:=some ((),((-1:Int),()))) (by omega) (by omega)
  (λn j a=>by
   simp only[uZ,WQ a,Ws a,Wu a,Wk (show j<4611686018427387904 by omega),We];unfold qv;by_cases f:l[j]>0
   .rw[Rd (h.val a (by omega))]
    grind
   grind)
  (λn=>by simp[uZ,W6,Xl,Wc])
 rw[c];cases fnd (qv k) l 0<;>rfl
theorem FY(h:SlOk l)(E:1048576<N):qS N l=ret true:=by
 have F:=h.len;have A:∀(d j n:Nat) (s:List Bool),j+d=16->d<n->s.length=8->(∀c:Nat,s.getD c false=true->∃i,∃o:i<l.length,i<j/\l[i]≠0/\bT l[i]=c)->
   uJ N l (some ((),(false,()))) (λG I H=>(some ((),(true,())))) n (j:Int) s=ret true:=by
  intro d
  induction d with
  |zero=>
   intro j n s w y _ _;obtain⟨n,rfl⟩:∃m,n=m+1:=⟨n-1,by omega⟩;have:j=l.length:=by omega
   subst this;simp[uJ,W6,Xl,Wc]
  |succ d ih=>
   intro j n s w y p t;obtain⟨n,rfl⟩:∃m,n=m+1:=⟨n-1,by omega⟩;have a:j<l.length:=by omega
   simp only[uJ,WQ a,Ws a,Wu a,Wk (show j<4611686018427387904 by omega),We,WI];by_cases e:l[j]=0
   .rw[Wb e];exact ih (j+1) n s (by omega) (by omega) p λc b=>by
     grind
   .rw[Wa e];have f:=h.val a e;have x:=G9 f;have B:c4 (bT l[j])=((j/4:Nat):Int):=by
     rcases h.each j a with g|g
     .omega
     omega
    have z:gV .i64 (j:Int) 4=((j/4:Nat):Int):=by
     unfold gV;rw[E5 (by omega),ER (by unfold I64;omega)];omega
    have q:s.getD (Xa (bT l[j])) false=false:=by
     rw[nm];intro b;obtain⟨i,o,g,r,C⟩:=t _ b;exact h.one i j o a g r e (by omega)
    rw[Qk (k:=7) (v:=65535) (by omega) (by omega),Rd f];simp only[ret,Xd,fI,show(1:Int)+65536*7+65535=524288 from rfl,Wf f.1,Wf f.2,hL,Xr,Wc,QC x,B,z,bne_self_eq_false];rw[show inz (4:Int)=true from rfl];simp only[We];rw[show inb (bT l[j]) 8=true by grind [inb],p,Wf rfl,q];simp only[hL,We,Wc];refine ih (j+1) n _ (by omega) (by omega) (by simp_all) λc b=>?_;by_cases u:c=(bT l[j]).toNat
    .grind
    .have:s.getD c false=true:=by
      grind
     grind
 unfold qS;rw[show((Wh l) !=(16:Int))=false by grind [Wh]];simp only[Wc];refine A 16 0 N _ (by omega) (by omega) (by simp) λc b=>?_;rw[Xq]at b;by_cases D:c<8
 .grind
 simp_all
theorem nY(h:SlOk l){r:Nat×Int}(e:fF l k=some r):∃i:r.1<l.length,l[r.1]=r.2/\1<=r.2/\r.2<=524288/\bT r.2=k/\c4 k=((r.1/4:Nat):Int):=by
 obtain⟨c,f,a,b⟩:=kT e;rw[dj]at a;rw[mA,Xp a]at b;injection b with b;unfold qv at c;simp only[Xj,Wg]at c;have g:=h.val a (by omega);rcases h.each r.1 a with d|d
 .omega
 simp_all
theorem GJ(h:SlOk l)(b:fF l k=none)(i:Nat)(hi:i<l.length)(a:l[i]≠0):bT l[i]≠k:=by
 have:=A9 b l[i] (Xo hi);unfold qv at this;have c:=h.val hi a
 grind
theorem UT(k:Int):0<=c4 k/\c4 k<=3:=by unfold c4;omega
theorem L7(h:SlOk l)(s:0<=k/\k<=7)(g:fF l k=none):∃r:p7 l k<l.length,l[p7 l k]=0/\c4 k=((p7 l k/4:Nat):Int)/\(p7 l k=(4*c4 k).toNat\/(p7 l k=(4*c4 k).toNat+1/\ah l (4*c4 k) 0≠0)):=by
 have t:=h.len;have q:=UT k;unfold p7;have b:(4*c4 k).toNat<l.length:=by omega
 have i:ah l (4*c4 k) 0=l[(4*c4 k).toNat]:=Wn b _;by_cases a:ah l (4*c4 k) 0=0
 .grind
 .simp only[Wa a];have c:(4*c4 k).toNat+1<l.length:=by omega
  refine⟨c,?_,by omega,.inr ⟨trivial,a⟩⟩;refine Classical.byContradiction λd=>?_;rw[i]at a;have j:=GJ h g _ b a;have m:=GJ h g _ c d;have n:=h.one _ _ b c (by omega) a d;have o:=G9 (h.val b a);have p:=G9 (h.val c d);rcases h.each _ b with e|e
  .exact a e
  .rcases h.each _ c with f|f
   .exact d f
   grind [bT,c4]
theorem SU(a:0<=k/\k<=7)(b:0<=v/\v<=65535):(1<=1+65536*k+v/\1+65536*k+v<=524288)/\bT (1+65536*k+v)=k:=by unfold bT;omega
theorem MH(h:SlOk l){i:Nat}(hi:i<l.length){s:Int}(o:s=0\/((1<=s/\s<=524288)/\c4 (bT s)=((i/4:Nat):Int)))(n:s≠0->∀j (c:j<l.length),j≠i->l[j]≠0->bT l[j]≠bT s):SlOk (l.set i s) where
 len:=by rw[aK];exact h.len
 each:=λj c=>by
  rw[aK]at c;rw[ex];by_cases m:i=j
  .simp_all
  .rw[Wa m];exact h.each j c
 one:=λa b d e f=>by
  rw[aK]at d e;rw[ex,ex];by_cases g:i=a
  .grind
  .rw[Wa g];by_cases k:i=b
   .grind
   .rw[Wa k];exact h.one a b d e f
theorem AZ(h:SlOk l)(m:0<=k/\k<=7)(n:0<=v/\v<=65535):SlOk (ij l k v):=by
 obtain⟨o,p⟩:=SU m n;unfold ij;cases hr:fF l k with
 |some r=>
  obtain⟨b,g,q,s,i,t⟩:=nY h hr;refine MH h b (.inr ⟨o,by simp_all⟩) λ_ j c f d=>?_;rw[p,←i,←g];rcases Nat.lt_or_gt_of_ne f with a|a
  .exact h.one j r.1 c b a d (by omega)
  .exactλe=>h.one r.1 j b c a (by omega) d e.symm
 |none=>
  grind [L7,MH,GJ]
theorem L5(h:SlOk l):SlOk (ou l k):=by
 unfold ou;cases hr:fF l k with
 |some r=>
  obtain⟨a,b,_⟩:=nY h hr;exact MH h a (.inl rfl) λh=>Wi rfl h
 |none=>exact h
theorem D6(l:List Int)(k:Int):0<=WD l k/\WD l k<=65536:=by
 unfold WD;cases fF l k<;>simp only<;>omega
theorem Lc(h:SlOk l)(c:0<=k/\k<=7)(a:1048576<N):Dg N l k=some ((),((if WD l k=0 then 0 else WD l k-1),(decide (WD l k≠0),()))):=by
 unfold Dg WD;rw[FY h a,DV,Ld h a];simp only[ret,Xd,Xr,Wc,Wf c.1,Wf c.2,hL];cases hr:fF l k with
 |none=>rfl
 |some r=>
  obtain⟨b,d,e,f,g,i⟩:=nY h hr;simp only[Wl (show¬((r.1:Int)<0) by omega),Wc,dc,Wf b,We,Wu b,d];rw[dZ (by unfold I64;omega),nV (by omega),Wa (by omega),Wf (by omega)];simp only[Int.add_sub_cancel];rfl
theorem Lb(h:SlOk l)(a:0<=k/\k<=7)(i:0<=v/\v<=65535)(e:1048576<N):u9 N l k v=some ((),(ij l k v,(WD l k,(true,())))):=by
 have w:=h.len;unfold u9;rw[DH (by omega),FY h e,DV,mE,Ld h e,Lc h a e,Qk a i,QC a];simp only[ret,Xd,Xr,Wc,Wf a.1,Wf a.2,hL,mG.2 i];unfold ij WD;cases hr:fF l k with
 |some r=>
  obtain⟨d,f,m,b,g,t⟩:=nY h hr;simp only[Wf (show((r.1:Int)>=0) by omega),We,dc,Wf d,Xi];rw[Wa (by omega),WE (by unfold I64;omega)];simp_all
 |none=>
  simp only[show decide ((-1:Int)>=0)=false from rfl,Wc];have u:=UT k;obtain⟨d,f,m,b⟩:=L7 h a hr;rw[om (by unfold I64;omega)];obtain⟨c,rfl⟩:∃c,N=c+1+1:=⟨N-2,by omega⟩;have q:4*c4 k=(((4*c4 k).toNat:Nat):Int):=by omega
  have p:∀n,ym (c+1+1) k v l (λj x=>(bif inb j (Xb l)then(some ((),(Xk l (Xa j) (1+65536*k+v),(0,(true,())))))else none)) (n+1) (p7 l k:Int)=some ((),(l.set (p7 l k) (1+65536*k+v),((0:Int),(true,())))):=λn=>by
   simp only[ym,Ws d,Wu d,f,We,bne_self_eq_false,Wc];rw[Xi]
  rcases b with b|⟨b,g⟩
  .grind
  .have ab:(4*c4 k).toNat<l.length:=by omega
   have o:ah l (4*c4 k) 0=l[(4*c4 k).toNat]:=Wn ab _;rw[o]at g;have s:=p c;rw[q];rw[ym];simp only[Ws ab,Wu ab,We];rw[show(l[(4*c4 k).toNat] !=0)=true by grind,Wk (by omega),←b]
   grind
theorem OW(h:SlOk l)(b:0<=k/\k<=7)(a:1048576<N):Fy N l k=some ((),(ou l k,(WD l k,(true,())))):=by
 have j:=h.len;unfold Fy;rw[DH (by omega),FY h a,DV,Ld h a,Lc h b a];simp only[ret,Xd,Xr,Wc,Wf b.1,Wf b.2,hL];unfold ou WD;cases hr:fF l k with
 |some r=>
  obtain⟨c,d,e,f,g,i⟩:=nY h hr;simp only[Wl (show¬((r.1:Int)<0) by omega),We,Wc,dc,Wf c,Xi];rw[Wa (by omega),WE (by unfold I64;omega)];simp_all
 |none=>rfl
end
section
abbrev Shf:=List Int×Int
abbrev Un:=Int×Int×Int
structure ShOk(s:Shf):Prop where
 slots:SlOk s.1
 cnt:0<=s.2/\s.2<=65535
def UnV(u:Un):Prop:=(u.1=1/\(0<=u.2.1/\u.2.1<=7)/\0<=u.2.2/\u.2.2<=65535)\/(u.1=2/\(0<=u.2.1/\u.2.1<=7)/\u.2.2=0)\/(u.1=3/\u.2.1=0/\0<=u.2.2/\u.2.2<=65535)
def eM(s:Shf)(u:Un):Shf:=
 if u.1=1 then(ij s.1 u.2.1 u.2.2,s.2)else if u.1=2 then(ou s.1 u.2.1,s.2)else if u.1=3 then(s.1,(s.2-u.2.2+65536)%65536)else s
def gL(k e:Int):Un:=if e=0 then(2,k,0)else(1,k,e-1)
def WK(s:Shf)(o:Opn)(r:List Int):Shf×List Int×Un:=
 if o.1=12 then((ij s.1 o.2.1 (ah r o.2.2.1 0),s.2),d8 r o.2.2.2 (WD s.1 o.2.1%65536),gL o.2.1 (WD s.1 o.2.1))else
 if o.1=13 then(s,d8 r o.2.1 (WD s.1 o.2.2.1%65536),(0,0,0))else
 if o.1=14 then((ou s.1 o.2.1,s.2),d8 r o.2.2.1 (WD s.1 o.2.1%65536),gL o.2.1 (WD s.1 o.2.1))else
 if o.1=15 then((s.1,(s.2+ah r o.2.1 0)%65536),r,(3,0,ah r o.2.1 0))else
 (s,d8 r o.2.1 s.2,(0,0,0))
def W0(o:Opn):Int×Int:=
 if o.1=12\/o.1=14 then(o.2.1,2)else if o.1=13 then(o.2.2.1,1)else if o.1=15 then(8,1)else(8,2)
section
variable{o:Opn}
theorem qj(h:ax o=true)(d:o.1=12):gj o.2.1=true/\aD o.2.2.1=true/\aD o.2.2.2=true:=by
 obtain⟨k,a,b,c⟩:=o;simp only at d;subst d;have:(gj a&&aD b&&aD c)=true:=h;simp_all
theorem BQ(h:ax o=true)(d:o.1=13):aD o.2.1=true/\gj o.2.2.1=true:=by
 obtain⟨k,a,b,c⟩:=o;simp only at d;subst d;have:(aD a&&gj b&&(c==(0:Int)))=true:=h;simp_all
theorem qn(h:ax o=true)(d:o.1=14):gj o.2.1=true/\aD o.2.2.1=true:=by
 obtain⟨k,a,b,c⟩:=o;simp only at d;subst d;have:(gj a&&aD b&&(c==(0:Int)))=true:=h;simp_all
theorem Vy(h:ax o=true)(d:o.1=15):aD o.2.1=true:=by
 obtain⟨k,a,b,c⟩:=o;simp only at d;subst d;have:(aD a&&(b==(0:Int))&&(c==(0:Int)))=true:=h;simp_all
theorem Vs(h:ax o=true)(d:o.1=16):aD o.2.1=true:=by
 obtain⟨k,a,b,c⟩:=o;simp only at d;subst d;have:(aD a&&(b==(0:Int))&&(c==(0:Int)))=true:=h;simp_all
end
theorem hP{x:Int}:gj x=true↔0<=x/\x<=7:=by unfold gj;simp
variable{N:Nat}{s:Shf}{u:Un}{o:Opn}{r:List Int}
theorem QN{k e:Int}(b:0<=k/\k<=7)(a:0<=e/\e<=65536):UnV (gL k e):=by
 unfold gL UnV
 grind
theorem WrG(h:ShOk s)(d:UnV u):ShOk (eM s u):=by
 unfold eM;rcases d with⟨a,b,c⟩|⟨a,b,c⟩|⟨a,b,c⟩
 .rw[Wb a];exact⟨AZ h.slots b c,h.cnt⟩
 .rw[Wa (by omega),Wb a];exact⟨L5 h.slots,h.cnt⟩
 .rw[Wa (by omega),Wa (by omega),Wb a];exact⟨h.slots,by omega⟩
theorem WrA(h:ShOk s)(d:Vals 4 r)(f:ax o=true)(g:12<=o.1):ShOk (WK s o r).1/\Vals 4 (WK s o r).2.1/\((WK s o r).2.2.1≠0->UnV (WK s o r).2.2)/\((WK s o r).2.2.1=0->(WK s o r).1=s):=by
 have i:=ly f;unfold WK;split
 .obtain⟨a,b,c⟩:=qj f ‹_›;rw[hP]at a;have e:=D6 s.1 o.2.1;exact⟨⟨AZ h.slots a (d.get _),h.cnt⟩,d.set _ (by omega),λ_=>QN a e,λh=>by unfold gL at h;split at h<;>(simp_all)⟩
 .split
  .exact⟨h,d.set _ (by omega),λh=>Wi rfl h,λ_=>rfl⟩
  .split
   .obtain⟨a,b⟩:=qn f ‹_›;rw[hP]at a;have e:=D6 s.1 o.2.1;exact⟨⟨L5 h.slots,h.cnt⟩,d.set _ (by omega),λ_=>QN a e,λh=>by unfold gL at h;split at h<;>(simp_all)⟩
   .split
    .have:=d.get o.2.1.toNat;have:=h.cnt;refine⟨⟨h.slots,by grind⟩,d,λ_=>.inr (.inr ⟨rfl,rfl,d.get _⟩),λh=>by simp_all⟩
    .exact⟨h,d.set _ h.cnt,λh=>Wi rfl h,λ_=>rfl⟩
theorem O2(h:ShOk s)(a:1048576<N):FJ N s=ret true:=by
 unfold FJ;rw[FY h.slots a,mE,mG.2 h.cnt];rfl
theorem O8(h:ShOk s):FC N s=ret s:=by
 unfold FC;rw[DH (by have:=h.slots.len;omega)];rfl
theorem Wkn(d:UnV u):JW N u=ret true:=by
 unfold JW;simp only[WI,DV,mE,ret,Xd];rcases d with⟨a,b,c⟩|⟨a,b,c⟩|⟨a,b,c⟩
 .simp_all [Wa,Wb,mG]
 .simp_all
 simp_all [Wa,Wb,mG]
theorem WjW(h:ShOk s)(e:UnV u)(d:1048576<N):J5 N s u=some ((),(eM s u,(true,()))):=by
 unfold J5 eM;rw[O8 h,Wkn e];simp only[ret,Xd];rw[O2 h d];simp only[ret,Xd,Xr,Wc,WI];have f:=h.cnt;rcases e with⟨a,b,c⟩|⟨a,b,c⟩|⟨a,b,c⟩
 .rw[Wb a,Wb a,Lb h.slots b c d];rfl
 .rw[Wa (by omega),Wb a,Wa (by omega),Wb a,OW h.slots b d];rfl
 .rw[Wa (by omega),Wa (by omega),Wb a,Wa (by omega),Wa (by omega),Wb a];rw[dZ (by unfold I64;omega),WE (by unfold I64;omega),nV (by omega)];rfl
theorem OZ{k e:Int}(a:0<=e/\e<=65536):FL N k e=ret (gL k e):=by
 unfold FL gL;rw[WI,dZ (by unfold I64;omega)];split<;>rfl
theorem WlK(a:ax o=true)(b:12<=o.1):ID N o=some ((),((W0 o).1,((W0 o).2,()))):=by
 have c:=ly a;unfold ID W0;rw[Gr,a];simp only[ret,Xd,Xr,Wc,WI];have:o.1=12\/o.1=13\/o.1=14\/o.1=15\/o.1=16:=by omega
 rcases this with h|h|h|h|h<;>simp[h]
theorem Wjn(h:ShOk s)(m:Vals 4 r)(d:ax o=true)(p:12<=o.1)(k:1048576<N):
  J6 N s o r=some ((),((WK s o r).1,((WK s o r).2.1,((WK s o r).2.2,(true,()))))):=by
 have u:=ly d;have e:=m.len;have q:=h.cnt;unfold J6 WK;rw[O8 h,DH (by omega)];simp only[ret,Xd];rw[O2 h k,F2 (by omega) k,lI.2 m,Ps,Uh d p];simp only[ret,Xd,Xr,Wc,bne_self_eq_false,WI,show inz (65536:Int)=true from rfl,We,Wz,aK];by_cases f:o.1=12
 .obtain⟨a,b,c⟩:=qj d f;rw[hP]at a;rw[Wb f,Wb f,W2 b e,W2 c e];have l:=D6 s.1 o.2.1;rw[Lb h.slots a (m.get _) k];simp only[We,Xd,OZ l,ret];rw[nV (by omega)];rfl
 .rw[Wa f,Wa f];by_cases g:o.1=13
  .obtain⟨a,b⟩:=BQ d g;rw[hP]at b;have l:=D6 s.1 o.2.2.1;rw[Wb g,Wb g,W2 a e,Lc h.slots b k];simp only[We,Xd];by_cases n:WD s.1 o.2.2.1=0
   .rw[n];rfl
   .rw[Wa n,Wf n,WE (by unfold I64;omega),nV (by omega),Int.sub_add_cancel];simp only[We,nv];rfl
  .rw[Wa g,Wa g];by_cases i:o.1=14
   .obtain⟨a,b⟩:=qn d i;rw[hP]at a;have l:=D6 s.1 o.2.1;rw[Wb i,Wb i,W2 b e,OW h.slots a k];simp only[We,Xd,OZ l,ret];rw[nV (by omega)];rfl
   .rw[Wa i,Wa i];by_cases j:o.1=15
    .have a:=Vy d j;have t:=m.get o.2.1.toNat;rw[Wb j,Wb j,W2 a e];simp only[We];rw[WE (by unfold I64;omega),nV (by omega)];rfl
    .have a:=Vs d (by omega);rw[Wa j,Wa j,W2 a e];rfl
def sQ(l:List Int):Bool:=decide (l.length=8)&&l.all λx=>decide (0<=x)&&decide (x<=65536)
structure ThOk(t:List Int×List Int×Int):Prop where
 ω:Vals 8 t.1
 map:t.2.1.length=8/\∀x∈t.2.1,0<=x/\x<=65536
 cnt:0<=t.2.2/\t.2.2<=65535
def qy(t:List Int×List Int×Int):Bool:=la t.1&&(sQ t.2.1&&cD t.2.2)
theorem G7{t:List Int×List Int×Int}:qy t=true↔ThOk t:=by
 unfold qy sQ;simp only[Xj,pV,mG,Wg,cq];exact⟨λh=>⟨h.1,h.2.1,h.2.2⟩,λh=>⟨h.ω,h.map,h.cnt⟩⟩
theorem PU{l:List Int}(g:l.length<=1048576)(f:1048576<N):z7 N l=ret (sQ l):=by
 unfold z7 sQ;have b:=WH (l:=l) (V:=Unit) (R:=Unit×Ks) (lp:=λn j v=>yN N l (some ((),(false,()))) (λc d=>(some ((),((Wh l)==(8:Int),())))) n j) (n:=N) (by omega)
  (body:=λj x v k=>bif !(decide (0<=x)&&decide (x<=65536))then some ((),(false,()))else k v) (K:=λ_ v=>some ((),((Wh l)==(8:Int),())))
  (λn i v a=>by simp only[yN,WQ a,Ws a,Wu a,Wk (show i<4611686018427387904 by omega),We,fI,ret,Xd])
  (λn v=>by simp[yN,W6,Xl,Wc]) ()
 refine b.trans ?_;rw[hQ (p:=λx=>!(decide (0<=x)&&decide (x<=65536))) (E:=λ_=>some ((),(false,()))) l 0 () (λj x v k _=>rfl),jF];have e:((Wh l)==(8:Int))=decide (l.length=8):=by
  grind [Wh]
 rw[e];cases l.all _<;>cases decide (l.length=8)<;>rfl
theorem Wku{t:List Int×List Int×Int}(b:t.1.length<=1048576)(c:t.2.1.length<=1048576)(a:1048576<N):JL N t=ret (qy t):=by
 unfold JL qy;rw[PC b a,PU c a,mE];cases la t.1<;>cases sQ t.2.1<;>rfl
def pW:List Int->Nat->List Int->List Int
 | [],_,l=>l
 |x::m,k,l=>pW m (k+1) (if x>0 then ij l k (x-1)else l)
def BE(m:List Int):List Int:=pW m 0 (Xt 16 0)
theorem GK:SlOk (Xt 16 0) where
 len:=by simp
 each:=λi h=>.inl (kw ..)
 one:=λi j a b _ h=>Wi (kw ..) h
theorem PN:∀(m:List Int) (k:Nat) (l:List Int),k+m.length<=8->(∀x∈m,0<=x/\x<=65536)->SlOk l->SlOk (pW m k l)
 | [],_,l,_,_,h=>h
 |x::m,k,l,b,a,h=>by
  have d:=a x (Xg ..);rw[Xu]at b;refine PN m (k+1) _ (by omega) (λy c=>a y (Xf _ c)) ?_
  grind [AZ]
theorem WuP{m:List Int}(b:m.length=8)(a:∀x∈m,0<=x/\x<=65536):SlOk (BE m):=PN m 0 _ (by omega) a GK
theorem ZP{m:List Int}(t:m.length=8)(o:∀x∈m,0<=x/\x<=65536)(e:1048576<N):nC N m=ret (BE m):=by
 have i:sQ m=true:=by simp_all [sQ,Xj,Wg,cq]
 unfold nC BE;rw[PU (by omega) e,i];simp only[ret,Xd,Xr,Wc];rw[show OM N=ret (Xt 16 0)from rfl];simp only[ret,Xd];have p:∀(d j n:Nat) (l:List Int),j+d=m.length->d<n->SlOk l->ux N m (λr q g=>(some ((),(g,())))) n (j:Int) l=ret (pW (m.drop j) j l):=by
  intro d
  induction d with
  |zero=>
   intro j n l h k f;obtain⟨n,rfl⟩:∃b,n=b+1:=⟨n-1,by omega⟩;have:j=m.length:=by omega
   subst this;simp[ux,W6,Xl,Wc,oS,pW]
  |succ d ih=>
   intro j n l h k f;obtain⟨n,rfl⟩:∃b,n=b+1:=⟨n-1,by omega⟩;have a:j<m.length:=by omega
   have s:=o m[j] (Xo a);simp only[ux,WQ a,Ws a,Wu a,Wk (show j<4611686018427387904 by omega),We,gF];rw[List.drop_eq_getElem_cons a,pW];by_cases c:m[j]>0
   .rw[Wb c,Wb c,dZ (by unfold I64;omega),Lb f (by omega) (by omega) e]
    grind [AZ]
   grind
 have:=p m.length 0 N (Xt 16 0) (by omega) (by omega) GK;simp_all
end
section
abbrev Hd:=Int×Int×Int
def HdV(h:Hd):Prop:=(1<=h.1/\h.1<=9)/\(0<=h.2.1/\h.2.1<=8)/\1<=h.2.2/\h.2.2<=2
def HdB(a b:Hd):Prop:=cfH a b<0/\(a.2.1=b.2.1->a.2.2≠2/\b.2.2≠2)
structure HOk(l:List Hd):Prop where
 val:∀h∈l,HdV h
 up:l.Pairwise HdB
theorem HOk.ris{l:List Hd}(h:HOk l):Ris cfH l:=h.up.imp λh=>h.1
def rO(l:List Hd)(who:Int):List Int:=(l.filter λh=>decide (h.1=who)).map (·.2.1)
def blk(who what mode:Int)(h:Hd):Bool:=decide (h.2.1=what)&&(decide (h.1≠who)&&(decide (mode=2)||decide (h.2.2=2)))
def sj(l:List Hd)(who what mode:Int):List Int:=(l.filter (blk who what mode)).map (·.1)
def kp(who what:Int)(h:Hd):Bool:=decide (h.1=who)&&decide (h.2.1=what)
def gT(l:List Hd)(who what:Int):Int:=match fnd (kp who what) l 0 with
 |some r=>r.2.2.2
 |none=>0
def gP(a b:Int):Int:=if a<=b then b else a
def Eu(l:List Hd)(who what mode:Int):List Hd:=eR cfH l (who,what,gP (gT l who what) mode)
def hZ(l:List Hd)(who what mode:Int):Option (List Hd):=if sj l who what mode= []then some (Eu l who what mode)else none
def W1(l:List Hd)(who:Int):List Hd:=l.filter λh=>!(h.1==who)
theorem rF{α:Type}{a b:Int}{x y:α}:(bif a !=b then x else y)=if a=b then y else x:=by
 simp_all
theorem Wx0{α:Type}{cf:α->α->Int}(b:Lin cf){L M:List α}(a:Ris cf L)(c:Ris cf M)(d:∀x,x∈L↔x∈M):L=M:=by
 rw[←HH b c (a.imp λh=>.inl h) d,HH b a (a.imp λh=>.inl h) λx=>Iff.rfl]
theorem apH{a b:Hd}:Ap cfH a b↔¬(a.1=b.1/\a.2.1=b.2.1):=by grind [Ap,kR]
theorem QR{a b c d:Hd}(e:a.1=c.1)(f:a.2.1=c.2.1)(g:b.1=d.1)(h:b.2.1=d.2.1):cfH a b<0↔cfH c d<0:=by simp_all [kR]
variable{N:Nat}{l:List Hd}{who what mode:Int}
theorem WwN(h:Ris cfH l){i:Nat}(hi:i<l.length){e:Hd}(d:e.1=l[i].1)(f:e.2.1=l[i].2.1):Ris cfH (l.set i e):=by
 unfold Ris at*;rw[eH]at*;intro a b g j m;rw[aK]at g j;rw[ex,ex];have:=h a b g j m;by_cases c:i=a
 .subst c;rw[Wb rfl,Wa (by omega)];exact(QR d f rfl rfl).2 this
 .rw[Wa c];by_cases k:i=b
  .subst k;rw[Wb rfl];exact(QR rfl rfl d f).2 this
  simp_all
theorem Wyl(h:Ris cfH l){i:Nat}(hi:i<l.length){e:Hd}(a:e.1=l[i].1)(b:e.2.1=l[i].2.1):l.set i e=eR cfH l e:=by
 refine Wx0 ji (WwN h hi a b) (n7 ji h) λx=>?_;rw[(QL ji (h.imp λh=>.inl h) hi (by grind [apH])).2 x,kF ji h]
theorem WyY{h:Hd}:(decide (1<=h.1)&&decide (h.1<=9))=true/\(decide (0<=h.2.1)&&decide (h.2.1<=8))=true/\(decide (1<=h.2.2)&&decide (h.2.2<=2))=true↔HdV h:=by
 simp[HdV,Xj,Wg]
theorem O1{h:Hd}(d:HdV h):Dp N h.1 h.2.1 h.2.2=ret true:=by
 obtain⟨a,b,c⟩:=WyY.2 d;simp_all [Dp,fI,ret,Xd,We]
theorem Wnd{a b:Hd}(c:HdV a)(d:HdV b):Ix N a b=ret (cfH a b):=by
 obtain⟨e,f,g⟩:=c;obtain⟨h,i,j⟩:=d
 grind [Ix,cfH,dZ,I64]
theorem F0(h:HOk l)(v:l.length<=1048576)(u:1048576<N):va N l=ret true:=by
 have q:∀(d j n:Nat),j+d=l.length->d<n->mB N l (some ((),(false,()))) (λs r=>(some ((),(true,())))) n (j:Int)=ret true:=by
  intro d
  induction d with
  |zero=>
   intro j n m o;obtain⟨n,rfl⟩:∃f,n=f+1:=⟨n-1,by omega⟩;simp_all [mB,W6,Xl,Wc]
  |succ d ih=>
   intro j n m o;obtain⟨n,rfl⟩:∃f,n=f+1:=⟨n-1,by omega⟩;have a:j<l.length:=by omega
   have g:=h.val l[j] (Xo a);have i:=ih (j+1) n (by omega) (by omega);simp only[mB,WQ a,Ws a,Wu a,Wk (show j<4611686018427387904 by omega),We,O1 g,ret,Xd,Xr,Wc,i];by_cases t:j=0
   .grind
   .have e1:decide ((j:Int)>0)=true:=by simp;omega
    have k:W3 .i64 (j:Int) 1=((j-1:Nat):Int):=by grind [dZ,I64]
    have b:j-1<l.length:=by omega
    have p:=h.val l[j-1] (Xo b);have c:=eH.1 h.up (j-1) j b a (by omega);simp only[e1,k,We,Ws b,Wu b,Wnd p g,ret,Xd];rw[Wl (show¬(cfH l[j-1] l[j]>=0) by have:=c.1;omega)];simp only[Wc,WI];by_cases e:l[j-1].2.1=l[j].2.1
    .rw[Wb e,Wa (c.2 e).2,Wa (c.2 e).1]
    simp_all
 exact q l.length 0 N (by omega) (by omega)
theorem L0{α β R:Type}{body:Int->α->List β->(List β->Option R)->Option R}{K:Int->List β->Option R}{p:α->Bool}{f:α->β}:∀(l:List α) (j:Nat) (o:List β),o.length+l.length<=2000000->
  (∀(j:Nat) x (v:List β) k,x∈l->v.length<=2000000->body j x v k=bif p x then k (v++ [f x])else k v)->d5 body K l j o=K ((j+l.length:Nat):Int) (o++(l.filter p).map f)
 | [],j,o,_,_=>by simp[d5]
 |x::l,j,o,h,hb=>by
  rw[Xu]at h;rw[d5,hb j x o _ (Xg ..) (by omega),gy];have d:=λc b=>L0 (body:=body) (K:=K) (p:=p) (f:=f) l (j+1) c b λj y v k a=>hb j y v k (Xf _ a)
  grind
theorem Wjf(h:HOk l)(e:l.length<=1048576)(d:1048576<N):zc N l who=ret (rO l who):=by
 unfold zc rO;rw[F0 h e d];simp only[ret,Xd,Xr,Wc];have c:=WH (l:=l) (V:=List Int) (R:=Unit×(List Int×Unit)) (lp:=λn j v=>uM N who l (λg m b=>(some ((),(b,())))) n j v) (n:=N) (by omega)
  (body:=λj x v k=>bif x.1==who then(bif WC (v.length+ [x.2.1].length)then k (Xe v [x.2.1])else none)else k v) (K:=λ_ v=>ret v)
  (λn i v a=>by simp only[uM,WQ a,Ws a,Wu a,Wk (show i<4611686018427387904 by omega),We])
  (λn v=>by simp[uM,W6,Xl,Wc]) []
 refine c.trans ?_;rw[L0 (p:=λh=>decide (h.1=who)) (f:=(·.2.1)) l 0 [] (by simp;omega) (λj x v k _ o=>by rw[Ww (by simp;omega)];simp only[WI,gF,We,cU])];rfl
theorem Wkx(h:HOk l)(b:1<=mode/\mode<=2)(r:l.length<=1048576)(q:1048576<N):Dq N l who what mode=ret (sj l who what mode):=by
 unfold Dq sj;rw[F0 h r q];simp only[ret,Xd,Xr,Wc,fI,Wf b.1,Wf b.2,hL];have o:=WH (l:=l) (V:=List Int) (R:=Unit×(List Int×Unit)) (lp:=λn j v=>nA N who what mode l (λs t c=>(some ((),(c,())))) n j v) (n:=N) (by omega)
  (body:=λj x v k=>bif x.2.1==what then(bif x.1 !=who then(bif mode==2 then(bif WC (v.length+ [x.1].length)then k (Xe v [x.1])else none)else(bif x.2.2==2 then(bif WC (v.length+ [x.1].length)then k (Xe v [x.1])else none)else k v))else k v)else k v) (K:=λ_ v=>ret v)
  (λn i v a=>by simp only[nA,WQ a,Ws a,Wu a,Wk (show i<4611686018427387904 by omega),We])
  (λn v=>by simp[nA,W6,Xl,Wc]) []
 refine o.trans ?_;rw[L0 (p:=blk who what mode) (f:=(·.1)) l 0 [] (by simp;omega) (λj x v k _ u=>by
  rw[Ww (by simp;omega)];unfold blk;simp only[WI,rF,We,cU];by_cases d:x.2.1=what<;>by_cases e:x.1=who<;>by_cases g:mode=2<;>by_cases m:x.2.2=2<;>simp[d,e,g,m])]
 rfl
theorem UF(h:HOk l):0<=gT l who what/\gT l who what<=2:=by
 unfold gT;cases hf:fnd (kp who what) l 0 with
 |none=>simp
 |some r=>
  have:=kT hf;have:=h.val r.2 (List.mem_of_getElem? this.2.2.2)
  grind [HdV]
theorem Wjq(h:HOk l)(v:1<=who/\who<=9)(u:0<=what/\what<=8)(m:1<=mode/\mode<=2)(z:l.length<=1048000)(k:1048576<N):
  CB N l who what mode=some ((),((hZ l who what mode).getD l,((hZ l who what mode).isSome,()))):=by
 unfold CB hZ;have w:yP N l=ret l:=by grind [yP,Ww]
 have q:Dp N who what mode=ret true:=O1 (h:=(who,what,mode)) ⟨v,u,m⟩;rw[w,F0 h (by omega) k,q,Wkx h m (by omega) k];simp only[ret,Xd,Xr,Wc,gF];by_cases g:sj l who what mode= []
 .rw[Wa (by rw[g];simp[Wh]),Wb g];have t:=Ek (l:=l) (p:=kp who what) (N:=N) (lp:=λn j=>uN N who what mode (Wh l) l (λs=>(some ((),(s,(true,()))))) (λB C=>
  (bif WC ((Xb l)+(Xb ([(who,(what,mode))])))then
 ((Zt N (Xe l ([(who,(what,mode))]))).bind λf=>
 (some ((),(f.1.1,(true,())))))else none)) n j)
   (K0:=λj=>some ((),(l.set j.toNat ((l.getD j.toNat (0,0,0)).1,(l.getD j.toNat (0,0,0)).2.1,BR (l.getD j.toNat (0,0,0)).2.2 mode),(true,())))) (K1:=(bif WC ((Xb l)+(Xb ([(who,(what,mode))])))then
 ((Zt N (Xe l ([(who,(what,mode))]))).bind λf=>
 (some ((),(f.1.1,(true,())))))else none)) (by omega) (by omega)
   (λn j i=>by
    simp only[uN,WQ i,Ws i,Wu i,Wk (show j<4611686018427387904 by omega),We];simp[kp,WI,Wwr,gF])
   (λn=>by simp[uN,W6,Xl,Wc])
  rw[t];unfold Eu gT;cases hf:fnd (kp who what) l 0 with
  |some r=>
   obtain⟨b,y,c,d⟩:=kT hf;rw[dj]at c;rw[mA,Xp c]at d;injection d with d;unfold kp at b;simp only[Xj,Wg]at b;simp only[Wu c,d,Option.getD_some,Option.isSome_some];rw[Xi];have:BR r.2.2.2 mode=gP r.2.2.2 mode:=by grind [BR,gP]
   rw[this,b.1,b.2,Wyl h.ris c (e:=(who,what,gP r.2.2.2 mode)) (by simp_all) (by simp_all)]
  |none=>
   have A:=A9 hf;simp only;rw[Ww (by simp;omega)];have D:gP 0 mode=mode:=by unfold gP;rw[Wb (by omega)]
   have o:=Qh (cf:=cfH) (L:=l) (e:=(who,what,mode)) (h.ris.imp λh=>.inl h) (λx a=>by
    grind [apH,kp,Bool.and_eq_false_iff,decide_eq_false_iff_not])
   unfold Zt;simp only[We,cU];rw[SL (rng:=xJ) (N:=N) ji (M:=eR cfH l (who,what,mode)) (n7 ji h.ris) o.1 (λx=>by rw[o.2 x,kF ji h.ris]) (λx a=>by
    rcases Xn.1 a with a|a
    .have:=h.val x a
     grind [HdV,xJ,tC]
    grind [List.mem_singleton,xJ,tC]) (by simp;omega)]
   simp_all
 .rw[Wb (by
   simp_all [sj,Xv,Wh]),Wa g]
  rfl
theorem Wrp(h:HOk l)(D:1<=who/\who<=9)(C:0<=what/\what<=8)(K:1<=mode/\mode<=2)(I:sj l who what mode= []):HOk (Eu l who what mode):=by
 have L:=UF (who:=who) (what:=what) h;have E:∀x∈l,x.2.1=what->x.1≠who->mode≠2/\x.2.2≠2:=λx c f q=>by
  refine Classical.byContradiction λJ=>?_;have:x.1∈sj l who what mode:=Xz.2 ⟨x,dA.2 ⟨c,by grind [blk]⟩,rfl⟩;simp_all
 have F:∀x∈l,x.2.1=what->x.1≠who->gT l who what≠2:=λx c f q=>by
  unfold gT;cases hf:fnd (kp who what) l 0 with
  |none=>simp
  |some r=>
   obtain⟨k,H,o,p⟩:=kT hf;rw[dj]at o;rw[mA,Xp o]at p;injection p with p;unfold kp at k;simp only[Xj,Wg]at k;obtain⟨j,g,rfl⟩:=eI c;have n:=eH.1 h.up;simp only;rw[←p]at k⊢;rcases BV r.1 j with d|M|d
   .exact((n r.1 j o g d).2 (by rw[f,k.2])).1
   .simp_all
   .exact((n j r.1 g o d).2 (by rw[f,k.2])).2
 unfold Eu;refine⟨λx c=>?_,?_⟩
 .rcases(kF ji h.ris).1 c with rfl|c
  .refine⟨D,C,?_⟩;simp only;unfold gP;split<;>omega
  .exact h.val x c.1
 .have hr:=n7 (e:=(who,what,gP (gT l who what) mode)) ji h.ris;have v:=λx=>kF (e:=(who,what,gP (gT l who what) mode)) (x:=x) ji h.ris;have G:∀x∈l,x.2.1=what->x.1≠who->gP (gT l who what) mode≠2:=λx c f q=>by
   have:=F x c f q;have:=(E x c f q).1;unfold gP;split<;>omega
  unfold Ris at hr;rw[eH]at hr⊢;intro i j s g A;refine⟨hr i j s g A,λB=>?_⟩;have d:=hr i j s g A;have t:=(v _).1 (Xo s);have u:=(v _).1 (Xo g);generalize (eR cfH l (who,what,gP (gT l who what) mode))[i]=x at*;generalize (eR cfH l (who,what,gP (gT l who what) mode))[j]=y at*;rcases t with rfl|t<;>rcases u with rfl|u
  .exact Wi d (ji.irr _)
  .grind [apH]
  .grind [apH]
  .obtain⟨a,z,rfl⟩:=eI t.1;obtain⟨b,w,rfl⟩:=eI u.1;have n:=eH.1 h.up;rcases BV a b with m|m|m
   .exact(n a b z w m).2 B
   .subst m;exact Wi d (ji.irr _)
   .exact Wi (ji.tr _ _ _ d (n b a w z m).1) (ji.irr _)
theorem Pz(h:HOk l):HOk (W1 l who):=⟨λx a=>h.val x (dA.1 a).1,h.up.filter _⟩
theorem Mv(h:HOk l):l.length<=81:=by
 have d:∀(l:List Hd) (c:Int),Ris cfH l->(∀e∈l,HdV e/\c<=9*e.2.1+e.1)->1<=c->(l.length:Int)<=82-c\/l= []:=by
  intro l
  induction l with
  |nil=>simp_all
  |cons a l ih=>
   intro c j f k;left;have g:=bq.1 j;have i:=f a (Xg ..);unfold HdV at i;rcases ih (9*a.2.1+a.1+1) g.2 (λe b=>⟨(f e (Xf _ b)).1,by
    grind [kR,Xf,HdV]⟩) (by omega)with h|h
   .grind
   grind
 rcases d l 1 h.ris (λe b=>⟨h.val e b,by have:=h.val e b;grind [HdV]⟩) (by omega)with h|h
 .omega
 simp_all
theorem Pu{α V R:Type}{body:Int->α->V->(V->Option R)->Option R}{K:Int->V->Option R}{p:α->Bool}{E:Int->V->Option R}:∀(l:List α) (j:Nat) (v:V),(∀(j:Nat) x v k,x∈l->body j x v k=bif p x then E j v else k v)->
  (∃a x r,l=a++x::r/\(∀y∈a,p y=false)/\p x=true/\d5 body K l j v=E ((j+a.length:Nat):Int) v)\/((∀y∈l,p y=false)/\d5 body K l j v=K ((j+l.length:Nat):Int) v)
 | [],j,v,_=>.inr ⟨by simp,rfl⟩
 |x::l,j,v,h=>by
  rw[d5,h j x v _ (Xg ..)];cases e:p x
  .simp only[Wc];rcases Pu (E:=E) l (j+1) v λj y v k i=>h j y v k (Xf _ i)with⟨a,y,r,c,d,f,g⟩|⟨c,d⟩
   .refine .inl ⟨x::a,y,r,by rw[c];rfl,λz b=>?_,f,?_⟩
    .rcases Xs.1 b with rfl|b
     .exact e
     .exact d z b
    .rw[g,Xu,show j+1+a.length=j+(a.length+1) by omega]
   grind
  .exact .inl ⟨[],x,l,rfl,by simp,e,rfl⟩
theorem Ny{N:Nat}(b:Int){R:Type}(K:Int->Int->Bool->List Hd->Int->Option R):
  ∀(r a m:List Hd) (n:Nat),r.length<n->a.length+m.length+r.length<=1048576->∃d,
   Ze N K n (a.length:Int) ((a.length+m.length:Nat):Int) (a++m++r) b=
    K ((a++r.filter λx=>!(x.1==b)).length:Int) ((a.length+m.length+r.length:Nat):Int) false ((a++r.filter λx=>!(x.1==b))++d) b
 | [],a,m,0,h,_=>by simp at h
 | [],a,m,n+1,h,_=>by
  refine⟨m,?_⟩;have j:decide (((a.length+m.length:Nat):Int)<Wh (a++m++ []))=false:=by simp[Wh]
  simp only[Ze,j,Wc];simp
 |x::r,a,m,0,h,_=>by simp at h
 |x::r,a,m,n+1,h,hb=>by
  simp only[Xu]at h hb;have e:a.length+m.length<(a++m++x::r).length:=by simp
  have g:a.length<(a++m++x::r).length:=by simp;omega
  have i:Xc (a++m++x::r) (a.length+m.length) ((0:Int),((0:Int),(0:Int)))=x:=by
   simp_all
  cases hp:x.1==b
  .obtain⟨f,l,o⟩:∃f:List Hd,f.length=m.length/\(a++m++x::r).set a.length x=(a++ [x])++f++r:=by
    cases m with
    |nil=>simp_all
    |cons y m=>grind
   obtain⟨d,c⟩:=Ny (N:=N) b K r (a++ [x]) f n (by omega) (by simp;omega);refine⟨d,?_⟩;simp only[Ze,Cr,WQ e,Ws e,Ws g,Xi,i,hp,Xd,We,Fb,Xi,o,
    Wk (show a.length<4611686018427387904 by omega),Wk (show a.length+m.length<4611686018427387904 by omega)]
   have k:(a++ [x]).length=a.length+1:=by simp
   rw[k,l,show a.length+1+m.length=a.length+m.length+1 by omega]at c;rw[c];simp only[gy,hp,Fb,ep,lB,List.singleton_append,Xu];rw[show a.length+m.length+1+r.length=a.length+m.length+(r.length+1) by omega]
  .obtain⟨d,c⟩:=Ny (N:=N) b K r a (m++ [x]) n (by omega) (by simp;omega);refine⟨d,?_⟩;simp only[Ze,Cr,WQ e,Ws e,Ws g,Xi,i,hp,Xd,We,Wc,Xr,
    Wk (show a.length+m.length<4611686018427387904 by omega)]
   simp only[Xx,Xu,jQ,dj]at c;rw[show a.length+(m.length+1)=a.length+m.length+1 by omega,show a++(m++ [x])++r=a++m++x::r by simp]at c;rw[c];simp only[gy,hp,Xr,gH,Bool.false_eq_true,Xu];simp only[Xx];rw[show a.length+m.length+1+r.length=a.length+m.length+(r.length+1) by omega]
theorem WrR{N:Nat}{s:List Hd}{b:Int}(C:1048576<N)(F:s.length<=100000):
  Zp N s b=some ((b,()),(s.filter λx=>!(x.1==b),())):=by
 unfold Zp;have h:=WH (l:=s) (V:={v:Int//v=b}) (R:=Kk×Kk) (lp:=λn j v=>Zl N s (λq o=>some ((o,()),(q,()))) (λw B e=>some ((e,()),((-1:Int),()))) n j v.1) (n:=N) (by omega)
  (body:=λj x v k=>bif x.1==b then some ((v.1,()),(j,()))else k v) (K:=λ_ v=>some ((v.1,()),((-1:Int),())))
  (λn i v g=>by
   obtain⟨v,rfl⟩:=v;simp only[Zl,WQ g,Ws g,Wu g,Wk (show i<4611686018427387904 by omega),We,Cr,Xd])
  (λn v=>by simp[Zl,W6,Xl,Wc]) ⟨b,rfl⟩
 simp only[]at h;unfold Zv;rw[h];rcases Pu (body:=λj x (v:{v:Int//v=b}) k=>bif x.1==b then some ((v.1,()),(j,()))else k v) (K:=λ_ v=>(some ((v.1,()),((-1:Int),())):Option (Kk×Kk))) (p:=λx=>x.1==b)
  (E:=λj v=>some ((v.1,()),(j,()))) s 0 ⟨b,rfl⟩ (λj x v k _=>rfl)with⟨a,x,r,t,z,G,m⟩|⟨z,m⟩
 .rw[m];simp only[Xd,dj];have u:((a.length:Int)== -1)=false:=by simp
  rw[u,Wk (show a.length<4611686018427387904 by grind)];simp only[Wc];obtain⟨I,f⟩:=Ny (N:=N) b (λd A w c e=>
     (bif (decide ((0:Int)<=d))&&(decide (d<=((Xb c):Int)))then
      (bif (decide ((0:Int)<=d))&&(decide (d<=((Xb ((aI (Xa d) c)++Xt ((Xb c) -(Xa d)) ((0:Int),((0:Int),(0:Int)))++(List.drop (Xb c) c))):Int)))then
       (some ((e,()),(aI (Xa d) ((aI (Xa d) c)++Xt ((Xb c) -(Xa d)) ((0:Int),((0:Int),(0:Int)))++(List.drop (Xb c) c)),())))else none)else none)) r a [x] N (by grind) (by grind)
  rw[show a++ [x]++r=s by simp_all]at f;simp only[Xu,jQ,dj]at f;rw[f];have D:(s.filter λx=>!(x.1==b))=a++r.filter λx=>!(x.1==b):=by
   rw[t,List.filter_append,gy];have:(a.filter λx=>!(x.1==b))=a:=XQ.2 λy H=>by grind
   grind
  grind
 grind [XQ]
theorem ZR(h:HOk l)(b:l.length<=100000)(a:1048576<N):JN N l who=ret (W1 l who):=by
 have c:yP N l=ret l:=by grind [yP,Ww]
 unfold JN;rw[c,F0 h (by omega) a];simp only[ret,Xd,Xr,Wc];rw[WrR a b];rfl
end
end Go.Sx
