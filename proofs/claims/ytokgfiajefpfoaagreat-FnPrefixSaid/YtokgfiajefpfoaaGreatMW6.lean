/- Plain laws of the Lean functions. -/
import Derived.Test.YtokgfiajefpfoaaGreatMW5
open Nat renaming le_refl→Xl,zero_add→dj,zero_le→iw
open List renaming find?_eq_none→N9,find?_append→XV,length_set→aK,getD_eq_getElem?_getD→Xq,getElem?_set_ne→kD,mem_append→Xn,foldl_cons→cP,mem_cons_self→Xg,mem_cons_of_mem→Xf,pairwise_cons→bq,mem_cons→Xs,pairwise_iff_getElem→eH,getElem_mem→Xo,getElem?_eq_getElem→Xp,mem_iff_getElem→nq,take_of_length_le→mc,length_map→Xy,append→Xe,take_succ_eq_append_getElem→l6,getElem_map→eX,mem_of_mem_take→jO,foldl_append→B3,take_append_drop→E3,getElem_replicate→kw,getD→Xc,length_cons→Xu,nodup_cons→cC,range→c7,getElem_of_mem→eI,mem_take_iff_getElem→N5,take_sublist→XE,getElem_range→B1,getElem?_eq_none→ju,range_succ→Oj,map_append→Xw,map_singleton→Il,length→Xb,countP_append→XA,length_take→di,replicate→Xt,length_replicate→BX,ext_getElem→BW,length_filter_le→E7,filter_cons→gy,filter_nil→XK,map_nil→cV,take_length→gt,all_eq_true→cq,take→aI
open Int renaming le_refl→aj,toNat→Xa,toNat_natCast→Xi,tmod_eq_emod_of_nonneg→BT,tdiv_eq_ediv_of_nonneg→E5
open Option renaming bind_some→Xd
open Bool renaming not_true→Xr,and_eq_true→Xj
namespace Go.Sx
set_option linter.unusedVariables false
set_option linter.unusedSimpArgs false
section
def cp:Nat->(Nat->Int)->Int
 |0,_=>0
 |n+1,f=>cp n f+f n
theorem DO{f f':Nat->Int}:∀{n:Nat},(∀k,k<n->f' k=f k)->cp n f'=cp n f
 |0,_=>rfl
 |n+1,h=>by rw[cp,cp,DO λk a=>h k (by omega),h n (by omega)]
theorem GU{f f':Nat->Int}{k:Nat}:∀{n:Nat},k<n->(∀j,j≠k->f' j=f j)->cp n f'=cp n f-f k+f' k
 |n+1,b,h=>by
  rw[cp,cp];by_cases e:k=n
  .subst e;rw[DO λj a=>h j (by omega)];omega
  .rw[GU (by omega) h,h n λz=>e z.symm];omega
theorem Sd{f:Nat->Int}{k:Nat}:∀{n:Nat},k<n->(∀j,j<n->j≠k->f j=0)->cp n f=f k
 |n+1,g,h=>by
  have z0:∀m,m<=n->(∀j,j<m->f j=0)->cp m f=0:=λm=>by
   induction m with
   |zero=>intros;rfl
   |succ m ih=>intro a b;rw[cp,ih (by omega) λj c=>b j (by omega),b m (by omega)];rfl
  rw[cp];by_cases e:k=n
  .subst e;rw[z0 k (Xl _) λj c=>h j (by omega) (by omega)];omega
  .rw[Sd (by omega) λj c d=>h j (by omega) d,h n (by omega) λz=>e z.symm];omega
def KVr(G:Nat->Option GE)(b v i x:Int):Prop:=(x=b/\∀k g,G k=some g->g.st<=v->g.f i=none)\/(∃k g,G k=some g/\g.st<=v/\g.f i=some x/\∀c a,G c=some a->a.st<=v->a.f i≠none->a.st<=g.st)
def gd(G:Nat->Option GE)(v:Int)(k:Nat):Int:=match G k with
 |some g=>if g.st<=v then g.d else 0
 |none=>0
def VA(n:Nat)(th:Tg)(G:Nat->Option GE)(v i x:Int):Prop:=if i=8 then x=(th.2.2+cp n (gd G v))%65536 else KVr G (th.2.1.getD i.toNat 0) v i x
section
variable{n:Nat}{th:Tg}{G G':Nat->Option GE}{v i x x':Int}{k:Nat}{e:GE}
theorem EO(r:∀j k g f,G j=some g->G k=some f->g.st=f.st->j=k)(h:VA n th G v i x)(m:VA n th G v i x'):x=x':=by
 unfold VA at h m;split at h
 .rename_i h8;rw[Wb h8]at m;rw[h,m]
 .rename_i h8;rw[Wa h8]at m;rcases h with⟨a,b⟩|⟨k,g,a,b,c,d⟩<;>rcases m with⟨e,o⟩|⟨p,f,e,o,l,q⟩
  .rw[a,e]
  .rw[b p f e o]at l;cases l
  .rw[o k g a b]at c;cases c
  .have e1:=d p f e o (by rw[l];simp);have s:=q k g a b (by rw[c];simp);have:=r k p g f a e (by omega);subst this;rw[a]at e;cases e;rw[c]at l;cases l;rfl
theorem UZ(F:i≠8->∀k x,(∃g,G k=some g/\g.st<=v/\g.f i=some x/\True)↔(∃g,G' k=some g/\g.st<=v/\g.f i=some x/\True))(r:i≠8->∀k g j,G k=some g->G' k=some j->g.f i≠none->j.f i≠none->g.st=j.st)(H:i=8->∀k,k<n->gd G v k=gd G' v k):VA n th G v i x->VA n th G' v i x:=by
 intro h;unfold VA at h⊢;split
 .rename_i e;rw[Wb e]at h;rw[h,DO λk J=>H e k J]
 .rename_i e;rw[Wa e]at h;have p:=F e;rcases h with⟨a,b⟩|⟨k,g,a,b,c,d⟩
  .refine .inl ⟨a,λk g I K=>?_⟩;cases o:g.f i with
   |none=>rfl
   |some z=>
    obtain⟨j,E,m,l,_⟩:=(p k z).2 ⟨g,I,K,o,trivial⟩;rw[b k j E m]at l;cases l
  .obtain⟨m,s,B,t,_⟩:=(p k x).1 ⟨g,a,b,c,trivial⟩;refine .inr ⟨k,m,s,B,t,λq j u C w=>?_⟩;cases o:j.f i with
   |none=>exact Wi o w
   |some z=>
    obtain⟨l,y,D,A,_⟩:=(p q z).2 ⟨j,u,C,o,trivial⟩;have:=d q l y D (by rw[A];simp);have L:=r e k g m a s (by rw[c];simp) (by rw[t];simp);have M:=r e q l j y u (by rw[A];simp) w;omega
theorem WzP{v':Int}(s:v<=v')(h:∀k g,G k=some g->v<g.st->g.st<=v'->(i≠8->g.f i=none)/\(i=8->g.d=0)):VA n th G v' i x↔VA n th G v i x:=by
 unfold VA;by_cases e:i=8
 .rw[Wb e,Wb e,DO (f:=gd G v) (f':=gd G v') λk r=>?_];unfold gd;cases hg:G k with
  |none=>rfl
  |some g=>
   simp only;by_cases a:g.st<=v
   .rw[Wb a,Wb (by omega)]
   .rw[Wa a];split
    .exact(h k g hg (by omega) (by omega)).2 e
    .rfl
 .rw[Wa e,Wa e];unfold KVr;have o:∀k g,G k=some g->g.st<=v'->g.f i≠none->g.st<=v:=λk g a b c=>by
   by_cases d:g.st<=v
   .exact d
   .exact Wi ((h k g a (by omega) b).1 e) c
  constructor
  .rintro(⟨a,b⟩|⟨k,g,a,b,c,d⟩)
   .exact .inl ⟨a,λk g c d=>b k g c (by omega)⟩
   .exact .inr ⟨k,g,a,o k g a b (by rw[c];simp),c,λm l j p=>d m l j (by omega)⟩
  .rintro(⟨a,b⟩|⟨k,g,a,b,c,d⟩)
   .refine .inl ⟨a,λk g c d=>?_⟩;cases hf:g.f i with
    |none=>rfl
    |some z=>
     have:=b k g c (o k g c d (by rw[hf];simp));rw[this]at hf;cases hf
   .exact .inr ⟨k,g,a,by omega,c,λm l j p q=>d m l j (o m l j p q) q⟩
def dP(G:Nat->Option GE)(k:Nat)(o:Option GE):Nat->Option GE:=λj=>if j=k then o else G j
theorem LZ(h:G k=none):dP G k none=G:=by
 funext j;unfold dP;split
 .rename_i e;rw[e,h]
 .rfl
theorem WzY(h:G k=none)(u:v<e.st\/((i≠8->e.f i=none)/\(i=8->e.d=0))):VA n th (dP G k (some e)) v i x↔VA n th G v i x:=by
 have t:dP G k (some e) k=some e:=by unfold dP;rw[Wb rfl]
 have o:∀j,j≠k->dP G k (some e) j=G j:=λj z=>by unfold dP;rw[Wa z]
 have p:i≠8->∀j x,(∃g,G j=some g/\g.st<=v/\g.f i=some x/\True)↔(∃g,dP G k (some e) j=some g/\g.st<=v/\g.f i=some x/\True):=λl j x=>by
  by_cases z:j=k
  .subst z;rw[t,h];constructor
   .rintro⟨g,a,_⟩;cases a
   .rintro⟨g,a,b,c,_⟩;cases a;rcases u with q|q
    .omega
    .rw[q.1 l]at c;cases c
  .rw[o j z]
 have r:i≠8->∀j g m,G j=some g->dP G k (some e) j=some m->g.f i≠none->m.f i≠none->g.st=m.st:=λl j g m a b _ _=>by
  by_cases z:j=k
  .subst z;rw[h]at a;cases a
  .rw[o j z,a]at b;cases b;rfl
 have s:i=8->∀j,j<n->gd G v j=gd (dP G k (some e)) v j:=λl j _=>by
  unfold gd;by_cases z:j=k
  .subst z;rw[t,h];simp only;split
   .rcases u with q|q
    .omega
    .exact(q.2 l).symm
   .rfl
  .rw[o j z]
 exact⟨UZ (λl j x=>(p l j x).symm) (λl j g m a b c d=>(r l j m g b a d c).symm) (λl j o=>(s l j o).symm),UZ p r s⟩
end
def tch(l:List Hd)(k:Nat)(i:Int):Prop:=(i=8->hld l k 8)/\(i≠8->xld l k i)
def RI(th:Tg)(G:Nat->Option GE)(w:Wo)(v i x:Int):Prop:=VA w.η.length th G v i x/\v<=w.mem.1/\∀(k:Nat) (h:k<w.η.length),w.η[k].ζ=5->w.η[k].cm.ζ=3->w.η[k].cm.wv<=v->¬tch w.holds k i
def af(k:Nat)(H:List Wr):List Rw:=match H.find? (λh=>decide (h.2.1=(k:Int)+1))with
 |some h=>h.2.2
 |none=>[]
theorem Ur{k:Nat}{H:List Wr}(h:∀e∈H,e.2.1≠(k:Int)+1):af k H= []:=by
 unfold af;rw[N9.2 λe a=>by simpa using h e a]
theorem Wwc{k:Nat}{H:List Wr}{e:Wr}(a:e.2.1≠(k:Int)+1):af k (H++ [e])=af k H:=by
 unfold af;rw[XV];cases H.find? (λh=>decide (h.2.1=(k:Int)+1))with
 |some h=>rfl
 |none=>simp[a]
theorem WwQ{k:Nat}{H:List Wr}{e:Wr}(h:∀e∈H,e.2.1≠(k:Int)+1)(b:e.2.1=(k:Int)+1):af k (H++ [e])=e.2.2:=by
 unfold af;rw[XV,N9.2 λe a=>by simpa using h e a];simp[b]
end
section
section
variable{R:Type}{N kk:Nat}{K0:Tg->List Int->Option R}{K1:Int->Bool->List Int->Int->List M7->List Int->List Int->Option R}
 {b:Int->Int} {s:Sc} {w w':Wo} {G G':Nat->Option GE} {k:Nat} {x y:Rt} {q:Wo×Rt} {n:Int} {p:Pg} {a:Ac}
structure GA(N kk:Nat)(K0:Tg->List Int->Option R)(K1:Int->Bool->List Int->Int->List M7->List Int->List Int->Option R)(b:Int->Int)(s:Sc)(w:Wo)(G:Nat->Option GE):Prop where
 ra:∀(k:Nat) (h:k<w.η.length),RA N kk K0 K1 (RC b w.mem w.δ (ar w.η)) (RI s.1 G w) (VA w.η.length s.1 G 2000000) (af k w.δ) w.holds w.ψ (G k) k (s.2.1.getD k pg0) w.η[k]
 out:∀k,w.η.length<=k->G k=none
 uq:∀(j k:Nat) (hj:j<w.η.length) (hk:k<w.η.length),j≠k->∀a,ow w.η[j]=some a->ow w.η[k]≠some a
 le:∀(k:Nat) (hk:k<w.η.length) a,ow w.η[k]=some a->a<=w.mem.1
 free:∀i,0<=i->i<=7->(∀j,¬xld w.holds j i)->VA w.η.length s.1 G 2000000 i (WD w.ψ.1 i)
 held:∀i,0<=i->i<=7->∀(k:Nat) (hk:k<w.η.length),xld w.holds k i->VA w.η.length s.1 G 2000000 i (ov w.η[k] i (WD w.ψ.1 i))
 cnt:w.ψ.2=(s.1.2.2+cp w.η.length (gd G 2000000)+cp w.η.length (λk=>oc (w.η.getD k rt0)))%65536
 jk:∀(k:Nat) (hk:k<w.η.length),w.η[k].ζ=5->w.η[k].cm.ζ=3->∀r g,G r=some g->w.η[k].cm.wv<g.st->(∀i,0<=i->i<=7->hld w.holds k i->g.f i=none)/\(xld w.holds k 8->g.d=0)
 hs:∀e∈w.δ,∀(k:Nat) (hk:k<w.η.length),e.2.1=(k:Int)+1->e.1=Wq w.η[k]
 rg:∀k g i z,G k=some g->g.f i=some z->0<=z/\z<=65536
theorem GA.ent(h:GA N kk K0 K1 b s w G){r:Nat}{g:GE}(a:G r=some g):∃hr:r<w.η.length,stl w.η[r]=true/\w.η[r].CZ=1/\ow w.η[r]=some g.st/\g.st<=w.mem.1:=by
 have hr:r<w.η.length:=Classical.byContradiction λz=>by
  rw[h.out r (by omega)]at a;cases a
 have d:=h.ra r hr;have c:stl w.η[r]=true:=by
  cases z:stl w.η[r]
  .rw[d.gn z]at a;cases a
  .rfl
 have f:=(d.fin c).gst;have e:=f.1 (.inl (by rw[a];simp));have j:=f.2 g a;have i:ow w.η[r]=some g.st:=by
  unfold ow;rw[Wa (by rw[WM]at c;omega),c,Wb ⟨rfl,e.1⟩,j]
 exact⟨hr,c,e.2,i,h.le r hr _ i⟩
theorem GA.dis(h:GA N kk K0 K1 b s w G):∀j k g a,G j=some g->G k=some a->g.st=a.st->j=k:=λj k g a l m e=>by
 obtain⟨c,_,_,d,_⟩:=h.ent l;obtain⟨f,_,_,i,_⟩:=h.ent m;refine Classical.byContradiction λz=>h.uq j k c f z _ d ?_;rw[i,e]
theorem GA.sk(h:GA N kk K0 K1 b s w G)(D:∀e∈w.holds,∃j:Nat,j<w.η.length/\e.1=(j:Int)+1)(l:k<w.η.length)(x:stl w.η[k]=false):SK (VA w.η.length s.1 G 2000000) w k w.η[k]:=by
 refine⟨λi v E=>EO h.dis,λi A B r=>h.free i A B λj ⟨e,a,n,d,o⟩=>r e a d o,λq c f=>?_⟩;unfold VA at f;rw[Wb rfl]at f;have z:∀j,j<w.η.length->j≠k->oc (w.η.getD j rt0)=0:=λj g C=>by
  rw[Wn g];unfold oc;split
  .rfl
  .refine Vr λu y p=>?_;obtain⟨e,a,n,d⟩:=((h.ra j g).hu u y).2 p;have:=q e a d;omega
 have m:=h.cnt;rw[Sd l z,Wn l]at m;have t:oc w.η[k]=dl w.η[k].ο:=(sW (sH x)).2;rw[m,f,t];omega
theorem GA.oth(h:GA N kk K0 K1 b s w G){j:Nat}(p:j<w.η.length)(a:j≠k){M:V3}(n:∀v c z,RC b w.mem w.δ (ar w.η) v c z->M v c z){I:V3}(l:∀v c z,RI s.1 G w v c z->I v c z){Kc:Int->Int->Prop}(m:∀i,0<=i->i<=7->hld w.holds j i->∀v,Kc i v->VA w.η.length s.1 G 2000000 i v)(d:xld w.holds j 8->∀v,Kc 8 v->VA w.η.length s.1 G 2000000 8 v){hr:List Rw}(x:hr=af j w.δ){g:Option GE}(o:g=G j)(e:∀j,j≠k->∀i,(hld q.1.holds j i↔hld w.holds j i)/\(xld q.1.holds j i↔xld w.holds j i))(u:∀i,0<=i->i<=7->WD q.1.ψ.1 i=WD w.ψ.1 i\/xld q.1.holds k i)(f:HOk q.1.holds):RA N kk K0 K1 M I Kc hr q.1.holds q.1.ψ g j (s.2.1.getD j pg0) w.η[j]:=by
 subst x o;refine(h.ra j p).wk n l m d (λi=>(e j a i).1) (λi=>(e j a i).2) λi r t z=>(u i r t).resolve_right λy=>?_;exact a (oq f ((e j a i).1.2 z) y)
theorem mF{l:List Rt}{k j:Nat}{y:Rt}(a:j<(l.set k y).length):(l.set k y)[j]=if k=j then y else l[j]'(by rw[aK]at a;exact a):=List.getElem_set a
theorem GA.same(h:GA N kk K0 K1 b s w G)(u:k<w.η.length)(F:cmX y=cmX w.η[k])(B:ow y=ow w.η[k])(K:∀i v,ov y i v=ov w.η[k] i v)(H:oc y=oc w.η[k])(q:y.ζ=w.η[k].ζ/\y.cm=w.η[k].cm)(E:Wq y=Wq w.η[k])(T:RA N kk K0 K1 (RC b w.mem w.δ (ar w.η)) (RI s.1 G w) (VA w.η.length s.1 G 2000000) (af k w.δ) w.holds w.ψ (G k) k (s.2.1.getD k pg0) y){C:Int}:GA N kk K0 K1 b s {w with now:=C,η:=w.η.set k y} G:=by
 have m:(w.η.set k y).length=w.η.length:=aK;have R:ar (w.η.set k y)=ar w.η:=by
  rw[GO u,F,←Bu u];funext i;unfold co;split
  .rename_i e;rw[e]
  .rfl
 have p:∀(P:Rt->Prop),(P w.η[k]->P y)->∀(j:Nat) (l:j<(w.η.set k y).length),(∀n:j<w.η.length,P w.η[j])->P (w.η.set k y)[j]:=λP L j l A=>by
  rw[mF l];split
  .rename_i e;subst e;exact L (A u)
  .exact A _
 have o:∀v c z,RI s.1 G w v c z->RI s.1 G {w with now:=C,η:=w.η.set k y} v c z:=λv c z ⟨a,D,d⟩=>by
  refine⟨by show VA (w.η.set k y).length _ _ _ _ _;rw[m];exact a,D,λj l=>?_⟩;exact p (λt=>t.ζ=5->t.cm.ζ=3->t.cm.wv<=v->¬tch w.holds j c) (λz=>by rw[q.1,q.2];exact z) j l λn=>d j n
 refine⟨λj l=>?_,λj l=>h.out j (by rw[←m];exact l),λi j J l Q a=>?_,λj l a=>?_,?_,λi M O j l=>?_,?_,λj l=>?_,λe I j l S=>?_,h.rg⟩
 .show RA N kk K0 K1 (RC b w.mem w.δ (ar (w.η.set k y))) _ (VA (w.η.set k y).length _ _ _) _ _ _ _ _ _ _;rw[R,m];have x:∀v c z,RC b w.mem w.δ (ar w.η) v c z->RC b w.mem w.δ (ar w.η) v c z:=λ_ _ _ z=>z;by_cases e:k=j
  .subst e;have:(w.η.set k y)[k]'l=y:=by rw[mF l,Wb rfl]
   show RA N kk K0 K1 _ _ _ _ _ _ _ _ _ ((w.η.set k y)[k]'l);rw[this];exact T.wk x o (λ_ _ _ _ _ z=>z) (λ_ _ z=>z) (λ_=>Iff.rfl) (λ_=>Iff.rfl) λ_ _ _ _=>rfl
  .have:(w.η.set k y)[j]'l=w.η[j]'(by rw[←m];exact l):=by rw[mF l,Wa e]
   show RA N kk K0 K1 _ _ _ _ _ _ _ _ _ ((w.η.set k y)[j]'l);rw[this];exact(h.ra j _).wk x o (λ_ _ _ _ _ z=>z) (λ_ _ z=>z) (λ_=>Iff.rfl) (λ_=>Iff.rfl) λ_ _ _ _=>rfl
 .have e:∀(j:Nat) (l:j<(w.η.set k y).length),ow (w.η.set k y)[j]=ow (w.η[j]'(by rw[←m];exact l)):=λj l=>by
   rw[mF l];split
   .rename_i z;subst z;exact B
   .rfl
  show ow (w.η.set k y)[i]=_->ow (w.η.set k y)[j]≠_;rw[e i J,e j l];exact h.uq i j _ _ Q a
 .exact p (λt=>ow t=some a->a<=w.mem.1) (λz=>by rw[B];exact z) j l λn=>h.le j n a
 .show∀i,0<=i->i<=7->(∀j,¬xld w.holds j i)->VA (w.η.set k y).length _ _ _ _ _;rw[m];exact h.free
 .show xld w.holds j i->VA (w.η.set k y).length s.1 G 2000000 i (ov (w.η.set k y)[j] i (WD w.ψ.1 i));rw[m];exact p (λt=>xld w.holds j i->VA w.η.length s.1 G 2000000 i (ov t i (WD w.ψ.1 i))) (λz=>by rw[K];exact z) j l λn=>h.held i M O j n
 .show w.ψ.2=(_+cp (w.η.set k y).length _+cp (w.η.set k y).length λj=>oc ((w.η.set k y).getD j rt0))%65536;have e:cp w.η.length (λj=>oc ((w.η.set k y).getD j rt0))=cp w.η.length λk=>oc (w.η.getD k rt0):=DO λj l=>by
   rw[Wn (show j<(w.η.set k y).length by omega),Wn l,mF];split
   .rename_i e;subst e;exact H
   .rfl
  rw[m,e];exact h.cnt
 .exact p (λt=>t.ζ=5->t.cm.ζ=3->∀r g,G r=some g->t.cm.wv<g.st->(∀i,0<=i->i<=7->hld w.holds j i->g.f i=none)/\(xld w.holds j 8->g.d=0)) (λz=>by rw[q.1,q.2];exact z) j l λn=>h.jk j n
 .have:=h.hs e I j (by rw[←m];exact l) S;show e.1=Wq (w.η.set k y)[j];rw[mF l];split
  .rename_i z;subst z;rw[E];exact this
  .exact this
end
end
section
section
variable{R:Type}{N kk:Nat}{K0:Tg->List Int->Option R}{K1:Int->Bool->List Int->Int->List M7->List Int->List Int->Option R}
 {b:Int->Int} {s:Sc} {w w':Wo} {G G':Nat->Option GE} {k:Nat} {x y:Rt} {q:Wo×Rt} {n:Int} {p:Pg} {a:Ac} {M I:V3} {Kc:Int->Int->Prop} {hr:List Rw} {g:Option GE}
theorem WyG{l a:List Hd}{j:Nat}{i:Int}(h:∀i,(hld a j i↔hld l j i)/\(xld a j i↔xld l j i)):tch a j i↔tch l j i:=by
 unfold tch;rw[(h 8).1,(h i).2]
theorem TG(l:NO N kk K0 K1 M I Kc hr g k p w x q)(f:stl x=true->stl q.2=true)(j:q.2.ζ=5)(i:q.2.cm.ζ=3):(x.ζ=5/\x.cm.ζ=3/\x.cm.wv=q.2.cm.wv)\/q.2.cm.wv=w.mem.1+1:=by
 have d:stl q.2=false:=by
  cases z:stl q.2
  .rfl
  .rw[WM]at z;omega
 have b:ow q.2=some q.2.cm.wv:=by unfold ow;rw[Wb ⟨j,i⟩]
 rcases l.ow with e|⟨e,h⟩|⟨e,_⟩
 .rw[b]at e;cases e
 .rcases h with⟨a,c⟩|a
  .have hx:ow x=some x.cm.wv:=by unfold ow;rw[Wb ⟨a,c⟩]
   rw[b,hx]at e;injection e with e;exact .inl ⟨a,c,e.symm⟩
  .rw[f a]at d;cases d
 .rw[b]at e;injection e with e;exact .inr e
theorem VF(u:k<w.η.length)(r:q.1.η=w.η)(A:w.mem.1<=q.1.mem.1)(m:stl w.η[k]=true->stl q.2=true)(f:NO N kk K0 K1 M I Kc hr g k p w w.η[k] q):∀v c z,RI s.1 G w v c z->RI s.1 G (Wo.put q k) v c z:=λv c z ⟨l,x,h⟩=>by
 have n:(w.η.set k q.2).length=w.η.length:=aK;unfold RI Wo.put;simp only[r];refine⟨by rw[n];exact l,by omega,λj t b a d=>?_⟩;rw[mF t]at b a d;by_cases e:k=j
 .subst e;rw[Wb rfl]at b a d;rcases TG f m b a with⟨i,o,y⟩|i
  .rw[f.hh (f.p5 b a)];exact h k u i o (by omega)
  .omega
 .rw[Wa e]at b a d;rw[WyG (f.se.oth j λz=>e z.symm)];exact h j (by omega) b a d
theorem Vh{l:List Rt}{k:Nat}{y:Rt}(a:k<l.length):cp l.length (λj=>oc ((l.set k y).getD j rt0))=cp l.length (λj=>oc (l.getD j rt0)) -oc l[k]+oc y:=by
 have d:(l.set k y).length=l.length:=aK;have b:(l.set k y).getD k rt0=y:=by rw[Wn (show k<(l.set k y).length by omega),mF,Wb rfl]
 rw[GU (f:=λj=>oc (l.getD j rt0)) a λj c=>by
  rw[Xq,Xq,kD (λz=>c z.symm)],b,Wn a]
theorem ZK(h:GA N kk K0 K1 b s w G)(hH:HOk w.holds)(u:HOk q.1.holds)(t:k<w.η.length)(B:q.1.η=w.η)(hM:∀v c z,RC b w.mem w.δ (ar w.η) v c z->RC b q.1.mem q.1.δ (ar (w.η.set k q.2)) v c z)(Z:w.mem.1<=q.1.mem.1)(R:stl w.η[k]=true->stl q.2=true)(fP:stl w.η[k]=true->Wq q.2=Wq w.η[k])(hW:∀e∈w.δ,e.2.1=(k:Int)+1->stl w.η[k]=true)(hp:p=s.2.1.getD k pg0)(f:NO N kk K0 K1 (RC b q.1.mem q.1.δ (ar (w.η.set k q.2))) (RI s.1 G (Wo.put q k)) (VA w.η.length s.1 G 2000000) (af k w.δ) (G k) k p w w.η[k] q):GA N kk K0 K1 b s (Wo.put q k) G:=by
 have M:=VF (s:=s) (G:=G) t B Z R f;have J:(w.η.set k q.2).length=w.η.length:=aK;have o:∀(j:Nat) (d:j<w.η.length),(w.η.set k q.2)[j]'(by rw[J];exact d)=if k=j then q.2 else w.η[j]:=λj d=>mF (by rw[J];exact d);have bQ:=λi l m=>h.free i l m;subst hp;refine⟨?_,?_,?_,?_,?_,?_,?_,?_,?_,h.rg⟩
 all_goals(try unfold Wo.put);(try simp only[B,J])
 .intro j d;rw[f.δ];rw[o j d];have x:∀v c z,RI s.1 G w v c z->RI s.1 G {q.1 with η:=w.η.set k q.2} v c z:=λv c z hz=>by
   have:=M v c z hz;unfold Wo.put at this;rw[B]at this;exact this
  by_cases e:k=j
  .subst e;rw[Wb rfl];have:=f.ra;unfold Wo.put at this;rw[B,f.δ]at this;exact this
  .rw[Wa e];have:=hM;rw[f.δ]at this;exact h.oth (k:=k) (by omega) (λz=>e z.symm) this x (λ_ _ _ _ _ z=>z) (λ_ _ z=>z) rfl rfl f.se.oth f.se.sh u
 .intro j d;exact h.out j d
 .intro i j O d je a;rw[o i O,o j d];have A:∀(j:Nat) (d:j<w.η.length),j≠k->ow q.2=some a->ow w.η[j]≠some a:=λj d C n X=>by
   rcases f.ow with e|⟨e,_⟩|⟨e,_⟩
   .rw[n]at e;cases e
   .exact h.uq k j t d (λz=>C z.symm) a (by rw[←e];exact n) X
   .rw[n]at e;have:=h.le j d a X;injection e with e;omega
  by_cases K:k=i
  .subst K;rw[Wb rfl,Wa je]
   exactλz=>A j (by omega) (λz=>je z.symm) z
  .rw[Wa K];by_cases L:k=j
   .subst L;rw[Wb rfl]
    exactλz Q=>A i (by omega) (λz=>K z.symm) Q z
   .rw[Wa L];exact h.uq i j (by omega) (by omega) je a
 .intro j d a;rw[o j d];split
  .rename_i e;subst e;intro n;rcases f.ow with e|⟨e,_⟩|⟨e,L⟩
   .rw[n]at e;cases e
   .have:=h.le k t a (by rw[←e];exact n);omega
   .rw[n]at e;injection e with e;omega
  .intro n;have:=h.le j (by omega) a n;omega
 .intro i l m cg;have P:=(f.se.sh i l m).resolve_right (cg k);rw[P];by_cases z:xld w.holds k i
  .have:=h.held i l m k t z;rw[f.se.k1 i l m (cg k) z]at this;exact this
  .refine h.free i l m λj d=>?_;by_cases e:j=k
   .subst e;exact z d
   .exact cg j (((f.se.oth j e i).2).2 d)
 .intro i l m j d y;rw[o j d];by_cases e:k=j
  .subst e;rw[Wb rfl];rcases f.se.k2 i l m y with⟨H,I⟩|⟨H,I⟩
   .rw[I];exact h.held i l m k t H
   .rw[I];exact h.free i l m H
  .rw[Wa e];have C:j≠k:=λz=>e z.symm;have P:=(f.se.sh i l m).resolve_right λQ=>C (oq u y.h Q);rw[P];exact h.held i l m j (by omega) ((f.se.oth j C i).2.1 y)
 .rw[Vh t];have:=f.se.cnt (s.1.2.2+cp w.η.length (gd G 2000000)+(cp w.η.length (λj=>oc (w.η.getD j rt0)) -oc w.η[k])) (by have:=h.cnt;rw[this];congr 1;omega);rw[this];congr 1;omega
 .intro j d;rw[o j d];by_cases e:k=j
  .subst e;rw[Wb rfl];intro E D r g F S;rcases TG f R E D with⟨T,Y,b3⟩|T
   .rw[f.hh (f.p5 E D)];exact h.jk k t T Y r g F (by omega)
   .have:=(h.ent F).2.2.2.2;omega
  .rw[Wa e];intro E D r g F S;obtain⟨c1,c2⟩:=h.jk j (by omega) E D r g F S;have V:=f.se.oth j λz=>e z.symm;exact⟨λi l m O=>c1 i l m ((V i).1.1 O),λy=>c2 ((V 8).2.1 y)⟩
 .rw[f.δ];intro e U j d W;have:=h.hs e U j d W;rw[o j d];split
  .rename_i z;subst z;rw[fP (hW e U W)];exact this
  .exact this
end
end
section
section
variable{R:Type}{N kk:Nat}{K0:Tg->List Int->Option R}{K1:Int->Bool->List Int->Int->List M7->List Int->List Int->Option R}
 {b:Int->Int} {s:Sc} {w w':Wo} {G G':Nat->Option GE} {k:Nat} {x y:Rt} {q:Wo×Rt} {n:Int} {p:Pg} {a:Ac} {M I:V3} {Kc:Int->Int->Prop} {hr:List Rw} {g:Option GE}
theorem Vp(h:HU w.holds k x)(b:¬hld w.holds k 8):dl x.ο=0:=Vr λu c a=>b ((h u c).2 a)
theorem ZF(h:GA N kk K0 K1 b s w G)(P:HOk w.holds)(M:k<w.η.length)(Z:q.1.η=w.η)(hM:∀v c z,RC b w.mem w.δ (ar w.η) v c z->RC b q.1.mem q.1.δ (ar (w.η.set k q.2)) v c z)(bZ:w.mem.1<=q.1.mem.1)(qd:q.1.mem.1<=1000000)(hW:∀e∈w.δ,e.2.1≠(k:Int)+1)(hp:p=s.2.1.getD k pg0)(m:SO N kk K0 K1 (RC b q.1.mem q.1.δ (ar (w.η.set k q.2))) (VA w.η.length s.1 G 2000000) k p w w.η[k] q):GA N kk K0 K1 b s (Wo.put q k) (dP G k (oO w.holds w.ψ k w.η[k] (Wq q.2))):=by
 have Y:(w.η.set k q.2).length=w.η.length:=aK;have O:∀(j:Nat) (l:j<w.η.length),(w.η.set k q.2)[j]'(by rw[Y];exact l)=if k=j then q.2 else w.η[j]:=λj l=>mF (by rw[Y];exact l);have dW:=h.ra k M;have C:G k=none:=dW.gn m.sx;have vY:=sH m.sx;obtain⟨ovx,ocx⟩:=sW vY;have U:(w.η[k].cm.ζ=3/\ow w.η[k]=some (Wq q.2)/\Wq q.2<=w.mem.1/\w.η[k].cm.wv=Wq q.2)\/(Wq q.2=w.mem.1+1/\q.1.mem.1=w.mem.1+1):=by
  rcases m.ow with⟨a,c⟩|e
  .have Q:ow w.η[k]=some (Wq q.2):=by unfold ow;rw[Wb ⟨m.h5,a⟩,c]
   exact .inl ⟨a,Q,h.le k M _ Q,c⟩
  .exact .inr e
 have yI:ow q.2=some (Wq q.2):=by
  unfold ow;rw[Wa (λz=>m.np z.1 z.2),Wb ⟨m.sy,m.rv⟩]
 have F1:∀r g,G r=some g->Wq q.2<=g.st->(∀i,0<=i->i<=7->hld w.holds k i->g.f i=none)/\(xld w.holds k 8->g.d=0):=λr g n aU=>by
  obtain⟨r1,r2,r3,r4,r5⟩:=h.ent n;rcases U with⟨a,c,d,e⟩|⟨a,_⟩
  .have sr:k≠r:=λz=>by subst z;rw[C]at n;cases n
   have:=h.uq k r M r1 sr _ c;rw[r4]at this;refine h.jk k M m.h5 a r g n ?_;rw[e];have:Wq q.2≠g.st:=λz=>this (by rw[z]);omega
  .omega
 generalize Q:oO w.holds w.ψ k w.η[k] (Wq q.2)=o at*;have vf:o=none/\w.η[k].CZ≠1\/∃e,o=some e/\w.η[k].CZ=1/\e.st=Wq q.2/\(∀i,0<=i->i<=7->xld w.holds k i->e.f i=some (WD w.ψ.1 i))/\(∀i,¬xld w.holds k i->e.f i=none)/\e.d=dl w.η[k].ο/\∀i z,e.f i=some z->0<=z/\z<=65536:=by
  unfold oO at Q;by_cases hf:w.η[k].CZ=1
  .right;rw[Wb hf]at Q;exact⟨_,Q.symm,hf,rfl,λi E F z=>Wb ⟨z,E,F⟩,λi z=>Wa λy=>z y.1,rfl,λi z J=>by
    simp only at J;split at J
    .injection J with J;rw[←J];exact Gx _ _
    .cases J⟩
  .left;rw[Wa hf]at Q;exact⟨Q.symm,hf⟩
 have t:∀v i z,(v<Wq q.2\/((i≠8->¬xld w.holds k i)/\(i=8->¬hld w.holds k 8)))->(VA w.η.length s.1 (dP G k o) v i z↔VA w.η.length s.1 G v i z):=λv i z R=>by
  rcases vf with⟨e,_⟩|⟨e,x,_,W,e3,e4,X,_⟩
  .rw[e,LZ C]
  .rw[x];refine WzY C (R.imp (λz=>by omega) λ⟨z1,z2⟩=>⟨λh8=>e4 i (z1 h8),λh8=>?_⟩);rw[X];exact Vp dW.hu (z2 h8)
 have Ay:(Wo.put q k).mem=q.1.mem:=rfl;have hRI:∀v c z,RI s.1 G w v c z->RI s.1 (dP G k o) (Wo.put q k) v c z:=λv c z ⟨H,L,S⟩=>by
  unfold RI Wo.put;simp only[Z,Y];refine⟨(t v c z ?_).2 H,by omega,λj l B A hw=>?_⟩
  .by_cases R:v<Wq q.2
   .exact .inl R
   .right;rcases U with⟨a,c',d,e⟩|⟨a,_⟩
    .have:=S k M m.h5 a (by omega);unfold tch at this;constructor
     .intro c8 u;exact this ⟨λz=>Wi z c8,λ_=>u⟩
     .intro c8 u;exact this ⟨λ_=>u,λz=>Wi c8 z⟩
    .omega
  .rw[O j l]at B A hw;by_cases e:k=j
   .subst e;rw[Wb rfl]at B A;exact Wi A (m.np B)
   .rw[Wa e]at B A hw;rw[m.hh];exact S j l B A hw
 have eV:∀i,0<=i->i<=7->hld w.holds k i->∃z,VA w.η.length s.1 G 2000000 i z:=λi E F D=>by
  by_cases z:xld w.holds k i
  .exact⟨_,h.held i E F k M z⟩
  .refine⟨_,h.free i E F λj l=>?_⟩;have:=oq P D l;subst this;exact z l
 have vg:∀j,j≠k->af j q.1.δ=af j w.δ:=λj l=>by
  rw[m.δ];split
  .rfl
  .exact Wwc (by simp only;omega)
 subst hp;refine⟨?_,?_,?_,?_,?_,?_,?_,?_,?_,?_⟩
 all_goals(try unfold Wo.put);(try simp only[Z,Y])
 .intro j l;rw[O j l];by_cases e:k=j
  .subst e;rw[Wb rfl];have sJ:af k q.1.δ=w.η[k].cm.χ:=by
    rw[m.δ];split
    .rename_i e;rw[Ur hW,e]
    .exact WwQ hW rfl
   have rk:=m.ra (RI s.1 (dP G k o) (Wo.put q k)) (VA w.η.length s.1 (dP G k o) 2000000) λi D=>by
    have R:∃z,VA w.η.length s.1 G 2000000 i z:=by
     rcases D with⟨H,L,S⟩|⟨H,L⟩
     .exact eV i H L S
     .exact⟨_,by unfold VA;rw[Wb H]⟩
    obtain⟨z,J⟩:=R;refine⟨z,J,?_⟩;unfold RI;rw[show(Wo.put q k).η=w.η.set k q.2 by unfold Wo.put;simp only[Z]];simp only[Y];refine⟨(t _ i z (.inl (by omega))).2 ((WzP (by rcases U with z|z<;>omega) λr g n h1 h2=>?_).1 J),?_,λj l B A hw=>?_⟩
    .obtain⟨f1,f2⟩:=F1 r g n (by omega);rcases D with⟨H,L,S⟩|⟨H,L⟩
     .exact⟨λ_=>f1 i H L S,λz=>by omega⟩
     .exact⟨λz=>Wi H z,λ_=>f2 L⟩
    .show _<=q.1.mem.1;rcases U with z|z<;>omega
    .rw[O j l]at B A hw;by_cases e:k=j
     .subst e;rw[Wb rfl]at B A;exact Wi A (m.np B)
     .show¬tch q.1.holds j i;rw[m.hh];intro ht;rcases D with⟨H,L,S⟩|⟨H,L⟩
      .exact e (oq P S (ht.2 (by omega)))
      .exact e (oq P (ht.1 H) L).symm
   show RA N kk K0 K1 _ _ _ (af k q.1.δ) q.1.holds q.1.ψ (dP G k o k) k _ _;rw[sJ,show dP G k o k=o by unfold dP;rw[Wb rfl]];unfold Wo.put at rk;rw[Z,Q,←m.hh,←m.hs]at rk;exact rk
  .rw[Wa e];have K:=hRI;unfold Wo.put at K;rw[Z]at K;refine h.oth (k:=k) (q:=q) l (λz=>e z.symm) hM K (λi E F D v R=>?_) (λu v R=>?_) (vg j λz=>e z.symm) (by unfold dP;rw[Wa λz=>e z.symm]) (λj _ i=>by rw[m.hh];exact⟨Iff.rfl,Iff.rfl⟩) (λi _ _=>.inl (by rw[m.hs])) (by rw[m.hh];exact P)
   .exact(t _ i v (.inr ⟨λ_ z=>e (oq P D z).symm,λz=>by omega⟩)).1 R
   .exact(t _ 8 v (.inr ⟨λz=>Wi rfl z,λ_ z=>e (oq P z u)⟩)).1 R
 .intro j l;unfold dP;rw[Wa (by omega)];exact h.out j l
 .intro i j D l je a;rw[O i D,O j l];have key:∀(j:Nat) (l:j<w.η.length),j≠k->ow w.η[j]≠some (Wq q.2):=λj l dS ve=>by
   rcases U with⟨_,e,_⟩|⟨e,_⟩
   .exact h.uq k j M l (λz=>dS z.symm) _ e ve
   .have:=h.le j l _ ve;omega
  by_cases x:k=i
  .subst x;rw[Wb rfl,Wa je,yI];intro z;injection z with z;rw[←z];exact key j l λz=>je z.symm
  .rw[Wa x];by_cases W:k=j
   .subst W;rw[Wb rfl,yI];intro z z2;injection z2 with z2;rw[←z2]at z;exact key i D (λz=>x z.symm) z
   .rw[Wa W];exact h.uq i j D l je a
 .intro j l a;rw[O j l];split
  .rw[yI];intro z;injection z with z;rcases U with q|q<;>omega
  .intro z;have:=h.le j l a z;omega
 .intro i E F cg;rw[m.hh]at cg;rw[m.hs];exact(t _ i _ (.inr ⟨λ_=>cg k,λz=>by omega⟩)).2 (h.free i E F cg)
 .intro i E F j l u;rw[m.hh]at u;rw[O j l,m.hs];by_cases e:k=j
  .subst e;rw[Wb rfl];rcases vf with⟨e,ef⟩|⟨e,x,T,W,e3,e4,X,_⟩
   .rw[e,LZ C];have:ov q.2 i (WD w.ψ.1 i)=ov w.η[k] i (WD w.ψ.1 i):=by
     have V:dn q.2=false:=by unfold dn;rw[m.CZ];simp[ef]
     rw[(sW V).1,ovx,m.und]
    rw[this];exact h.held i E F k M u
   .have V:dn q.2=true:=by unfold dn;rw[m.CZ,m.sy];simp[T]
    have:ov q.2 i (WD w.ψ.1 i)=WD w.ψ.1 i:=by unfold ov;rw[Wb V]
    rw[this,x];unfold VA;rw[Wa (by omega)];refine .inr ⟨k,e,by unfold dP;rw[Wb rfl],by rcases U with z|z<;>omega,e3 i E F u,λj' g' gB dm sM=>?_⟩;unfold dP at gB;split at gB
    .injection gB with z;rw[z];exact aj _
    .refine Classical.byContradiction λz=>sM ((F1 j' g' gB (by omega)).1 i E F u.h)
  .rw[Wa e];exact(t _ i _ (.inr ⟨λ_ z=>e (oq P u.h z).symm,λz=>by omega⟩)).2 (h.held i E F j l u)
 .rw[Vh M,m.hs,h.cnt];rcases vf with⟨e,ef⟩|⟨e,x,T,W,e3,e4,X,_⟩
  .rw[e,LZ C];have:oc q.2=oc w.η[k]:=by
    have V:dn q.2=false:=by unfold dn;rw[m.CZ];simp[ef]
    rw[(sW V).2,ocx,m.und]
   rw[this];congr 1;omega
  .have V:dn q.2=true:=by unfold dn;rw[m.CZ,m.sy];simp[T]
   have jy:oc q.2=0:=by unfold oc;rw[Wb V]
   have xu:gd G 2000000 k=0:=by unfold gd;rw[C]
   have tF:gd (dP G k o) 2000000 k=e.d:=by
    unfold gd dP;rw[Wb rfl,x];simp only;rw[Wb (by rcases U with z|z<;>omega)]
   rw[GU (f:=gd G 2000000) (f':=gd (dP G k o) 2000000) M λj l=>by unfold gd dP;rw[Wa l],xu,tF,jy,ocx,X];congr 1;omega
 .intro j l;rw[O j l];by_cases e:k=j
  .subst e;rw[Wb rfl];intro B A;exact Wi A (m.np B)
  .rw[Wa e,m.hh];intro B A r g n ab;unfold dP at n;split at n
   .rcases vf with⟨T,_⟩|⟨e',x,T,W,e3,e4,X,_⟩
    .rw[T]at n;cases n
    .rw[x]at n;injection n with n;subst n;refine⟨λi E F D=>e4 i λz=>e (oq P D z).symm,λu=>?_⟩;rw[X];exact Vp dW.hu λz=>e (oq P z u)
   .exact h.jk j l B A r g n ab
 .intro e I j l pF;have old:e∈w.δ->e.1=Wq (if k=j then q.2 else w.η[j]):=λI=>by
   rw[Wa λz=>hW e I (by rw[pF,z])];exact h.hs e I j l pF
  rw[O j l];rw[m.δ]at I;split at I
  .exact old I
  .rcases Xn.1 I with I|I
   .exact old I
   .rw[List.mem_singleton]at I;subst I;rw[Wb (by simp only at pF;omega)]
 .intro j g i z n J;unfold dP at n;split at n
  .rcases vf with⟨T,_⟩|⟨e,x,_,_,_,_,_,e6⟩
   .rw[T]at n;cases n
   .rw[x]at n;injection n with n;subst n;exact e6 i z J
  .exact h.rg j g i z n J
end
end
section
section
variable{N:Nat}{b i v:Int}{H S:List Wr}{h e:Wr}{l:List Rw}{ω:List Int}
theorem KX:Lin cfW:=⟨λx=>by unfold cfW;omega,λx y z=>by unfold cfW;omega,λx y z=>by unfold cfW;omega⟩
theorem OT{x y:Wr}:Ap cfW x y↔x.1≠y.1:=by unfold Ap cfW;omega
theorem Wvk{x y:Wr}(d:x.1≠y.1)(r:Int×Int):bX i v (bX i v r x) y=bX i v (bX i v r y) x:=by
 unfold bX;cases pick x.2.2 i with
 |none=>cases pick y.2.2 i<;>rfl
 |some p=>
  cases pick y.2.2 i with
  |none=>rfl
  |some q=>
   simp only;by_cases b:x.1<=v/\r.1<x.1
   .rw[Wb b];by_cases a:y.1<=v/\r.1<y.1
    .rw[Wb a];by_cases c:x.1<y.1
     .rw[Wb (show y.1<=v/\x.1<y.1 from⟨a.1,c⟩),Wa (by simp only;omega)]
     .rw[Wa (by simp only;omega),Wb (show x.1<=v/\y.1<x.1 from⟨b.1,by omega⟩)]
    .rw[Wa a,Wa (by simp only;omega),Wb b]
   .rw[Wa b];by_cases a:y.1<=v/\r.1<y.1
    .rw[Wb a,Wa (by simp only;omega)]
    .rw[Wa a,Wa b]
theorem ME:∀(S:List Wr) (r:Int×Int),(∀z∈S,z.1≠e.1)->S.foldl (bX i v) (bX i v r e)=bX i v (S.foldl (bX i v) r) e
 | [],r,_=>rfl
 |z::S,r,h=>by
  rw[cP,cP,Wvk (h z (Xg ..)).symm,ME S _ λy a=>h y (Xf _ a)]
theorem TX:∀(S:List Wr) (r:Int×Int),(∀z∈S,z.1≠e.1)->(eR cfW S e).foldl (bX i v) r=bX i v (S.foldl (bX i v) r) e
 | [],r,_=>rfl
 |z::S,r,h=>by
  have f:=h z (Xg ..);have b:∀y∈S,y.1≠e.1:=λy d=>h y (Xf _ d);rw[eR];split
  .rw[cP,TX S _ b,cP]
  .split
   .rw[cP,ME (z::S) r h]
   .rename_i a c;unfold cfW at a c;omega
def aB(H:List Wr):List Wr:=H.foldr (λh l=>eR cfW l h) []
theorem xi:∀{H:List Wr},H.Pairwise (λa b=>a.1≠b.1)->Ris cfW (aB H)/\(∀x,x∈aB H↔x∈H)
 | [],_=>⟨List.Pairwise.nil,λx=>Iff.rfl⟩
 |h::H,hp=>by
  obtain⟨d,e⟩:=bq.1 hp;obtain⟨a,c⟩:=xi e;refine⟨n7 KX a,λx=>?_⟩;show x∈eR cfW (aB H) h↔_;rw[kF KX a,c,Xs];refine or_congr Iff.rfl ⟨λz=>z.1,λz=>⟨z,OT.2 (d x z).symm⟩⟩
theorem Es(d:H.Pairwise λa b=>a.1≠b.1):(aB H).length=H.length:=by
 obtain⟨a,c⟩:=xi d;rw[←HH KX a (d.imp λz=>OT.2 z) λx=>(c x).symm];unfold lb;exact List.length_mergeSort _
theorem TD:∀(H:List Wr) (r:Int×Int),H.Pairwise (λa b=>a.1≠b.1)->(aB H).foldl (bX i v) r=H.foldl (bX i v) r
 | [],r,_=>rfl
 |h::H,r,hp=>by
  obtain⟨d,e⟩:=bq.1 hp;show(eR cfW (aB H) h).foldl (bX i v) r=_;rw[TX _ _ λz c=>(d z ((xi e).2 z|>.1 c)).symm,TD H r e,cP,ME H r λz c=>(d z c).symm]
theorem Hh(d:l.Pairwise λa b=>a.1<b.1):pick l i=lst l i:=by
 cases hp:pick l i with
 |some x=>exact(EF (r:=(i,x)) d (Ef hp)).symm
 |none=>
  cases hl:lst l i with
  |none=>rfl
  |some x=>
   unfold pick at hp;have c:l.find? (λr=>decide (r.1=i))=none:=by
    cases hf:l.find? (λr=>decide (r.1=i))with
    |none=>rfl
    |some r=>rw[hf]at hp;cases hp
   have:=N9.1 c _ (Bp hl);simp at this
structure HG(H:List Wr):Prop where
 len:H.length<=4
 each:∀h∈H,(1<=h.1/\h.1<=1000000)/\(1<=h.2.1/\h.2.1<=99)/\aZ h.2.2/\h.2.2.length<=300
 up:∀h∈H,h.2.2.Pairwise λa b=>a.1<b.1
 dist:H.Pairwise λa b=>a.1≠b.1
def ovW(v:Int)(l:List Int)(h:Wr):List Int:=if h.1<=v then ovl l h.2.2 else l
def stA(ω:List Int)(H:List Wr)(v:Int):List Int:=(aB H).foldl (ovW v) ω
theorem SZ{A:List Int}(a:Vals 8 A)(hr:aZ h.2.2):Vals 8 (ovW v A h):=by
 unfold ovW;split
 .exact jH a hr
 .exact a
theorem Ul{c:Int}(j:0<=c)(l:c<=7):∀(S:List Wr) (A:List Int) (r:Int×Int),Vals 8 A->Ris cfW S->(∀h∈S,aZ h.2.2/\h.2.2.Pairwise λa b=>a.1<b.1)->(∀h∈S,r.1<h.1)->A.getD c.toNat 0=r.2->Vals 8 (S.foldl (ovW v) A)/\(S.foldl (ovW v) A).getD c.toNat 0=(S.foldl (bX c v) r).2
 | [],A,r,d,_,_,_,e=>⟨d,e⟩
 |h::S,A,r,d,o,hr,i,e=>by
  obtain⟨s1,q⟩:=bq.1 o;obtain⟨m,p⟩:=hr h (Xg ..);have n:=i h (Xg ..);rw[cP,cP];refine Ul j l S _ _ (SZ d m) q (λy g=>hr y (Xf _ g)) (λy g=>?_) ?_
  .have h1:=s1 y g;have k:=i y (Xf _ g);unfold cfW at h1;unfold bX;split
   .split
    .simp only;omega
    .exact k
   .exact k
  .unfold ovW bX;rw[Hh p];by_cases f:h.1<=v
   .rw[Wb f,mK d m j l];cases lst h.2.2 c with
    |some x=>simp only;rw[Wb ⟨f,n⟩]
    |none=>exact e
   .rw[Wa f];cases lst h.2.2 c with
    |some x=>simp only;rw[Wa (λz=>f z.1)];exact e
    |none=>exact e
theorem HP(a:HG H)(i:Vals 8 ω):Vals 8 (stA ω H v)/\∀c:Int,0<=c->c<=7->(stA ω H v).getD c.toNat 0=(bst (ω.getD c.toNat 0) c v H).2:=by
 obtain⟨s1,g⟩:=xi a.dist;have b:∀c:Int,0<=c->c<=7->_:=λc e f=>Ul (v:=v) e f (aB H) ω (0,ω.getD c.toNat 0) i s1 (λh d=>⟨(a.each h ((g h).1 d)).2.2.1,a.up h ((g h).1 d)⟩) (λh d=>by have:=(a.each h ((g h).1 d)).1;simp only;omega) rfl;refine⟨(b 0 (by omega) (by omega)).1,λc e f=>?_⟩;have:=(b c e f).2;rw[TD H _ a.dist]at this;exact this
end
end
section
section
variable{N:Nat}{b i v:Int}{H S:List Wr}{h e:Wr}{l:List Rw}{ω:List Int}
theorem WyT(d:H.Pairwise λa b=>a.1≠b.1){i k:Nat}(hi:i<H.length)(c:k<i):H[k].1≠H[i].1:=eH.1 d k i (by omega) hi c
theorem UU{R:Type}{K0:Option R}{K1:Int->Bool->Option R}(e:H.Pairwise λa b=>a.1≠b.1){i:Nat}(hi:i<H.length)(k:H.length<=1000):∀(d j c:Nat),j+d=i->d<c->yi N H (i:Int) K0 K1 c (j:Int)=K1 (i:Int) false
 |0,j,c,h,hf=>by
  obtain⟨g,rfl⟩:∃g,c=g+1:=⟨c-1,by omega⟩;simp_all [yi,Wl,Wc]
 |d+1,j,c,h,hf=>by
  obtain⟨g,rfl⟩:∃g,c=g+1:=⟨c-1,by omega⟩;have f:j<i:=by omega
  have l:=WyT e hi f;have m:=UU (K0:=K0) (K1:=K1) e hi k d (j+1) g (by omega) (by omega);simp only[yi,Wf (show(j:Int)<(i:Int) by omega),We,Ws (show j<H.length by omega),Ws hi,Wu (show j<H.length by omega),Wu hi,Wk (show j<4611686018427387904 by omega)]
  grind
theorem Le(b:HG H)(m:1048576<N):vk N H=ret true:=by
 unfold vk;have u:=b.len;rw[Wl (show¬Wh H>200 by unfold Wh;omega),Wc];have h:=WH (l:=H) (V:=Unit) (R:=Unit×Ks) (lp:=λn j v=>yj N H (some ((),(false,()))) (λp o=>some ((),(true,()))) n j) (n:=N) (by omega)
  (body:=λj x v k=>k v) (K:=λ_ v=>some ((),(true,())))
  (λn i v a=>by
   obtain⟨⟨q,r⟩,⟨s,t⟩,c,d⟩:=b.each _ (Xo a);have e:(decide (1<=H[i].1)&&decide (H[i].1<=1000000))=true:=by simp;omega
   have g:(decide (1<=H[i].2.1)&&decide (H[i].2.1<=99))=true:=by simp;omega
   simp only[yj,WQ a,Ws a,Wu a,Wk (show i<4611686018427387904 by omega),We,ls,e,g,ret,Xd,Xr,Wc,Ai (show H[i].2.2.length<=1048576 by omega) m,vW c d];rw[show(0:Int)=((0:Nat):Int)from rfl,UU b.dist a (by omega) i 0 N (by omega) (by omega)])
  (λn v=>by simp[yj,W6,Xl,Wc]) ()
 refine h.trans ?_;rw[vR (f:=λv _=>v) H 0 () (λj x v k _=>rfl)]
def mnW(last a:Int)(x:Wr):Int:=if x.1>last then(if x.1<a then x.1 else a)else a
theorem VP{last:Int}:∀(H:List Wr) (b:Int),H.foldl (mnW last) b<=b/\(∀x∈H,x.1>last->H.foldl (mnW last) b<=x.1)/\(H.foldl (mnW last) b=b\/∃x∈H,x.1=H.foldl (mnW last) b/\x.1>last)
 | [],b=>⟨aj _,(λx e=>by cases e),.inl rfl⟩
 |y::H,b=>by
  obtain⟨a,c,d⟩:=VP (last:=last) H (mnW last b y);rw[cP];have f:mnW last b y<=b/\(y.1>last->mnW last b y<=y.1)/\(mnW last b y=b\/(y.1=mnW last b y/\y.1>last)):=by
   unfold mnW;omega
  obtain⟨h,i,j⟩:=f;refine⟨by omega,λx e g=>?_,?_⟩
  .grind
  grind
def lsW(S:List Wr)(j:Nat):Int:=if j=0 then 0 else(S.getD (j-1) (0,0,[])).1
theorem WyJ(b:HG H){j:Nat}(l:j<(aB H).length):H.foldl (mnW (lsW (aB H) j)) 1000001=(aB H)[j].1:=by
 obtain⟨s1,i⟩:=xi b.dist;have p:∀(a c:Nat) (e:a<(aB H).length) (f:c<(aB H).length),a<c->(aB H)[a].1<(aB H)[c].1:=λa c e f h=>by
  have:=eH.1 s1 a c e f h
  grind [cfW]
 have g:=(i _).1 (Xo l);have t:=(b.each _ g).1;have n:lsW (aB H) j<(aB H)[j].1:=by
  grind [lsW,Xp,aB]
 obtain⟨a,c,d⟩:=VP (last:=lsW (aB H) j) H 1000001;have s:=c _ g (by omega);rcases d with d|⟨x,o,q,r⟩
 .omega
 .obtain⟨k,u,rfl⟩:=nq.1 ((i x).2 o);by_cases m:j<=k
  .grind
  .have:(aB H)[k].1<=lsW (aB H) j:=by
    unfold lsW
    grind
   omega
theorem WyA{R:Type}{b:List Int}{K0:Int->Int->Bool->Option R}{last:Int}(e:H.length<=1000)(d:1048576<N):pj N H last b K0 N 1000001 0=K0 (H.foldl (mnW last) 1000001) (H.length:Int) false:=by
 have c:=WH (l:=H) (V:=Int) (R:=R) (lp:=λn j v=>pj N H last b K0 n v j) (n:=N) (by omega)
  (body:=λj x v k=>k (mnW last v x)) (K:=λj v=>K0 v j false)
  (λn i v a=>by
   simp only[pj,WQ a,Ws a,Wu a,Wk (show i<4611686018427387904 by omega),We,gF]
   grind [mnW])
  (λn v=>by simp[pj,W6,Xl,Wc]) 1000001
 refine c.trans ?_;rw[vR (f:=λv x=>mnW last v x) H 0 1000001 (λj x v k _=>rfl),dj]
theorem TN(b:HG H)(c:1048576<N):∀(d j a:Nat),j+d=(aB H).length->d<a->yk N H (λo q f=>(some ((),(f,())))) a (lsW (aB H) j) (((aB H).map (·.1)).take j)=ret ((aB H).map (·.1))
 |0,j,a,h,hf=>by
  obtain⟨g,rfl⟩:∃g,a=g+1:=⟨a-1,by omega⟩;have i:=Es b.dist
  grind [aB,mc,Xy,yk,decide_eq_false,Wh]
 |d+1,j,a,h,hf=>by
  obtain⟨g,rfl⟩:∃g,a=g+1:=⟨a-1,by omega⟩;have i:=Es b.dist;have m:=b.len;have e:j<(aB H).length:=by omega
  have k:j<((aB H).map (·.1)).length:=by simp_all
  have p:(((aB H).map (·.1)).take j).length=j:=by grind
  have n:=TN b c d (j+1) g (by omega) (by omega);rw[yk,Wf (show Wh (((aB H).map (·.1)).take j)<Wh H by grind [Wh]),We,WyA (by omega) c,WyJ b e];rw[Ww (by grind),We];have l:lsW (aB H) (j+1)=(aB H)[j].1:=by
   simp_all [lsW,Wa,Xq,Nat.add_sub_cancel,Xp]
  simp_all [aB,Xe,l6,eX]
theorem Wkg(a:HG H)(b:1048576<N):Dr N H=ret ((aB H).map (·.1)):=by
 unfold Dr;rw[Le a b];simp only[ret,Xd,Xr,Wc];have d:=Es a.dist;have c:=a.len;exact TN a b (aB H).length 0 N (by omega) (by omega)
theorem Sh:∀(H:List Wr) (A:List Int),H.Pairwise (λa b=>a.1≠b.1)->e∈H->H.foldl (λv x=>if x.1=e.1 then ovl v x.2.2 else v) A=ovl A e.2.2
 | [],_,_,h=>by cases h
 |y::H,A,f,h=>by
  obtain⟨c,d⟩:=bq.1 f;have none:∀(H:List Wr) (A:List Int),(∀z∈H,z.1≠e.1)->H.foldl (λv x=>if x.1=e.1 then ovl v x.2.2 else v) A=A:=by
   intro H
   induction H with
   |nil=>simp_all
   |cons z H ih=>
    grind
  rw[cP];rcases Xs.1 h with rfl|h
  .grind
  .rw[Wa (c e h)];exact Sh H A d h
theorem Wzr{R:Type}{K0:Int->Bool->List Int->Option R}(a:HG H)(m:1048576<N){j:Nat}(q:j<(aB H).length){A:List Int}(h:Vals 8 A):qJ N H v (j:Int) ((aB H).map (·.1)) K0 N 0 A=K0 (H.length:Int) false (ovl A (aB H)[j].2.2):=by
 have b:=a.len;have e:j<((aB H).map (·.1)).length:=by simp_all
 have p:((aB H).map (·.1))[j]=(aB H)[j].1:=eX ..;obtain⟨s1,r⟩:=xi a.dist;have g:=WH (l:=H) (V:=List Int) (R:=R) (lp:=λn k l=>qJ N H v (j:Int) ((aB H).map (·.1)) K0 n k l) (n:=N) (by omega)
  (body:=λk x l kk=>bif x.1==(aB H)[j].1 then(qT N l x.2.2).bind (λo=>kk o.2.1)else kk l) (K:=λk l=>K0 k false l)
  (λn i l d=>by simp only[qJ,WQ d,Ws d,Wu d,Ws e,Wu e,p,Wk (show i<4611686018427387904 by omega),We])
  (λn l=>by simp[qJ,W6,Xl,Wc]) A
 refine g.trans ?_;rw[MQ (β:=Unit) (f:=λl x=>if x.1=(aB H)[j].1 then ovl l x.2.2 else l) (λl=>Vals 8 l) H 0 A h (λx c l b=>by
   split
   .exact jH b (a.each x c).2.2.1
   .exact b) (λk x l kk c b=>by
   simp only[WI];split
   .rw[Lu b (a.each x c).2.2.1 (a.each x c).2.2.2 m];rfl
   .rfl),dj,Sh H A a.dist ((r _).1 (Xo q))]
theorem Tz:∀(S:List Wr) (A:List Int),(∀z∈S,¬z.1<=v)->S.foldl (ovW v) A=A
 | [],_,_=>rfl
 |z::S,A,h=>by
  rw[cP,show ovW v A z=A by unfold ovW;rw[Wa (h z (Xg ..))]];exact Tz S A λy a=>h y (Xf _ a)
theorem WuI(c:HG H)(a:Vals 8 ω)(S:List Wr)(b:∀z∈S,z∈H):Vals 8 (S.foldl (ovW v) ω):=by
 induction S generalizing ω with
 |nil=>exact a
 |cons z S ih=>
  rw[cP];exact ih (SZ a (c.each z (b z (Xg ..))).2.2.1) λy d=>b y (Xf _ d)
theorem Vu(b:HG H)(l:Vals 8 ω)(i:1048576<N):∀(d j a:Nat),j+d=(aB H).length->d<a->yr N H v ((aB H).map (·.1)) (λt u p=>(some ((),(p,())))) a (j:Int) (((aB H).take j).foldl (ovW v) ω)=ret (stA ω H v)
 |0,j,a,o,hf=>by
  obtain⟨g,rfl⟩:∃g,a=g+1:=⟨a-1,by omega⟩;rw[yr,W6 (show((aB H).map (·.1)).length<=j by simp_all),mc (by omega)];rfl
 |d+1,j,a,o,hf=>by
  obtain⟨g,rfl⟩:∃g,a=g+1:=⟨a-1,by omega⟩;have c:j<(aB H).length:=by omega
  have f:j<((aB H).map (·.1)).length:=by simp_all
  have n:((aB H).map (·.1))[j]=(aB H)[j].1:=eX ..;obtain⟨s1,q⟩:=xi b.dist;have s:=Es b.dist;have r:=b.len;rw[yr,WQ f,Ws f,Wu f,n];simp only[We,gF];by_cases m:(aB H)[j].1<=v
  .have ih:=Vu b l i d (j+1) g (by omega) (by omega);rw[Wb m,Wzr b i c (WuI b l _ λz h=>(q z).1 (jO h)),Wk (show j<4611686018427387904 by omega)];rw[l6 c,B3]at ih;simp_all [aB,ovW,ovl,Wb]
  .rw[Wa m];unfold stA
   conv=>rhs;rw[←E3 j (aB H),B3]
   rw[Tz ((aB H).drop j) _ λz h=>by
    obtain⟨k,hk,rfl⟩:=nq.1 h;rw[List.length_drop]at hk;rw[List.getElem_drop];by_cases e:k=0
    .simp_all
    .have:=eH.1 s1 j (j+k) c (by omega) (by omega)
     grind [cfW]]
theorem Wlr(a:HG H)(c:Vals 8 ω)(b:1048576<N):zd N ω H v=ret (stA ω H v):=by
 unfold zd;have d:=c.len;have f:=Es a.dist;have e:=a.len;rw[DF (by omega) b,pV.2 c,Le a b];simp only[ret,Xd,Xr,Wc];rw[Ww (by simp;omega),We,Wkg a b];simp only[ret,Xd];exact Vu a c b (aB H).length 0 N (by omega) (by omega)
end
end
section
section
variable{N:Nat}{s:Sc}{w:Wo}{n:Int}{x:Rt}{k:Nat}{p:Pg}{m:Mm}{H:List Wr}{C:Nat->Option Cm}{ω:List Int}{b:Int->Int}
theorem WwO{s:Sc}(d:Vals 8 s.1.1):MI (λi=>s.1.1.getD i.toNat 0) (bo s).mem (bo s).δ (ar (bo s).η):=by
 have a:∀k c,ar (bo s).η k=some c->False:=λk c h=>by
  obtain⟨n,l,_⟩:=Mf h;have:(bo s).η[k].ζ=0:=by simp only[bo,kw]
  omega
 refine⟨(λh f=>by cases f),λk c h=>Wi h (λh=>a k c h),λk p c g _ h=>Wi h (λh=>a k c h),λi j m _=>?_,λk c h=>Wi h (λh=>a k c h)⟩;have o:=d.len;have b:i.toNat<s.1.1.length:=by omega
 have e:WA (bo s).mem i=(s.1.1.getD i.toNat 0,0,0):=by
  unfold WA ah bo BD;simp only;rw[Wn (by simpa using b),Wn b,eX];rfl
 rw[e];exact⟨rfl,rfl⟩
theorem NF(a:dQ s=true):OA (λi=>s.1.1.getD i.toNat 0) s 0 (bo s):=by
 refine⟨Uz a,WzZ,WxK a,Wx1,WwO (p4 a).1.ω,λk c=>?_,⟨(λh b=>by cases b),List.nodup_nil,List.Pairwise.nil,(λh b=>by cases b)⟩⟩;have e:(bo s).η[k]={}:=by simp only[bo,kw]
 rw[e];exact RO.nil (aj _) ⟨aj _,aj _⟩ rfl rfl (by show(0:Int)≠2;omega) (by show(0:Int)≠4;omega) rfl
theorem Wvx(a:dQ s=true):OA (λi=>s.1.1.getD i.toNat 0) s s.2.2.length (BL s):=by
 obtain⟨b,c,d,e⟩:=p4 a;have:=TZ s.2.2 0 _ (NF a) (by omega);rw[Int.zero_add]at this;exact this
theorem OA.hg(h:OA b s n w)(m:n<=1000000):HG w.δ:=by
 have f:w.η.length<=4:=by rw[h.ok.len];exact h.ok.l4
 have d:=h.hw.len f;refine⟨d,λe a=>?_,h.hw.up,h.hw.dist⟩;obtain⟨g,c,i,j⟩:=h.ok.histE e a;obtain⟨k,l⟩:=h.mi.st e a;have:=h.wt.clk;have:=h.ok.now;exact⟨by omega,by omega,c,by omega⟩
structure LK(ω:List Int)(H:List Wr)(x:Rt):Prop where
 ε:aZ x.μ/\x.μ.length<=300
 rd:∀r∈x.μ,(stA ω H x.rv).getD r.1.toNat 0=r.2
 fz:FZ x.fam
 ft:EL (stA ω H x.fam.rv) x.fam
theorem VJ{v i z:Int}(c:HG H)(d:Vals 8 ω)(a:0<=i)(b:i<=7)(h:RC (λi=>ω.getD i.toNat 0) m H C v i z):(stA ω H v).getD i.toNat 0=z:=by
 rw[(HP c d).2 i a b,h.val]
theorem WxN(h:OA (λi=>s.1.1.getD i.toNat 0) s n w)(y:n<=1000000)(a:Vals 8 s.1.1)(l:k<w.η.length):LK s.1.1 w.δ w.η[k]:=by
 have j:=h.hg y;have d:=h.ro k l;have m:=h.ok.root k l;have b:POk (s.2.1.getD k pg0):=h.ok.progs _ (by rw[Wn (show k<s.2.1.length by rw[←h.ok.len];exact l)];exact Xo _);have A:=m.ζ;have e:aZ w.η[k].μ/\w.η[k].μ.length<=300:=by
  by_cases z:1<=w.η[k].ζ/\w.η[k].ζ<=4
  .exact Mb (m.C4 z) b.θ
  .exact d.ε (by omega)
 suffices hf:FZ w.η[k].fam/\EL (stA s.1.1 w.δ w.η[k].fam.rv) w.η[k].fam from⟨e,λr hr=>VJ j a (e.1 r hr).1.1 (e.1 r hr).1.2 (d.rd r hr),hf.1,hf.2⟩
 by_cases g:w.η[k].ζ=2
 .obtain⟨u,⟨ε,o⟩,f⟩:=d.fam g;obtain⟨_,_,p⟩:=(m.C4 (by omega)).fork g;refine⟨FZ.of f.fp.ft p b.k3 (λc a=>(b.π c a).len) o,?_⟩;rw[u];exact WsF f.fp.ft (FZ.of f.fp.ft p b.k3 (λc a=>(b.π c a).len) o) (HP j a).1 λc v q t x=>VJ j a q t x
 .rw[d.fam0 g];refine⟨⟨⟨(λr hr=>by cases hr),iw _⟩,iw _,(λr hr=>by cases hr),(λr hr=>by cases hr),iw _,(λr hr=>by cases hr)⟩,λr hr=>by cases hr⟩
section
variable{R:Type}{s1:Sc}{K0:Option R}{K1:Int->Bool->Option R}{A:List Int}
theorem K4(a:k<w.η.length):Xc (w.η.map Rt.e) (Xa (k:Int)) d_Root=Rt.e w.η[k]:=by
 rw[Xi,Wn (show k<(w.η.map Rt.e).length by simpa using a),eX]
theorem UD(f:k<w.η.length)(i:Vals 8 A)(hr:aZ w.η[k].μ/\w.η[k].μ.length<=300)(l:∀r∈w.η[k].μ,A.getD r.1.toNat 0=r.2):∀(d j a:Nat),j+d=w.η[k].μ.length->d<a->yl N (k:Int) s1 w.e A K0 K1 a (j:Int)=K1 (w.η[k].μ.length:Int) false
 |0,j,a,n,hf=>by
  obtain⟨g,rfl⟩:∃g,a=g+1:=⟨a-1,by omega⟩;have:j=w.η[k].μ.length:=by omega
  subst this;have c:P5 w.e=w.η.map Rt.e:=rfl;have h:P13 (Rt.e w.η[k])=w.η[k].μ:=rfl;simp only[yl,Wz,c,K4 f,h,W6 (Xl _),Wc]
 |d+1,j,a,n,hf=>by
  obtain⟨g,rfl⟩:∃g,a=g+1:=⟨a-1,by omega⟩;have b:j<w.η[k].μ.length:=by omega
  have c:P5 w.e=w.η.map Rt.e:=rfl;have h:P13 (Rt.e w.η[k])=w.η[k].μ:=rfl;have o:=hr.1 _ (Xo b);have m:inb w.η[k].μ[j].1 A.length=true:=by unfold inb;rw[i.len];simp;omega
  have p:=UD f i hr l d (j+1) g (by omega) (by omega);simp only[yl,Wz,c,K4 f,h,WQ b,Ws b,Wu b,We,m,Wk (show j<4611686018427387904 by omega)];rw[l _ (Xo b),bne_self_eq_false,Wc];exact p
end
end
end
section
section
variable{R:Type}{N kk:Nat}{K0:Tg->List Int->Option R}{K1:Int->Bool->List Int->Int->List M7->List Int->List Int->Option R}
 {b:Int->Int} {s:Sc} {w w':Wo} {G G':Nat->Option GE} {k:Nat} {x y:Rt} {q:Wo×Rt} {n:Int} {p:Pg} {a:Ac}
theorem EK(h:GA N kk K0 K1 b s w G){t:Int}:GA N kk K0 K1 b s {w with now:=t} G:=
 ⟨h.ra,h.out,h.uq,h.le,h.free,h.held,h.cnt,h.jk,h.hs,h.rg⟩
theorem Wyn(Y:1048576<N)(h:GA N kk K0 K1 b s w G)(a:OA b s n w)(hn:n<=99990)(d:k<w.η.length)(S:∀k,∀c∈(s.2.1.getD k pg0).2,dz c=true):∃G',GA N kk K0 K1 b s (Wo.put (ay {w with now:=w.now+1} w.η[k] k (s.2.1.getD k pg0)) k) G':=by
 have A:=EK (t:=w.now+1) h;have L:POk (s.2.1.getD k pg0):=a.ok.progs _ (by rw[Wn (show k<s.2.1.length by rw[←a.ok.len];exact d)];exact Xo _);have D:=a.ok.root k d;have K:=a.wx k d;have hb:LB {w with now:=w.now+1} k w.η[k]:=⟨(a.lx.root k d).cm,(a.lx.root k d).no,(a.lx.root k d).hd,(a.lx.root k d).tk⟩;have hr:=si a.ok d;have Q:CL2 w.mem (ar w.η):=Nx a.ok a.lx;have sL:=Sy (b:=b) a.ok a.lx a.wx a.wt (by omega) a.mi d rfl hr;have f:=TL (w:={w with now:=w.now+1}) (k:=k) (p:=s.2.1.getD k pg0) K D.ζ;have W:GOk {w with now:=w.now+1}:=⟨a.ok.mem,a.ok.ψ,a.ok.holds⟩;have m6:k<=8:=by have:=a.ok.l4;have:=a.ok.len;omega
 have Z:=D9 (w:={w with now:=w.now+1}) (k:=k) L ⟨a.ok.mem,a.ok.ψ,a.ok.holds⟩ D m6 a.ok.n0;have bZ:w.mem.1<=99999:=by have:=a.wt.clk;have:=a.ok.now;omega
 have kg:0<=w.mem.1:=(WP a.ok.mem).2.1;have o:=a.ro k d;have B:stl w.η[k]=false->∀e∈w.δ,e.2.1≠(k:Int)+1:=λl e g z=>by
  obtain⟨k',dI,F,H⟩:=a.hw.who e g;have:k'=k:=by omega
  subst this;rw[l]at H;cases H
 have C:∀e∈w.δ,e.2.1=(k:Int)+1->stl w.η[k]=true:=λe g z=>by
  cases l:stl w.η[k]
  .exact Wi z (B l e g)
  .rfl
 have Az:(ay {w with now:=w.now+1} w.η[k] k (s.2.1.getD k pg0)).1.mem.1<=w.mem.1+1:=by
  have:=(Ri (w:={w with now:=w.now+1}) (x:=w.η[k]) (k:=k) (p:=s.2.1.getD k pg0));rcases this with e|⟨_,e⟩
  .rw[e];show w.mem.1<=_;omega
  .rw[e];exact QH a.ok.mem
 generalize hq:ay {w with now:=w.now+1} w.η[k] k (s.2.1.getD k pg0)=q at*;have u:∀v c z,RC b w.mem w.δ (ar w.η) v c z->RC b q.1.mem q.1.δ (ar (w.η.set k q.2)) v c z:=by
  have:=sL.2;unfold Wo.put at this;rw[hr]at this;exact this
 have kB:w.η[k].ζ=5->w.η[k].cm.ζ=3->¬(((WA w.mem (ah w.η[k].cm.μ w.η[k].cm.pos 0)).2.2≠0/\(WA w.mem (ah w.η[k].cm.μ w.η[k].cm.pos 0)).2.2≠w.η[k].cm.who)\/(WA w.mem (ah w.η[k].cm.μ w.η[k].cm.pos 0)).2.1>w.η[k].cm.rv)->∀v,(ah w.η[k].cm.μ w.η[k].cm.pos 0,v)∈w.η[k].μ->RC b q.1.mem q.1.δ (ar (w.η.set k q.2)) (w.η[k].cm.wv-1) (ah w.η[k].cm.μ w.η[k].cm.pos 0) v:=λy J aw v M=>by
  have T:=(h.ra k d).cl y;have kx:=((h.ra k d).ck y J).1;have V:ar w.η k=some w.η[k].cm:=by rw[Bu d];unfold cmX;rw[Wb y]
  have E:=(o.ε (.inr (by omega))).1 _ M;refine u _ _ _ (Wy7 (i:=ah w.η[k].cm.μ w.η[k].cm.pos 0) (by omega) a.mi Q V J (by omega) (by have:=o.rv;omega) E.1.1 E.1.2 ?_ (by omega) ?_)
  .unfold C0;omega
  .rw[T.1];exact o.rd _ M
 have m:=λ(I:V3) (X:∀v c z,RI s.1 G w v c z->I v c z)=>Wvn (w:={w with now:=w.now+1}) (I:=I) Y L (S k) ((A.ra k d).wk u X (λ_ _ _ _ _ z=>z) (λ_ _ z=>z) (λ_=>Iff.rfl) (λ_=>Iff.rfl) λ_ _ _ _=>rfl) (λl=>Ur (B l)) D W K hb (λy=>(a.wt.root k d).cm y) (show w.mem.1<1000000 by omega) kg o.rv.2 (λr R=>u _ _ _ (o.rd r R)) (λU=>⟨_,(o.fam U).2.2.wk (λc z=>u _ c z) λ_ z=>z⟩) (λl=>A.sk (λe g=>a.lx.hd e g) d l) (λe g=>by obtain⟨j,_,F⟩:=a.lx.hd e g;exact⟨j,F⟩) kB;rw[hq]at m;rcases m (λ_ _ _=>True) (λ_ _ _ _=>trivial)with O|so
 .have hRI:=VF (s:=s) (G:=G) (w:={w with now:=w.now+1}) d hr f.C2 (λz=>(f.stay.st z).1) O;rcases m _ hRI with P|so
  .exact⟨G,ZK A a.ok.holds Z.holds d hr u f.C2 (λz=>(f.stay.st z).1) (λz=>(f.stay.st z).2.1) C rfl P⟩
  .exact Wi so.sy (by rw[O.nst so.h5 so.sx];simp)
 .exact⟨_,ZF A a.ok.holds d hr u f.C2 (by omega) (B so.sx) rfl so⟩
theorem Vb(o:1048576<N)(h:GA N kk K0 K1 b s w G)(e:OA b s n w)(p:n<=99990)(j:∀k,∀c∈(s.2.1.getD k pg0).2,dz c=true):∃G',GA N kk K0 K1 b s (cM s w a) G':=by
 unfold cM;simp only;split
 .rename_i hb;have d:a.2.1.toNat<w.η.length:=by omega
  rw[Wn d];generalize a.2.1.toNat=k at*;split
  .unfold m0;rw[Wn (show k<({w with now:=w.now+1}:Wo).η.length from d)];exact Wyn o h e p d j
  .split
   .split
    .rename_i hc;have g:=e.ok.root k d;have i:=g.C4 (by omega);obtain⟨_,_,m⟩:=i.fork hc.1;obtain⟨t,u,l⟩:=(e.ro k d).fam hc.1;have q:POk (s.2.1.getD k pg0):=e.ok.progs _ (by rw[Wn (show k<s.2.1.length by rw[←e.ok.len];exact d)];exact Xo _);have f:a.2.2.toNat<(s.2.1.getD k pg0).2.length:=by omega
     have r:(s.2.1.getD k pg0).2.getD a.2.2.toNat []=(s.2.1.getD k pg0).2[a.2.2.toNat]:=Wn f _;exact⟨G,h.same (y:={w.η[k]with fam:=bJ w.mem w.η[k].fam a.2.2.toNat ((s.2.1.getD k pg0).2.getD a.2.2.toNat [])}) d rfl rfl (λ_ _=>rfl) rfl ⟨rfl,rfl⟩ rfl (WzS (h.ra k d) hc.1 g l (by rw[m.len];exact f) (by rw[r];exact q.π _ (Xo _)))⟩
    .exact⟨G,EK h⟩
   .split
    .split
     .exact⟨G,h.same (y:={w.η[k]with γ:=true}) d rfl rfl (λ_ _=>rfl) rfl ⟨rfl,rfl⟩ rfl (WxR (h.ra k d))⟩
     .exact⟨G,EK h⟩
    .exact⟨G,EK h⟩
 .exact⟨G,EK h⟩
theorem Tw(f:1048576<N)(d:∀k,∀c∈(s.2.1.getD k pg0).2,dz c=true):∀(l:List Ac) (n:Int) (w:Wo) (G:Nat->Option GE),GA N kk K0 K1 b s w G->OA b s n w->n+l.length<=99990->∃G',GA N kk K0 K1 b s (l.foldl (cM s) w) G'
 | [],n,w,G,h,_,_=>⟨G,h⟩
 |e::l,n,w,G,h,g,hn=>by
  simp only[Xu]at hn
  push_cast at hn
  obtain⟨G',i⟩:=Vb (a:=e) f h g (by omega) d;exact Tw f d l (n+1) _ G' i (MZ g (by omega)) (by omega)
theorem Vf(o:dQ s=true):GA N kk K0 K1 b s (bo s) λ_=>none:=by
 obtain⟨f,w,x,y⟩:=p4 o;have v:(bo s).η.length=s.2.1.length:=by simp[bo]
 have d:∀(k:Nat) (c:k<(bo s).η.length),(bo s).η[k]={}:=λk c=>by simp only[bo,kw]
 have r:∀j i,¬xld (bo s).holds j i:=λj i ⟨e,h,_⟩=>by cases h
 have m:ow ({}:Rt)=none:=(low (by show(0:Int)<=4;omega)).1;refine⟨λk c=>?_,λ_ _=>rfl,λj k p c _ a=>?_,λk c a=>?_,λi B C _=>?_,λi _ _ k _ z=>Wi z (r k i),?_,λk c l=>?_,λe h=>(by cases h),λk g i z d=>(by cases d)⟩
 .rw[d k c];exact RA.Dd rfl (.inl rfl) rfl (λ_=>rfl) λu q=>by cases q
 .rw[d j p,m];intro z;cases z
 .rw[d k c,m];intro z;cases z
 .unfold VA;rw[Wa (by omega)];refine .inl ⟨?_,λk g z=>by cases z⟩;show WD (BE s.1.2.1) i=_;have:=WrM f.map.1 f.map.2 (show i.toNat<8 by omega);rw[show((i.toNat:Nat):Int)=i by omega]at this;exact this
 .have z1:∀n,cp n (gd (λ_=>none) 2000000)=0:=λn=>by
   induction n with
   |zero=>rfl
   |succ n ih=>rw[cp,ih];rfl
  have t:cp (bo s).η.length (λk=>oc ((bo s).η.getD k rt0))=0:=by
   have:∀n,n<=(bo s).η.length->cp n (λk=>oc ((bo s).η.getD k rt0))=0:=λn=>by
    induction n with
    |zero=>intro _;rfl
    |succ n ih=>
     intro A;rw[cp,ih (by omega),Wn (by omega),d n (by omega)];rfl
   exact this _ (Xl _)
  rw[z1,t];show s.1.2.2=_;have:=f.cnt;omega
 .rw[d k c]at l;change (0:Int)=5 at l;omega
theorem WyE(d:1048576<N)(a:dQ s=true)(b:∀k,∀c∈(s.2.1.getD k pg0).2,dz c=true):∃G,GA N kk K0 K1 (λi=>s.1.1.getD i.toNat 0) s (BL s) G:=by
 obtain⟨e,f,g,h⟩:=p4 a;exact Tw d b s.2.2 0 _ _ (Vf a) (NF a) (by omega)
end
end
section
section
variable{R:Type}{N kk:Nat}{K0:Tg->List Int->Option R}{K1:Int->Bool->List Int->Int->List M7->List Int->List Int->Option R}
 {b:Int->Int} {s:Sc} {w w':Wo} {G G':Nat->Option GE} {k:Nat} {x y:Rt} {q:Wo×Rt} {n:Int} {p:Pg} {a:Ac} {o:Opn}
structure PT(w:Wo)(x y:Rt):Prop where
 bg:(y.C7=x.C7/\x.rv<=y.rv)\/y.C7=0\/(y.C7=w.now/\y.rv=w.mem.1)
 en:y.ζ=8->(x.ζ=8/\y=x)\/(y.C9=w.now/\y.C7=x.C7)
theorem PT.keep(a:y.C7=x.C7)(c:y.rv=x.rv)(b:y.ζ≠8):PT w x y:=⟨.inl ⟨a,by omega⟩,λz=>Wi z b⟩
theorem PT.fail:PT w x (de y):=⟨.inr (.inl rfl),λz=>by(change (6:Int)=8 at z;omega)⟩
theorem PT.conflict(a:y.C7=x.C7)(b:y.rv=x.rv):PT w x (WR y):=by
 unfold WR;split
 .exact PT.fail
 .exact PT.keep a b (by show(3:Int)≠8;omega)
theorem PT.close{a:Int}:PT w x (ec w x k a).2:=by
 unfold ec;simp only;generalize (if a=2 then []else x.ι)=ε;split
 .exact⟨.inl ⟨rfl,aj _⟩,λ_=>.inr ⟨rfl,rfl⟩⟩
 .exact PT.keep rfl rfl (by show(5:Int)≠8;omega)
theorem WzI(i:x.ζ=1):PT w x (aT w x k p).2:=by
 have d:∀y:Rt,y.C7=x.C7->y.rv=x.rv->y.ζ=x.ζ->PT w x y:=λy a b c=>PT.keep a b (by omega);unfold aT;split
 .exact PT.close
 simp only;generalize opN p.1 x.pc=o;by_cases h:o.1=5
 .rw[Wb h];unfold eS;cases bm x.ι o.2.2.1 with
  |some v=>exact d _ rfl rfl rfl
  |none=>
   simp only;generalize W7 w.mem x.rv _=q;split
   .exact PT.conflict rfl rfl
   split<;>exact d _ rfl rfl rfl
 rw[Wa h];by_cases f:o.1=10
 .rw[Wb f];unfold ig;split
  .exact PT.close
  split<;>exact d _ rfl rfl rfl
 rw[Wa f];by_cases g:o.1=11
 .rw[Wb g];exact PT.keep rfl rfl (by show(2:Int)≠8;omega)
 rw[Wa g];by_cases e:o.1>=12
 .rw[Wb e];unfold fM;cases hZ w.holds ((k:Int)+1) (W0 o).1 (W0 o).2 with
  |none=>exact PT.conflict rfl rfl
  |some hs=>exact d _ rfl rfl rfl
 rw[Wa e]
 repeat' split
 all_goals exact d _ rfl rfl rfl
theorem WwD(q:x.ζ=4->x.rv<=x.C8):PT w x (ay w x k p).2:=by
 have e:∀y:Rt,y.C7=x.C7->y.rv=x.rv->y.ζ=x.ζ->x.ζ≠8->PT w x y:=λy a b c d=>PT.keep a b (by omega);unfold ay;by_cases h:x.γ=true/\1<=x.ζ/\x.ζ<=4
 .rw[Wb h];exact PT.fail
 rw[Wa h];by_cases i:x.ζ=0
 .rw[Wb i];unfold il
  repeat' split
  all_goals first|exact e _ rfl rfl rfl (by omega)|exact⟨.inr (.inr ⟨rfl,rfl⟩),λz=>by(change (1:Int)=8 at z;omega)⟩
 rw[Wa i];by_cases f:x.ζ=1
 .rw[Wb f];exact WzI f
 rw[Wa f];by_cases j:x.ζ=2
 .rw[Wb j];show PT w x (eD x);unfold eD;split
  .exact PT.fail
  split
  .exact PT.keep rfl rfl (by show(1:Int)≠8;omega)
  .exact e _ rfl rfl rfl (by omega)
 rw[Wa j];by_cases l:x.ζ=3
 .rw[Wb l];unfold hV;split
  .exact e _ rfl rfl rfl (by omega)
  .exact PT.keep rfl rfl (by show(4:Int)≠8;omega)
 rw[Wa l];by_cases g:x.ζ=4
 .rw[Wb g];show PT w x (ez w x);unfold ez;split
  .simp only;split
   .exact PT.fail
   .exact e _ rfl rfl rfl (by omega)
  .exact⟨.inl ⟨rfl,q g⟩,λz=>by(change (1:Int)=8 at z;omega)⟩
 rw[Wa g];by_cases m:x.ζ=5
 .rw[Wb m];unfold ei;split
  .show PT w x (if _ then _ else _);split
   .exact PT.fail
   .exact e _ rfl rfl rfl (by omega)
  .show PT w x (dt _);unfold dt;split
   .exact PT.fail
   split
   .exact PT.keep rfl rfl (by show(if _ then(6:Int)else 7)≠8;split<;>omega)
   .exact e _ rfl rfl rfl (by omega)
 rw[Wa m];by_cases n:x.ζ=6
 .rw[Wb n];split
  .exact e _ rfl rfl rfl (by omega)
  .exact PT.keep rfl rfl (by show(7:Int)≠8;omega)
 rw[Wa n];by_cases o:x.ζ=7
 .rw[Wb o];split
  .exact⟨.inr (.inl rfl),λz=>by(change (0:Int)=8 at z;omega)⟩
  .exact⟨.inl ⟨rfl,aj _⟩,λ_=>.inr ⟨rfl,rfl⟩⟩
 rw[Wa o];exact⟨.inl ⟨rfl,aj _⟩,λz=>.inl ⟨z,rfl⟩⟩
structure TTl(l:List Rt)(now:Int):Prop where
 bg:∀(k:Nat) (h:k<l.length),0<=l[k].C7/\l[k].C7<=now
 en:∀(k:Nat) (h:k<l.length),l[k].ζ=8->l[k].C7<=l[k].C9/\l[k].C9<=now
 rt:∀(a b:Nat) (ha:a<l.length) (hb:b<l.length),l[a].ζ=8->l[a].C9<l[b].C7->Wq l[a]<=l[b].rv
def TT(w:Wo):Prop:=TTl w.η w.now
theorem GA.clk(h:GA N kk K0 K1 b s w G)(d:OA b s n w)(a:k<w.η.length)(c:stl w.η[k]=true):w.η[k].rv<=Wq w.η[k]/\Wq w.η[k]<=w.mem.1:=by
 have hr:=((h.ra k a).fin c).rv;refine⟨hr,?_⟩;by_cases z:w.η[k].rv<Wq w.η[k]
 .refine h.le k a _ ?_;unfold ow;rw[Wa (by rw[WM]at c;omega),c,Wb ⟨rfl,z⟩]
 .have:=(d.ro k a).rv;omega
theorem NE(h:TT w)(p:k<w.η.length)(C:PT {w with now:=w.now+1} w.η[k] y)(u:∀(a:Nat) (E:a<w.η.length),w.η[a].ζ=8->Wq w.η[a]<=w.mem.1)(G:0<=w.now){v:Wo}(x:v.η=w.η)(A:v.now=w.now+1):TT (Wo.put (v,y) k):=by
 have g:(w.η.set k y).length=w.η.length:=aK;have o:∀(j:Nat) (b:j<w.η.length),(w.η.set k y)[j]'(by rw[g];exact b)=if k=j then y else w.η[j]:=λj b=>mF (by rw[g];exact b);obtain⟨s,q⟩:=C;have D:=h.bg k p;simp only at s q;show TTl (v.η.set k y) v.now;rw[x,A];have r:y.ζ=8->y.C7<=y.C9/\y.C9<=w.now+1:=λc=>by
  rcases q c with⟨d,f⟩|⟨d,f⟩
  .subst f;have:=h.en k p d;omega
  .omega
 refine⟨λj n=>?_,λj n=>?_,λi j B n=>?_⟩
 .have b:j<w.η.length:=g▸n;rw[o j b];split
  .omega
  .have:=h.bg j b;omega
 .have b:j<w.η.length:=g▸n;rw[o j b];split
  .exact r
  .intro z;have:=h.en j b z;omega
 .have b:j<w.η.length:=g▸n;have l:i<w.η.length:=g▸B;rw[o i l,o j b];by_cases t:k=i
  .subst t;rw[Wb rfl];intro c e;have F:=r c;by_cases m:k=j
   .subst m;rw[Wb rfl]at e;omega
   .rw[Wa m]at e⊢;rcases q c with⟨d,f⟩|⟨d,f⟩
    .subst f;exact h.rt k j p b d e
    .have:=h.bg j b;omega
  .rw[Wa t];intro c e;by_cases m:k=j
   .subst m;rw[Wb rfl]at e⊢;rcases s with⟨d,f⟩|d|⟨d,f⟩
    .have:=h.rt i k l p c (by omega);omega
    .have:=h.en i l c;have:=h.bg i l;omega
    .have:=u i l c;omega
   .rw[Wa m]at e⊢;exact h.rt i j l b c e
theorem Wzd(h:TT w)(j:GA N kk K0 K1 b s w G)(d:OA b s n w):TT (cM s w a):=by
 have g:0<=w.now:=by have:=d.ok.now;have:=d.ok.n0;omega
 have c:TTl w.η (w.now+1):=⟨λk e=>by have:=h.bg k e;omega,λk e z=>by have:=h.en k e z;omega,h.rt⟩;have f:∀(a:Nat) (i:a<w.η.length),w.η[a].ζ=8->Wq w.η[a]<=w.mem.1:=λa i m=>(j.clk d i (by rw[WM];exact .inl m)).2;unfold cM;simp only;split
 .rename_i hb;have e:a.2.1.toNat<w.η.length:=by omega
  rw[Wn e];generalize a.2.1.toNat=k at*;split
  .unfold m0;rw[Wn (show k<({w with now:=w.now+1}:Wo).η.length from e)];have hr:=si d.ok e;have o:=(D9 (w:={w with now:=w.now+1}) (k:=k) (d.ok.progs _ (by rw[Wn (show k<s.2.1.length by rw[←d.ok.len];exact e)];exact Xo _)) ⟨d.ok.mem,d.ok.ψ,d.ok.holds⟩ (d.ok.root k e) (by have:=d.ok.l4;have:=d.ok.len;omega) d.ok.n0).now;exact NE (v:=(ay {w with now:=w.now+1} w.η[k] k (s.2.1.getD k pg0)).1) h e (WwD λl=>((d.ro k e).ext l).1) f g hr o
  .split
   .split
    .rename_i hc;exact NE (v:={w with now:=w.now+1}) (y:={w.η[k]with fam:=bJ w.mem w.η[k].fam a.2.2.toNat ((s.2.1.getD k pg0).2.getD a.2.2.toNat [])}) h e (PT.keep rfl rfl (by show w.η[k].ζ≠8;omega)) f g rfl rfl
    .exact c
   .split
    .split
     .rename_i hc;exact NE (v:={w with now:=w.now+1}) (y:={w.η[k]with γ:=true}) h e (PT.keep rfl rfl (by show w.η[k].ζ≠8;omega)) f g rfl rfl
     .exact c
    .exact c
 .exact c
theorem Uv(i:1048576<N)(f:∀k,∀c∈(s.2.1.getD k pg0).2,dz c=true):∀(l:List Ac) (n:Int) (w:Wo) (G:Nat->Option GE),TT w->GA N kk K0 K1 b s w G->OA b s n w->n+l.length<=99990->TT (l.foldl (cM s) w)
 | [],n,w,G,h,_,_,_=>h
 |e::l,n,w,G,h,g,d,hn=>by
  simp only[Xu]at hn
  push_cast at hn
  obtain⟨G',j⟩:=Vb (a:=e) i g d (by omega) f;exact Uv i f l (n+1) _ G' (Wzd h g d) j (MZ d (by omega)) (by omega)
theorem WzJ:TT (bo s):=by
 unfold TT;have d:∀(k:Nat) (c:k<(bo s).η.length),(bo s).η[k]={}:=λk c=>by simp only[bo,kw]
 refine⟨λk c=>?_,λk c=>?_,λa b e f=>?_⟩
 .rw[d k c];exact⟨aj _,aj _⟩
 .rw[d k c];intro z;(change (0:Int)=8 at z);omega
 .rw[d a e];intro z;(change (0:Int)=8 at z);omega
end
end
section
section
variable{G:Nat->Option GE}{n:Nat}{l:List Nat}{v i x0:Int}{k:Nat}
def fv(G:Nat->Option GE)(k:Nat)(i:Int):Option Int:=(G k).bind λg=>g.f i
def lw(G:Nat->Option GE)(l:List Nat)(i x0:Int):Int:=l.foldl (λx k=>(fv G k i).getD x) x0
theorem R1:∀(l:List Nat) (x0:Int),(lw G l i x0=x0/\∀k∈l,fv G k i=none)\/∃a k c,l=a++k::c/\fv G k i=some (lw G l i x0)/\∀f∈c,fv G f i=none
 | [],x0=>.inl ⟨rfl,λk d=>by cases d⟩
 |k::l,x0=>by
  have m:=R1 l ((fv G k i).getD x0);have e:lw G (k::l) i x0=lw G l i ((fv G k i).getD x0):=rfl;rw[e];rcases m with⟨a,b⟩|⟨a,f,c,g,h,j⟩
  .cases hf:fv G k i with
   |none=>
    rw[hf]at a;refine .inl ⟨a,λf d=>?_⟩;rcases Xs.1 d with rfl|d
    .exact hf
    .exact b f d
   |some z=>
    rw[hf]at a;exact .inr ⟨[],k,l,rfl,by rw[a];exact hf,b⟩
  .exact .inr ⟨k::a,f,c,by rw[g];rfl,h,j⟩
theorem Uo{z:Int}(h:fv G k i=some z):∃g,G k=some g/\g.f i=some z:=by
 unfold fv at h;cases hg:G k with
 |none=>rw[hg]at h;cases h
 |some g=>rw[hg]at h;exact⟨g,rfl,h⟩
structure UpTo(G:Nat->Option GE)(l:List Nat)(v:Int):Prop where
 p:∀k g,G k=some g->g.st<=v->k∈l
 q:∀k∈l,∀g,G k=some g->g.st<=v
 r:l.Pairwise λa b=>∀ga gb,G a=some ga->G b=some gb->ga.st<=gb.st
theorem NX(h:UpTo G l v):KVr G x0 v i (lw G l i x0):=by
 rcases R1 (G:=G) (i:=i) l x0 with⟨a,b⟩|⟨a,k,c,j,o,s⟩
 .refine .inl ⟨a,λk g d x=>?_⟩;have:=b k (h.p k g d x);unfold fv at this;rw[d]at this;exact this
 .obtain⟨g,d,u⟩:=Uo o;have w:k∈l:=by rw[j];simp
  refine .inr ⟨k,g,d,h.q k w g d,u,λm t f n y=>?_⟩;have e:=h.p m t f n;rw[j,Xn,Xs]at e;have hr:=h.r;rw[j]at hr;rcases e with e|rfl|e
  .exact(List.pairwise_append.1 hr).2.2 m e k (Xg ..) _ _ f d
  .rw[d]at f;cases f;exact aj _
  .have:=s m e;unfold fv at this;rw[f]at this;exact Wi this y
theorem Vo(c:∀j k g a,G j=some g->G k=some a->g.st=a.st->j=k){x x':Int}(hi:i≠8){th:Tg}(e:th.2.1.getD i.toNat 0=x0)(h:KVr G x0 v i x)(b:KVr G x0 v i x'):x=x':=
 EO (n:=0) (th:=th) c (by unfold VA;rw[Wa hi,e];exact h) (by unfold VA;rw[Wa hi,e];exact b)
theorem WuY{f:Nat->Int}:∀{l:List Nat} {f:Nat->Int},l.Nodup->(∀k∈l,k<n)->(∀k,k<n->k∉l->f k=0)->l.foldl (λs k=>s+f k) v=v+cp n f:=λ{l}=>by
 induction l generalizing v with
 |nil=>
  intro f _ _ h;have:∀m,m<=n->cp m f=0:=λm=>by
   induction m with
   |zero=>intro _;rfl
   |succ m ih=>intro d;rw[cp,ih (by omega),h m (by omega) (by simp)];rfl
  rw[this n (Xl _)];simp
 |cons a l ih=>
  intro f t i h;have g:=cC.1 t;have o:=i a (Xg ..);have p:=GU (f:=f) (f':=λk=>if k=a then 0 else f k) (k:=a) o λj r=>Wa r;have e:=ih (v:=v+f a) (f:=λk=>if k=a then 0 else f k) g.2 (λk b=>i k (Xf _ b)) λk b u=>by
   by_cases z:k=a
   .exact Wb z
   .rw[Wa z];exact h k b λy=>by rcases Xs.1 y with y|y<;>contradiction
  have q:∀(m:List Nat) (z:Int),a∉m->m.foldl (λs k=>s+(if k=a then 0 else f k)) z=m.foldl (λs k=>s+f k) z:=λm=>by
   induction m with
   |nil=>intro z _;rfl
   |cons c m ihm=>
    intro z d;rw[cP,cP,Wa λy=>d (by rw[←y];exact Xg ..),ihm _ λy=>d (Xf _ y)]
  rw[q l _ g.1]at e;rw[cP,e,p];simp only[Wb];omega
def dG(G:Nat->Option GE)(k:Nat):Int:=match G k with|some g=>g.d|none=>0
theorem Wzs(h:UpTo G l v)(o:l.Nodup)(j:∀k∈l,k<n){c:Int}(t:0<=c/\c<=65535):l.foldl (λs k=>(s+dG G k)%65536) c=(c+cp n (gd G v))%65536:=by
 have e:∀(m:List Nat) (z:Int),m.foldl (λs k=>(s+dG G k)%65536) (z%65536)=(m.foldl (λs k=>s+dG G k) z)%65536:=λm=>by
  induction m with
  |nil=>intro z;rfl
  |cons a m ih=>
   intro z;rw[cP,cP,show(z%65536+dG G a)%65536=(z+dG G a)%65536 by omega,ih]
 have i:∀(m:List Nat) (z:Int),(∀k∈m,k∈l)->m.foldl (λs k=>s+dG G k) z=m.foldl (λs k=>s+gd G v k) z:=λm=>by
  induction m with
  |nil=>intro z _;rfl
  |cons a m ih=>
   intro z d;have:dG G a=gd G v a:=by
    unfold dG gd;cases hg:G a with
    |none=>rfl
    |some g=>simp only;rw[Wb (h.q a (d a (Xg ..)) g hg)]
   rw[cP,cP,this,ih _ λk b=>d k (Xf _ b)]
 have:=e l c;rw[show c%65536=c by omega]at this;rw[this,i l c λk b=>b,WuY (f:=gd G v) o j λk b r=>?_];unfold gd;cases hg:G k with
 |none=>rfl
 |some g=>
  simp only;rw[Wa λz=>r (h.p k g hg z)]
end
section
variable{w:Wo}{a b c k:Nat}
def rw'(w:Wo)(k:Nat):Rt:=w.η.getD k rt0
def noW(x:Rt):Int:=if Wq x=x.rv then 1 else 0
def cfR(w:Wo)(a b:Nat):Int:=
 if Wq (rw' w a)≠Wq (rw' w b)then Wq (rw' w a) -Wq (rw' w b)else
 if noW (rw' w a)≠noW (rw' w b)then noW (rw' w a) -noW (rw' w b)else
 if(rw' w a).C9≠(rw' w b).C9 then(rw' w a).C9-(rw' w b).C9 else(a:Int) -b
theorem mI:cfR w a b<0↔(Wq (rw' w a)<Wq (rw' w b)\/Wq (rw' w a)=Wq (rw' w b)/\(noW (rw' w a)<noW (rw' w b)\/noW (rw' w a)=noW (rw' w b)/\((rw' w a).C9<(rw' w b).C9\/(rw' w a).C9=(rw' w b).C9/\a<b))):=by
 unfold cfR;generalize Wq (rw' w a)=s;generalize Wq (rw' w b)=d;generalize noW (rw' w a)=n;generalize noW (rw' w b)=c;split
 .omega
 split
 .omega
 split<;>omega
theorem xP:Lin (cfR w):=⟨λx=>by rw[mI];omega,λx y z=>by simp only[mI];omega,λx y z=>by simp only[mI];omega⟩
theorem apR:Ap (cfR w) a b↔a≠b:=by
 unfold Ap;rw[mI,mI];constructor
 .intro h e;subst e;omega
 .intro h;omega
def slR(w:Wo):List Nat:=(c7 w.η.length).filter λk=>stl (rw' w k)
def rks(w:Wo):List Nat:=(slR w).foldr (λk l=>eR (cfR w) l k) []
theorem TJ:∀{l:List Nat},l.Nodup->Ris (cfR w) (l.foldr (λk l=>eR (cfR w) l k) [])/\∀k,k∈l.foldr (λk l=>eR (cfR w) l k) []↔k∈l
 | [],_=>⟨List.Pairwise.nil,λk=>Iff.rfl⟩
 |a::l,h=>by
  obtain⟨c,d⟩:=cC.1 h;obtain⟨b,f⟩:=TJ d;refine⟨n7 xP b,λk=>?_⟩;rw[List.foldr_cons,kF xP b,f k,Xs,apR];refine⟨λz=>z.imp id And.left,λz=>z.imp id λy=>⟨y,λe=>c (by rw[←e];exact y)⟩⟩
theorem Ni:k∈slR w↔k<w.η.length/\stl (rw' w k)=true:=by
 unfold slR;rw[List.mem_filter,List.mem_range]
theorem lM:Ris (cfR w) (rks w)/\∀k,k∈rks w↔k<w.η.length/\stl (rw' w k)=true:=by
 have:=TJ (w:=w) (l:=slR w) (List.nodup_range.filter _);exact⟨this.1,λk=>(this.2 k).trans Ni⟩
theorem GM:(rks w).Nodup:=lM.1.imp λ{a b} h e=>by subst e;exact xP.irr _ h
end
end
section
section
variable{R:Type}{N kk:Nat}{K0:Tg->List Int->Option R}{K1:Int->Bool->List Int->Int->List M7->List Int->List Int->Option R}
 {b:Int->Int} {s:Sc} {w:Wo} {G:Nat->Option GE} {k j:Nat} {x y:Rt} {n:Int} {H:List Wr} {T:Tg} {i c v:Int} {l:List Nat}
theorem WvS(l:(H.map (·.2.1)).Nodup){e:Wr}(c:e∈H)(g:e.2.1=(k:Int)+1):af k H=e.2.2:=by
 unfold af;cases hf:H.find? (λh=>decide (h.2.1=(k:Int)+1))with
 |none=>
  grind
 |some h=>
  have a:=List.mem_of_find?_eq_some hf;have b:=List.find?_some hf;simp only[Wg]at b;have:h=e:=by
   obtain⟨i,d,rfl⟩:=eI a;obtain⟨j,f,rfl⟩:=eI c
   grind [eH,Xy,Nat.lt_trichotomy,absurd]
  rw[this]
theorem Hi(h:af k H≠ []):∃e∈H,e.2.1=(k:Int)+1/\af k H=e.2.2:=by
 unfold af at h⊢
 grind
def GCw(w:Wo)(k:Nat):Option GE:=if af k w.δ= []then none else some ⟨Wq (rw' w k),λc=>lst (af k w.δ) c,0⟩
theorem YZ:fv (GCw w) k c=lst (af k w.δ) c:=by
 unfold fv GCw;split
 .rename_i e;rw[e];rfl
 .rfl
theorem R8:∀(H:List Wr) (r:Int×Int),(H.foldl (bX i v) r=r/\∀h∈H,h.1<=v->pick h.2.2 i≠none->h.1<=r.1)\/∃h∈H,h.1<=v/\pick h.2.2 i=some (H.foldl (bX i v) r).2/\r.1<h.1/\(H.foldl (bX i v) r).1=h.1/\∀b∈H,b.1<=v->pick b.2.2 i≠none->b.1<=h.1
 | [],r=>.inl ⟨rfl,λh c=>by cases c⟩
 |h::H,r=>by
  rw[cP];have k:=R8 H (bX i v r h);rcases LC (i:=i) (v:=v) (h:=h) r with e|⟨x,d,f,g,j⟩
  .have aU:h.1<=v->pick h.2.2 i≠none->h.1<=r.1:=λa z=>by
    unfold bX at e
    grind
   grind
  grind
structure ZX(N kk:Nat)(K0:Tg->List Int->Option R)(K1:Int->Bool->List Int->Int->List M7->List Int->List Int->Option R)(s:Sc)(n:Int)(w:Wo)(G:Nat->Option GE):Prop where
 ga:GA N kk K0 K1 (λi=>s.1.1.getD i.toNat 0) s w G
 oa:OA (λi=>s.1.1.getD i.toNat 0) s n w
 tt:TT w
 th:ThOk s.1
 n5:n<=99999
theorem jf(a:k<w.η.length):rw' w k=w.η[k]:=Wn a _
theorem US(h:ZX N kk K0 K1 s n w G):KVr (GCw w) (s.1.1.getD i.toNat 0) v i (bst (s.1.1.getD i.toNat 0) i v w.δ).2:=by
 have d:=h.oa.hw;unfold bst;rcases R8 (i:=i) (v:=v) w.δ (0,s.1.1.getD i.toNat 0)with⟨a,c⟩|⟨e,l,J,o,K,L,M⟩
 .rw[a];refine .inl ⟨rfl,λk g j r=>?_⟩;unfold GCw at j;split at j
  .cases j
  .rename_i m;injection j with j;subst j;obtain⟨e,b,y,F⟩:=Hi m;obtain⟨k',u,P,_⟩:=d.who e b;have:k'=k:=by omega
   subst this;have t:=h.ga.hs e b k' u y;simp only at r⊢;rw[jf u,←t]at r;rw[F,←Hh (d.up e b)];refine Classical.byContradiction λz=>?_;have:=c e b r z;have:=(h.oa.mi.st e b).1;omega
 .obtain⟨k,H,b,y⟩:=d.who e l;have hr:=WvS (k:=k) d.nod l b;have t:=h.ga.hs e l k H b;have m:af k w.δ≠ []:=λz=>by
   rw[hr]at z;rw[z]at o;cases o
  refine .inr ⟨k,⟨Wq (rw' w k),λc=>lst (af k w.δ) c,0⟩,by unfold GCw;rw[Wa m],?_,?_,λk' Q f x C=>?_⟩
  .grind [jf]
  .simp only;rw[hr,←Hh (d.up e l)];exact o
  .unfold GCw at f;split at f
   .cases f
   .rename_i nU;injection f with f;subst f;obtain⟨q,p,D,E⟩:=Hi nU;obtain⟨A,B,O,_⟩:=d.who q p;have:A=k':=by omega
    subst this;have I:=h.ga.hs q p A B D;simp only at x C⊢;rw[jf B,←I]at x⊢;rw[E,←Hh (d.up q p)]at C
    grind [jf]
def OE(w:Wo)(G:Nat->Option GE):Prop:=∀k g,G k=some g->k<w.η.length/\stl (rw' w k)=true/\(rw' w k).rv<Wq (rw' w k)/\g.st=Wq (rw' w k)
theorem E1(h:ZX N kk K0 K1 s n w G):OE w G:=λk g b=>by
 obtain⟨a,c,_⟩:=h.ga.ent b;have d:=(((h.ga.ra k a).fin c).gst)
 grind [jf]
theorem If(h:ZX N kk K0 K1 s n w G):OE w (GCw w):=λk g a=>by
 unfold GCw at a;split at a
 .cases a
 .rename_i aH;injection a with a;subst a;obtain⟨e,d,i,j⟩:=Hi aH;obtain⟨c,b,l,f⟩:=h.oa.hw.who e d;have:c=k:=by omega
  subst this;have m:=(((h.ga.ra c b).fin f).gst);rw[jf b];simp_all
theorem UY(h:ZX N kk K0 K1 s n w G){j k:Nat}(b:j<w.η.length)(d:k<w.η.length)(l:stl (rw' w j)=true)(m:stl (rw' w k)=true)(g:(rw' w j).rv<Wq (rw' w j))(i:(rw' w k).rv<Wq (rw' w k))(e:Wq (rw' w j)=Wq (rw' w k)):j=k:=by
 rw[jf b]at l g e;rw[jf d]at m i e;have f:∀x:Rt,stl x=true->x.rv<Wq x->ow x=some (Wq x):=λx a c=>by
  unfold ow;rw[Wa (by grind [WM]),Wb ⟨a,c⟩]
 exact Classical.byContradiction λz=>h.ga.uq j k b d z _ (f _ l g) (by rw[f _ m i,e])
theorem EA(h:ZX N kk K0 K1 s n w G){F:Nat->Option GE}(d:OE w F):∀j k g b,F j=some g->F k=some b->g.st=b.st->j=k:=λj k g b a c e=>by
 obtain⟨f,i,l,m⟩:=d j g a;obtain⟨o,p,q,r⟩:=d k b c
 grind [UY]
def vK(w:Wo)(k:Nat):Int:=if(rw' w k).rv<Wq (rw' w k)then Wq (rw' w k) -1 else Wq (rw' w k)
theorem qh(a:j<(rks w).length):(rks w)[j]<w.η.length/\stl (rw' w (rks w)[j])=true:=(lM.2 _).1 (Xo a)
theorem H2(h:ZX N kk K0 K1 s n w G)(a:k<w.η.length)(b:stl (rw' w k)=true):(rw' w k).rv<=Wq (rw' w k)/\Wq (rw' w k)<=w.mem.1:=by
 rw[jf a]at b⊢;exact h.ga.clk h.oa a b
theorem Vm(h:ZX N kk K0 K1 s n w G){F:Nat->Option GE}(b:OE w F)(l:j<(rks w).length):UpTo F ((rks w).take j) (vK w (rks w)[j]):=by
 obtain⟨z,A⟩:=qh l;have v:=eH.1 (lM (w:=w)).1;have C:=H2 h z A;have q:∀x:Rt,noW x=if Wq x=x.rv then 1 else 0:=λ_=>rfl;refine⟨λk g d y=>?_,λk u g d=>?_,?_⟩
 .obtain⟨f,i,r,t⟩:=b k g d;obtain⟨m,o,e⟩:=eI ((lM.2 k).2 ⟨f,i⟩);by_cases B:m<j
  .grind [N5]
  .exfalso;unfold vK at y;by_cases p:m=j
   .grind
   .have:=v j m l o (by omega);rw[e,mI,q,q]at this;omega
 .obtain⟨m,o,e⟩:=N5.1 u;obtain⟨f,i,r,t⟩:=b k g d
  grind [mI,vK,rks,eH,GM,Wq,rw',UY]
 .refine(List.Pairwise.imp (λ{a c} vS ga gb ha hb=>?_) (lM (w:=w)).1).sublist (XE _ _);rw[mI]at vS;have:=(b a ga ha).2.2.2;have:=(b c gb hb).2.2.2;omega
theorem R5(h:ZX N kk K0 K1 s n w G){F:Nat->Option GE}(b:OE w F):UpTo F (rks w) 2000000:=by
 refine⟨λk g d _=>?_,λk j g d=>?_,?_⟩
 .obtain⟨e,f,_⟩:=b k g d;simp_all [lM]
 .obtain⟨e,f,_,i⟩:=b k g d;have:=(H2 h e f).2;have:=h.oa.wt.clk;have:=h.oa.ok.now;have:=h.n5;omega
 .refine List.Pairwise.imp (λ{a c} vS ga gb ha hb=>?_) (lM (w:=w)).1;rw[mI]at vS;have:=(b a ga ha).2.2.2;have:=(b c gb hb).2.2.2;omega
def apl(w:Wo)(G:Nat->Option GE)(T:Tg)(k:Nat):Tg:=(ovl T.1 (af k w.δ),gS (G k) T)
def chn(w:Wo)(G:Nat->Option GE)(l:List Nat)(T:Tg):Tg:=l.foldl (apl w G) T
theorem QT(h:ZX N kk K0 K1 s n w G):aZ (af k w.δ):=by
 by_cases e:af k w.δ= []
 .rw[e];intro r hr;cases hr
 .obtain⟨x,a,_,b⟩:=Hi e;rw[b];exact(h.oa.ok.histE x a).2.1
theorem NI(hi:0<=i/\i<=7){o:Option GE}:(gS o T).1.getD i.toNat 0=((o.bind λg=>g.f i).getD (T.2.1.getD i.toNat 0)):=by
 unfold gS;have a:i.toNat<8:=by omega
 simp only;rw[Wn (by simp_all),eX,B1,show((i.toNat:Nat):Int)=i by omega];cases o<;>rfl
theorem UN(h:ZX N kk K0 K1 s n w G)(b:ThOk T):ThOk (apl w G T k):=by
 refine⟨jH b.ω (QT h),⟨by show(gS (G k) T).1.length=8;simp[gS],λx a=>?_⟩,by show 0<=(gS (G k) T).2/\(gS (G k) T).2<=65535;unfold gS;omega⟩;have a:x∈(gS (G k) T).1:=a;obtain⟨i,d,rfl⟩:=eI a;have l:(gS (G k) T).1.length=8:=by simp[gS]
 have e:=NI (T:=T) (o:=G k) (i:=(i:Int)) (by omega);rw[Xi,Wn d]at e;rw[e];cases hf:(G k).bind λg=>g.f (i:Int)with
 |none=>exact b.key i
 |some z=>
  obtain⟨g,c,j⟩:=Uo (G:=G) (k:=k) (i:=(i:Int)) hf;exact h.ga.rg k g _ z c j
theorem BB(h:ZX N kk K0 K1 s n w G):∀(l:List Nat) (T:Tg),ThOk T->ThOk (chn w G l T)
 | [],T,hT=>hT
 |k::l,T,hT=>BB h l _ (UN h hT)
theorem MP(h:ZX N kk K0 K1 s n w G)(a:0<=c/\c<=7):∀(l:List Nat) (T:Tg),ThOk T->(chn w G l T).1.getD c.toNat 0=lw (GCw w) l c (T.1.getD c.toNat 0)
 | [],T,hT=>rfl
 |k::l,T,hT=>by
  have b:=MP h a l (apl w G T k) (UN h hT);have e:(apl w G T k).1.getD c.toNat 0=(fv (GCw w) k c).getD (T.1.getD c.toNat 0):=by
   rw[YZ];show(ovl T.1 (af k w.δ)).getD c.toNat 0=_;rw[mK hT.ω (QT h) a.1 a.2];cases lst (af k w.δ) c<;>rfl
  rw[e]at b;exact b
theorem TF(hi:0<=i/\i<=7):∀(l:List Nat) (T:Tg),(chn w G l T).2.1.getD i.toNat 0=lw G l i (T.2.1.getD i.toNat 0)
 | [],T=>rfl
 |k::l,T=>by
  have a:=TF hi l (apl w G T k);have e:(apl w G T k).2.1.getD i.toNat 0=(fv G k i).getD (T.2.1.getD i.toNat 0):=NI hi;rw[e]at a;exact a
theorem Uy:∀(l:List Nat) (T:Tg),(chn w G l T).2.2=l.foldl (λs k=>(s+dG G k)%65536) T.2.2
 | [],T=>rfl
 |k::l,T=>by
  have a:=Uy l (apl w G T k);have e:(apl w G T k).2.2=(T.2.2+dG G k)%65536:=by
   show(gS (G k) T).2=_;unfold gS dG;rfl
  rw[e]at a;exact a
theorem Vt(h:ZX N kk K0 K1 s n w G)(a:UpTo G l v)(c:l.Nodup)(b:∀k∈l,k<w.η.length):(∀i,0<=i->i<=7->VA w.η.length s.1 G v i ((chn w G l s.1).2.1.getD i.toNat 0))/\VA w.η.length s.1 G v 8 (chn w G l s.1).2.2:=by
 refine⟨λi d e=>?_,?_⟩
 .unfold VA;rw[Wa (by omega),TF ⟨d,e⟩];exact NX a
 .unfold VA;rw[Wb rfl,Uy];exact Wzs a c b h.th.cnt
theorem WyP(h:ZX N kk K0 K1 s n w G)(c:j<(rks w).length):FnS N kk (s.2.1.getD (rks w)[j] pg0) K0 K1 (rw' w (rks w)[j]) (chn w G ((rks w).take j) s.1) (apl w G (chn w G ((rks w).take j) s.1) (rks w)[j]).1 (apl w G (chn w G ((rks w).take j) s.1) (rks w)[j]).2:=by
 obtain⟨a,m⟩:=qh c;have o:=Vm h (E1 h) c;have p:=Vm h (If h) c;have t:((rks w).take j).Nodup:=(GM (w:=w)).sublist (XE _ _);have q:∀k∈(rks w).take j,k<w.η.length:=λk l=>((lM.2 k).1 (jO l)).1;obtain⟨A,B⟩:=Vt h o t q;generalize l:(rks w)[j]=k at*;rw[jf a]at m⊢;have d:vK w k=if w.η[k].rv<Wq w.η[k]then Wq w.η[k] -1 else Wq w.η[k]:=by unfold vK;rw[jf a]
 have f:=(h.ga.ra k a).fin m;obtain⟨C,v,s1,z⟩:=f.sim;have u:=((h.oa.ro k a).ε (.inr (by grind [WM]))).1;refine z _ (BB h _ _ h.th) (λr hr=>?_) (λi x y b=>?_) λb=>?_
 .have AD:=f.rd r hr;rw[←d]at AD;have g:=u r hr;have e:=AD.val;rw[e,MP h ⟨g.1.1,g.1.2⟩ _ _ h.th];exact Vo (th:=(s.1.1,s.1.1,0)) (EA h (If h)) (by omega) rfl (NX p) (US h)
 .have:=(s1 i b).1;rw[←d]at this;exact EO (EA h (E1 h)) (A i x y) this
 .have:=(s1 8 b).1;rw[←d]at this;exact EO (EA h (E1 h)) B this
end
end
section
theorem Wza{N:Nat}{θ:List Int}(a:∀x∈θ,0<=x/\x<=255)(g:θ.length<=1048576){i:Nat}(hi:i<=1000):∃v,KW N θ (i:Int)=ret v/\0<=v/\v<=255:=by
 unfold KW;by_cases h:i<θ.length
 .have b:=a _ (Xo h);refine⟨θ[i],?_,b⟩;simp only[WQ h,Ws h,Wu h,We];rw[v7 (by unfold I64;omega)]
 .have e:decide ((i:Int)<Wh θ)=false:=by simp[Wh];omega
  have c:cE .i64 (i:Int) 37=(i:Int)*37:=om (by unfold I64;omega);have d:cE .i64 (Wh θ) 11=(θ.length:Int)*11:=om (by unfold I64 Wh;omega);have f:Wm .i64 ((i:Int)*37) ((θ.length:Int)*11)=(i:Int)*37+(θ.length:Int)*11:=WE (by unfold I64;omega);rw[e,c,d,f];refine⟨_,rfl,?_⟩;have:bp ((i:Int)*37+(θ.length:Int)*11) 256=((i:Int)*37+(θ.length:Int)*11)%256:=by unfold bp;exact BT (by omega)
  rw[this];omega
end
section

end
section
variable{N:Nat}{s t:Sc}{w v:Wo}{a:Ac}{n:Int}{x y:Rt}
theorem O5:FK N x.e=ret (stl x):=by
 obtain⟨l,A,B,C,D,E,F,m,G,r,t,p,q,n,o,v,w,k,s,y,u,z⟩:=rtP x;unfold FK stl;simp only[Wz,l,m,k,show x.cm.e.2.2.1=x.cm.ζ from rfl,WI,Wrn];have j:∀a b:Int,(a==b)=decide (a=b):=λa b=>by by_cases h:a=b<;>simp[h]
 rw[j];by_cases i:x.ζ=8
 .rw[Wb i,Wf i];rfl
 .rw[Wa i,Wl i];by_cases c:x.ζ=6
  .rw[Wb c,Wb c,Wf c,Wl (show¬x.ζ=5 by omega)];simp
  .rw[Wa c,Wl c];by_cases g:x.ζ=7
   .rw[Wb g,Wf g,Wl (show¬x.ζ=5 by omega)];simp
   .rw[Wa g,Wl g];by_cases f:x.ζ=5
    .rw[Wb f,Wf f];by_cases d:x.cm.ζ=4
     .rw[Wb d,Wf d];simp
     .rw[Wa d,Wl d];simp
    .rw[Wa f,Wl f];simp
theorem Wmz:pn N x.e=ret (Wq x):=by
 unfold pn Wq;rw[O5];simp only[ret,Xd,WI,show x.e.1=x.ζ from rfl];cases stl x with
 |false=>rfl
 |true=>
  simp only[Xr,Wc,ep];split<;>rfl
end
section
variable{N:Nat}{s:Sc}{w:Wo}{n:Int}
theorem Lk{v:Int}(a:v≠0)(d:1<=v/\v<=524288):qV N v=some ((),(bT v,((v-1)%65536,()))):=by
 unfold qV;rw[show(v==(0:Int))=false by simpa using a];have b:W3 .i64 v 1=v-1:=dZ (by unfold I64;omega);have c:gV .i64 (v-1) 65536=bT v:=by
  unfold gV bT;rw[E5 (by omega),ER (by unfold I64;omega)]
 have hr:bp (v-1) 65536=(v-1)%65536:=by unfold bp;exact BT (by omega)
 simp only[Wc,show inz (65536:Int)=true from rfl,We,b,c,hr]
theorem Wkc{k:Int}(a:0<=k/\k<=7):JP N k=ret (c4 k):=by
 unfold JP Dj c4;have b:Wm .i64 (cE .i64 k 7) 3=7*k+3:=by
  rw[om (by unfold I64;omega),WE (by unfold I64;omega)];omega
 have c:bp (7*k+3) 4=(7*k+3)%4:=by unfold bp;exact BT (by omega)
 simp only[ls,ret,Xd,Wf a.1,Wf a.2,Bool.and_self,Xr,Wc,show inz (4:Int)=true from rfl,We,b,c]
theorem OX{l:List Int}(h:SlOk l)(I:1048576<N):yZ N l=ret true:=by
 have A:=h.len;have D:∀(d j n:Nat) (s:List Bool),j+d=16->d<n->s.length=8->(∀c:Nat,s.getD c false=true->∃i,∃g:i<l.length,i<j/\l[i]≠0/\bT l[i]=c)->
   uO N l (some ((),(false,()))) (λH F G=>(some ((),(true,())))) n (j:Int) s=ret true:=by
  intro d
  induction d with
  |zero=>
   intro j n s y B _ _;obtain⟨n,rfl⟩:∃r,n=r+1:=⟨n-1,by omega⟩;have:j=l.length:=by omega
   subst this;simp only[uO,W6 (Xl _),Wc]
  |succ d ih=>
   intro j n s y B q p;obtain⟨n,rfl⟩:∃r,n=r+1:=⟨n-1,by omega⟩;have b:j<l.length:=by omega
   simp only[uO,WQ b,Ws b,Wu b,Wk (show j<4611686018427387904 by omega),We,ls,ret,Xd];by_cases e:l[j]=0
   .have e1:qV N l[j]=some ((),((-1:Int),((0:Int),()))):=by rw[e];rfl
    have o:(decide ((0:Int)<=l[j])&&decide (l[j]<=524288))=true:=by rw[e];rfl
    rw[e1,o];simp only[Xd,Xr,Wc,show decide ((-1:Int)<0)=true from rfl,We];exact ih (j+1) n s (by omega) (by omega) q λc a=>by
     obtain⟨i,g,f,k,m⟩:=p c a;exact⟨i,g,by omega,k,m⟩
   .have hv:=h.val b e;have z:=G9 hv;have E:c4 (bT l[j])=((j/4:Nat):Int):=by
     rcases h.each j b with f|f
     .exact Wi f e
     .exact f.2
    have C:gV .i64 (j:Int) 4=((j/4:Nat):Int):=by
     unfold gV;rw[E5 (by omega),ER (by unfold I64;omega)];omega
    have t:s.getD (Xa (bT l[j])) false=false:=by
     rw[Bool.eq_false_iff];intro a;obtain⟨i,g,f,k,m⟩:=p _ a;exact h.one i j g b f k e (by omega)
    have o:(decide ((0:Int)<=l[j])&&decide (l[j]<=524288))=true:=by simp;omega
    have u:decide (bT l[j]<(0:Int))=false:=Wl (by omega);have v:inb (bT l[j]) s.length=true:=by unfold inb;rw[q];simp;omega
    rw[Lk e hv,o];simp only[Xd,Xr,Wc,u,v,We,t,Wkc z,ret,E,C,bne_self_eq_false,show inz (4:Int)=true from rfl];refine ih (j+1) n _ (by omega) (by omega) (by simpa using q) λc a=>?_;by_cases x:c=(bT l[j]).toNat
    .exact⟨j,b,by omega,e,by omega⟩
    .have:s.getD c false=true:=by
      rw[Xq,kD (by omega),←Xq]at a;exact a
     obtain⟨i,g,f,k,m⟩:=p c this;exact⟨i,g,by omega,k,m⟩
 unfold yZ;rw[show((Wh l) !=(16:Int))=false by unfold Wh;rw[A];rfl];have hr:(((decide ((0:Int)<=(8:Int)))&&(decide ((8:Int)<=(8:Int))))&&(WC (Xa (8:Int))))=true:=by rw[Ww (by omega)];rfl
 rw[hr];simp only[Wc,We];refine D 16 0 N _ (by omega) (by omega) (by simp) λc a=>?_;rw[Xq]at a;by_cases w:c<8
 .rw[List.getElem?_replicate,Wb (show c<Xa 8 from w)]at a;simp at a
 .rw[ju (by simp;omega)]at a;simp at a
end
section
variable{N:Nat}{l:List Int}{k v:Int}{s:Shf}{u:Un}{o:Opn}{r:List Int}
theorem WtV(h:SlOk l)(g:0<=k)(m:1048576<N):Aa N l k=ret (match fF l k with|some r=>(r.1:Int)|none=>-1):=by
 unfold Aa fF;have o:=h.len;have f:=Ek (l:=l) (p:=qv k) (N:=N) (lp:=λn j=>uX N l k (λc=>some ((),(c,()))) (λq i=>some ((),((-1:Int),()))) n j) (K0:=λj=>some ((),(j,()))) (K1:=some ((),((-1:Int),()))) (by omega) (by omega)
  (λn j b=>by
   simp only[uX,WQ b,Ws b,Wu b,Wk (show j<4611686018427387904 by omega),We];unfold qv;by_cases a:l[j]=0
   .have e:qV N l[j]=some ((),((-1:Int),((0:Int),()))):=by unfold qV;rw[a];rfl
    have d:((-1:Int)==k)=false:=by simp;omega
    rw[e];simp only[Xd,d,Wc,a];rfl
   .have hv:=h.val b a;rw[Lk a hv];simp only[Xd,Wf (show k>=0 from g),We,Wf (show l[j]>0 by omega),Bool.true_and];by_cases e:bT l[j]=k
    .simp[e]
    .rw[show(bT l[j]==k)=false by simpa using e,Wl e])
  (λn=>by simp[uX,W6,Xl,Wc])
 rw[f];cases fnd (qv k) l 0<;>rfl
theorem Wq5(a:0<=k/\k<=7):Dj N k=ret true:=by
 unfold Dj;rw[ls,Wf a.1,Wf a.2];rfl
theorem Wko(h:SlOk l)(c:0<=k/\k<=7)(a:1048576<N):J8 N l k=some ((),((if WD l k=0 then 0 else WD l k-1),(decide (WD l k≠0),()))):=by
 unfold J8 WD;rw[OX h a,Wq5 c,WtV h c.1 a];simp only[ret,Xd,Xr,Wc];cases hr:fF l k with
 |none=>rfl
 |some r=>
  obtain⟨b,d,e,f,g,i⟩:=nY h hr;simp only[Wl (show¬((r.1:Int)<0) by omega),Wc,dc,Wf b,We,Wu b,d];rw[Lk (by omega) ⟨e,f⟩,Wa (by omega),Wf (by omega)];simp only[Int.add_sub_cancel];rfl
end
section
def EQ(w:Wo):Bool:=w.η.all λx=>decide (x.ζ=8)
section
variable{N:Nat}{w:Wo}{a b k:Nat}{x:Rt}{m:Mm}{l:List Int}{T:Tg}
theorem MA{a:List Int}(h:a.length<=1048576)(g:1048576<N):vl N a a=ret true:=by
 unfold vl;have e:(Wh a !=Wh a)=false:=by simp
 rw[e];simp only[Wc];have d:=WH (l:=a) (V:=Unit) (R:=Unit×Ks) (lp:=λn j _=>yK N a a (some ((),(false,()))) (λm o=>some ((),(true,()))) n j) (n:=N) (by omega)
  (body:=λj x v k=>k v) (K:=λ_ v=>some ((),(true,())))
  (λn i v b=>by
   have c:(a[i] !=a[i])=false:=by simp
   simp only[yK,WQ b,Ws b,Wu b,Wk (show i<4611686018427387904 by omega),We,c,Wc])
  (λn v=>by simp[yK,W6,Xl,Wc]) ()
 refine d.trans ?_;rw[vR (f:=λv _=>v) a 0 () (λj x v k _=>rfl)]
theorem WvB(b:ThOk T)(a:1048576<N):IT N T T=ret true:=by
 unfold IT;rw[MA (by have:=b.ω.len;omega) a];simp only[ret,Xd,We];rw[MA (by have:=b.map.1;omega) a];simp only[ret,Xd,We,beq_self_eq_true]
theorem Wwm(b:aq m=true)(e:1048576<N):Di N m=ret (m.2.map (·.1)):=by
 obtain⟨o,_,_,_⟩:=WP b;unfold Di;rw[WlG (by omega) e,b];simp only[ret,Xd,Xr,Wc];have d:=WH (l:=m.2) (V:=List Int) (R:=Unit×(List Int×Unit)) (lp:=λn j v=>yL N m (λh g c=>(some ((),(c,())))) n j v) (n:=N) (by omega)
  (body:=λj x v k=>bif WC (v.length+ [x.1].length)then k (Xe v [x.1])else none) (K:=λ_ v=>ret v)
  (λn i v a=>by simp only[yL,WQ a,Ws a,Wu a,Wk (show i<4611686018427387904 by omega),We])
  (λn v=>by simp[yL,W6,Xl,Wc]) []
 refine d.trans ?_;rw[Al (f:=λx:Int×Int×Int=>x.1) m.2 0 [] (by simp;omega) (λj x v k _=>rfl)];rfl
theorem WxU(h:SlOk l)(f:1048576<N):Dv N l=ret ((c7 8).map λi:Nat=>WD l (i:Int)):=by
 unfold Dv;rw[OX h f];simp only[ret,Xd,Xr,Wc];have m:∀(d j a:Nat),j+d=8->d<a->yQ N l (λr q k=>(some ((),(k,())))) a (j:Int) ((c7 j).map λi:Nat=>WD l (i:Int))=ret ((c7 8).map λi:Nat=>WD l (i:Int)):=by
  intro d
  induction d with
  |zero=>
   intro j a o n;obtain⟨g,rfl⟩:∃g,a=g+1:=⟨a-1,by omega⟩;have:j=8:=by omega
   subst this;rfl
  |succ d b=>
   intro j a o n;obtain⟨g,rfl⟩:∃g,a=g+1:=⟨a-1,by omega⟩;have b:=b (j+1) g (by omega) (by omega);rw[Oj,Xw,Il]at b;have hr:=Gx l (j:Int);have p:∀z:Int,WC ((Xb ((c7 j).map λi:Nat=>WD l (i:Int)))+(Xb [z]))=true:=λz=>Ww (by simp;omega);rw[yQ,Wf (show(j:Int)<8 by omega),We,Wko h ⟨by omega,by omega⟩ f];simp only[Xd,p,We,Wk (show j<4611686018427387904 by omega)];by_cases c:WD l (j:Int)=0
   .rw[Wl (by simp[c]),Wc,Wb c];rw[c]at b;exact b
   .rw[Wf c,We,Wa c];have e:Wm .i64 (WD l (j:Int) -1) 1=WD l (j:Int):=by
     rw[WE (by unfold I64;omega)];omega
    rw[e];exact b
 exact m 8 0 N (by omega) (by omega)
theorem WzL(o:w.η.length<=4)(p:1048576<N):DC N w.e=ret (EQ w):=by
 unfold DC;have i:w.e.2.2.2.2.2.1=w.η.map Rt.e:=rfl;have q:(w.η.map Rt.e).length<=4:=by simpa using o
 have l:∀(d j a:Nat),j+d=w.η.length->d<a->yM N w.e (some ((),(false,()))) (λr s=>(some ((),(true,())))) a (j:Int)=ret ((w.η.drop j).all λx=>decide (x.ζ=8)):=by
  intro d
  induction d with
  |zero=>
   intro j a n m;obtain⟨g,rfl⟩:∃g,a=g+1:=⟨a-1,by omega⟩;have:j=w.η.length:=by omega
   subst this;have k:w.η.length=(w.η.map Rt.e).length:=by simp
   rw[yM,i,k,W6 (Xl _),Wc,←k,List.drop_length];rfl
  |succ d f=>
   intro j a n m;obtain⟨g,rfl⟩:∃g,a=g+1:=⟨a-1,by omega⟩;have f:=f (j+1) g (by omega) (by omega);have h:j<w.η.length:=by omega
   have b:j<(w.η.map Rt.e).length:=by simpa using h
   rw[yM,i,WQ b,Ws b,Wu b,eX,List.drop_eq_getElem_cons h,List.all_cons];simp only[We,Wk (show j<4611686018427387904 by omega),show(Rt.e w.η[j]).1=w.η[j].ζ from rfl];by_cases c:w.η[j].ζ=8
   .rw[c,show((8:Int) !=8)=false from rfl,Wc,f];simp
   .rw[show(w.η[j].ζ !=(8:Int))=true by simpa using c,We,Wl c];rfl
 have:=l w.η.length 0 N (by omega) (by omega);rw[List.drop_zero]at this;refine Eq.trans this ?_;unfold EQ;rfl
theorem xl(a:k<w.η.length):Xc (w.η.map Rt.e) (Xa (k:Int)) d_Root=Rt.e (rw' w k):=by
 rw[Xi,Wn (show k<(w.η.map Rt.e).length by simpa using a),eX,jf a]
theorem BM(a:k<w.η.length):inb (k:Int) (w.η.map Rt.e).length=true:=Ws (by simpa using a)
theorem WsR(o:a<w.η.length)(q:b<w.η.length):JO N w.e (a:Int) (b:Int)=ret (decide (cfR w a b<0)):=by
 unfold JO;have v:P5 w.e=w.η.map Rt.e:=rfl;have u:∀x:Rt,P4 x.e=x.rv:=λ_=>rfl;have B:∀x:Rt,P10 x.e=x.C9:=λ_=>rfl;simp only[Wz,v,BM o,BM q,We,xl o,xl q,Wmz,ret,Xd,u,B];have r:∀x:Rt,(Wq x==x.rv)=decide (noW x=1):=λx=>by
  unfold noW;by_cases h:Wq x=x.rv
  .rw[Wb h,h];simp
  .rw[Wa h,show(Wq x==x.rv)=false by simpa using h];rfl
 have j:∀x:Rt,noW x=0\/noW x=1:=λx=>by unfold noW;split<;>simp
 rw[r,r];have d:=mI (w:=w) (a:=a) (b:=b);have y:=j (rw' w a);have A:=j (rw' w b);generalize Wq (rw' w a)=s at*;generalize Wq (rw' w b)=i at*;generalize noW (rw' w a)=n at*;generalize noW (rw' w b)=f at*;generalize (rw' w a).C9=e at*;generalize (rw' w b).C9=g at*;have c:∀p:Bool,(p=true↔cfR w a b<0)->(some ((),p,()):Option Kg)=some ((),(decide (cfR w a b<0),())):=λp t=>by
  have:p=decide (cfR w a b<0):=by
   cases p
   .symm;rw[Wy];intro z;exact Wi (t.2 z) (by simp)
   .symm;rw[Wg];exact t.1 rfl
  rw[this]
 by_cases k:s=i
 .rw[show(s !=i)=false by simpa using k,Wc];by_cases l:n=f
  .rw[show(!beq (decide (n=1)) (decide (f=1)))=false by rw[l];cases decide (f=1)<;>rfl,Wc];by_cases m:e=g
   .rw[show(e !=g)=false by simpa using m,Wc];exact c _ (by rw[Wg,d];omega)
   .rw[show(e !=g)=true by simpa using m,We];exact c _ (by rw[Wg,d];omega)
  .rw[show(!beq (decide (n=1)) (decide (f=1)))=true by
    rcases y with rfl|rfl<;>rcases A with rfl|rfl<;>first|rfl|exact Wi rfl l,We]
   exact c _ (by rw[Wg,d];omega)
 .rw[show(s !=i)=true by simpa using k,We];exact c _ (by rw[Wg,d];omega)
end
end
section
section
variable{N:Nat}{w:Wo}{a b k:Nat}{R:Type}
def lU(w:Wo)(a:Nat):Nat:=(slR w).countP λb=>decide (cfR w b a<0)
theorem Wuh:(slR w).Nodup:=List.nodup_range.filter _
theorem D7:(slR w).Perm (rks w):=(List.perm_ext_iff_of_nodup Wuh GM).2 λk=>Ni.trans (lM.2 k).symm
theorem rJ:(rks w).length=(slR w).length:=D7.length_eq.symm
theorem Nj{m:Nat}(h:m<(rks w).length):lU w (rks w)[m]=m:=by
 unfold lU;rw[D7.countP_eq];have c:=eH.1 (lM (w:=w)).1;have d:∀u,(rks w).countP (λb=>decide (cfR w b u<0))=((rks w).take m++(rks w).drop m).countP (λb=>decide (cfR w b u<0)):=λu=>by rw[E3]
 rw[d];rw[XA,List.countP_eq_length.2 λb a=>?_,List.countP_eq_zero.2 λb a=>?_,di]
 .omega
 .obtain⟨i,g,e⟩:=List.mem_drop_iff_getElem.1 a;rw[←e,Wg];intro z;by_cases f:i=0
  .subst f;exact xP.irr _ z
  .exact xP.irr _ (xP.tr _ _ _ (c m (m+i) h (by omega) (by omega)) z)
 .obtain⟨i,g,e⟩:=N5.1 a;rw[←e,Wg];exact c i m (by omega) h (by omega)
theorem Sn{c:Nat->Nat}:∀(l:List Nat) (o:List Int),(∀a∈l,∀b∈l,c a=c b->a=b)->(∀a∈l,c a<o.length)->(l.foldl (λo a=>o.set (c a) (a:Int)) o).length=o.length/\∀a∈l,(l.foldl (λo a=>o.set (c a) (a:Int)) o)[c a]?=some (a:Int)
 | [],o,_,_=>⟨rfl,λa d=>by cases d⟩
 |x::l,o,h,hl=>by
  have g:∀(m:List Nat) (o:List Int) (p:Nat),(∀b∈m,c b≠p)->(m.foldl (λo a=>o.set (c a) (a:Int)) o)[p]?=o[p]?:=λm=>by
   induction m with
   |nil=>intro o p _;rfl
   |cons y m ih=>
    intro o p i;rw[cP,ih _ _ λb f=>i b (Xf _ f),kD (i y (Xg ..))]
  obtain⟨j,k⟩:=Sn l (o.set (c x) (x:Int)) (λa d b f=>h a (Xf _ d) b (Xf _ f)) λa d=>by rw[aK];exact hl a (Xf _ d)
  refine⟨by rw[cP,j,aK],λa d=>?_⟩;rw[cP];by_cases e:a∈l
  .exact k a e
  .rcases Xs.1 d with rfl|d
   .rw[g l _ _ λb f z=>e (by rw[←h b (Xf _ f) a (Xg ..) z];exact f)];rw[List.getElem?_set_self (hl a (Xg ..))]
   .exact Wi d e
theorem Wv4:(slR w).foldl (λo a=>o.set (lU w a) (a:Int)) (Xt (slR w).length 0)=(rks w).map λk:Nat=>(k:Int):=by
 have g:∀a,a∈slR w->∃m,∃h:m<(rks w).length,(rks w)[m]=a/\lU w a=m:=λa d=>by
  obtain⟨m,f,e⟩:=eI ((D7 (w:=w)).mem_iff.1 d);exact⟨m,f,e,by rw[←e,Nj f]⟩
 obtain⟨l,q⟩:=Sn (c:=lU w) (slR w) (Xt (slR w).length 0) (λa d b s e=>by
  obtain⟨m,f,n,j⟩:=g a d;obtain⟨m',u,p,t⟩:=g b s;have:m=m':=by omega
  subst this;exact n.symm.trans p) λa d=>by
  obtain⟨m,f,_,j⟩:=g a d;rw[BX,j,←rJ];exact f
 rw[BX]at l;refine BW (by rw[l,Xy,rJ]) λm r i=>?_;rw[Xy]at i;have:=q (rks w)[m] ((D7 (w:=w)).mem_iff.2 (Xo i));rw[Nj i,Xp r]at this;rw[eX];exact Option.some.inj this
theorem UO(m:w.η.length<=4){K0:Int->Bool->List Int->Option R}:∀(d j a:Nat),j+d=w.η.length->d<a->uT N w.e K0 a (j:Int) (((c7 j).filter λk=>stl (rw' w k)).map λk:Nat=>(k:Int))=K0 (w.η.length:Int) false ((slR w).map λk:Nat=>(k:Int))
 |0,j,a,l,hf=>by
  obtain⟨g,rfl⟩:∃g,a=g+1:=⟨a-1,by omega⟩;have:j=w.η.length:=by omega
  subst this;have c:w.e.2.2.2.2.2.1=w.η.map Rt.e:=rfl;have i:w.η.length=(w.η.map Rt.e).length:=by simp
  rw[uT,c]
  conv=>lhs;rw[i]
  rw[W6 (Xl _),Wc,←i];rfl
 |d+1,j,a,l,hf=>by
  obtain⟨g,rfl⟩:∃g,a=g+1:=⟨a-1,by omega⟩;have f:j<w.η.length:=by omega
  have c:w.e.2.2.2.2.2.1=w.η.map Rt.e:=rfl;have h:j<(w.η.map Rt.e).length:=by simpa using f
  have b:=UO m (K0:=K0) d (j+1) g (by omega) (by omega);rw[Oj,List.filter_append,Xw]at b;have n:WC ((Xb (((c7 j).filter λk=>stl (rw' w k)).map λk:Nat=>(k:Int)))+(Xb [(j:Int)]))=true:=Ww (by
   have:=E7 (λk=>stl (rw' w k)) (c7 j);simp at this⊢;omega)
  rw[uT,c,WQ h,Ws h,xl f,O5];simp only[We,ret,Xd,n,Wk (show j<4611686018427387904 by omega)];cases hs:stl (rw' w j)with
  |true=>
   simp only[gy,hs,XK,ep,List.map_cons,cV]at b;exact b
  |false=>
   simp only[gy,hs,XK]at b;rw[Wa (by simp),cV,List.append_nil]at b;exact b
theorem Vq{j:Nat}(h:j<(slR w).length):(slR w)[j]<w.η.length:=(Ni.1 (Xo h)).1
theorem rL(a:w.η.length<=4):(slR w).length<=4:=by
 have:=E7 (λk=>stl (rw' w k)) (c7 w.η.length);unfold slR;simp at this⊢;omega
theorem Va(q:w.η.length<=4){i:Nat}(hi:i<(slR w).length){bz:List Int}{K0:Int->Int->Bool->Option R}:∀(d j a:Nat),j+d=(slR w).length->d<a->qQ N (i:Int) w.e ((slR w).map λk:Nat=>(k:Int)) bz K0 a ((((slR w).take j).countP λb=>decide (cfR w b (slR w)[i]<0):Nat):Int) (j:Int)=K0 (lU w (slR w)[i]:Int) ((slR w).length:Int) false
 |0,j,a,s,hf=>by
  obtain⟨g,rfl⟩:∃g,a=g+1:=⟨a-1,by omega⟩;have:j=(slR w).length:=by omega
  subst this;have o:(slR w).length=((slR w).map λk:Nat=>(k:Int)).length:=by simp
  rw[qQ,gt]
  conv=>lhs;rw[o]
  rw[W6 (Xl _),Wc,←o];rfl
 |d+1,j,a,s,hf=>by
  obtain⟨g,rfl⟩:∃g,a=g+1:=⟨a-1,by omega⟩;have h:j<(slR w).length:=by omega
  have m:j<((slR w).map λk:Nat=>(k:Int)).length:=by simpa using h
  have n:i<((slR w).map λk:Nat=>(k:Int)).length:=by simpa using hi
  have u:=rL q;have c:=Va q hi (bz:=bz) (K0:=K0) d (j+1) g (by omega) (by omega);rw[l6 h,XA,List.countP_singleton]at c;have r:=List.countP_le_length (p:=λb=>decide (cfR w b (slR w)[i]<0)) (l:=(slR w).take j);rw[di]at r;rw[qQ,WQ m,We];by_cases t:j=i
  .subst t;rw[show((j:Int) !=(j:Int))=false by simp,Wc,Wk (show j<4611686018427387904 by omega)];rw[Wa (by rw[Wg];exact xP.irr _)]at c;exact c
  .rw[show((j:Int) !=(i:Int))=true by simp;omega,We,Ws m,Ws n,Wu m,Wu n,eX,eX,WsR (Vq h) (Vq hi)];simp only[We,ret,Xd,Wk (show j<4611686018427387904 by omega)];by_cases f:cfR w (slR w)[j] (slR w)[i]<0
   .rw[Wb (by rw[Wg];exact f)]at c;rw[Wf f,We,Wk (by omega)];exact c
   .rw[Wa (by rw[Wg];exact f)]at c;rw[Wl f,Wc];exact c
theorem Vk(s:1048576<N)(i:w.η.length<=4){K0:Int->Bool->List Int->Option R}:∀(d j b:Nat),j+d=(slR w).length->d<b->qR N w.e ((slR w).map λk:Nat=>(k:Int)) K0 b (j:Int) (((slR w).take j).foldl (λo a=>o.set (lU w a) (a:Int)) (Xt (slR w).length 0))=K0 ((slR w).length:Int) false ((rks w).map λk:Nat=>(k:Int))
 |0,j,b,t,hf=>by
  obtain⟨g,rfl⟩:∃g,b=g+1:=⟨b-1,by omega⟩;have:j=(slR w).length:=by omega
  subst this;have l:(slR w).length=((slR w).map λk:Nat=>(k:Int)).length:=by simp
  rw[qR,gt,Wv4]
  conv=>lhs;rw[l]
  rw[W6 (Xl _),Wc,←l]
 |d+1,j,b,t,hf=>by
  obtain⟨g,rfl⟩:∃g,b=g+1:=⟨b-1,by omega⟩;have c:j<(slR w).length:=by omega
  have h:j<((slR w).map λk:Nat=>(k:Int)).length:=by simpa using c
  have x:=rL i;have f:=Vk s i (K0:=K0) d (j+1) g (by omega) (by omega);rw[l6 c,B3,cP,List.foldl_nil]at f;have q:∀(m:List Nat) (o:List Int),(m.foldl (λo a=>o.set (lU w a) (a:Int)) o).length=o.length:=λm=>by
   induction m with
   |nil=>intro o;rfl
   |cons a m f=>intro o;rw[cP,f,aK]
  have u:lU w (slR w)[j]<(slR w).length:=by
   obtain⟨m,n,e⟩:=eI ((D7 (w:=w)).mem_iff.1 (Xo c));rw[←e,Nj n,←rJ];exact n
  have r:=Va (N:=N) i c (bz:=((slR w).take j).foldl (λo a=>o.set (lU w a) (a:Int)) (Xt (slR w).length 0)) (K0:=λp v y=>
  (bif inb (j:Int) (Xb ((slR w).map λk:Nat=>(k:Int)))then
 (bif inb p (Xb (((slR w).take j).foldl (λo a=>o.set (lU w a) (a:Int)) (Xt (slR w).length 0)))then
 (qR N w.e ((slR w).map λk:Nat=>(k:Int)) K0 g (Wm .i64 (j:Int) (1:Int)) (List.set (((slR w).take j).foldl (λo a=>o.set (lU w a) (a:Int)) (Xt (slR w).length 0)) (Xa p) (Xc ((slR w).map λk:Nat=>(k:Int)) (Xa (j:Int)) (0:Int))))else none)else none)) (slR w).length 0 N (by omega) (by omega)
  rw[qR,WQ h,We];refine Eq.trans r ?_;simp only[Ws h,We,dc,q,BX,Wf u,Xi,Wk (show j<4611686018427387904 by omega)];rw[Wn h,eX];exact f
theorem LV(f:1048576<N)(b:w.η.length<=4):vt N w.e=ret ((rks w).map λk:Nat=>(k:Int)):=by
 unfold vt;have d:=UO (N:=N) b (K0:=λi j a=>
  (bif ((decide ((0:Int)<=(Wh a)))&&(decide ((Wh a)<=(Wh a))))&&(WC (Xa (Wh a)))then
 (qR N w.e a
 (λg h c=>
  (some ((),(c,()))))
 N (0:Int) (Xt (Xa (Wh a)) (0:Int)))else none)) w.η.length 0 N (by omega) (by omega)
 refine Eq.trans d ?_;have l:=rL b;rw[Nn _ (by simp;omega),We,Lv,Xy];exact Vk f b (slR w).length 0 N (by omega) (by omega)
end
end
section
abbrev RZ:=Unit×(Kf×Unit)
def KZ0(th:Tg)(l:List Int):Option RZ:=some ((),(((2:Int),(l,th)),()))
def KZ1(a:Int)(t:Bool)(r:List Int)(ct:Int)(mk:List M7)(cs mp:List Int):Option RZ:=some ((),(((1:Int),(r,(cs,(mp,ct)))),()))
section
variable{N kk:Nat}{s:Sc}{w:Wo}{G:Nat->Option GE}{k j:Nat}{x:Rt}{n:Int}{p:Pg}{T:Tg}{c:List Int}{S:List Int×Int}
theorem Wuu(a:1048576<kk+2)(k:gW p=true)(f:ThOk T)(h:FnS (kk+2) kk p KZ0 KZ1 x T c S)(s:x.CZ=2->(c,S)=T):Dt (kk+2) p x.υ T=some ((),((x.CZ,(x.ξ,(c,S))),()))/\(x.CZ=1\/x.CZ=2):=by
 have b:=Tu k;have A:=f.ω.len;have B:=f.map.1;have w:PB p:=by
  have:=b.k3;exact⟨by have:=b.θ.len;omega,by omega,λc t=>by have:=(b.π c t).len;omega⟩
 obtain⟨j,o,q⟩:=h;obtain⟨l,r,v⟩:∃l,zf (kk+2) x.υ (Wh p.2)=some ((),(l,(true,())))/\(j=true->l=x.υ):=by
  cases sF:j with
  |false=>
   rw[o.no sF];obtain⟨l,u⟩:=WsB b.k3 a;exact⟨l,u,λz=>by cases z⟩
  |true=>exact⟨x.υ,WtC (o.yes sF) a,λ_=>rfl⟩
 have n:Zj (kk+2) (kk+2) p.1 p.2 l [0,0,0,0] T=bgn (kk+2) kk p T (KZ0 T) KZ1 l:=by
  have i:=rq (N:=kk+2) (ct:=T.2.2) (show T.1.length<=1000 by omega) (show T.2.1.length<=1000 by omega);have e:(T.1,(T.2.1,T.2.2))=T:=rfl;rw[e]at i;rw[Zj,i];simp only[ret,Xd];rfl
 have m:=q l v;refine⟨?_,m.imp And.left And.left⟩;unfold Dt;rw[Ph w a,k];simp only[ret,Xd,Xr,Wc];rw[FW (by omega) (by omega) a,G7.2 f];simp only[ret,Xd,Xr,Wc];rw[r];simp only[Xd,Xr,Wc];have y:(((decide ((0:Int)<=(4:Int)))&&(decide ((4:Int)<=(4:Int))))&&(WC (Xa (4:Int))))=true:=rfl;rw[y];simp only[We];unfold YK;rw[show Xt (Xa 4) (0:Int)= [0,0,0,0]from rfl,n];rcases m with⟨d,mk,g⟩|⟨d,g⟩
 .rw[g,d];rfl
 .rw[g,d,s d];rfl
theorem WrJ(h:ZX (kk+2) kk KZ0 KZ1 s n w G)(o:1048576<kk+2)(g:dQ s=true)(c:j<(rks w).length):Dt (kk+2) (s.2.1.getD (rks w)[j] pg0) (rw' w (rks w)[j]).υ (chn w G ((rks w).take j) s.1)=some ((),(((rw' w (rks w)[j]).CZ,((rw' w (rks w)[j]).ξ,chn w G ((rks w).take (j+1)) s.1)),()))/\((rw' w (rks w)[j]).CZ=1\/(rw' w (rks w)[j]).CZ=2):=by
 have l:=WyP h c;obtain⟨b,d⟩:=qh c;have a:=BB h ((rks w).take j) s.1 h.th;have e:chn w G ((rks w).take (j+1)) s.1=apl w G (chn w G ((rks w).take j) s.1) (rks w)[j]:=by
  grind [chn,l6]
 rw[e];have r:gW (s.2.1.getD (rks w)[j] pg0)=true:=by
  have q:(rks w)[j]<s.2.1.length:=by rw[←h.oa.ok.len];exact b
  rw[Wn q];unfold dQ at g
  grind
 refine Wuu o r a l λm=>?_;rw[jf b]at d m;have u:=((h.ga.ra _ b).fin d).gst.1;generalize (rks w)[j]=k at*;have f:G k=none:=Classical.byContradiction λz=>by simp_all
 have t:af k w.δ= []:=Classical.byContradiction λz=>by simp_all
 show(ovl _ (af k w.δ),gS (G k) _)=_;rw[f,t];generalize chn w G ((rks w).take j) s.1=T at*;have:gS none T=(T.2.1,T.2.2):=w5 (by simp[gS]) a.map.1 (λi p=>by rw[NI p];rfl) (by have:=a.cnt;grind [gS]);rw[this];rfl
def rnA(w:Wo)(G:Nat->Option GE)(s:Sc)(j:Nat):Int×List Int×List Int×List Int×Int:=((rw' w ((rks w).getD j 0)).CZ,((rw' w ((rks w).getD j 0)).ξ,chn w G ((rks w).take (j+1)) s.1))
theorem Vn(h:ZX (kk+2) kk KZ0 KZ1 s n w G)(m:1048576<kk+2)(i:dQ s=true)(t:(rks w).length<=4){R:Type}{K0:Option R}{K1:Int->Bool->Kad->Int->Kj->Kj->Option R}:∀(d j a:Nat),j+d=(rks w).length->d<a->
  uy (kk+2) ((rks w).map λk=>s.2.1.getD k pg0) ((rks w).map λk=>(rw' w k).υ) K0 K1 a (j:Int) ((c7 j).map (rnA w G s)) (chn w G ((rks w).take j) s.1).2.2 (chn w G ((rks w).take j) s.1).1 (chn w G ((rks w).take j) s.1).2.1=K1 ((rks w).length:Int) false ((c7 (rks w).length).map (rnA w G s)) (chn w G (rks w) s.1).2.2 (chn w G (rks w) s.1).1 (chn w G (rks w) s.1).2.1
 |0,j,a,u,hf=>by
  obtain⟨g,rfl⟩:∃g,a=g+1:=⟨a-1,by omega⟩;have:j=(rks w).length:=by omega
  subst this;have B:(rks w).length=((rks w).map λk=>s.2.1.getD k pg0).length:=by simp
  rw[uy,gt];have e:decide (((rks w).length:Int)<Wh ((rks w).map λk=>s.2.1.getD k pg0))=false:=by
   simp[W6,Xl]
  rw[e,Wc]
 |d+1,j,a,u,hf=>by
  obtain⟨g,rfl⟩:∃g,a=g+1:=⟨a-1,by omega⟩;have f:j<(rks w).length:=by omega
  have c:j<((rks w).map λk=>s.2.1.getD k pg0).length:=by simp_all
  have p:j<((rks w).map λk=>(rw' w k).υ).length:=by simp_all
  have b:=Vn h m i t (K0:=K0) (K1:=K1) d (j+1) g (by omega) (by omega);obtain⟨v,D⟩:=WrJ h m i f;have o:=BB h ((rks w).take (j+1)) s.1 h.th;have A:=o.ω.len;have C:=o.map.1;rw[Oj,Xw,Il]at b;have hr:rnA w G s j=((rw' w (rks w)[j]).CZ,((rw' w (rks w)[j]).ξ,chn w G ((rks w).take (j+1)) s.1)):=by unfold rnA;rw[Wn f]
  rw[hr]at b;have e:∀T:Tg,(T.1,(T.2.1,T.2.2))=T:=λ_=>rfl;have q:Xc ((rks w).map λk=>s.2.1.getD k pg0) (Xa (j:Int)) (([]:List Ka),([]:List Kae))=s.2.1.getD (rks w)[j] pg0:=by rw[Wu c,eX]
  have r:Xc ((rks w).map λk=>(rw' w k).υ) (Xa (j:Int)) ([]:List Int)=(rw' w (rks w)[j]).υ:=by rw[Wu p,eX]
  have l:=rq (N:=kk+2) (ct:=(chn w G ((rks w).take (j+1)) s.1).2.2) (show(chn w G ((rks w).take (j+1)) s.1).1.length<=1000 by omega) (show(chn w G ((rks w).take (j+1)) s.1).2.1.length<=1000 by omega);rw[e]at l;have x:∀z:Int×List Int×List Int×List Int×Int,WC ((Xb ((c7 j).map (rnA w G s)))+(Xb [z]))=true:=λz=>Ww (by simp;omega);rw[uy,WQ c,Ws c,Ws p,q,r,e,v];have y:((rw' w (rks w)[j]).CZ==(0:Int))=false:=by simp;omega
  simp only[We,Xd,y,Wc,l,ret,x,D0,Wk (show j<4611686018427387904 by omega)];exact b
theorem Wmr(h:ZX (kk+2) kk KZ0 KZ1 s n w G)(b:1048576<kk+2)(c:dQ s=true)(d:(rks w).length<=4):Ch (kk+2) ((rks w).map λk=>s.2.1.getD k pg0) ((rks w).map λk=>(rw' w k).υ) s.1=some ((),((c7 (rks w).length).map (rnA w G s),(chn w G (rks w) s.1,()))):=by
 have e:=h.th.ω.len;have f:=h.th.map.1;have a:=rq (N:=kk+2) (ct:=s.1.2.2) (show s.1.1.length<=1000 by omega) (show s.1.2.1.length<=1000 by omega);rw[show(s.1.1,(s.1.2.1,s.1.2.2))=s.1 from rfl]at a;unfold Ch;rw[show(Wh ((rks w).map λk=>(rw' w k).υ) !=Wh ((rks w).map λk=>s.2.1.getD k pg0))=false by unfold Wh;simp,Wc,FW (by omega) (by omega) b,G7.2 h.th];simp only[ret,Xd,Xr,Wc,a];exact Vn h b c d (rks w).length 0 (kk+2) (by omega) (by omega)
theorem RU(o:w.η.length<=4)(p:w.η.length=s.2.1.length){R:Type}{K0:Int->Bool->(List Kq)->(List Kj)->Option R}:∀(d j a:Nat),j+d=(rks w).length->d<a->
  yJ N s w.e ((rks w).map λk:Nat=>(k:Int)) K0 a (j:Int) (((rks w).take j).map λk=>s.2.1.getD k pg0) (((rks w).take j).map λk=>(rw' w k).υ)=K0 ((rks w).length:Int) false ((rks w).map λk=>s.2.1.getD k pg0) ((rks w).map λk=>(rw' w k).υ)
 |0,j,a,n,hf=>by
  obtain⟨g,rfl⟩:∃g,a=g+1:=⟨a-1,by omega⟩;have:j=(rks w).length:=by omega
  subst this;have t:(rks w).length=((rks w).map λk:Nat=>(k:Int)).length:=by simp
  rw[yJ,gt];have e:decide (((rks w).length:Int)<Wh ((rks w).map λk:Nat=>(k:Int)))=false:=by
   simp[W6,Xl]
  rw[e,Wc]
 |d+1,j,a,n,hf=>by
  obtain⟨g,rfl⟩:∃g,a=g+1:=⟨a-1,by omega⟩;have c:j<(rks w).length:=by omega
  have b:j<((rks w).map λk:Nat=>(k:Int)).length:=by simp_all
  have u:(rks w).length<=4:=by grind [rJ,rL]
  obtain⟨f,_⟩:=qh c;have r:(rks w)[j]<s.2.1.length:=by omega
  have q:=RU o p (K0:=K0) d (j+1) g (by omega) (by omega);rw[l6 c,Xw,Xw,Il,Il]at q;have l:P5 w.e=w.η.map Rt.e:=rfl;have m:∀x:Rt,x.e.2.2.2.2.2.2.2.2.2.2.2.2.2.2.2.2.2.1=x.υ:=λ_=>rfl;have h:∀z:Pg,WC ((Xb (((rks w).take j).map λk=>s.2.1.getD k pg0))+(Xb [z]))=true:=λz=>Ww (by simp;omega);have i:∀z:List Int,WC ((Xb (((rks w).take j).map λk=>(rw' w k).υ))+(Xb [z]))=true:=λz=>Ww (by simp;omega);rw[yJ,WQ b,Ws b];simp only[Wz,Wu b,eX,We,Ws r,l,BM f,xl f,m,h,i,Wk (show j<4611686018427387904 by omega)];simp_all
theorem Wr9(h:ZX (kk+2) kk KZ0 KZ1 s n w G)(f:SB s)(a:1048576<kk+2)(c:dQ s=true):Du (kk+2) s w.e=some ((),((c7 (rks w).length).map (rnA w G s),(chn w G (rks w) s.1,()))):=by
 have b:w.η.length<=4:=by rw[h.oa.ok.len];exact h.oa.ok.l4
 have g:(rks w).length<=4:=by grind [rJ,rL]
 have d:P5 w.e=w.η.map Rt.e:=rfl;unfold Du;rw[La f a,c,d,LV a b];simp only[ret,Xd,Xr,Wc];rw[show(Wh (w.η.map Rt.e) !=Wh s.2.1)=false by unfold Wh;rw[Xy,h.oa.ok.len];simp,Wc];refine Eq.trans (RU b h.oa.ok.len (rks w).length 0 (kk+2) (by omega) (by omega)) ?_
 grind [Wmr]
theorem ql(h:ZX (kk+2) kk KZ0 KZ1 s n w G)(a:k<w.η.length):(rw' w k).ξ.length<=4:=by
 rw[jf a];exact(h.oa.ok.root k a).rg
theorem Vd(h:ZX (kk+2) kk KZ0 KZ1 s n w G)(o:1048576<N)(u:(rks w).length<=4){R:Type}{K0:Option R}{K1:Int->Bool->Option R}{b:Int}{c m:List Int}:∀(d j a:Nat),j+d=(rks w).length->d<a->
  x9 N w.e ((rks w).map λk:Nat=>(k:Int)) ((c7 (rks w).length).map (rnA w G s)) b c m K0 K1 a (j:Int)=K1 ((rks w).length:Int) false
 |0,j,a,v,hf=>by
  obtain⟨g,rfl⟩:∃g,a=g+1:=⟨a-1,by omega⟩;have:j=(rks w).length:=by omega
  subst this;have A:(rks w).length=((rks w).map λk:Nat=>(k:Int)).length:=by simp
  rw[x9];have e:decide (((rks w).length:Int)<Wh ((rks w).map λk:Nat=>(k:Int)))=false:=by
   simp[W6,Xl]
  rw[e,Wc]
 |d+1,j,a,v,hf=>by
  obtain⟨g,rfl⟩:∃g,a=g+1:=⟨a-1,by omega⟩;have l:j<(rks w).length:=by omega
  have i:j<((rks w).map λk:Nat=>(k:Int)).length:=by simp_all
  have p:j<((c7 (rks w).length).map (rnA w G s)).length:=by simp_all
  obtain⟨f,_⟩:=qh l;have z:=Vd h o u (K0:=K0) (K1:=K1) (b:=b) (c:=c) (m:=m) d (j+1) g (by omega) (by omega);have q:P5 w.e=w.η.map Rt.e:=rfl;have r:∀x:Rt,x.e.2.2.2.2.2.2.2.1=x.CZ:=λ_=>rfl;have t:∀x:Rt,x.e.2.2.2.2.2.2.2.2.2.2.2.2.1=x.ξ:=λ_=>rfl;have hr:rnA w G s j=((rw' w (rks w)[j]).CZ,((rw' w (rks w)[j]).ξ,chn w G ((rks w).take (j+1)) s.1)):=by unfold rnA;rw[Wn l]
  have y:=ql h f;rw[x9,WQ i,Ws i,Ws p];simp only[Wz,Wu i,Wu p,eX,B1,We,q,BM f,xl f,hr,r,t,bne_self_eq_false,Wc,MA (show(rw' w (rks w)[j]).ξ.length<=1048576 by omega) o,ret,Xd,Xr,Wk (show j<4611686018427387904 by omega)];exact z
theorem WyC(h:ZX N kk KZ0 KZ1 s n w G)(C:EQ w=true):chn w G (rks w) s.1=(w.mem.2.map (·.1),((c7 8).map λi:Nat=>WD w.ψ.1 (i:Int),w.ψ.2)):=by
 have o:∀(k:Nat) (b:k<w.η.length),w.η[k].ζ=8:=λk b=>by
  grind [EQ,cq,Xo]
 have p:=BB h (rks w) s.1 h.th;obtain⟨x,y⟩:=Vt h (R5 h (E1 h)) GM λk b=>((lM.2 k).1 b).1;have r:∀j i,¬xld w.holds j i:=λj i ⟨e,a,g,_⟩=>by
  obtain⟨k,b,l⟩:=h.oa.lx.hd e a;exact((h.oa.lx.root k b).hd e a l).2 (o k b)
 obtain⟨E,_,_,_⟩:=WP h.oa.ok.mem;have z:=p.ω.len;have D:=p.map.1;refine Prod.ext (BW (by simp_all) λi d t=>?_) (Prod.ext (BW (by simp_all) λi d t=>?_) ?_)
 .have hi:i<w.mem.2.length:=by omega
  have a:=MP h (c:=(i:Int)) (by omega) (rks w) s.1 h.th;rw[Xi,Wn d]at a;have q:=US h (i:=(i:Int)) (v:=2000000);have g:=Vo (th:=(s.1.1,s.1.1,0)) (EA h (If h)) (by omega) rfl (NX (x0:=s.1.1.getD ((i:Int)).toNat 0) (R5 h (If h))) q;rw[Xi]at g;have l:=(h.oa.mi.cell (i:Int) (by omega) (by omega) λk c f _=>by
   obtain⟨b,A,_⟩:=Mf f;simp_all).1
  grind [WA,ah,Xi,Wn,top]
 .have Ag:i<8:=by omega
  have a:=EO (EA h (E1 h)) (x (i:Int) (by omega) (by omega)) (h.ga.free (i:Int) (by omega) (by omega) λj=>r j _);rw[Xi,Wn d]at a;rw[a,eX,B1]
 .have f:=h.ga.cnt;have u:cp w.η.length (λk=>oc (w.η.getD k rt0))=0:=by
   have:∀m,m<=w.η.length->cp m (λk=>oc (w.η.getD k rt0))=0:=λm=>by
    induction m with
    |zero=>intro _;rfl
    |succ m ih=>
     intro B;rw[cp,ih (by omega),Wn (by omega)];have:=(h.ga.ra m (by omega)).z0 (.inr (.inl (o m (by omega))));unfold oc;rw[this];split<;>rfl
   simp_all
  rw[u]at f;unfold VA at y;simp_all
theorem Wkj(h:ZX (kk+2) kk KZ0 KZ1 s n w G)(d:SB s)(a:1048576<kk+2)(b:dQ s=true):Cs (kk+2) s w.e=ret true:=by
 have c:w.η.length<=4:=by rw[h.oa.ok.len];exact h.oa.ok.l4
 have g:(rks w).length<=4:=by grind [rJ,rL]
 have f:P5 w.e=w.η.map Rt.e:=rfl;unfold Cs;rw[La d a,b,f,LV a c,Wr9 h d a b];simp only[ret,Xd,Xr,Wc];rw[show(Wh (w.η.map Rt.e) !=Wh s.2.1)=false by unfold Wh;rw[Xy,h.oa.ok.len];simp,Wc];rw[show(Wh ((c7 (rks w).length).map (rnA w G s)) !=Wh ((rks w).map λk:Nat=>(k:Int)))=false by unfold Wh;simp,Wc];refine Eq.trans (Vd h a g (rks w).length 0 (kk+2) (by omega) (by omega)) ?_;rw[WzL c a];simp only[ret,Xd];cases ho:EQ w with
 |false=>rfl
 |true=>
  simp only[Xr,Wc];rw[show w.e.2.2.1=w.mem from rfl,show w.e.2.2.2.1.1=w.ψ.1 from rfl,show w.e.2.2.2.1.2=w.ψ.2 from rfl,Wwm h.oa.ok.mem a,WxU h.oa.ok.ψ.slots a];simp only[ret,Xd];rw[←WyC h ho,WvB (BB h _ _ h.th) a];rfl
end
end
section
section
variable{N kk:Nat}{s:Sc}{w:Wo}{G:Nat->Option GE}{k j:Nat}{n:Int}
theorem WyN(h:ZX N kk KZ0 KZ1 s n w G){i:Nat}(hi:i<(rks w).length)(x:k<i):¬((rw' w (rks w)[i]).ζ=8/\(rw' w (rks w)[i]).C9<(rw' w ((rks w)[k]'(by omega))).C7):=λ⟨j,f⟩=>by
 have l:k<(rks w).length:=by omega
 obtain⟨e,o⟩:=qh hi;obtain⟨d,g⟩:=qh l;have c:=eH.1 (lM (w:=w)).1 k i l hi x;rw[mI]at c;generalize (rks w)[i]=a at*;generalize (rks w)[k]=b at*;obtain⟨p,_⟩:=H2 h d g;obtain⟨q,_⟩:=H2 h e o;have v:=(h.ga.ra b d).s8;rw[jf e]at j f c q;rw[jf d]at f c p g;have y:=h.tt.rt a b e d j f;have u:=h.tt.en b d;have r:noW w.η[a]=if Wq w.η[a]=w.η[a].rv then 1 else 0:=rfl;have t:noW w.η[b]=if Wq w.η[b]=w.η[b].rv then 1 else 0:=rfl;by_cases m:w.η[b].ζ=8
 .have:=u m;rw[r,t]at c;split at c<;>split at c<;>omega
 .have:=v g m;omega
theorem VG(l:w.η.length<=4){R:Type}{K0:Option R}{K1:Int->Bool->Option R}(h:ZX N kk KZ0 KZ1 s n w G){i:Nat}(hi:i<(rks w).length):∀(d j a:Nat),j+d=i->d<a->uG N (i:Int) w.e ((rks w).map λk:Nat=>(k:Int)) K0 K1 a (j:Int)=K1 (i:Int) false
 |0,j,a,v,hf=>by
  obtain⟨g,rfl⟩:∃g,a=g+1:=⟨a-1,by omega⟩;have:j=i:=by omega
  subst this;rw[uG,Wl (by omega),Wc]
 |d+1,j,a,v,hf=>by
  obtain⟨g,rfl⟩:∃g,a=g+1:=⟨a-1,by omega⟩;have m:=VG l (K0:=K0) (K1:=K1) h hi d (j+1) g (by omega) (by omega);have B:(rks w).length<=4:=by rw[rJ];exact rL l
  have q:j<(rks w).length:=by omega
  have o:i<((rks w).map λk:Nat=>(k:Int)).length:=by simpa using hi
  have p:j<((rks w).map λk:Nat=>(k:Int)).length:=by simpa using q
  obtain⟨c,_⟩:=qh hi;obtain⟨f,_⟩:=qh q;have y:=WyN h hi (show j<i by omega);have t:P5 w.e=w.η.map Rt.e:=rfl;have r:∀x:Rt,x.e.1=x.ζ:=λ_=>rfl;have A:∀x:Rt,x.e.2.2.2.2.2.2.2.2.2.2.1=x.C9:=λ_=>rfl;have u:∀x:Rt,x.e.2.2.2.2.2.2.2.2.2.1=x.C7:=λ_=>rfl;rw[uG,Wf (show(j:Int)<(i:Int) by omega)];simp only[We,Ws o,Ws p,Wu o,Wu p,eX,t,BM c,BM f,xl c,xl f,r,u,A,Wk (show j<4611686018427387904 by omega)];by_cases b:(rw' w (rks w)[i]).ζ=8
  .rw[show((rw' w (rks w)[i]).ζ==(8:Int))=true by simpa using b,We,Wl λz=>y ⟨b,z⟩,Wc];exact m
  .rw[show((rw' w (rks w)[i]).ζ==(8:Int))=false by simpa using b,Wc];exact m
theorem Woa(g:1048576<N)(a:w.η.length<=4)(h:ZX N kk KZ0 KZ1 s n w G):CP N w.e=ret true:=by
 unfold CP;rw[LV g a];simp only[ret,Xd];have m:(rks w).length<=4:=by rw[rJ];exact rL a
 have d:=WH (l:=(rks w).map λk:Nat=>(k:Int)) (V:=Unit) (R:=Unit×Ks) (lp:=λn j _=>x6 N w.e ((rks w).map λk:Nat=>(k:Int)) (some ((),(false,()))) (λp o=>(some ((),(true,())))) n j) (n:=N) (by simp;omega)
  (body:=λj x v k=>k v) (K:=λ_ v=>some ((),(true,())))
  (λn i v b=>by
   have c:i<(rks w).length:=by simpa using b
   simp only[x6,WQ b,We];refine Eq.trans (VG a h c i 0 N (by omega) (by omega)) ?_;rw[Wk (show i<4611686018427387904 by omega)])
  (λn v=>by simp only[x6,W6 (Xl _),Wc]) ()
 refine d.trans ?_;rw[vR (f:=λv _=>v) _ 0 () (λj x v k _=>rfl)]
theorem Wke(a:1048576<N)(r:SB s)(C:dQ s=true)(d:OA (λi=>s.1.1.getD i.toNat 0) s n w)(q:n<=1000000):Ds N s w.e=ret true:=by
 obtain⟨o,L,M,O⟩:=p4 C;have b:=o.ω;have c:=d.hg q;have Q:w.η.length<=4:=by rw[d.ok.len];exact d.ok.l4
 have F:=λk E=>WxN (k:=k) d q b E;have P:(w.η.map Rt.e).length=w.η.length:=Xy ..;have m:P5 w.e=w.η.map Rt.e:=rfl;have D:Q6 w.e=w.δ:=rfl;have t:w.e.2.2.2.2.2.2=w.δ:=rfl;have H:∀x:Rt,x.e.2.2.2.2.1=x.rv:=λ_=>rfl;have u:∀x:Rt,x.e.2.2.2.2.2.2.2.2.2.2.2.2.2.1=x.μ:=λ_=>rfl;have y:∀x:Rt,x.fam.e.1=x.fam.rv:=λ_=>rfl;have I:∀x:Rt,x.e.2.2.2.2.2.2.2.2.2.2.2.2.2.2.2.2.2.2.2.2.2=x.fam.e:=λ_=>rfl;unfold Ds;rw[FW (by have:=r.ω;omega) (by have:=r.map;omega) a,G7.2 o,t,Le c a];simp only[ret,Xd,Xr,Wc];have G:=WH (l:=w.η.map Rt.e) (V:=Unit) (R:=Unit×Ks) (lp:=λn j v=>yH N s w.e (some ((),(false,()))) (λJ S=>(some ((),(true,())))) n j) (n:=N) (by omega)
  (body:=λj x v k=>k v) (K:=λ_ v=>some ((),(true,())))
  (λn i v p=>by
   have h:i<w.η.length:=by omega
   obtain⟨g,z,A,B⟩:=F i h;simp only[yH,Wz,m,D,WQ p,Ws p,K4 h,We,H,u,y,I,Wk (show i<4611686018427387904 by omega),Ai (show w.η[i].μ.length<=1048576 by omega) a,vW g.1 g.2,ret,Xd,Xr,Wc,Wlr c b a];rw[show(0:Int)=((0:Nat):Int)from rfl,UD h (HP c b).1 g z w.η[i].μ.length 0 N (by omega) (by omega)];simp only[WnD A (HP c b).1 B a,ret,Xd,Xr,Wc])
  (λn v=>by simp only[yH,m,W6 (Xl _),Wc]) ()
 refine G.trans ?_;rw[vR (f:=λv _=>v) _ 0 () (λj x v k _=>rfl)]
theorem Wyo(e:1048576<N)(a:dQ s=true):∃G,ZX N kk KZ0 KZ1 s s.2.2.length (BL s) G:=by
 obtain⟨g,i,j,l⟩:=p4 a;have d:∀k,∀c∈(s.2.1.getD k pg0).2,dz c=true:=λk c b=>by
  by_cases f:k<s.2.1.length
  .rw[Wn f]at b;unfold dQ at a;simp only[Xj,cq]at a;have:=a.2.2.2 _ (Xo f);unfold gW at this;simp only[Xj,cq]at this;exact this.1 c b
  .rw[Xq,ju (by omega)]at b;cases b
 obtain⟨G,h⟩:=WyE (K0:=KZ0) (K1:=KZ1) (kk:=kk) e a d;exact⟨G,h,Wvx a,Uv (K0:=KZ0) (K1:=KZ1) (kk:=kk) e d s.2.2 0 _ _ WzJ (Vf a) (NF a) (by omega),g,by omega⟩
theorem WuB(a:1048576<N)(c:SB s)(b:dQ s=true)(h:ZX N (N-2) KZ0 KZ1 s n w G):vD N s w.e=ret true:=by
 have d:w.η.length<=4:=by rw[h.oa.ok.len];exact h.oa.ok.l4
 unfold vD;rw[show(Wh w.e.2.2.2.2.2.1==Wh s.2.1)=true by
  show(Wh (w.η.map Rt.e)==_)=true;unfold Wh;rw[Xy,h.oa.ok.len];simp,We,Wke a c b h.oa (by have:=h.n5;omega)]
 simp only[ret,Xd,We];obtain⟨kk,rfl⟩:∃kk,N=kk+2:=⟨N-2,by omega⟩;rw[Wkj h c a b];simp only[ret,Xd,We];rw[Woa a d h];rfl
theorem Wnb{θ:List Int}(f:1048576<N)(u:∀x∈θ,0<=x/\x<=255):Zia N θ=ret true:=by
 unfold Zia OP;simp only[Xd];by_cases o:θ.length<=1048576
 .have e0:decide (Wh θ>1048576)=false:=by simp[Wh];omega
  obtain⟨s,q,d⟩:=WnS f o;rw[e0,q];simp only[Wc,ret,Xd];rw[La d f];simp only[ret,Xd];by_cases b:dQ s=true
  .rw[b];simp only[Xr,Wc];obtain⟨v,p,t,y⟩:=Wza (N:=N) u o (i:=0) (by omega);rw[show((0:Nat):Int)=0 from rfl]at p;rw[p];simp only[ret,Xd];have w:cE .i64 v 2=v*2:=om (by unfold I64;omega);have k:∀m:Nat,vD N (s.1,(s.2.1,aI m s.2.2)) (BL (s.1,(s.2.1,aI m s.2.2))).e=ret true/\nN N (s.1,(s.2.1,aI m s.2.2))=ret (BL (s.1,(s.2.1,aI m s.2.2))).e:=λm=>by
    have n:SB (s.1,(s.2.1,aI m s.2.2)):=⟨d.ω,d.map,d.progs,d.each,by have:=d.acts;show(aI m s.2.2).length<=1000;rw[di];omega⟩;have l:dQ (s.1,(s.2.1,aI m s.2.2))=true:=by
     unfold dQ at b⊢;simp only[Xj,Wg]at b⊢;refine⟨b.1,b.2.1,?_,b.2.2.2⟩;rw[di];omega
    obtain⟨G,r⟩:=Wyo (kk:=N-2) f l;exact⟨WuB f n l r,by rw[Sf n f,Wb l]⟩
   have g:(s.1,(s.2.1,aI s.2.2.length s.2.2))=s:=by rw[gt]
   have a:=k s.2.2.length;rw[g]at a;rw[w];by_cases c:v*2>Wh s.2.2
   .rw[Wf c,We,show(decide ((0:Int)<=Wh s.2.2)&&decide (Wh s.2.2<=((Xb s.2.2):Int)))=true by unfold Wh;simp,We,a.2];simp only[ret,Xd];rw[a.1];simp only[ret,Xd,We];obtain⟨h,j⟩:=k (Xa (Wh s.2.2));rw[j];simp only[ret,Xd];rw[h];rfl
   .rw[Wl c,Wc,show(decide ((0:Int)<=v*2)&&decide (v*2<=((Xb s.2.2):Int)))=true by unfold Wh at c;simp;omega,We,a.2];simp only[ret,Xd];rw[a.1];simp only[ret,Xd,We];obtain⟨h,j⟩:=k (Xa (v*2));rw[j];simp only[ret,Xd];rw[h];rfl
  .rw[Sf d f,Wa b,show dQ s=false by simpa using b];rfl
 .have e0:decide (Wh θ>1048576)=true:=by simp[Wh];omega
  rw[e0];rfl
theorem law_FnPrefix(d:c6 [.v (.slice (.int .u8)) false])(a:HM [.v (.slice (.int .u8)) false] d):∃N o,Zia N d.1=some (o,(true,())):=
 ⟨1048577,(),Wnb (N:=1048577) (by omega) (λx b=>bounds_u8 (a.1.2 x b))⟩
end
end
end Go.Sx
