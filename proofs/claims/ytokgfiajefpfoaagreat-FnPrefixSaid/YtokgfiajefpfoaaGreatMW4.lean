/- Plain laws of the Lean functions. -/
import Derived.Test.YtokgfiajefpfoaaGreatMW3
open Int renaming toNat_natCast→Xi,toNat→Xa,le_refl→aj,le_trans→Ol
open List renaming getElem_mem→Xo,getD_eq_getElem?_getD→Xq,getElem?_set_ne→kD,getElem?_set_self→oQ,length_set→aK,length→Xb,length_map→Xy,map_append→Xw,map_cons→bK,map_nil→cV,take_length→gt,drop_length→oS,drop_append_of_le_length→E6,mem_append→Xn,mem_singleton→bH,take_take→o5,take_of_length_le→mc,set→Xk,all_eq_true→cq,getElem_set→ex,mem_map→Xz,getElem_replicate→kw,foldl_cons→cP,append_eq→cU,length_take→di,mem_or_eq_of_mem_set→VT,pairwise_iff_getElem→eH,mem_filter→dA,getElem_of_mem→eI
open Nat renaming min_eq_left→fV,le_refl→Xl
open Option renaming bind_some→Xd
open Bool renaming and_eq_false_iff→VS,and_eq_true→Xj,and_self→hL,not_true→Xr,eq_false_iff→nm
namespace Go.Sx
set_option linter.unusedVariables false
set_option linter.unusedSimpArgs false
section
abbrev Tg:=List Int×List Int×Int
section
variable{l hs:List Hd}{k:Nat}{i v e:Int}{s:Shf}{u:Un}{S:List Int×Int}{o:Opn}{r:List Int}{w:Wo}{us:List Un}{T:Tg}
def cG(S:List Int×Int)(o:Opn)(r:List Int):(List Int×Int)×List Int×Un:=
 if o.1=12 then((S.1.set o.2.1.toNat (ah r o.2.2.1 0+1),S.2),d8 r o.2.2.2 (S.1.getD o.2.1.toNat 0%65536),gL o.2.1 (S.1.getD o.2.1.toNat 0))else
 if o.1=13 then(S,d8 r o.2.1 (S.1.getD o.2.2.1.toNat 0%65536),(0,0,0))else
 if o.1=14 then((S.1.set o.2.1.toNat 0,S.2),d8 r o.2.2.1 (S.1.getD o.2.1.toNat 0%65536),gL o.2.1 (S.1.getD o.2.1.toNat 0))else
 if o.1=15 then((S.1,(S.2+ah r o.2.1 0)%65536),r,(3,0,ah r o.2.1 0))else
 (S,d8 r o.2.1 S.2,(0,0,0))
structure SV(S:List Int×Int):Prop where
 len:S.1.length=8
 key:∀i:Nat,0<=S.1.getD i 0/\S.1.getD i 0<=65536
 cnt:0<=S.2/\S.2<=65535
theorem Wu2(h:SV S)(i:Vals 4 r)(f:ax o=true)(j:12<=o.1):((cG S o r).2.2.1=0->(cG S o r).1=S)/\((cG S o r).2.2.1≠0->fT (cG S o r).1 (cG S o r).2.2=S):=by
 unfold cG;by_cases c:o.1=12
 .rw[Wb c];have d:=hP.1 (qj f c).1;have g:=R6 (S:=S) (z:=ah r o.2.2.1 0+1) (h.key o.2.1.toNat).1 rfl d h.len;simp_all
 rw[Wa c];by_cases b:o.1=13
 .simp[b]
 rw[Wa b];by_cases a:o.1=14
 .rw[Wb a];have d:=hP.1 (qn f a).1;have g:=R6 (S:=S) (z:=0) (h.key o.2.1.toNat).1 rfl d h.len;simp_all
 rw[Wa a];by_cases e:o.1=15
 .rw[Wb e];refine⟨λz=>by simp at z,λ_=>?_⟩;have l:0<=ah r o.2.1 0/\ah r o.2.1 0<=65535:=i.get o.2.1.toNat;have k:=h.cnt;unfold fT;simp only;rw[Wa (by omega),Wa (by omega),Wb trivial,show((S.2+ah r o.2.1 0)%65536-ah r o.2.1 0+65536)%65536=S.2 by omega]
 simp[e]
def hld(l:List Hd)(k:Nat)(i:Int):Prop:=∃h∈l,h.1=(k:Int)+1/\h.2.1=i
def xld(l:List Hd)(k:Nat)(i:Int):Prop:=∃h∈l,h.1=(k:Int)+1/\h.2.1=i/\h.2.2=2
theorem xld.h(h:xld l k i):hld l k i:=by
 obtain⟨e,a,b,c,_⟩:=h;exact⟨e,a,b,c⟩
def dl:List Un->Int
 | []=>0
 |u::l=>(if u.1=3 then u.2.2 else 0)+dl l
theorem rN:∀{us:List Un},dl (us++ [u])=dl us+(if u.1=3 then u.2.2 else 0)
 | []=>by simp[dl]
 |a::us=>by
  rw[List.cons_append,dl,dl,rN];omega
open Classical in
noncomputable def svw(l:List Hd)(s:Shf)(k:Nat)(T:Tg)(us:List Un):List Int×Int:=
 ((List.range 8).map λi:Nat=>if hld l k (i:Int)then WD s.1 (i:Int)else T.2.1.getD i 0,(T.2.2+dl us)%65536)
open Classical in
theorem mP(h:0<=i/\i<=7):(svw l s k T us).1.getD i.toNat 0=if hld l k i then WD s.1 i else T.2.1.getD i.toNat 0:=by
 have a:i.toNat<8:=by omega
 unfold svw;rw[Wn (by simp_all),List.getElem_map,List.getElem_range,show((i.toNat:Nat):Int)=i by omega]
theorem lJ:(svw l s k T us).1.length=8:=by simp[svw]
theorem w5{S S':List Int×Int}(h:S.1.length=8)(a:S'.1.length=8)(c:∀i:Int,0<=i/\i<=7->S.1.getD i.toNat 0=S'.1.getD i.toNat 0)(b:S.2=S'.2):S=S':=by
 grind [Prod.ext,List.ext_getElem,Xi,Wn]
theorem ThOk.key(h:ThOk T)(i:Nat):0<=T.2.1.getD i 0/\T.2.1.getD i 0<=65536:=by
 by_cases a:i<T.2.1.length
 .rw[Wn a];exact h.map.2 _ (Xo _)
 simp_all
theorem EI(h:ThOk T):SV (svw l s k T us):=by
 refine⟨lJ,λi=>?_,?_⟩
 .by_cases hi:i<8
  .have:=mP (l:=l) (s:=s) (k:=k) (T:=T) (us:=us) (i:=(i:Int)) (by omega);rw[Xi]at this;rw[this];split
   .exact Gx _ _
   .exact h.key i
  grind [List.getElem?_eq_none,lJ]
 grind [svw]
theorem WwH(h:ShOk s)(n:Vals 4 r)(f:ax o=true)(p:12<=o.1)(q:S.1.length=8)(a:(W0 o).1<=7->S.1.getD (W0 o).1.toNat 0=WD s.1 (W0 o).1)(g:(W0 o)=(8,2)->S.2=s.2):
  (WK s o r).2=(cG S o r).2/\(∀i,0<=i/\i<=7->i≠(W0 o).1->WD (WK s o r).1.1 i=WD s.1 i/\(cG S o r).1.1.getD i.toNat 0=S.1.getD i.toNat 0)/\((W0 o).1<=7->(cG S o r).1.1.getD (W0 o).1.toNat 0=WD (WK s o r).1.1 (W0 o).1)/\(cG S o r).1.1.length=8/\(∀us:List Un,∀c:Int,S.2=(c+dl us)%65536->(cG S o r).1.2=(c+dl (if(cG S o r).2.2.1=0 then us else us++ [(cG S o r).2.2]))%65536):=by
 have t:=ly f;revert a g;unfold WK cG W0;by_cases e:o.1=12
 .have o1:=hP.1 (qj f e).1;have k:0<=ah r o.2.2.1 0/\ah r o.2.2.1 0<=65535:=n.get o.2.2.1.toNat;simp only[Wb e,Wb (show o.1=12\/o.1=14 from .inl e)];intro a _;have a:=a o1.2;refine⟨by rw[a],λi m j=>⟨?_,?_⟩,λ_=>?_,by simp_all,λus c g=>?_⟩
  .rw[AB h.slots o1 k,Wa j]
  .rw[Xq,Xq,kD (by omega)]
  .rw[AB h.slots o1 k,Wb rfl,Xq,oQ (by omega)];rfl
  grind [gL,rN]
 by_cases d:o.1=13
 .have o1:=hP.1 (BQ f d).2;simp_all
 by_cases b:o.1=14
 .have o1:=hP.1 (qn f b).1;simp only[Wa e,Wa d,Wb b,Wb (show o.1=12\/o.1=14 from .inr b)];intro a _;have a:=a o1.2;refine⟨by rw[a],λi m j=>⟨?_,?_⟩,λ_=>?_,by simp_all,λus c g=>?_⟩
  .rw[DM h.slots,Wa j]
  .rw[Xq,Xq,kD (by omega)]
  .rw[DM h.slots,Wb rfl,Xq,oQ (by omega)];rfl
  grind [gL,rN]
 by_cases l:o.1=15
 .simp only[Wa e,Wa d,Wa b,Wb l,Wa (show¬(o.1=12\/o.1=14) by omega)]
  grind [absurd,rN]
 simp_all
end
section
variable{R:Type}{N:Nat}{rec:Kae->Kab->Kj->Kj->Kh->Option Kz}{θ:List Opn}{π:List (List Opn)}{ord:List Int}{az:Int}{aP aA:List Int}{K0:List Int->Option R}{K1:Int->Bool->List Int->Int->List M7->List Int->List Int->Option R}
 {n pc:Nat} {r c:List Int} {mk:List M7} {S:List Int×Int}
theorem WuW(g:pc<θ.length)(f:θ.length<=24)(o:12<=θ[pc].1)(e:ax θ[pc]=true)(a:Vals 4 r)(h:SV S):wk N rec θ π ord az aP aA K0 K1 (n+1) (pc:Int) r S.2 mk c S.1=wk N rec θ π ord az aP aA K0 K1 n ((pc+1:Nat):Int) (cG S θ[pc] r).2.1 (cG S θ[pc] r).1.2 mk c (cG S θ[pc] r).1.1:=by
 have p:=ly e;have l:∀i:Nat,bp (S.1.getD i 0) 65536=S.1.getD i 0%65536:=λi=>by
  have:=h.key i
  grind [bp,Int.tmod_eq_emod_of_nonneg]
 unfold cG;by_cases k:θ[pc].1=12
 .rw[Wb k];have m:0<=ah r θ[pc].2.2.1 0/\ah r θ[pc].2.2.1 0<=65535:=a.get θ[pc].2.2.1.toNat;refine(YO g f k e a.len h.len m).trans ?_;rw[l,show(1:Int)+r.getD θ[pc].2.2.1.toNat 0=ah r θ[pc].2.2.1 0+1 by unfold ah;omega];rfl
 rw[Wa k];by_cases b:θ[pc].1=13
 .rw[Wb b];refine(YY g f b e a.len h.len).trans ?_;rw[l];rfl
 rw[Wa b];by_cases d:θ[pc].1=14
 .rw[Wb d];refine(YT g f d e a.len h.len).trans ?_;rw[l];rfl
 rw[Wa d];by_cases j:θ[pc].1=15
 .rw[Wb j];exact YW g f j e a.len (a.get _) h.cnt
 .rw[Wa j];exact YP g f (by omega) e a.len
end
section
variable{l hs:List Hd}{k:Nat}{i v e:Int}{s:Shf}{u:Un}{S:List Int×Int}{o:Opn}{r:List Int}{w:Wo}{us:List Un}{T:Tg}
theorem Sm(a:ax o=true)(e:12<=o.1):(0<=(W0 o).1/\(W0 o).1<=8)/\((W0 o).2=1\/(W0 o).2=2):=by
 have f:=ly a;unfold W0;by_cases d:o.1=12
 .have o1:=hP.1 (qj a d).1
  grind
 by_cases c:o.1=14
 .have o1:=hP.1 (qn a c).1
  grind
 rw[Wa (by omega)];by_cases b:o.1=13
 .have o1:=hP.1 (BQ a b).2
  grind
 grind
open Classical in
theorem Wu3(h:ShOk s)(u:Vals 4 r)(t:ax o=true)(m:12<=o.1)(q:(W0 o).1<=7->(svw l s k T us).1.getD (W0 o).1.toNat 0=WD s.1 (W0 o).1)(n:(W0 o)=(8,2)->(svw l s k T us).2=s.2)(p:hld hs k (W0 o).1)(w:∀i,i≠(W0 o).1->(hld hs k i↔hld l k i)):
  svw hs (WK s o r).1 k T (if(WK s o r).2.2.1=0 then us else us++ [(WK s o r).2.2])=(cG (svw l s k T us) o r).1/\(WK s o r).2=(cG (svw l s k T us) o r).2:=by
 obtain⟨b,d,e,f,g⟩:=WwH h u t m (lJ (l:=l) (s:=s) (k:=k) (T:=T) (us:=us)) q n;refine⟨w5 lJ f (λi a=>?_) ?_,b⟩
 .rw[mP a];by_cases c:i=(W0 o).1
  .subst c;rw[Wb p,e a.2]
  .obtain⟨v,j⟩:=d i a c;rw[j,mP a];simp_all
 .rw[g us T.2.2 rfl,←b];rfl
open Classical in
theorem SX(h:ShOk s)(e:UnV u)(n:(u.1=1\/u.1=2)->hld l k u.2.1)(m:ThOk T):fT (svw l s k T (us++ [u])) u=svw l (eM s u) k T us:=by
 have hs:=Wx7 h e;have j:(fT (svw l s k T (us++ [u])) u).1.length=8:=by
  grind [fT,lJ,aK]
 have q:=m.cnt;refine w5 j lJ (λi a=>?_) ?_
 .rw[mP a];have g:WD (eM s u).1 i=(fT (shS s) u).1.getD i.toNat 0:=by
   rw[←hs];exact(Ue a).symm
  have o:(shS s).1.getD i.toNat 0=WD s.1 i:=Ue a;have p:=mP (l:=l) (s:=s) (k:=k) (T:=T) (us:=us++ [u]) a;have r:=lJ (l:=l) (s:=s) (k:=k) (T:=T) (us:=us++ [u]);have t:(shS s).1.length=8:=Hr;have f:(if hld l k i then WD (eM s u).1 i else T.2.1.getD i.toNat 0)=if hld l k i then(fT (shS s) u).1.getD i.toNat 0 else T.2.1.getD i.toNat 0:=by rw[g]
  refine Eq.trans ?_ f.symm;have v:∀z:Int,(0<=u.2.1/\u.2.1<=7)->hld l k u.2.1->((svw l s k T (us++ [u])).1.set u.2.1.toNat z).getD i.toNat 0=if hld l k i then((shS s).1.set u.2.1.toNat z).getD i.toNat 0 else T.2.1.getD i.toNat 0:=λz b n=>by
   grind
  rcases e with⟨c,b,d⟩|⟨c,b,d⟩|⟨c,b,d⟩
  .simp_all [fT,set,Wb]
  .simp_all [fT,set,Wa,Wb]
  simp_all [fT,Wa,Wb]
 .unfold fT svw;rw[rN]
  grind
end
end
section
section
variable{R:Type}{N kk:Nat}{p:Pg}{T:Tg}{K0:List Int->Option R}{K1:Int->Bool->List Int->Int->List M7->List Int->List Int->Option R}
 {w v:Wo} {x y:Rt} {n:Int} {l:List Int} {S S':List Int×Int} {k i j:Nat} {u:Un}
def AtS(N kk:Nat)(p:Pg)(T:Tg)(K0:List Int->Option R)(K1:Int->Bool->List Int->Int->List M7->List Int->List Int->Option R)(x:Rt)(S:List Int×Int):Prop:=
 ∃a:Bool,OF p a x/\(a=true->frk p.1 x.pc.toNat=1)/\∃S0,(S0=S\/(x.ζ=1/\(opN p.1 x.pc).1=10/\x.κ≠ []))/\∀l,(a=true->l=x.υ)->WAt N kk p T K0 K1 l x.pc x.ξ S0 (x.κ.map (cm7 T.1 x.ι x.ο S)) (ovl T.1 x.ι)
def At0(N kk:Nat)(p:Pg)(T:Tg)(K0:List Int->Option R)(K1:Int->Bool->List Int->Int->List M7->List Int->List Int->Option R)(x:Rt)(S:List Int×Int):Prop:=
 ∃a:Bool,OF p a x/\(a=true->frk p.1 x.pc.toNat=1)/\∀l,(a=true->l=x.υ)->WAt N kk p T K0 K1 l x.pc x.ξ S (x.κ.map (cm7 T.1 x.ι x.ο S)) (ovl T.1 x.ι)
theorem At0.s(h:At0 N kk p T K0 K1 x S):AtS N kk p T K0 K1 x S:=by
 obtain⟨a,o,c,b⟩:=h;exact⟨a,o,c,S,.inl rfl,b⟩
def MkA(N kk:Nat)(p:Pg)(T:Tg)(K0:List Int->Option R)(K1:Int->Bool->List Int->Int->List M7->List Int->List Int->Option R)(x:Rt)(S:List Int×Int)(j:Nat):Prop:=
 ∃a:Bool,OF p a x/\(a=true->frk p.1 ((x.κ.getD j zRM).1+1).toNat=1)/\∀l,(a=true->l=x.υ)->WAt N kk p T K0 K1 l ((x.κ.getD j zRM).1+1) (x.κ.getD j zRM).2.2.2.2 (gQ S (x.ο.drop (x.κ.getD j zRM).2.2.2.1.toNat)) ((x.κ.take (j+1)).map (cm7 T.1 x.ι x.ο S)) (ovl T.1 (x.ι.take (x.κ.getD j zRM).2.2.1.toNat))
theorem Bq{a:List RM}{ws b:List Rw}{us d:List Un}(f:∀q∈a,b.take q.2.2.1.toNat=ws.take q.2.2.1.toNat)(e:∀q∈a,gQ S' (d.drop q.2.2.2.1.toNat)=gQ S (us.drop q.2.2.2.1.toNat)):a.map (cm7 T.1 b d S')=a.map (cm7 T.1 ws us S):=
 List.map_congr_left λq c=>by unfold cm7;rw[f q c,e q c]
theorem OF.eq{a:Bool}(h:OF p a x)(e:y.υ=x.υ):OF p a y:=⟨λz=>e.trans (h.no z),λz=>by rw[e];exact h.yes z⟩
theorem AtS.same(h:AtS N kk p T K0 K1 x S)(b:y.υ=x.υ)(c:y.pc=x.pc)(d:y.ζ=x.ζ)(e:y.ξ=x.ξ)(f:y.κ=x.κ)(g:y.ι=x.ι)(i:y.ο=x.ο):AtS N kk p T K0 K1 y S:=by
 obtain⟨a,o,m,S0,k,j⟩:=h;refine⟨a,o.eq b,by simp_all,S0,by simp_all,λl n=>?_⟩;simp_all
theorem MkA.keep(h:MkA N kk p T K0 K1 x S j)(d:y.υ=x.υ)(c:y.κ.take (j+1)=x.κ.take (j+1))(b:j<x.κ.length)(e:j<y.κ.length)(r:∀q∈x.κ.take (j+1),y.ι.take q.2.2.1.toNat=x.ι.take q.2.2.1.toNat)(n:∀q∈x.κ.take (j+1),gQ S' (y.ο.drop q.2.2.2.1.toNat)=gQ S (x.ο.drop q.2.2.2.1.toNat)):MkA N kk p T K0 K1 y S' j:=by
 obtain⟨a,o,i,g⟩:=h;have k:y.κ.getD j zRM=x.κ.getD j zRM:=by
  have:=Wp (λl:List RM=>l[j]?) c;simp only[List.getElem?_take_of_lt (Nat.lt_succ_self j)]at this;rw[Xq,Xq,this]
 have f:x.κ.getD j zRM∈x.κ.take (j+1):=by
  rw[Wn b];exact List.mem_take_iff_getElem.2 ⟨j,by omega,rfl⟩
 refine⟨a,o.eq d,by simp_all,λl m=>?_⟩
 grind [Bq]
theorem OU(c:POk p){a b:Int}(h:frk p.1 a.toNat=1)(d:a<=b)(e:b<=p.1.length):frk p.1 b.toNat=1:=by
 have:=ML p.1 (show a.toNat<=b.toNat by omega);have:=Ep c.θ b.toNat (by omega);omega
structure SP(p:Pg)(x y:Rt):Prop where
 ph:y.ζ=1
 od:y.υ=x.υ
 pc:x.pc<y.pc/\y.pc<=p.1.length
theorem xG(j:1048576<N)(c:POk p)(h:AtS N kk p T K0 K1 x S)(hi:x.pc=(i:Int))(m:i<p.1.length)(b:SP p x y)(q:p.1[i].1≠10)
  (hs:∀l n,wA N kk p T K0 K1 l (n+1) (i:Int) x.ξ S (x.κ.map (cm7 T.1 x.ι x.ο S)) (ovl T.1 x.ι)=wA N kk p T K0 K1 l n y.pc y.ξ S' (y.κ.map (cm7 T.1 y.ι y.ο S')) (ovl T.1 y.ι)):At0 N kk p T K0 K1 y S':=by
 obtain⟨f,o,k,S0,t,g⟩:=h;have r:=c.θ.len;have s:opN p.1 x.pc=p.1[i]:=by grind [p0]
 have a:S0=S:=by
  simp_all
 subst a;have e:=b.pc;refine⟨f,o.eq b.od,λz=>OU c (k z) (by omega) e.2,λl d=>?_⟩;have:=g l λz=>by rw[←b.od];exact d z
 rw[hi]at this;exact this.on j (by omega) (by omega) (hs l)
theorem RLive.upd(a:RLive p n x):∀q∈x.κ,(q.2.1.toNat<=x.μ.length/\q.2.2.1.toNat<=x.ι.length/\q.2.2.2.1.toNat<=x.ο.length)/\0<=q.2.1/\0<=q.2.2.1/\0<=q.2.2.2.1:=λq b=>by
 obtain⟨c,d,e,f⟩:=a.κ.each q b;omega
theorem RLive.wl3(a:RLive p n x)(b:POk p):x.ι.length<=300:=by
 have:=a.wl;have:=a.pc;have:=b.θ.len;omega
theorem Wyw(f:1048576<N)(b:POk p)(g:ThOk T)(h:AtS N kk p T K0 K1 x S)(d:RLive p n x)(hi:x.pc=(i:Int))(a:i<p.1.length)(e:p.1[i].1=5)(ph:y.ζ=1)(s:y.υ=x.υ)(pc:y.pc=x.pc+1)(q:y.ι=x.ι)(j:y.κ=x.κ)(o:y.ο=x.ο)(k:y.ξ=d8 x.ξ p.1[i].2.1 ((ovl T.1 x.ι).getD p.1[i].2.2.1.toNat 0)):At0 N kk p T K0 K1 y S:=by
 obtain⟨t,_⟩:=b.θ.ok i a;refine xG f b h hi a ⟨ph,s,by omega⟩ (by omega) λl n=>?_;have:=ws5 (N:=N) (rec:=Zj N (kk+1)) (π:=p.2) (ord:=l) (az:=T.2.2) (aP:=T.1) (aA:=T.2.1) (K0:=K0) (K1:=K1) (n:=n) (r:=x.ξ) (c:=ovl T.1 x.ι) (m:=S.1) (ct:=S.2) (mk:=x.κ.map (cm7 T.1 x.ι x.ο S)) a b.θ.len e t d.ξ.len (jH g.ω d.ι).len;rw[j,q,o,k,pc,show x.pc+1=((i+1:Nat):Int) by omega];exact this
theorem Wwx(e:RLive p n x)(d:x.ζ=1)(hi:x.pc=(i:Int))(c:i<p.1.length)(a:p.1[i].1≠5/\p.1[i].1≠10/\p.1[i].1<11):(aT w x k p).1=w/\(aT w x k p).2.CZ=x.CZ/\(aT w x k p).2.ζ=1/\(aT w x k p).2.μ=x.μ/\(aT w x k p).2.ο=x.ο/\(aT w x k p).2.υ=x.υ/\(∀m,m<=x.ι.length->(aT w x k p).2.ι.take m=x.ι.take m)/\((aT w x k p).2.κ=x.κ\/(aT w x k p).2.κ=x.κ.dropLast\/(aT w x k p).2.κ=x.κ++ [(x.pc,(x.μ.length:Int),(x.ι.length:Int),(x.ο.length:Int),x.ξ)]/\(aT w x k p).2.ξ=x.ξ/\(aT w x k p).2.ι=x.ι/\(aT w x k p).2.pc=x.pc+1):=by
 have b:opN p.1 x.pc=p.1[i]:=by grind [p0]
 unfold aT;rw[Wa (by omega)];simp only[b];rw[Wa a.1,Wa a.2.1,Wa (by omega),Wa (by omega)];split
 .grind
 split
 .simp_all
 split
 .simp_all
 grind
theorem Wvw(g:1048576<N)(b:POk p)(K:ThOk T)(J:SV S)(h:AtS N kk p T K0 K1 x S)(d:RLive p n x)(e:x.ζ=1)(hi:x.pc=(i:Int))(a:i<p.1.length)(f:p.1[i].1≠5/\p.1[i].1≠10/\p.1[i].1<11):At0 N kk p T K0 K1 (aT w x k p).2 S:=by
 obtain⟨u,M,ib⟩:=b.θ.ok i a;have o:=b.θ.len;have I:opN p.1 x.pc=p.1[i]:=by grind [p0]
 have upd:=d.upd;have F:=jH K.ω d.ι;have iF:x.κ.length<=24:=by
  have v:=Wp Xb d.κ.pcs;simp only[Xy]at v;have C:=fh b.θ.up x.pc.toNat (by omega);have:=gJ p.1 x.pc.toNat;omega
 have t:x.pc+1=((i+1:Nat):Int):=by omega
 unfold aT;rw[Wa (by omega)];simp only[I];rw[Wa f.1,Wa f.2.1,Wa (by omega),Wa (by omega)];by_cases y:p.1[i].1=6
 .rw[Wb y];refine xG g b h hi a ⟨e,rfl,by grind⟩ f.2.1 λl n=>?_;have:=ws6 (N:=N) (rec:=Zj N (kk+1)) (π:=p.2) (ord:=l) (az:=T.2.2) (aP:=T.1) (aA:=T.2.1) (K0:=K0) (K1:=K1) (n:=n) (r:=x.ξ) (c:=ovl T.1 x.ι) (m:=S.1) (ct:=S.2) (mk:=x.κ.map (cm7 T.1 x.ι x.ο S)) a o y u d.ξ.len F.len;show wk _ _ _ _ _ _ _ _ _ _ _ _ _ _ _ _ _=wk _ _ _ _ _ _ _ _ _ _ _ (x.pc+1) _ _ (x.κ.map (cm7 T.1 (x.ι++ [(p.1[i].2.1,ah x.ξ p.1[i].2.2.1 0)]) x.ο S)) (ovl T.1 (x.ι++ [(p.1[i].2.1,ah x.ξ p.1[i].2.2.1 0)])) _;rw[Bq (S:=S) (us:=x.ο) (ws:=x.ι) (λq L=>Mj (upd q L).1.2.1) λ_ _=>rfl,Mx,this,t];rfl
 rw[Wa y];by_cases s:p.1[i].1=7
 .rw[Wb s];obtain⟨s1,s2⟩:=b.θ.sk i a s;obtain⟨k1,k2,k3⟩:=qx u s;refine xG g b h hi a ⟨e,rfl,?_⟩ f.2.1 λl n=>?_
  .show x.pc<(if ah x.ξ p.1[i].2.1 0=0 then x.pc+p.1[i].2.2.1 else x.pc)+1/\(if ah x.ξ p.1[i].2.1 0=0 then x.pc+p.1[i].2.2.1 else x.pc)+1<=_;split<;>omega
  have:=ws7 (N:=N) (rec:=Zj N (kk+1)) (π:=p.2) (ord:=l) (az:=T.2.2) (aP:=T.1) (aA:=T.2.1) (K0:=K0) (K1:=K1) (n:=n) (r:=x.ξ) (c:=ovl T.1 x.ι) (m:=S.1) (ct:=S.2) (mk:=x.κ.map (cm7 T.1 x.ι x.ο S)) a o s u d.ξ.len;show wk _ _ _ _ _ _ _ _ _ _ _ _ _ _ _ _ _=wk _ _ _ _ _ _ _ _ _ _ _ ((if ah x.ξ p.1[i].2.1 0=0 then x.pc+p.1[i].2.2.1 else x.pc)+1) _ _ _ _ _;rw[this,hi];rfl
 rw[Wa s];by_cases z:p.1[i].1=8
 .rw[Wb z];refine xG g b h hi a ⟨e,rfl,by grind⟩ f.2.1 λl n=>?_;have:=ws8 (N:=N) (rec:=Zj N (kk+1)) (π:=p.2) (ord:=l) (az:=T.2.2) (aP:=T.1) (aA:=T.2.1) (K0:=K0) (K1:=K1) (n:=n) (r:=x.ξ) (c:=ovl T.1 x.ι) (m:=S.1) (ct:=S.2) (mk:=x.κ.map (cm7 T.1 x.ι x.ο S)) a o z d.ξ.len F.len J.len (by grind);show wk _ _ _ _ _ _ _ _ _ _ _ _ _ _ _ _ _=wk _ _ _ _ _ _ _ _ _ _ _ (x.pc+1) _ _ ((x.κ++ [(x.pc,(x.μ.length:Int),(x.ι.length:Int),(x.ο.length:Int),x.ξ)]).map (cm7 T.1 x.ι x.ο S)) _ _;rw[this,Xw,bK,cV,t];have H:cm7 T.1 x.ι x.ο S (x.pc,(x.μ.length:Int),(x.ι.length:Int),(x.ο.length:Int),x.ξ)=((i:Int),(x.ξ,(ovl T.1 x.ι,S))):=by
   unfold cm7;simp only[Xi,gt,oS];rw[hi];rfl
  rw[H]
 rw[Wa z];by_cases A:p.1[i].1=9
 .rw[Wb A];have D:=d.κ;rw[hi,Xi]at D;have B:x.κ.length≠0:=λB=>by
   have e:=Wp Xb D.pcs;simp only[Xy,B]at e;have Y:=fh b.θ.up i (by omega);have Z:=b.θ.up i a
   grind [gD,qp]
  obtain⟨j,q,v,C,⟨E,P⟩,R,U,V,W,G,X,_⟩:=d.mk24 b.θ B;have Q:x.last.1.toNat=j:=by omega
  have O:opN p.1 x.last.1=p.1[j]:=by grind [opN,Wn]
  refine xG g b h hi a ⟨e,rfl,by grind⟩ f.2.1 λl n=>?_;have:=ws9 (N:=N) (rec:=Zj N (kk+1)) (π:=p.2) (ord:=l) (az:=T.2.2) (aP:=T.1) (aA:=T.2.1) (K0:=K0) (K1:=K1) (n:=n) (r:=x.ξ) (c:=ovl T.1 x.ι) (m:=S.1) (ct:=S.2) (q:=q.map (cm7 T.1 x.ι x.ο S)) (x:=cm7 T.1 x.ι x.ο S x.last) a o A E P (b.θ.ok j E).1 C d.ξ.len (by grind);show wk _ _ _ _ _ _ _ _ _ _ _ _ _ _ (x.κ.map _) _ _=wk _ _ _ _ _ _ _ _ _ _ _ (x.pc+1) (d8 x.ξ (opN p.1 x.last.1).2.1 1) _ (x.κ.dropLast.map _) _ _;rw[G,O,t]
  conv=>lhs;rw[v,Xw,bK,cV]
  rw[this];rfl
 .rw[Wa A];refine xG g b h hi a ⟨e,rfl,by grind⟩ f.2.1 λl n=>?_;have:=wsC (N:=N) (rec:=Zj N (kk+1)) (π:=p.2) (ord:=l) (az:=T.2.2) (aP:=T.1) (aA:=T.2.1) (K0:=K0) (K1:=K1) (n:=n) (r:=x.ξ) (c:=ovl T.1 x.ι) (m:=S.1) (ct:=S.2) (mk:=x.κ.map (cm7 T.1 x.ι x.ο S)) g a o ⟨M,by omega⟩ u d.ξ;show wk _ _ _ _ _ _ _ _ _ _ _ _ _ _ _ _ _=wk _ _ _ _ _ _ _ _ _ _ _ (x.pc+1) _ _ _ _ _;rw[this,t]
theorem Ru{us:List Un}{m:Nat}(c:m<us.length)(a:us=us.dropLast++ [u]):gQ (fT S u) (us.dropLast.drop m)=gQ S (us.drop m):=by
 have b:us.dropLast.length=us.length-1:=List.length_dropLast
 conv=>rhs;rw[a]
 rw[E6 (by omega),QQ]
theorem Wys(h:AtS N kk p T K0 K1 x S)(e:x.ζ=1)(d:(opN p.1 x.pc).1=10)(a:x.κ≠ [])(i:∀q∈x.κ,q.2.2.2.1.toNat<x.ο.length)(k:x.ο=x.ο.dropLast++ [u]):AtS N kk p T K0 K1 {x with ο:=x.ο.dropLast} (fT S u):=by
 obtain⟨c,o,g,S0,m,f⟩:=h;refine⟨c,⟨o.no,o.yes⟩,g,S0,.inr ⟨e,d,a⟩,λl b=>?_⟩;have:=f l b;show WAt N kk p T K0 K1 l x.pc x.ξ S0 (x.κ.map (cm7 T.1 x.ι x.ο.dropLast (fT S u))) _;rw[Bq (S:=S) (us:=x.ο) (ws:=x.ι) (λ_ _=>rfl) λq j=>Ru (i q j) k];exact this
theorem WyB(t:1048576<N)(e:POk p)(L:ThOk T)(J:SV S)(h:AtS N kk p T K0 K1 x S)(f:RLive p n x)(h1:x.ζ=1)(hi:x.pc=(i:Int))(B:i<p.1.length)(D:p.1[i].1=10)(v:x.κ.length≠0)(hu:¬(x.ο.length:Int)>x.last.2.2.2.1):
  At0 N kk p T K0 K1 {x with κ:=x.κ.dropLast,ξ:=d8 x.last.2.2.2.2 (opN p.1 x.last.1).2.1 0,ι:=x.ι.take x.last.2.2.1.toNat,pc:=i8 p.1 x.last.1.toNat+1} S:=by
 obtain⟨j,q,b,s,⟨u,R⟩,W,k,X,Y,F,G,⟨Z,f2,f3⟩,⟨g1,g2,g3⟩,k1,k2,k3⟩:=f.mk24 e.θ v;have U:x.κ≠ []:=λz=>v (by rw[z];rfl);have E:=e.θ.len;have iF:x.κ.length<=24:=by
  have b:=Wp Xb f.κ.pcs;simp only[Xy]at b;have s:=fh e.θ.up x.pc.toNat (by omega);have:=gJ p.1 x.pc.toNat;omega
 have w:=f.κ.up;rw[b]at w;have V:∀z∈x.κ,z.2.2.1<=x.last.2.2.1/\z.2.2.2.1<=x.last.2.2.2.1:=λz g=>by
  rw[b,Xn,bH]at g;rcases g with g|rfl
  .exact((List.pairwise_append.1 w).2.2 z g _ (bH.2 rfl)).2
  .omega
 obtain⟨H,o,M,S0,K,I⟩:=h;have O:=k.len;have jd:=k.lt;have y:x.last.2.2.2.1.toNat=x.ο.length:=by omega
 have a:cm7 T.1 x.ι x.ο S x.last=(x.last.1,(x.last.2.2.2.2,(ovl T.1 (x.ι.take x.last.2.2.1.toNat),S))):=by
  unfold cm7;rw[y,oS];rfl
 have C:x.last.1.toNat=j:=by omega
 refine⟨H,⟨o.no,o.yes⟩,λz=>OU e (M z) (by grind) (by grind),λl A=>?_⟩;have d:=I l A;have Q:opN p.1 x.last.1=p.1[j]:=by grind [opN,Wn]
 show WAt N kk p T K0 K1 l ((i8 p.1 x.last.1.toNat:Int)+1) (d8 x.last.2.2.2.2 (opN p.1 x.last.1).2.1 0) S (x.κ.dropLast.map (cm7 T.1 (x.ι.take x.last.2.2.1.toNat) x.ο S)) (ovl T.1 (x.ι.take x.last.2.2.1.toNat));rw[C,Q,F,Bq (ws:=x.ι) (us:=x.ο) (S:=S) (λq' lj=>by rw[o5,fV (by grind)]) λ_ _=>rfl];rw[hi]at d;refine d.on t (by omega) (by omega) λn=>?_;have:=YN (N:=N) (rec:=Zj N (kk+1)) (π:=p.2) (ord:=l) (az:=T.2.2) (aP:=T.1) (aA:=T.2.1) (K0:=K0) (K1:=K1) (n:=n) (r:=x.ξ) (c:=ovl T.1 x.ι) (m:=S0.1) (ct:=S0.2) (q:=q.map (cm7 T.1 x.ι x.ο S)) (x:=cm7 T.1 x.ι x.ο S x.last) t B E D u R (e.θ.ok j u).1 k s G.len (jH L.ω (λr P=>f.ι r (List.mem_of_mem_take P))).len (by rw[a];exact J.len) (by grind);rw[a]at this
 conv=>lhs;rw[b,Xw,bK,cV,a]
 show wk _ _ _ _ _ _ _ _ _ _ _ _ _ _ _ _ _=wk _ _ _ _ _ _ _ _ _ _ _ _ _ _ _ _ _;rw[this,show((i8 p.1 j:Nat):Int)+1=((i8 p.1 j+1:Nat):Int) by omega];rfl
theorem Qp{us:List Un}{o:Opn}{r:List Int}(d:SV S)(f:Vals 4 r)(e:ax o=true)(c:12<=o.1){m:Nat}(h:m<=us.length):gQ (cG S o r).1 ((if(cG S o r).2.2.1=0 then us else us++ [(cG S o r).2.2]).drop m)=gQ S (us.drop m):=by
 obtain⟨b,g⟩:=Wu2 d f e c;by_cases a:(cG S o r).2.2.1=0
 .rw[Wb a,b a]
 simp_all [Wa,E6,QQ]
theorem Wv8(k:1048576<N)(d:POk p)(o:ThOk T)(f:SV S)(h:AtS N kk p T K0 K1 x S)(b:RLive p n x)(j:x.ζ=1)(hi:x.pc=(i:Int))(a:i<p.1.length)(e:12<=p.1[i].1):At0 N kk p T K0 K1 {x with ξ:=(cG S p.1[i] x.ξ).2.1,ο:=if(cG S p.1[i] x.ξ).2.2.1=0 then x.ο else x.ο++ [(cG S p.1[i] x.ξ).2.2],pc:=x.pc+1} (cG S p.1[i] x.ξ).1:=by
 obtain⟨g,_⟩:=d.θ.ok i a;refine xG k d h hi a ⟨j,rfl,by grind⟩ (by omega) λl n=>?_;have:=WuW (N:=N) (rec:=Zj N (kk+1)) (π:=p.2) (ord:=l) (az:=T.2.2) (aP:=T.1) (aA:=T.2.1) (K0:=K0) (K1:=K1) (n:=n) (c:=ovl T.1 x.ι) (mk:=x.κ.map (cm7 T.1 x.ι x.ο S)) a d.θ.len e g b.ξ f;show wk _ _ _ _ _ _ _ _ _ _ _ _ _ _ _ _ _=wk _ _ _ _ _ _ _ _ _ _ _ (x.pc+1) _ _ (x.κ.map (cm7 T.1 x.ι (if(cG S p.1[i] x.ξ).2.2.1=0 then x.ο else x.ο++ [(cG S p.1[i] x.ξ).2.2]) (cG S p.1[i] x.ξ).1)) _ _;rw[Bq (S:=S) (us:=x.ο) (ws:=x.ι) (λ_ _=>rfl) λq m=>Qp f b.ξ g e (b.upd q m).1.2.2,this,show x.pc+1=((i+1:Nat):Int) by omega]
theorem ZE(h:MkA N kk p T K0 K1 x S j)(s:x.κ.length=j+1)(i:x.κ.getD j zRM=x.last)(m:x.ο.length<=x.last.2.2.2.1.toNat)(q:∀z∈x.κ,z.2.2.1<=x.last.2.2.1)(g:y.υ=x.υ)(b:y.pc=x.last.1+1)(k:y.ξ=x.last.2.2.2.2)(f:y.κ=x.κ)(n:y.ι=x.ι.take x.last.2.2.1.toNat)(d:y.ο=x.ο):At0 N kk p T K0 K1 y S:=by
 obtain⟨c,o,e,a⟩:=h;rw[i]at e a;refine⟨c,o.eq g,by simp_all,λl r=>?_⟩;have:=a l λz=>by simp_all
 rw[List.drop_eq_nil_of_le m,mc (by omega)]at this;rw[b,k,f,n,d,Bq (ws:=x.ι) (us:=x.ο) (S:=S) (λu t=>by rw[o5,fV (by grind)]) λ_ _=>rfl];exact this
theorem ZA(h:At0 N kk p T K0 K1 x S){q:RM}(n:x.κ=x.κ.dropLast++ [q])(m:x.κ.length=j+1)(c:x.pc=q.1+1)(i:q.2.2.1=x.ι.length)(g:q.2.2.2.1=x.ο.length)(f:q.2.2.2.2=x.ξ):MkA N kk p T K0 K1 x S j:=by
 obtain⟨b,o,k,d⟩:=h;have e:x.κ.getD j zRM=q:=by
  grind
 refine⟨b,o,by grind,λl a=>?_⟩;rw[e,i,g,f,←c,Xi,Xi,oS,gt,mc (by omega)];exact d l a
end
end
section
section
variable{N:Nat}{w:Wo}{k:Nat}{x:Rt}{p:Pg}{n:Int}{ps:List Pg}
theorem Wrz(h:GOk w)(b:ROk p n x)(d:x.ζ=5)(f:k<=8):QOk p n w (ei w x k):=by
 have c:=b.comm d;unfold ei;split
 .split
  .exact h.st (A8 b)
  .refine h.st ?_;exact{b with C4:=λa=>by simp_all,comm:=λ_=>WrH c}
 .have aL:=RJ c h.mem;obtain⟨m',c',e⟩:∃m' c',Wv w.mem x.cm=(m',c'):=⟨_,_,rfl⟩;simp only[e]at aL⊢;refine⟨?_,aL.2,h.ψ,h.holds,?_,?_,rfl,rfl⟩
  .have hy:ROk p n {x with cm:=c'}:={b with C4:=λa=>by simp_all,comm:=λ_=>aL.1};unfold dt;simp only;split
   .exact A8 hy
   .split
    .have da:(if x.CZ=2 then(6:Int)else 7)=6\/(if x.CZ=2 then(6:Int)else 7)=7:=by split<;>simp
     generalize (if x.CZ=2 then(6:Int)else 7)=ph at*;exact{b with
      ζ:=by grind
      C4:=λa=>by grind
      comm:=λa=>by simp_all}
    .exact hy
  .simp only;split<;>simp
  .simp only;intro h a;split at a
   .rcases Xn.1 a with a|a
    .grind
    .rw[bH]at a;subst a;exact .inr ⟨aL.1.plen,aL.1.ε,by grind,by grind⟩
   simp_all
theorem D9(l:POk p)(h:GOk w)(m:ROk p n x)(y:k<=8)(z:0<=n):QOk p (n+1) w (ay w x k p):=by
 have a:=m.wk (show n<=n+1 by omega);unfold ay;by_cases i:x.γ=true/\1<=x.ζ/\x.ζ<=4
 .rw[Wb i];exact h.st (A8 a)
 rw[Wa i];by_cases q:x.ζ=0
 .simp_all [Wb,WwB]
 rw[Wa q];by_cases e:x.ζ=1
 .rw[Wb e];grind [WxJ]
 rw[Wa e];by_cases c:x.ζ=2
 .rw[Wb c];exact h.st (WvA l a c)
 rw[Wa c];by_cases r:x.ζ=3
 .simp_all [Wb,WrW]
 rw[Wa r];by_cases d:x.ζ=4
 .rw[Wb d];exact h.st (Wrh l h a d)
 rw[Wa d];by_cases s:x.ζ=5
 .simp_all [Wb,Wrz]
 rw[Wa s];by_cases f:x.ζ=6
 .rw[Wb f];by_cases o:x.ο.length>0
  .rw[Wb o];grind [MW]
  .rw[Wa o];refine h.st ?_;exact{a with
    ζ:=by simp_all
    C4:=λb=>by simp_all
    comm:=λb=>by simp_all}
 rw[Wa f];by_cases g:x.ζ=7
 .rw[Wb g];have t:GOk {w with holds:=W1 w.holds ((k:Int)+1)}:=⟨h.mem,h.ψ,Pz h.holds⟩;by_cases j:x.CZ=0
  .rw[Wb j];refine⟨?_,h.mem,h.ψ,Pz h.holds,by simp,λ_ b=>.inl b,rfl,rfl⟩;exact{
    ζ:=by simp_all
    CY:=by have:=m.CY;grind
    C4:=λb=>by simp_all
    comm:=λb=>by simp_all
    ο:=λu v=>by cases v
    ul:=by simp
    rg:=by simp
    ord:=by simp}
  .rw[Wa j];have:=Ux (k:=k) t a;exact⟨this.root,this.mem,this.ψ,this.holds,this.δ,this.histE,this.η,this.now⟩
 .rw[Wa g];exact h.st a
theorem WvJ(b:k<w.η.length)(a:w.η[k]=x)(Y:w.η.length<=8)(o:POk p)(h:GOk w)(c:ROk p n x)(Q:n<=200000)(P:w.δ.length<=500000)(f:1048576<N):
  Fv N w.e (k:Int) p=some (((Wo.put (ay w x k p) k).e,()),()):=by
 obtain⟨g1,J,K,L,g5⟩:=woG b a;obtain⟨r0,r1,r2,r3,r4,r5,r6,r7,r8,T,ky,jm,jn,jX,S,lX,lY,kz,kY,lZ,l0,ma⟩:=rtP x;have y:k<=8:=by omega
 have iX:=SA b a;have yw:=c.CY;have Ci:=c.ul;have wq:=Mv h.holds;unfold Fv ay;simp only[Wz];rw[show P5 w.e=w.η.map Rt.e from rfl,L,J,eT (by omega),eT (show 0<=x.e.2.1/\x.e.2.1<=1000000 by omega)];simp(maxSteps:=4000000) only[K,r0,r7,T,S,We,fI,ret,Xd,Bl,WI,gF,show w.e.2.2.1.1=w.mem.1 from rfl,Wh,show P4 w.e=w.holds from rfl];rw[ZR h.holds (by omega) f];simp only[ret,Xd];have v:S4 (W1 w.holds ((k:Int)+1)) w.e=Wo.e {w with holds:=W1 w.holds ((k:Int)+1)}:=rfl;have E:S5 (Xk (w.η.map Rt.e) (Xa (k:Int)) x.e) (S4 (W1 w.holds ((k:Int)+1)) w.e)=Wo.e {w with holds:=W1 w.holds ((k:Int)+1)}:=(woG (w:={w with holds:=W1 w.holds ((k:Int)+1)}) b a).2.2.1;rw[E,Uc (w:={w with holds:=W1 w.holds ((k:Int)+1)}) b a (by omega),WvE b a Y f];have R:∀(A:Option ((Y_World×Unit)×Unit)),A=some (((Wo.put (
   if x.ζ=0 then il w x k else
   if x.ζ=1 then aT w x k p else
   if x.ζ=2 then(w,eD x)else
   if x.ζ=3 then hV w x else
   if x.ζ=4 then(w,ez w x)else
   if x.ζ=5 then ei w x k else
   if x.ζ=6 then(if x.ο.length>0 then dO w x else(w,{x with ζ:=7}))else
   if x.ζ=7 then
    (if x.CZ=0 then({w with holds:=W1 w.holds ((k:Int)+1)},{CY:=x.CY+1})
     else eU {w with holds:=W1 w.holds ((k:Int)+1)} x k)
   else(w,x)) k).e,()),())->¬(x.γ=true/\1<=x.ζ/\x.ζ<=4)->A=some (((Wo.put (
   if x.γ=true/\1<=x.ζ/\x.ζ<=4 then(w,de x)else
   if x.ζ=0 then il w x k else
   if x.ζ=1 then aT w x k p else
   if x.ζ=2 then(w,eD x)else
   if x.ζ=3 then hV w x else
   if x.ζ=4 then(w,ez w x)else
   if x.ζ=5 then ei w x k else
   if x.ζ=6 then(if x.ο.length>0 then dO w x else(w,{x with ζ:=7}))else
   if x.ζ=7 then
    (if x.CZ=0 then({w with holds:=W1 w.holds ((k:Int)+1)},{CY:=x.CY+1})
     else eU {w with holds:=W1 w.holds ((k:Int)+1)} x k)
   else(w,x)) k).e,()),()):=λA hA Q=>by grind
 have uV:(if x.ζ=0 then(some (((Wo.put (il w x k) k).e,()),()):Option ((Y_World×Unit)×Unit)).bind (λU=>some ((U.1.1,()),()))
   else if x.ζ=1 then(FD N w.e (k:Int) p).bind (λV=>some ((V.1.1,()),()))
   else if x.ζ=2 then(FE N x.e).bind (λW=>some ((S5 (Xk (w.η.map Rt.e) (Xa (k:Int)) W.1.1) w.e,()),()))
   else if x.ζ=3 then(Cd N x.e).bind (λX=>if(x.ο.length:Int)>X.2.1.2.2.2 then(uQ N w.e (Xa (k:Int))).bind (λG=>some ((G.1.1,()),()))else some ((S5 (Xk (w.η.map Rt.e) (Xa (k:Int)) (S6 0 (S5 w.mem.1 (S0 4 x.e)))) w.e,()),()))
   else if x.ζ=4 then(Fo N w.e (Xa (k:Int))).bind (λM=>some ((M.1.1,()),()))
   else if x.ζ=5 then(Fp N w.e (k:Int)).bind (λH=>some ((H.1.1,()),()))
   else if x.ζ=6 then(if(x.ο.length:Int)>0 then(uQ N w.e (Xa (k:Int))).bind (λI=>some ((I.1.1,()),()))else some ((S5 (Xk (w.η.map Rt.e) (Xa (k:Int)) (7,x.e.2)) w.e,()),()))
   else if x.ζ=7 then(if x.CZ=0 then some ((S5 (Xk (w.η.map Rt.e) (Xa (k:Int)) ((0:Int),(x.e.2.1+1,((0:Int),((0:Int),((0:Int),((0:Int),((0:Int),((0:Int),((0:Int),((0:Int),((0:Int),(false,(([]:List Int),(([]:List Ke),(([]:List Ke),(([]:List Kl),(([]:List Kb),(([]:List Int),(false,(((0:Int),((0:Int),((0:Int),(0:Int)))),(((0:Int),((0:Int),((0:Int),((0:Int),((0:Int),(([]:List Ke),([]:List Int))))))),d_Family)))))))))))))))))))))) (S4 (W1 w.holds ((k:Int)+1)) w.e),()),())else(some (((Wo.put (eU {w with holds:=W1 w.holds ((k:Int)+1)} x k) k).e,()),()):Option ((Y_World×Unit)×Unit)).bind (λZ=>some ((Z.1.1,()),())))
   else some ((w.e,()),()))=some (((Wo.put (
   if x.ζ=0 then il w x k else
   if x.ζ=1 then aT w x k p else
   if x.ζ=2 then(w,eD x)else
   if x.ζ=3 then hV w x else
   if x.ζ=4 then(w,ez w x)else
   if x.ζ=5 then ei w x k else
   if x.ζ=6 then(if x.ο.length>0 then dO w x else(w,{x with ζ:=7}))else
   if x.ζ=7 then
    (if x.CZ=0 then({w with holds:=W1 w.holds ((k:Int)+1)},{CY:=x.CY+1})
     else eU {w with holds:=W1 w.holds ((k:Int)+1)} x k)
   else(w,x)) k).e,()),()):=by
  rw[Xi];by_cases z:x.ζ=0
  .simp_all
  .rw[Wa z,Wa z];by_cases s:x.ζ=1
   .rw[Wb s,Wb s,Wx6 b a y o (c.C4 (by omega)) c.ο h.mem h.ψ h.holds f];rfl
   .rw[Wa s,Wa s];by_cases i:x.ζ=2
    .rw[Wb i,Wb i,WwG o (c.C4 (by omega)) i f];exact bb rfl rfl rfl
    .rw[Wa i,Wa i];by_cases g:x.ζ=3
     .have hl:=c.C4 (by omega);obtain⟨z1,z2,z3,z4,z5,z6⟩:=hl.sz o.θ;rw[Wb g,Wb g,Rg (hl.back (.inl g)) (by omega)];simp only[Xd];have F:=(hl.mk24 o.θ (hl.back (.inl g)));obtain⟨m,q,e1,e2,_,_,_,_,_,_,_,_,_,oL⟩:=F;unfold hV;by_cases d:(x.ο.length:Int)>x.last.2.2.2.1
      .rw[Wb d,Wb d,MN b a (by omega) (by omega) c.ο h.ψ f];rfl
      .rw[Wa d,Wa d];exact bb rfl rfl rfl
     .rw[Wa g,Wa g];by_cases j:x.ζ=4
      .rw[Wb j,Wb j,Wr6 b a o (c.C4 (by omega)) j h.mem];rfl
      .rw[Wa j,Wa j];by_cases l:x.ζ=5
       .rw[Wb l,Wb l,Wrf b a y (c.comm l) h.mem P f];rfl
       .rw[Wa l,Wa l];by_cases t:x.ζ=6
        .rw[Wb t,Wb t];by_cases D:x.ο.length>0
         .rw[Wb (by omega),Wb D,MN b a (by omega) (by omega) c.ο h.ψ f];rfl
         .rw[Wa (by omega),Wa D];exact bb rfl rfl rfl
        .rw[Wa t,Wa t];by_cases B:x.ζ=7
         .rw[Wb B,Wb B];by_cases u:x.CZ=0
          .rw[Wb u,Wb u,v];exact bb (w:=w) (w':={w with holds:=W1 w.holds ((k:Int)+1)}) (x':={CY:=x.CY+1}) rfl rfl rfl
          .rw[Wa u,Wa u];rfl
         simp_all
 rw[GQ];by_cases C:x.γ=true
 .rw[Wb C];by_cases r:1<=x.ζ/\x.ζ<=4
  .rw[Wf r.1,Wf r.2,Wb (show x.γ=true/\1<=x.ζ/\x.ζ<=4 from⟨C,r⟩),Xi];exact bb rfl rfl rfl
  .have hb:(decide (1<=x.ζ)&&decide (x.ζ<=4))=false:=by
    rw[VS,Wy,Wy];omega
   rw[hb];exact R _ uV (λO=>r O.2)
 grind
end
end
section
noncomputable def gW(p:Pg):Bool:=p.2.all dz&&(kt p.1&&(decide (p.2.length<=3)&&beq (p.1.any λo=>o.1==11) (decide (p.2.length>0))))
noncomputable def dQ(s:Sc):Bool:=qy s.1&&(decide (s.2.1.length<=4)&&(decide (s.2.2.length<=400)&&s.2.1.all gW))
structure PB(p:Pg):Prop where
 θ:p.1.length<=1000
 π:p.2.length<=1000
 each:∀c∈p.2,c.length<=1000
structure SB(s:Sc):Prop where
 ω:s.1.1.length<=100
 map:s.1.2.1.length<=100
 progs:s.2.1.length<=100
 each:∀p∈s.2.1,PB p
 acts:s.2.2.length<=1000
variable{N:Nat}{s:Sc}{p:Pg}{w:Wo}{n:Int}{a:Ac}
theorem Tu(h:gW p=true):POk p:=by
 unfold gW at h;simp only[Xj,cq,Wg]at h;exact⟨VO h.2.1,λc a=>ZI (h.1 c a),h.2.2.1⟩
theorem p4(h:dQ s=true):ThOk s.1/\s.2.1.length<=4/\s.2.2.length<=400/\∀p∈s.2.1,POk p:=by
 simp_all [dQ,Xj,cq,Wg,G7,Tu]
theorem Nf{α:Type}(l:List α)(k:Nat):decide ((Wh l)<=(k:Int))=decide (l.length<=k):=by
 simp[Wh,Wf,Wl]
theorem El{α:Type}(l:List α)(k:Nat):decide ((Wh l)>(k:Int))=decide (l.length>k):=by
 simp[Wh,Wf,Wl]
theorem LY(l k:Nat):decide (l>k)= !decide (l<=k):=by
 grind
theorem WnH{l:List Opn}(h:l.length<=1048576)(g:1048576<N):Df N l=ret (l.any λo=>o.1==11):=by
 unfold Df Ot Zy;have c:=Ek (l:=l) (p:=λo=>o.1==11) (N:=N) (lp:=λn j=>Zm N l (λb=>(some ((),(b,())))) (λd e=>(some ((),((-1:Int),())))) n j) (K0:=λj=>some ((),(j,()))) (K1:=some ((),((-1:Int),()))) (by omega) (by omega)
  (λn j a=>by
   simp only[Zm,WQ a,Ws a,Wu a,Wk (show j<4611686018427387904 by omega),We,OC,Xd])
  (λn=>by simp[Zm,W6,Xl,Wc])
 rw[c];have f:=Hq (p:=λo:Opn=>o.1==11) l 0;cases hf:fnd (λo:Opn=>o.1==11) l 0 with
 |some r=>
  simp_all
 |none=>
  grind
theorem Wn1(h:PB p)(c:1048576<N):Dn N p=ret (gW p):=by
 have q:=h.θ;have r:=h.π;unfold Dn gW;have e:=WH (l:=p.2) (V:=Unit) (R:=Unit×Ks) (lp:=λn j v=>yh N p.2 p (some ((),(false,()))) (λg m=>
  ((pq N p.1).bind λa=>
 (bif a.2.1 then
 (bif decide ((Wh p.2)<=(3:Int))then
 ((Df N p.1).bind λb=>
 (some ((),(beq b.2.1 (decide ((Wh p.2)>(0:Int))),()))))
 else
 (some ((),(false,()))))
 else
 (some ((),(false,())))))) n j) (n:=N) (by omega)
  (body:=λj x v k=>(zi N x).bind λo=>bif !o.2.1 then some ((),(false,()))else k v) (K:=λ_ v=>((pq N p.1).bind λa=>
 (bif a.2.1 then
 (bif decide ((Wh p.2)<=(3:Int))then
 ((Df N p.1).bind λb=>
 (some ((),(beq b.2.1 (decide ((Wh p.2)>(0:Int))),()))))
 else
 (some ((),(false,()))))
 else
 (some ((),(false,()))))))
  (λn i v d=>by simp only[yh,WQ d,Ws d,Wu d,Wk (show i<4611686018427387904 by omega),We])
  (λn v=>by simp[yh,W6,Xl,Wc]) ()
 refine e.trans ?_;rw[hQ (p:=λx=>!dz x) (E:=λ_=>some ((),(false,()))) p.2 0 () (λj x v k f=>by rw[Wpd (by have:=h.each x f;omega) c];rfl),jF,PE (by omega) c,WnH (by omega) c];simp only[ret,Xd];rw[show(3:Int)=((3:Nat):Int)from rfl,Nf,show(0:Int)=((0:Nat):Int)from rfl,El];cases p.2.all dz<;>cases kt p.1<;>cases decide (p.2.length<=3)<;>rfl
theorem Ph(h:PB p)(a:1048576<N):vi N p=ret (gW p):=by
 have q:=h.θ;have r:=h.π;unfold vi gW;have f:=WH (l:=p.2) (V:=Unit) (R:=Unit×Ks) (lp:=λn j v=>uP N p (some ((),(false,()))) (λd e=>(some ((),(true,())))) n j) (n:=N) (by omega)
  (body:=λj x v k=>(zh N x).bind λo=>bif !o.2.1 then some ((),(false,()))else k v) (K:=λ_ v=>some ((),(true,())))
  (λn i v c=>by simp only[uP,WQ c,Ws c,Wu c,Wk (show i<4611686018427387904 by omega),We])
  (λn v=>by simp[uP,W6,Xl,Wc]) ()
 have g:uP N p (some ((),(false,()))) (λd e=>(some ((),(true,())))) N 0=ret (p.2.all dz):=by
  refine f.trans ?_;rw[hQ (p:=λx=>!dz x) (E:=λ_=>some ((),(false,()))) p.2 0 () (λj x v k m=>by rw[Wpu (by have:=h.each x m;omega) a];rfl),jF];cases p.2.all dz<;>rfl
 rw[g,Pf (by omega) a,PI (by omega) a];simp only[ret,Xd];rw[show(3:Int)=((3:Nat):Int)from rfl,El,LY,show(0:Int)=((0:Nat):Int)from rfl,El];generalize beq (p.1.any λo=>o.1==11) (decide (p.2.length>0))=b;cases p.2.all dz<;>cases kt p.1<;>cases decide (p.2.length<=3)<;>cases b<;>rfl
theorem FW{t:List Int×List Int×Int}(d:t.1.length<=1048576)(m:t.2.1.length<=1048576)(h:1048576<N):qN N t=ret (qy t):=by
 unfold qN qy sQ;have e:((Wh t.2.1) !=(8:Int))= !decide (t.2.1.length=8):=by
  grind [Wh]
 have f:=WH (l:=t.2.1) (V:=Unit) (R:=Unit×Ks) (lp:=λn j v=>uC N t (some ((),(false,()))) (λb c=>(some ((),(true,())))) n j) (n:=N) (by omega)
  (body:=λj x v k=>bif !(decide (0<=x)&&decide (x<=65536))then some ((),(false,()))else k v) (K:=λ_ v=>some ((),(true,())))
  (λn i v a=>by simp only[uC,WQ a,Ws a,Wu a,Wk (show i<4611686018427387904 by omega),We,ls,ret,Xd])
  (λn v=>by simp[uC,W6,Xl,Wc]) ()
 have g:uC N t (some ((),(false,()))) (λb c=>(some ((),(true,())))) N 0=ret (t.2.1.all λx=>decide (0<=x)&&decide (x<=65536)):=by
  refine f.trans ?_;rw[hQ (p:=λx=>!(decide (0<=x)&&decide (x<=65536))) (E:=λ_=>some ((),(false,()))) t.2.1 0 () (λj x v k _=>rfl),jF];cases t.2.1.all _<;>rfl
 rw[DF d h,e,Av,g];cases la t.1<;>cases decide (t.2.1.length=8)<;>cases cD t.2.2<;>cases t.2.1.all _<;>rfl
theorem La(h:SB s)(b:1048576<N):uY N s=ret (dQ s):=by
 have m:=h.ω;have q:=h.map;have r:=h.progs;unfold uY dQ;have d:=WH (l:=s.2.1) (V:=Unit) (R:=Unit×Ks) (lp:=λn j v=>uD N s (some ((),(false,()))) (λg c=>(some ((),(true,())))) n j) (n:=N) (by omega)
  (body:=λj x v k=>(vi N x).bind λo=>bif !o.2.1 then some ((),(false,()))else k v) (K:=λ_ v=>some ((),(true,())))
  (λn i v a=>by simp only[uD,WQ a,Ws a,Wu a,Wk (show i<4611686018427387904 by omega),We])
  (λn v=>by simp[uD,W6,Xl,Wc]) ()
 have e:uD N s (some ((),(false,()))) (λg c=>(some ((),(true,())))) N 0=ret (s.2.1.all gW):=by
  refine d.trans ?_;rw[hQ (p:=λx=>!gW x) (E:=λ_=>some ((),(false,()))) s.2.1 0 () (λj x v k f=>by rw[Ph (h.each x f) b];rfl),jF];cases s.2.1.all gW<;>rfl
 rw[e,FW (by omega) (by omega) b];simp only[ret,Xd];rw[show(4:Int)=((4:Nat):Int)from rfl,El,LY,show(400:Int)=((400:Nat):Int)from rfl,El,LY];cases qy s.1<;>cases decide (s.2.1.length<=4)<;>cases decide (s.2.2.length<=400)<;>rfl
theorem Wks(h:SB s)(d:1048576<N):JM N s=ret (dQ s):=by
 have w:=h.ω;have y:=h.map;have z:=h.progs;unfold JM dQ Oq Zu;have g:=WH (l:=s.2.1) (V:=Unit) (R:=Unit×Kk) (lp:=λn j v=>Zf N s.2.1 (λa=>(some ((),(a,())))) (λe f=>(some ((),((-1:Int),())))) n j) (n:=N) (by omega)
  (body:=λj x v k=>(IQ N x).bind λo=>bif o.2.1 then some ((),(j,()))else k v) (K:=λ_ v=>some ((),((-1:Int),())))
  (λn i v b=>by simp only[Zf,WQ b,Ws b,Wu b,Wk (show i<4611686018427387904 by omega),We])
  (λn v=>by simp[Zf,W6,Xl,Wc]) ()
 have m:((Zf N s.2.1 (λa=>(some ((),(a,())))) (λe f=>(some ((),((-1:Int),())))) N 0).bind λu=>some ((),(decide (u.2.1>=(0:Int)),())))=ret (!s.2.1.all gW):=by
  have q:=g;rw[q,GD (p:=λx=>!gW x) (E:=λj _=>some ((),(j,()))) s.2.1 0 () (λj x v k t=>by unfold IQ;rw[Wn1 (h.each x t) d];rfl)];have c:=Hq (p:=λx=>!gW x) s.2.1 0;rw[jF]at c;rw[←c];cases hf:fnd (λx=>!gW x) s.2.1 0 with
  |some r=>simp_all
  |none=>rfl
 rw[Wku (by omega) (by omega) d];simp only[ret,Xd];rw[m,show(4:Int)=((4:Nat):Int)from rfl,Nf,show(400:Int)=((400:Nat):Int)from rfl,Nf];cases qy s.1<;>cases decide (s.2.1.length<=4)<;>cases decide (s.2.2.length<=400)<;>cases s.2.1.all gW<;>rfl
end
section
variable{N:Nat}{s:Sc}{p:Pg}{w:Wo}{n:Int}{a:Ac}{k:Nat}
theorem HJ{ps:List Pg}(h:∀p∈ps,POk p)(a:k<ps.length):POk (ps.getD k pg0):=by
 grind
theorem WOk.tick(h:WOk s.2.1 n w):WOk s.2.1 (n+1) {w with now:=w.now+1}:=
 {h with now:=by(have:=h.now;simp_all),n0:=by have:=h.n0;omega,δ:=by(have:=h.δ;grind),root:=λk a=>(h.root k a).wk (by omega)}
theorem WOk.putQ{q:Wo×Rt}{w0:Wo}(h:WOk s.2.1 (n+1) {w0 with now:=w0.now+1})(f:(w0.δ.length:Int)<=n)(g:k<w0.η.length)(a:QOk (s.2.1.getD k pg0) (n+1) {w0 with now:=w0.now+1} q):WOk s.2.1 (n+1) (Wo.put q k):=by
 have d:q.1.η=w0.η:=a.η;exact{
  len:=by show(q.1.η.set k q.2).length=_;rw[aK,d];exact h.len
  l4:=h.l4
  progs:=h.progs
  now:=a.now.trans h.now
  n0:=h.n0
  mem:=a.mem
  ψ:=a.ψ
  holds:=a.holds
  histE:=λe b=>(a.histE e b).elim (h.histE e) id
  δ:=by have:=a.δ;show(q.1.δ.length:Int)<=n+1;grind
  root:=λi c=>by
   change i<(q.1.η.set k q.2).length at c;rw[aK,d]at c;show ROk _ _ ((q.1.η.set k q.2)[i]);rw[ex];by_cases b:k=i
   .subst b;rw[Wb rfl];exact a.root
   .rw[Wa b];have:=h.root i c;simp_all}
theorem TC(h:WOk s.2.1 n w):WOk s.2.1 (n+1) (cM s w a):=by
 have c:=h.tick;unfold cM;simp only;split
 .rename_i hb;have b:a.2.1.toNat<w.η.length:=by omega
  have f:=c.root a.2.1.toNat b;have k:=h.root a.2.1.toNat b;have d:GOk {w with now:=w.now+1}:=⟨h.mem,h.ψ,h.holds⟩;have j:=HJ h.progs (show a.2.1.toNat<s.2.1.length by rw[←h.len];exact b);have r:w.η.length<=4:=by rw[h.len];exact h.l4
  rw[Wn b];split
  .unfold m0;rw[Wn (show a.2.1.toNat<({w with now:=w.now+1}:Wo).η.length from b)];exact c.putQ h.δ b (D9 j d k (by omega) h.n0)
  .split
   .split
    .rename_i hf;refine c.putQ h.δ b (d.st ?_);have i:=k.C4 (by omega);obtain⟨o,p,g⟩:=i.fork hf.1;have e:a.2.2.toNat<(s.2.1.getD a.2.1.toNat pg0).2.length:=by omega
     have m:a.2.2.toNat<w.η[a.2.1.toNat].fam.π.length:=by rw[g.len];exact e
     have l:KC ((s.2.1.getD a.2.1.toNat pg0).2.getD a.2.2.toNat []):=by rw[Wn e];exact j.π _ (Xo e)
     exact{f with C4:=λ_=>{i.wk (show n<=n+1 by omega)with fork:=λ_=>⟨o,p,Sv m h.mem l g rfl⟩}}
    .exact c
   .split
    .split
     .refine c.putQ h.δ b (d.st ?_);exact{f with C4:=λq=>{f.C4 q with}}
     .exact c
    .exact c
 .exact c
theorem Wyk(h:WOk s.2.1 n w)(V:n<=99999)(t:1048576<N):IE N w.e s a=some (((cM s w a).e,()),()):=by
 have W:=h.tick;have rh:=h.now;have pK:=h.n0;have oM:w.η.length<=4:=by rw[h.len];exact h.l4
 unfold IE cM;simp only[Wz];rw[show P5 w.e=w.η.map Rt.e from rfl,show w.e.1=w.now from rfl,eT (by omega)];have D:Wh (w.η.map Rt.e)=(w.η.length:Int):=by unfold Wh;simp
 rw[D,dZ (by unfold I64;omega)];simp only[fI,ret,Xd];by_cases l:0<=a.2.1/\a.2.1<w.η.length
 .rw[Wb l,Wf l.1,Wf (show a.2.1<=(w.η.length:Int) -1 by omega)];obtain⟨k,A⟩:∃k:Nat,a.2.1=k:=⟨a.2.1.toNat,by omega⟩;have c:k<w.η.length:=by omega
  obtain⟨x,b⟩:∃x,w.η[k]=x:=⟨_,rfl⟩;have o:=h.root k c;rw[b]at o;have z:k<s.2.1.length:=by rw[←h.len];exact c
  have g:=HJ h.progs z;obtain⟨G,S,T,H,U⟩:=woG c b;obtain⟨M,r1,r2,r3,r4,r5,r6,r7,r8,kX,ky,Z,jn,X,Y,lX,lY,L,K,lZ,l0,ma⟩:=rtP x;have v:∀y:Rt,(w.now+1,S4 (Xk (w.η.map Rt.e) k y.e) w.e.2)=Wo.e (Wo.put ({w with now:=w.now+1},y) k):=λy=>by
   unfold Wo.put Wo.e;simp only[List.map_set];rfl
  have F:Wo.put ({w with now:=w.now+1},x) k={w with now:=w.now+1}:=by unfold Wo.put;simp only;rw[←b,List.set_getElem_self]
  simp only[A,Xi,hL,Xr,Wc];rw[G,H,Wn c,b];simp only[We,M,L,K,v,F,show w.e.2.2.1=w.mem from rfl];rw[dc,Wf z];have B:List.getD s.2.1 k (([]:List Ka),([]:List Kae))=s.2.1.getD k pg0:=rfl;rw[B];generalize nd:s.2.1.getD k pg0=p at*;have J:GOk {w with now:=w.now+1}:=⟨h.mem,h.ψ,h.holds⟩;simp only[We,WI];have C:Fv N (Wo.e {w with now:=w.now+1}) (k:Int) p=some (((Wo.put (ay {w with now:=w.now+1} x k p) k).e,()),()):=
   WvJ (w:={w with now:=w.now+1}) c b (by grind) g J o (by omega) (by have:=h.δ;grind) t
  rw[C];by_cases q:a.1=1
  .simp_all [Wb,m0,Wn,Xd]
  .rw[Wa q,Wa q];by_cases f:a.1=2
   .rw[Wb f,Wb f];by_cases m:x.ζ=2
    .rw[Wb m,dZ (by have:=g.k3;unfold I64 Wh;omega),show Wh p.2=(p.2.length:Int)from rfl];by_cases u:0<=a.2.2/\a.2.2<p.2.length
     .rw[Wf u.1,Wf (show a.2.2<=(p.2.length:Int) -1 by omega),Wb (show x.ζ=2/\0<=a.2.2/\a.2.2<p.2.length from⟨m,u⟩)];obtain⟨j,O⟩:∃j:Nat,a.2.2=j:=⟨a.2.2.toNat,by omega⟩;have d:j<p.2.length:=by omega
      simp only[O,Xi,hL,We];rw[dc,Wf d];obtain⟨Q,R,i⟩:=(o.C4 (by omega)).fork m;have E:KC (p.2.getD j []):=by rw[Wn d];exact g.π _ (Xo d)
      rw[WlA (θ:=p.2.getD j []) (by rw[i.len];exact d) (by rw[i.len];exact g.k3) h.mem E i rfl (by omega) t];simp only[Xd,We];have:U21 (bJ w.mem x.fam j (p.2.getD j [])).e x.e=Rt.e {x with fam:=bJ w.mem x.fam j (p.2.getD j [])}:=rfl
      grind [KY]
     grind
    simp_all
   .rw[Wa f,Wa f];by_cases r:a.1=3
    .rw[Wb r,Wb r];have I:S11 true x.e=Rt.e {x with γ:=true}:=rfl;simp only[I,v,show(Cm.e x.cm).2.2.1=x.cm.ζ from rfl,gF]
     grind
    simp_all
 .rw[Wa l];have P:(decide (0<=a.2.1)&&decide (a.2.1<=(w.η.length:Int) -1))=false:=by
   rw[VS,Wy,Wy];omega
  rw[P];rfl
theorem Uz(h:dQ s=true):WOk s.2.1 0 (bo s):=by
 obtain⟨b,c,i,d⟩:=p4 h;exact{
  len:=by simp[bo]
  l4:=c
  progs:=d
  now:=rfl
  n0:=aj _
  mem:=by
   show aq (BD s.1.1)=true;have:=b.ω.len;unfold aq BD;simp only[Xy,this,decide_true,Bool.true_and,Xj,Wg,cq];refine⟨by omega,λw g=>?_⟩;obtain⟨v,f,rfl⟩:=Xz.1 g;have:=b.ω.val v f;rw[mR];unfold wd0;simp only;omega
  ψ:=⟨WuP b.map.1 b.map.2,b.cnt⟩
  holds:=⟨(λh a=>by cases a),List.Pairwise.nil⟩
  δ:=by simp[bo]
  histE:=λh a=>by cases a
  root:=λk j=>by
   simp only[bo,kw];exact{
    ζ:=by simp
    CY:=by simp
    C4:=λa=>by simp at a
    comm:=λa=>by simp at a
    ο:=λu e=>by cases e
    ul:=by simp
    rg:=by simp
    ord:=by simp}}
theorem WxI{R:Type}{K0:Int->Bool->Int->Int->Int->Int->Kw->Kj->Kw->(List Y_Root)->(List Kr)->Option R}(l:s.2.2.length<=1000)(c:1048576<N):
  ∀(d j n:Nat) (m:Int) (w:Wo),j+d=s.2.2.length->d<n->WOk s.2.1 m w->m+d<=90000->
  mD N s.2.2 s K0 n (j:Int) w.now w.C6 w.mem.1 w.ψ.2 w.mem.2 w.ψ.1 w.holds (w.η.map Rt.e) w.δ=
   (λv:Wo=>K0 (s.2.2.length:Int) false v.now v.C6 v.mem.1 v.ψ.2 v.mem.2 v.ψ.1 v.holds (v.η.map Rt.e) v.δ) ((s.2.2.drop j).foldl (cM s) w):=by
 intro d
 induction d with
 |zero=>
  intro j n m w f i h g;obtain⟨n,rfl⟩:∃b,n=b+1:=⟨n-1,by omega⟩;have:j=s.2.2.length:=by omega
  subst this;simp only[mD,W6 (Xl _),Wc,oS,List.foldl_nil]
 |succ d ih=>
  intro j n m w f i h g;obtain⟨n,rfl⟩:∃b,n=b+1:=⟨n-1,by omega⟩;have a:j<s.2.2.length:=by omega
  have k:(w.now,(w.C6,((w.mem.1,w.mem.2),((w.ψ.1,w.ψ.2),(w.holds,(w.η.map Rt.e,w.δ))))))=w.e:=rfl;simp only[mD,WQ a,Ws a,Wu a,Wk (show j<4611686018427387904 by omega),We,k];rw[Wyk h (by omega) c,List.drop_eq_getElem_cons a,cP];exact ih (j+1) n (m+1) _ (by omega) (by omega) (TC h) (by omega)
theorem Sf(c:SB s)(a:1048576<N):nN N s=ret (if dQ s=true then(BL s).e else d_World):=by
 unfold nN;rw[Wks c a];simp only[ret,Xd];cases hs:dQ s with
 |false=>rfl
 |true=>
  obtain⟨b,r,t,u⟩:=p4 hs;have g:=Uz hs;have h:=Nn s.2.1 (by omega);simp only[Xr,Wc,ep];rw[ZP b.map.1 b.map.2 a,Wkd (pV.2 b.ω) a];simp only[ret,Xd,h,We,D0];have d:=WxI (s:=s) (N:=N) (K0:=λv w k l m n i o p q j=>(some ((),((k,(l,((m,i),((o,n),(p,(q,j)))))),())):Option (Unit×(Y_World×Unit)))) (by have:=c.acts;omega) a s.2.2.length 0 N 0 (bo s) (by omega) (by omega) g (by omega);rw[Lv];have f:((bo s).η.map Rt.e)=List.replicate s.2.1.length d_Root:=by
   unfold bo;simp only[List.map_replicate];rfl
  rw[f]at d;refine d.trans ?_;rw[List.drop_zero];rfl
end
section
section
variable{N:Nat}{c:Cur}
theorem Lz{j:Int}{g:List Int}(f:g.length=8):∀(n i:Nat) (c:Cur) (l:List Int),8-i<n->i<=8->bd c->l.length=i->
  Drw (λv:Kh×Unit=>v.1.1.length=8/\v.1.2.1.length=8) (x5 N j g (λr q m k=>(some ((m,()),((g,(k,j)),())))) n (i:Int) c l)
 |0,i,c,l,h,_,_,_=>by omega
 |n+1,i,c,l,h,o,a,hl=>by
  unfold x5;refine .bif (λd=>?_) λd=>.ok a ⟨f,?_⟩
  .have d:(i:Int)<8:=Wx d;have e:Wm .i64 (i:Int) 1=((i+1:Nat):Int):=Wk (by omega);simp only[e];refine(gm 2 a).bind λc b a _=>.bif (λ_=>?_) λ_=>?_
   .exact(Ib a).bind λc v a p=>.bifT (Ww (by simp;omega)) (Lz f n (i+1) c _ (by omega) (by omega) a (by simp[cU];omega))
   .exact .bifT (Ww (by simp;omega)) (Lz f n (i+1) c _ (by omega) (by omega) a (by simp[cU];omega))
  .have d:¬(i:Int)<8:=of_decide_eq_false d;simp only;omega
theorem Um(b:1048576<N)(a:bd c):Drw (λv:Kh×Unit=>v.1.1.length=8/\v.1.2.1.length=8) (yU N c):=by
 unfold yU;exact(ZM b a).bind λc v a d=>(Ib a).bind λc w a e=>Lz d N 0 c [] (by omega) (by omega) a rfl
theorem Wrq(e:1048576<N)(a:bd c):Drw (λv:Kh×Unit=>v.1.1.length<=100/\v.1.2.1.length<=100) (Is N c):=by
 unfold Is;refine(Um e a).bind λc t a d=>(cZ 16 a).bind λc v a f=>.bif (λ_=>?_) λ_=>.bif (λ_=>?_) λ_=>.bif (λ_=>.ok a (by simp only;omega)) λ_=>.bif (λ_=>?_) λ_=>.bif (λ_=>?_) λ_=>.ok a (by simp only;omega)
 .refine .bifT (by rw[d.1];rfl) (.ok a ?_);simp only[di];omega
 .refine(cZ 8 a).bind λc k a b=>?_;have b:=b.2 (by decide);refine .bifT (by unfold inb;rw[d.2];simp;omega) (.ok a ?_);simp only[aK];omega
 .refine .bifT (by rw[d.2];rfl) (.ok a ?_);simp only[di];omega
 .refine(cZ 8 a).bind λc k a b=>?_;have b:=b.2 (by decide);refine .bifT (by unfold inb;rw[d.1];simp;omega) (.ok a ?_);simp only[aK];omega
theorem NY{p:Pg}(h:p.1.length<=300/\p.2.length<=100/\∀x∈p.2,x.length<=200):PB p:=⟨by omega,by omega,λx a=>by have:=h.2.2 x a;omega⟩
theorem Wwo(g:1048576<N)(a:bd c):Drw (λv:Pg×Unit=>PB v.1) (IC N c):=by
 unfold IC;refine(gm 2 a).bind λc b a _=>(VB g a).bind λc p a d=>(cZ 10 a).bind λc v a l=>.bif (λ_=>?_) λ_=>.bif (λ_=>.bif (λf=>?_) λ_=>.ok a (NY d)) λ_=>.bif (λ_=>?_) λ_=>.bif (λ_=>.ok a ⟨by have:=d.1;simp only;omega,by simp,by simp⟩) λ_=>.ok a (NY d)
 .exact(VH g a (by have:=d.1;simp only;omega)).bind λc w a j=>.ok a ⟨by simp only;omega,by have:=d.2.1;simp only;omega,λx e=>by have:=d.2.2 x e;omega⟩
 .have f:Wh p.1.2>0:=Wx f;refine(cZ (Wh p.1.2) a).bind λc k a h=>?_;have h:=h.2 f;unfold Wh at h;have i:inb k.1 p.1.2.length=true:=by unfold inb;simp;omega
  refine .bifT i ((VH g a ?_).bind λc w a j=>.bifT i (.ok a ⟨by have:=d.1;simp only;omega,by have:=d.2.1;simp only[aK];omega,λx e=>?_⟩))
  .rw[Wn (show k.1.toNat<p.1.2.length by omega)];have:=d.2.2 _ (Xo (show k.1.toNat<p.1.2.length by omega));omega
  .rcases VT e with e|e
   .have:=d.2.2 x e;omega
   .subst e;show w.1.length<=1000;omega
 .refine .bifT (Ww (by have:=d.2.1;simp;omega)) (.ok a ⟨by have:=d.1;simp only;omega,by have:=d.2.1;simp[cU];omega,λx e=>?_⟩);simp[cU]at e;rcases e with e|e
  .have:=d.2.2 x e;omega
  .subst e;simp
theorem Sl{q ba:Int}(s:ba<=600):∀(n i:Nat) (who:Int) (c:Cur) (l:List Ac),1000-i<n->i<=700->bd c->l.length=i->
  Drw (λv:List Ac×Unit=>v.1.length<=700) (Zw N q ba (λt u r o p=>(some ((o,()),(p,())))) n who (i:Int) c l)
 |0,i,who,c,l,h,_,_,_=>by omega
 |n+1,i,who,c,l,h,w,d,hl=>by
  unfold Zw;refine .bif (λm=>?_) λm=>.ok d (by simp only;omega);have m:(i:Int)<ba:=Wx m;have e:Wm .i64 (i:Int) 1=((i+1:Nat):Int):=Wk (by omega);simp only[e];have g:∀(a:Ac),WC (l.length+ [a].length)=true:=λa=>Ww (by simp;omega);have f:∀(who:Int) (c:Cur) (a:Ac),bd c->Drw (λv:List Ac×Unit=>v.1.length<=700) (Zw N q ba (λt u r o p=>(some ((o,()),(p,())))) n who ((i+1:Nat):Int) c (List.append l [a])):=λwho c a d=>Sl s n (i+1) who c _ (by omega) (by omega) d (by simp[cU];omega);refine(gm 3 d).bind λc b d _=>.bif (λ_=>?_) λ_=>?_
  .refine(cZ q d).bind λc k d _=>(gm 2 d).bind λc b d _=>.bif (λ_=>?_) λ_=>?_
   .refine(cZ 3 d).bind λc j d _=>(gm 2 d).bind λc b d _=>.bif (λ_=>?_) λ_=>?_
    .exact(gm 40 d).bind λc b d _=>.bif (λ_=>.bifT (g _) (f _ _ _ d)) λ_=>.bifT (g _) (f _ _ _ d)
    .exact(gm 40 d).bind λc b d _=>.bif (λ_=>.bifT (g _) (f _ _ _ d)) λ_=>.bifT (g _) (f _ _ _ d)
   .exact(gm 40 d).bind λc b d _=>.bif (λ_=>.bifT (g _) (f _ _ _ d)) λ_=>.bifT (g _) (f _ _ _ d)
  .refine(gm 2 d).bind λc b d _=>.bif (λ_=>?_) λ_=>?_
   .refine(cZ 3 d).bind λc j d _=>(gm 2 d).bind λc b d _=>.bif (λ_=>?_) λ_=>?_
    .exact(gm 40 d).bind λc b d _=>.bif (λ_=>.bifT (g _) (f _ _ _ d)) λ_=>.bifT (g _) (f _ _ _ d)
    .exact(gm 40 d).bind λc b d _=>.bif (λ_=>.bifT (g _) (f _ _ _ d)) λ_=>.bifT (g _) (f _ _ _ d)
   .exact(gm 40 d).bind λc b d _=>.bif (λ_=>.bifT (g _) (f _ _ _ d)) λ_=>.bifT (g _) (f _ _ _ d)
theorem ZG(e:1048576<N){d ba:Int}(b:ba<=600)(a:bd c):Drw (λv:List Ac×Unit=>v.1.length<=700) (zb N c d ba):=by
 unfold zb;exact Sl b N 0 0 c [] (by omega) (by omega) a rfl
structure SD(s:Sc):Prop where
 ω:s.1.1.length=8
 map:s.1.2.1.length=8
 progs:1<=s.2.1.length/\s.2.1.length<=10
 each:∀p∈s.2.1,PB p
 acts:s.2.2.length<=700
theorem QG(r:1048576<N){n8 s f:Int}{m o:List Int}(E:0<=f/\f<=500)(y:m.length=8)(z:o.length=8)(C:1<=n8/\n8<=4):∀(n i:Nat) (c:Cur) (l:List Pg),10-i<n->i<=4->bd c->l.length=i->(∀p∈l,PB p)->
  Drw (λv:Sc×Unit=>SD v.1) (uw N 0 f n8 s m o (λI J A B=>
  ((Zb N A (Wm .i64 f (1:Int))).bind λw=>
 ((zb N w.1.1 n8 w.2.1).bind λx=>
 (some ((x.1.1,()),(((m,(o,s)),(B,x.2.1)),())))))) n (i:Int) c l)
 |0,i,c,l,h,_,_,_,_=>by omega
 |n+1,i,c,l,h,G,d,H,u=>by
  unfold uw;refine .bif (λj=>?_) λj=>?_
  .have j:(i:Int)<n8:=Wx j;have e:Wm .i64 (i:Int) 1=((i+1:Nat):Int):=Wk (by omega);simp only[e,show((0:Int)==2)=false from rfl,show((0:Int)==0)=true from rfl,Wc,We];refine(gm 3 d).bind λc b d _=>(VB r d).bind λc p d F=>.bifT (Ww (by simp;omega)) (QG r E y z C n (i+1) c _ (by omega) (by omega) d (by simp[cU];omega) λq g=>?_);simp[cU]at g;rcases g with g|g
   .exact u q g
   .subst g;exact NY F
  .have j:¬(i:Int)<n8:=of_decide_eq_false j;have e:Wm .i64 f 1=f+1:=WE (by unfold I64;omega);simp only[e];refine(cZ (f+1) d).bind λc k d t=>?_;have t:=t.2 (by omega);refine(ZG (ba:=k.1) r (by omega) d).bind λc a d D=>.ok d ⟨y,z,by simp only;omega,u,D⟩
theorem WxM(b:1048576<N){most:Int}(g:0<=most/\most<=500)(a:bd c):Drw (λv:Sc×Unit=>SD v.1) (Cy N c 0 most):=by
 unfold Cy;refine(Um b a).bind λc t a f=>(cZ 4 a).bind λc k a d=>?_;have d:=d.2 (by decide);have e:Wm .i64 1 k.1=1+k.1:=WE (by unfold I64;omega);simp only[e];exact QG b g f.1 f.2 (by omega) N 0 c [] (by omega) (by omega) a rfl (by simp)
theorem SD.sb{s:Sc}(h:SD s):SB s:=⟨by have:=h.ω;omega,by have:=h.map;omega,by have:=h.progs;omega,h.each,by have:=h.acts;omega⟩
theorem Tb{e:Cur}{g:Int}{f d:List Int}{c:List Ac}(i:bd e)(m:f.length=8)(o:d.length=8)(r:c.length<=700):∀(n:Nat) (l:List Pg),20-l.length<n->l.length<=11->(∀p∈l,PB p)->
  Drw (λv:Sc×Unit=>SB v.1) (Cn N e g f d c (λs k=>(some ((e,()),(((f,(d,g)),(k,c)),())))) n l)
 |0,l,h,_,_=>by omega
 |n+1,l,h,t,j=>by
  unfold Cn;refine .bif (λb=>?_) λb=>.ok i ⟨by simp only;omega,by simp only;omega,by simp only;omega,j,by simp only;omega⟩;have b:Wh l<5:=Wx b;unfold Wh at b;refine .bifT (Ww (by simp;omega)) (Tb i m o r n _ (by simp[cU];omega) (by simp[cU];omega) λq a=>?_);simp[cU]at a;rcases a with a|a
  .exact j q a
  .subst a;exact⟨by simp,by simp,by simp⟩
theorem Su{d:Int}{aA bz:List Int}{cL:List Pg}(i:aA.length=8)(o:bz.length=8)(j:cL.length<=11)(g:∀p∈cL,PB p):∀(n:Nat) (c:Cur) (l:List Ac),1000-l.length<n->bd c->l.length<=800->
  Drw (λv:Sc×Unit=>SB v.1) (Co N d aA bz cL (λq m k=>(some ((m,()),(((aA,(bz,d)),(cL,k)),())))) n c l)
 |0,c,l,h,_,_=>by omega
 |n+1,c,l,h,b,hl=>by
  unfold Co;refine(cZ 2 b).bind λc v b f=>?_;have f:=f.2 (by decide);have e:Wm .i64 400 v.1=400+v.1:=WE (by unfold I64;omega);simp only[e];refine .bif (λa=>?_) λa=>.ok b ⟨by simp only;omega,by simp only;omega,by simp only;omega,g,by simp only;omega⟩;have a:Wh l<400+v.1:=Wx a;unfold Wh at a;exact .bifT (Ww (by simp;omega)) (Su i o j g n c _ (by simp[cU];omega) b (by simp[cU];omega))
theorem WzO(d:1048576<N){most:Int}(f:0<=most/\most<=500)(a:bd c):Drw (λv:Sc×Unit=>SB v.1) (Dm N c most):=by
 unfold Dm;refine(WxM d f a).bind λc s a hs=>(cZ 30 a).bind λc v a h=>.bif (λ_=>?_) λ_=>.bif (λ_=>?_) λ_=>.bif (λ_=>?_) λ_=>.bif (λ_=>?_) λ_=>.bif (λ_=>?_) λ_=>.ok a hs.sb
 .exact(Wrq d a).bind λc t a e=>.ok a ⟨e.1,e.2,by have:=hs.progs;simp only;omega,hs.each,by have:=hs.acts;simp only;omega⟩
 .refine(Wwo d a).bind λc p a g=>.bifT (by unfold inb;have:=hs.progs;simp;omega) (.ok a ⟨by have:=hs.ω;simp only;omega,by have:=hs.map;simp only;omega,by have:=hs.progs;simp only[aK];omega,λq b=>?_,by have:=hs.acts;simp only;omega⟩);rcases VT b with b|b
  .exact hs.each q b
  .subst b;exact g
 .exact Tb a hs.ω hs.map hs.acts N s.1.2.1 (by omega) (by have:=hs.progs;omega) hs.each
 .exact .bifT (Ww (by have:=hs.acts;simp;omega)) (.ok a ⟨by have:=hs.ω;simp only;omega,by have:=hs.map;simp only;omega,by have:=hs.progs;simp only;omega,hs.each,by have:=hs.acts;simp[cU];omega⟩)
 .exact Su hs.ω hs.map (cL:=s.1.2.1) (by have:=hs.progs;omega) hs.each N c s.1.2.2 (by omega) a (by have:=hs.acts;omega)
theorem Wwl{θ:List Int}(h:θ.length<=1048576):∃v,JV N θ 200=ret v/\0<=v/\v<=200:=by
 unfold JV;have e:gV .i64 (Wh θ) 20=((θ.length/20:Nat):Int):=by
  unfold gV Wh;rw[Int.tdiv_eq_ediv_of_nonneg (by omega),ER (by unfold I64;omega)];omega
 rw[e,WE (by unfold I64;omega),show inz (20:Int)=true from rfl];simp only[We,gF];by_cases h:2+((θ.length/20:Nat):Int)>200
 .rw[Wb h];exact⟨_,rfl,by omega,by omega⟩
 .rw[Wa h];exact⟨_,rfl,by omega,by omega⟩
theorem WnS(a:1048576<N){θ:List Int}(h:θ.length<=1048576):∃s:Sc,JK N θ=ret s/\SB s:=by
 unfold JK;obtain⟨c,g,b⟩:=WvT h a;obtain⟨v,d,j⟩:=Wwl (N:=N) h;have e:Wm .i64 60 v=60+v:=WE (by unfold I64;omega);obtain⟨i,s,f,k,hs⟩:=WzO (most:=60+v) a (by omega) g;simp only[b,d,ret,Xd,e,f];exact⟨_,rfl,hs⟩
end
end
section
def stl(x:Rt):Bool:=decide (x.ζ=8)||((decide (x.ζ=5)&&(decide (x.cm.ζ=4)||decide (x.cm.ζ=5)))||((decide (x.ζ=6)||decide (x.ζ=7))&&decide (x.CZ≠0)))
def Wq(x:Rt):Int:=if stl x=true then(if x.ζ=5 then x.cm.wv else x.Dc)else 0
theorem WM{x:Rt}:stl x=true↔x.ζ=8\/(x.ζ=5/\(x.cm.ζ=4\/x.cm.ζ=5))\/((x.ζ=6\/x.ζ=7)/\x.CZ≠0):=by
 simp[stl,Bool.or_eq_true,Xj,Wg]
structure RX(x:Rt):Prop where
 doom:x.γ=true->(1<=x.ζ/\x.ζ<=4)\/(x.ζ=5/\x.cm.ζ<=3)
 CZ:x.ζ=5->x.CZ≠0
structure Stay(x y:Rt):Prop where
 CY:x.CY<=y.CY
 st:stl x=true->stl y=true/\Wq y=Wq x/\y.CZ=x.CZ/\y.ξ=x.ξ/\y.υ=x.υ
structure RG(w:Wo)(x:Rt)(q:Wo×Rt):Prop where
 doom:q.2.γ=false
 CZ:q.2.ζ=5->q.2.CZ≠0
 CY:q.2.CY=x.CY
 mem:q.1.mem=w.mem
 δ:q.1.δ=w.δ
section
variable{w:Wo}{x y z:Rt}{k:Nat}{p:Pg}{n:Int}{o:Opn}
theorem Stay.refl(x:Rt):Stay x x:=⟨aj _,λh=>⟨h,rfl,rfl,rfl,rfl⟩⟩
theorem Stay.trans(h:Stay x y)(f:Stay y z):Stay x z:=
 ⟨Ol h.CY f.CY,λhs=>by
  obtain⟨a,b,c,d,e⟩:=h.st hs;obtain⟨g,i,c',j,k⟩:=f.st a;simp_all⟩
theorem Stay.un(h:stl x=false)(a:x.CY<=y.CY):Stay x y:=⟨a,λhs=>by simp_all⟩
theorem Lo(a:x.γ=false):(WR x).γ=false/\(WR x).ζ≠5/\(WR x).CY=x.CY:=by
 unfold WR de
 grind
theorem SH(b:x.γ=false){a:Int}(c:a≠0):RG w x (ec w x k a):=by
 unfold ec eU;simp only;generalize (if a=2 then []else x.ι)=ε;split
 .exact⟨rfl,by simp,rfl,rfl,rfl⟩
 .exact⟨b,λ_=>c,rfl,rfl,rfl⟩
theorem Tv(b:x.γ=false)(a:x.ζ≠5):RG w x (dO w x):=⟨b,λh=>Wi h a,rfl,rfl,rfl⟩
theorem Uk(c:x.γ=false)(a:x.ζ≠5):(eS w x o).γ=false/\(eS w x o).ζ≠5/\(eS w x o).CY=x.CY:=by
 unfold eS;cases bm x.ι o.2.2.1 with
 |some v=>simp_all
 |none=>
  simp only;generalize W7 w.mem x.rv _=b;split
  .grind [Lo]
  grind
theorem WvN(b:x.γ=false)(a:x.ζ≠5){θ:List Opn}:RG w x (ig w x k θ):=by
 unfold ig;split
 .grind [SH]
 .split
  .exact Tv b a
  .exact⟨b,λh=>Wi h a,rfl,rfl,rfl⟩
theorem Wv1(d:x.γ=false)(e:x.ζ≠5):RG w x (fM w x k o):=by
 unfold fM;cases hZ w.holds ((k:Int)+1) (W0 o).1 (W0 o).2 with
 |none=>
  obtain⟨a,b,c⟩:=Lo d;exact⟨a,λh=>Wi h b,c,rfl,rfl⟩
 |some hs=>exact⟨d,λh=>Wi h e,rfl,rfl,rfl⟩
theorem Wzm(d:x.γ=false)(e:x.ζ≠5):RG w x (aT w x k p):=by
 unfold aT;split
 .grind [SH]
 .simp only;generalize opN p.1 x.pc=o;split
  .obtain⟨a,b,c⟩:=Uk (w:=w) (o:=o) d e;exact⟨a,λh=>Wi h b,c,rfl,rfl⟩
  .split
   .exact WvN d e
   .split
    .exact⟨d,λh=>by simp_all,rfl,rfl,rfl⟩
    .split
     .exact Wv1 d e
     .repeat' split
      all_goals exact⟨d,λh=>Wi h e,rfl,rfl,rfl⟩
theorem WyO(b:x.γ=false)(a:x.ζ≠5):RG w x (il w x k):=by
 unfold il
 repeat' split
 all_goals first|exact⟨b,λh=>Wi h a,rfl,rfl,rfl⟩|exact⟨rfl,λh=>by simp_all,rfl,rfl,rfl⟩
theorem UG(a:x.γ=false)(b:x.ζ≠5):RG w x (w,eD x):=by
 unfold eD;split
 .exact⟨rfl,λh=>by(change (6:Int)=5 at h;omega),rfl,rfl,rfl⟩
 .split
  .exact⟨a,λh=>by simp_all,rfl,rfl,rfl⟩
  .exact⟨a,λh=>Wi h b,rfl,rfl,rfl⟩
theorem Rj(a:x.γ=false)(b:x.ζ≠5):RG w x (hV w x):=by
 unfold hV;split
 .exact Tv a b
 .exact⟨a,λh=>by simp_all,rfl,rfl,rfl⟩
theorem Rq(a:x.γ=false)(b:x.ζ≠5):RG w x (w,ez w x):=by
 unfold ez;split
 .simp only;split
  .exact⟨rfl,λh=>by(change (6:Int)=5 at h;omega),rfl,rfl,rfl⟩
  .exact⟨a,λh=>Wi h b,rfl,rfl,rfl⟩
 .exact⟨a,λh=>by simp_all,rfl,rfl,rfl⟩
theorem PF(m:Mm)(c:Cm):m.1<=(Wv m c).1.1:=by
 have hs:∀i w,(jg m i w).1=m.1:=λ_ _=>rfl;unfold Wv gK fb qw tick
 grind
structure RS(w:Wo)(x:Rt)(q:Wo×Rt):Prop where
 rx:RX q.2
 stay:Stay x q.2
 C2:w.mem.1<=q.1.mem.1
 δ:∃l,q.1.δ=w.δ++l
theorem RG.rs{q:Wo×Rt}(h:RG w x q)(hs:stl x=false):RS w x q:=⟨⟨(λa=>by rw[h.doom]at a;cases a),h.CZ⟩,Stay.un hs (by rw[h.CY];omega),by rw[h.mem];omega,[],by rw[h.δ];simp⟩
theorem NK(c:Cm):cb c 6=6:=by unfold cb;rw[Wa (by omega),Wa (by omega)]
theorem ND(c:Cm):cb c 5=5:=by unfold cb;rw[Wa (by omega),Wa (by omega)]
theorem Tj{c:Cm}{ph:Int}(h:ph=5\/ph=6):(WB c ph).wv=c.wv/\((WB c ph).ζ=c.ζ\/(WB c ph).ζ=ph):=by
 unfold WB;split
 .refine⟨rfl,.inr ?_⟩;show cb c ph=ph;rcases h with rfl|rfl
  .exact ND c
  .exact NK c
 simp_all
theorem WtP(f:RX x)(e:x.ζ=5):RS w x (ei w x k):=by
 unfold ei;split
 .rename_i a;have s:x.cm.ζ<=3:=by rcases f.doom a with h|h<;>omega
  have j:stl x=false:=by rw[nm,Ne,WM];omega
  split
  .exact⟨⟨(λa=>by cases a),λh=>by(change (6:Int)=5 at h;omega)⟩,Stay.un j (aj _),aj _,[],by simp⟩
  .exact⟨⟨(λa=>by cases a),f.CZ⟩,Stay.un j (aj _),aj _,[],by simp⟩
 .rename_i a;have r:x.γ=false:=by simp_all
  have q:=PF w.mem x.cm;have m:=f.CZ e;simp only;refine⟨?_,?_,q,?_⟩
  .unfold dt de;simp only;split
   .exact⟨(λa=>by cases a),λh=>by simp_all⟩
   .split
    .have b:(if x.CZ=2 then(6:Int)else 7)≠5:=by split<;>omega
     exact⟨(λa=>by simp_all),λh=>Wi h b⟩
    .exact⟨(λa=>by simp_all),λ_=>m⟩
  .have yw:(dt {x with cm:=(Wv w.mem x.cm).2}).CY=x.CY:=by
    grind [dt,de]
   refine⟨by simp_all,λhs=>?_⟩;have n:=WM.1 hs;have o:Wq x=x.cm.wv:=by unfold Wq;rw[Wb hs,Wb e]
   have g:(Wv w.mem x.cm).2.wv=x.cm.wv/\((Wv w.mem x.cm).2.ζ=4\/(Wv w.mem x.cm).2.ζ=5\/(Wv w.mem x.cm).2.ζ=6):=by
    unfold Wv;simp only;have p:=n;rcases(show x.cm.ζ=4\/x.cm.ζ=5 by omega)with d|d
    .rw[Wa (by omega),Wa (by omega),Wa (by omega),Wb d];have:=Tj (c:=x.cm) (ph:=5) (.inl rfl)
     grind
    .rw[Wa (by omega),Wa (by omega),Wa (by omega),Wa (by omega),Wb d];have:=Tj (c:=x.cm) (ph:=6) (.inr rfl);simp_all
   obtain⟨t,u⟩:=g;rw[o];generalize (Wv w.mem x.cm).2=c at*;unfold dt;simp only;rw[Wa (by omega)];by_cases l:c.ζ=6
   .rw[Wb l];have b:(if x.CZ=2 then(6:Int)else 7)=6\/(if x.CZ=2 then(6:Int)else 7)=7:=by split<;>simp
    generalize (if x.CZ=2 then(6:Int)else 7)=ph at*;have i:stl {x with Dc:=c.wv,cm:={},ζ:=ph}=true:=WM.2 (.inr (.inr ⟨b,m⟩));refine⟨i,?_,rfl,rfl,rfl⟩;unfold Wq
    grind
   .rw[Wa l];have i:stl {x with cm:=c}=true:=WM.2 (.inr (.inl ⟨e,by simp_all⟩));refine⟨i,?_,rfl,rfl,rfl⟩;simp_all [Wq,Wb]
  .split
   .simp_all
   simp_all
theorem TL(r:RX x)(y:0<=x.ζ/\x.ζ<=8):RS w x (ay w x k p):=by
 have d:x.ζ<=4->stl x=false:=λh=>by rw[nm,Ne,WM];omega
 unfold ay;by_cases a:x.γ=true/\1<=x.ζ/\x.ζ<=4
 .rw[Wb a];exact⟨⟨(λa=>by cases a),λh=>by(change (6:Int)=5 at h;omega)⟩,Stay.un (d (by omega)) (aj _),aj _,[],by simp⟩
 rw[Wa a];have c:x.ζ≠5->x.γ=false:=λe=>by
  rw[nm];intro h;rcases r.doom h with f|f
  .simp_all
  omega
 by_cases i:x.ζ=0
 .rw[Wb i];exact(WyO (c (by omega)) (by omega)).rs (d (by omega))
 rw[Wa i];by_cases f:x.ζ=1
 .rw[Wb f];exact(Wzm (c (by omega)) (by omega)).rs (d (by omega))
 rw[Wa f];by_cases j:x.ζ=2
 .rw[Wb j];exact(UG (c (by omega)) (by omega)).rs (d (by omega))
 rw[Wa j];by_cases l:x.ζ=3
 .rw[Wb l];exact(Rj (c (by omega)) (by omega)).rs (d (by omega))
 rw[Wa l];by_cases m:x.ζ=4
 .rw[Wb m];exact(Rq (c (by omega)) (by omega)).rs (d (by omega))
 rw[Wa m];by_cases e:x.ζ=5
 .simp_all [Wb,WtP]
 rw[Wa e];have z:=c e;by_cases n:x.ζ=6
 .rw[Wb n];have t:∀g,g≠5->RX {x with ζ:=g}:=λg u=>⟨(λa=>by simp_all),λh=>Wi h u⟩;by_cases s:x.ο.length>0
  .rw[Wb s];refine⟨⟨(λa=>by(change x.γ=true at a;simp_all)),λh=>Wi h e⟩,⟨aj _,λhs=>?_⟩,aj _,[],by simp[dO]⟩;have b:stl (dO w x).2=true:=by
    have:=WM.1 hs;rw[WM];show x.ζ=8\/(x.ζ=5/\_)\/((x.ζ=6\/x.ζ=7)/\x.CZ≠0);omega
   refine⟨b,?_,rfl,rfl,rfl⟩;unfold Wq;rw[Wb b,Wb hs];rfl
  .rw[Wa s];refine⟨t 7 (by omega),⟨aj _,λhs=>?_⟩,aj _,[],by simp⟩;have b:stl {x with ζ:=7}=true:=by
    have:=WM.1 hs;exact WM.2 (.inr (.inr ⟨.inr rfl,by simp_all⟩))
   refine⟨b,?_,rfl,rfl,rfl⟩;unfold Wq;rw[Wb b,Wb hs,Wa e,Wa (by simp_all)]
 rw[Wa n];by_cases o:x.ζ=7
 .rw[Wb o];by_cases q:x.CZ=0
  .rw[Wb q];have v:stl x=false:=by rw[nm,Ne,WM];omega
   exact⟨⟨(λa=>by cases a),λh=>by simp_all⟩,Stay.un v (by grind),aj _,[],by simp⟩
  .rw[Wa q];refine⟨⟨(λa=>by cases a),λh=>by(change (8:Int)=5 at h;omega)⟩,⟨aj _,λhs=>?_⟩,aj _,[],by simp[eU]⟩;have b:stl (eU {w with holds:=W1 w.holds ((k:Int)+1)} x k).2=true:=WM.2 (.inl rfl);refine⟨b,?_,rfl,rfl,rfl⟩;unfold Wq;rw[Wb b,Wb hs,Wa e];rfl
 .rw[Wa o];exact⟨r,Stay.refl x,aj _,[],by simp⟩
end
def WX(w:Wo):Prop:=∀(i:Nat) (h:i<w.η.length),RX w.η[i]
structure WStay(w v:Wo):Prop where
 len:w.η.length=v.η.length
 root:∀(i:Nat) (h:i<w.η.length) (h':i<v.η.length),Stay w.η[i] v.η[i]
 δ:∃l,v.δ=w.δ++l
 C2:w.mem.1<=v.mem.1
section
variable{s:Sc}{w v u:Wo}{n:Int}{a:Ac}{k:Nat}
theorem WStay.trans(h:WStay w v)(c:WStay v u):WStay w u:=by
 obtain⟨l,e⟩:=h.δ;obtain⟨f,d⟩:=c.δ;exact⟨h.len.trans c.len,λi a b=>(h.root i a (by rw[←h.len];exact a)).trans (c.root i (by rw[←h.len];exact a) b),⟨l++f,by rw[d,e,List.append_assoc]⟩,Ol h.C2 c.C2⟩
theorem MG{q:Wo×Rt}{w0:Wo}(g:WX w0)(h:k<w0.η.length)(d:q.1.η=w0.η)(b:RS w0 w0.η[k] q):WX (Wo.put q k)/\WStay w0 (Wo.put q k):=by
 have e:(q.1.η.set k q.2).length=w0.η.length:=by rw[aK,d]
 refine⟨λi c=>?_,e.symm,λi c f=>?_,b.δ,b.C2⟩
 .change i<(q.1.η.set k q.2).length at c;show RX (q.1.η.set k q.2)[i];rw[ex];by_cases a:k=i
  .rw[Wb a];exact b.rx
  .rw[Wa a];simp only[d];exact g i (by omega)
 .have Cq:i<(q.1.η.set k q.2).length:=f;show Stay _ ((q.1.η.set k q.2)[i]'Cq);rw[ex];by_cases a:k=i
  .subst a;rw[Wb rfl];exact b.stay
  simp_all [Wa,Stay.refl]
theorem si(h:WOk s.2.1 n w)(a:k<w.η.length):(ay {w with now:=w.now+1} w.η[k] k (s.2.1.getD k pg0)).1.η=w.η:=
 (D9 (w:={w with now:=w.now+1}) (k:=k) (HJ h.progs (by rw[←h.len];exact a)) ⟨h.mem,h.ψ,h.holds⟩ (h.root k a) (by have:=h.l4;have:=h.len;omega) h.n0).η
theorem Ro(h:WOk s.2.1 n w)(j:WX w):WX (cM s w a)/\WStay w (cM s w a):=by
 have f:WX {w with now:=w.now+1}:=j;have g:WStay w {w with now:=w.now+1}:=⟨rfl,λi h m=>Stay.refl _,⟨[],by simp⟩,aj _⟩;unfold cM;simp only;split
 .rename_i hb;have b:a.2.1.toNat<w.η.length:=by omega
  rw[Wn b];have e:=j _ b;split
  .unfold m0;rw[Wn (show a.2.1.toNat<({w with now:=w.now+1}:Wo).η.length from b)];obtain⟨c,d⟩:=MG (w0:={w with now:=w.now+1}) f b (si h b) (TL e (h.root _ b).ζ);exact⟨c,g.trans d⟩
  .split
   .split
    .rename_i hf;have l:=hf.1;obtain⟨c,d⟩:=MG (w0:={w with now:=w.now+1}) (q:=({w with now:=w.now+1},{w.η[a.2.1.toNat]with fam:=bJ w.mem w.η[a.2.1.toNat].fam a.2.2.toNat ((s.2.1.getD a.2.1.toNat pg0).2.getD a.2.2.toNat [])})) f b rfl
      ⟨⟨e.doom,e.CZ⟩,Stay.un (by simp_all [nm,Ne,WM]) (aj _),aj _,[],by simp⟩
     exact⟨c,g.trans d⟩
    simp_all
   .split
    .split
     .rename_i hf;have k:stl w.η[a.2.1.toNat]=false:=by rw[nm,Ne,WM];omega
      obtain⟨c,d⟩:=MG (w0:={w with now:=w.now+1}) (q:=({w with now:=w.now+1},{w.η[a.2.1.toNat]with γ:=true})) f b rfl
       ⟨⟨λ_=>hf,e.CZ⟩,Stay.un k (aj _),aj _,[],by simp⟩
      exact⟨c,g.trans d⟩
     simp_all
    simp_all
 simp_all
theorem WzZ:WX (bo s):=λi h=>by
 simp only[bo,kw];exact⟨(λa=>by cases a),λh=>by simp_all⟩
end
end
section
def lkA(c:Cm)(j:Nat):Prop:=(c.ζ=1/\(j:Int)<c.pos)\/c.ζ=2\/c.ζ=3\/c.ζ=4\/(c.ζ=5/\c.pos<=j)\/(c.ζ=7/\(j:Int)<=c.pos)
def lkd(c:Cm)(i:Int):Prop:=∃(j:Nat) (h:j<c.χ.length),c.χ[j].1=i/\lkA c j
def C0(m:Mm)(i:Int):Int:=(WA m i).2.2
structure CmLk(m:Mm)(c:Cm):Prop where
 own:∀i,0<=i->i<=7->(C0 m i=c.who↔lkd c i)
 ver:c.ζ=3\/c.ζ=4\/c.ζ=5->c.wv<=m.1/\∀i,lkd c i->(WA m i).2.1<=c.wv
section
variable{m:Mm}{c c':Cm}{i j:Int}{w:Wd}
theorem lH(a:aq m=true)(hi:0<=i/\i<=7)(c:0<=j/\j<=7):WA (jg m i w) j=if j=i then w else WA m j:=by
 have b:=(WP a).1;unfold WA jg d8 ah
 grind
theorem AA(a:c'.χ=c.χ)(h:∀j:Nat,j<c.χ.length->(lkA c' j↔lkA c j)):lkd c' i↔lkd c i:=by
 grind [lkd]
theorem Wvt(h:CmOk c){a b:Nat}(d:a<c.χ.length)(f:b<c.χ.length)(e:c.χ[a].1=c.χ[b].1):a=b:=by
 have g:=eH.1 h.pup
 grind
theorem CmLk.same(h:CmLk m c)(l:c'.χ=c.χ)(n:c'.who=c.who)(o:c'.wv=c.wv)(k:∀j:Nat,j<c.χ.length->(lkA c' j↔lkA c j))(d:c'.ζ=3\/c'.ζ=4\/c'.ζ=5->c.ζ=3\/c.ζ=4\/c.ζ=5):CmLk m c':=
 ⟨λi e g=>by rw[n,h.own i e g,AA l k],λf=>by
  obtain⟨a,b⟩:=h.ver (d f)
  grind [AA]⟩
theorem MR(n:Int)(j:Nat)(a:0<=n):lkA (cy c n) j↔(j:Int)<n:=by
 by_cases h:n=0
 .simp_all [cy,Wb,lkA]
 .have:cy c n={c with ζ:=7,pos:=n-1}:=by unfold cy;rw[Wa h]
  rw[this];unfold lkA;grind
theorem q0(c:Cm)(ph:Int):(WB c ph).χ=c.χ/\(WB c ph).who=c.who/\(WB c ph).wv=c.wv:=by
 unfold WB dL;split<;>exact⟨rfl,rfl,rfl⟩
theorem DI(c:Cm)(n:Int):(cy c n).χ=c.χ/\(cy c n).who=c.who/\(cy c n).wv=c.wv:=by
 unfold cy;split<;>exact⟨rfl,rfl,rfl⟩
theorem jG(c:Cm)(n:Int):(cy c n).ζ=7\/(cy c n).ζ=8:=by unfold cy;split<;>simp
theorem WrX(m:Mm)(c:Cm):(Wv m c).2.who=c.who:=by
 unfold Wv;simp only;have a:=λd=>(q0 c d).2.1;have b:=λn=>(DI c n).2.1
 repeat' split
 all_goals first|exact a _|exact b _|rfl
theorem Wsr(h:CmOk c)(y:aq m=true)(q:CmLk m c):CmLk (Wv m c).1 (Wv m c).2:=by
 have dp:=h.pos;have A:c.ζ=1\/c.ζ=4\/c.ζ=5\/c.ζ=7->c.steps=c.χ.length:=λT=>by unfold Cm.steps;rw[Wb T]
 have hw:=h.who;have uW:∀n:Int,0<=n->(∀j:Nat,j<c.χ.length->((j:Int)<n↔lkA c j))->CmLk m (cy c n):=λn g hn=>by
  obtain⟨k,o,p⟩:=DI c n;refine q.same k o p (λj e=>by grind [MR]) λu=>?_;rcases jG c n with h|h<;>omega
 unfold Wv;simp only;by_cases N:c.ζ=1
 .rw[Wb N];obtain⟨j,e,H,w,t,I⟩:=h.put (by omega);have hs:=A (by omega);rw[w];by_cases D:(WA m c.χ[j].1).2.2=0
  .rw[Wb D];obtain⟨k,o,p⟩:=q0 c 2;have s:∀l:Nat,l<c.χ.length->(lkA (WB c 2) l↔lkA c l\/l=j):=λl d=>by
    unfold WB;by_cases M:c.pos+1=c.steps
    .rw[Wb M];have:(dL c 2).ζ=2:=by show cb c 2=2;unfold cb;rw[Wa (by omega),Wa (by omega)]
     grind [lkA]
    .rw[Wa M]
     grind [lkA]
   refine⟨λi g f=>?_,λu=>?_⟩
   .rw[o];have B:=q.own i g f;unfold C0 qw at*;rw[lH y t ⟨g,f⟩];by_cases r:i=c.χ[j].1
    .rw[Wb r];refine⟨λ_=>⟨j,by simp_all,by simp_all,(s j e).2 (.inr rfl)⟩,λ_=>rfl⟩
    .rw[Wa r,B];refine⟨λ⟨l,d,a,b⟩=>⟨l,by simp_all,by simp_all,(s l d).2 (.inl b)⟩,λ⟨l,d,a,b⟩=>?_⟩;simp only[k]at d a;rcases(s l d).1 b with b|b
     .exact⟨l,d,a,b⟩
     simp_all
   .exfalso;have wa:(WB c 2).ζ=1\/(WB c 2).ζ=2:=by
     unfold WB;split
     .right;show cb c 2=2;unfold cb;rw[Wa (by omega),Wa (by omega)]
     simp_all
    grind
  simp_all [Wa,lkA]
 rw[Wa N];by_cases O:c.ζ=2
 .rw[Wb O];have U:=Ht y;by_cases v:(tick m).2=0
  .simp_all [Wb,lkA]
  .rw[Wa v];obtain⟨t1,W⟩:=U.2.2.2.1 v;have x:∀i,WA (tick m).1 i=WA m i:=λi=>by rw[W];rfl
   have s:∀l:Nat,l<c.χ.length->(lkA (dL {c with wv:=(tick m).2} 3) l↔lkA c l):=λl d=>by
    have S:c.χ.length≠0:=by omega
    change l<c.χ.length at d;have:(dL {c with wv:=(tick m).2} 3).ζ=3\/(dL {c with wv:=(tick m).2} 3).ζ=4:=by
     show cb {c with wv:=(tick m).2} 3=3\/cb {c with wv:=(tick m).2} 3=4;unfold cb;rw[Wa (λv=>S v.2)];split<;>simp
    unfold lkA;omega
   refine⟨λi g f=>?_,λu=>⟨by show(tick m).2<=(tick m).1.1;simp_all,λi r=>?_⟩⟩
   .unfold C0;rw[x];exact(q.own i g f).trans (AA (c':=dL {c with wv:=(tick m).2} 3) (c:=c) rfl s).symm
   .rw[x];obtain⟨l,d,a,b⟩:=r;change l<c.χ.length at d;change c.χ[l].1=i at a;have L:=h.ε _ (Xo d);have B:=mR.1 (Ba y L.1);rw[←a];show(WA m c.χ[l].1).2.1<=(tick m).2;omega
 rw[Wa O];by_cases u:c.ζ=3
 .rw[Wb u];split
  .grind [lkA]
  .obtain⟨k,o,p⟩:=q0 c 4;refine q.same k o p (λl d=>?_) λ_=>.inl u;unfold WB;split
   .have:(dL c 4).ζ=4:=by show cb c 4=4;unfold cb;rw[Wa (λv=>by omega),Wa (by omega)]
    grind [lkA,dL]
   grind [lkA]
 rw[Wa u];by_cases K:c.ζ=4
 .rw[Wb K];obtain⟨j,e,H,w,t,I⟩:=h.put (by omega);have hs:=A (by omega);rw[w];obtain⟨k,o,p⟩:=q0 c 5;have x:∀i,0<=i->i<=7->(WA (gK m c.χ[j].1 c.who c.χ[j].2) i).2=(WA m i).2:=λi g f=>by
   grind [gK,lH]
  have s:∀l:Nat,l<c.χ.length->(lkA (WB c 5) l↔lkA c l):=λl d=>by
   unfold WB;split
   .have:(dL c 5).ζ=5/\(dL c 5).pos=0:=⟨ND c,rfl⟩;unfold lkA;omega
   grind [lkA]
  refine⟨λi g f=>?_,λ_=>?_⟩
  .unfold C0;rw[x i g f,o,AA k s];exact q.own i g f
  .obtain⟨z,G⟩:=q.ver (.inr (.inl K));rw[p];refine⟨by unfold gK;split<;>exact z,λi r=>?_⟩;have J:=(AA k s).1 r;obtain⟨l,d,a,b⟩:=J;have L:=h.ε _ (Xo d);rw[x i (by omega) (by omega)];exact G i ⟨l,d,a,b⟩
 rw[Wa K];have R:∀(ver:Int) (j:Nat) (e:j<c.χ.length),0<=c.χ[j].1/\c.χ[j].1<=7->lkA c j->(WA m c.χ[j].1).2.1<=ver->ver<=m.1->fb m c.χ[j].1 c.who ver=jg m c.χ[j].1 ((WA m c.χ[j].1).1,ver,0):=λver j e F d X V=>by
  have D:=(q.own c.χ[j].1 F.1 F.2).2 ⟨j,e,rfl,d⟩;unfold C0 at D;unfold fb;rw[Wb ⟨D,X,V⟩]
 have Q:∀(ver:Int) (c':Cm) (j:Nat) (e:j<c.χ.length),0<=c.χ[j].1/\c.χ[j].1<=7->c'.χ=c.χ->c'.who=c.who->c'.wv=c.wv->(∀l:Nat,l<c.χ.length->(lkA c' l↔lkA c l/\l≠j))->(c'.ζ=3\/c'.ζ=4\/c'.ζ=5->c.ζ=3\/c.ζ=4\/c.ζ=5)->CmLk (jg m c.χ[j].1 ((WA m c.χ[j].1).1,ver,0)) c':=λver c' j e F k o p s Y=>by
  have P:∀i,lkd c' i↔lkd c i/\i≠c.χ[j].1:=λi=>by
   grind [lkd,Wvt]
  refine⟨λi g f=>?_,λu=>?_⟩
  .unfold C0;rw[lH y F ⟨g,f⟩,o,P];by_cases r:i=c.χ[j].1
   .grind
   .rw[Wa r];exact⟨λv=>⟨(q.own i g f).1 v,r⟩,λv=>(q.own i g f).2 v.1⟩
  .obtain⟨z,G⟩:=q.ver (Y u);rw[p];refine⟨z,λi r=>?_⟩;have J:=(P i).1 r;obtain⟨⟨l,d,a,b⟩,Z⟩:=J;have L:=h.ε _ (Xo d);simp_all [lH,Wa]
 by_cases C:c.ζ=5
 .rw[Wb C];obtain⟨j,e,H,w,t,I⟩:=h.put (by omega);have hs:=A (by omega);rw[w];obtain⟨z,G⟩:=q.ver (.inr (.inr C));have E:lkA c j:=by unfold lkA;omega
  rw[R c.wv j e t E (G _ ⟨j,e,rfl,E⟩) z];obtain⟨k,o,p⟩:=q0 c 6;refine Q c.wv (WB c 6) j e t k o p (λl d=>?_) λ_=>.inr (.inr C)
  grind [WB,dL,NK,lkA]
 rw[Wa C];by_cases f:c.ζ=7
 .rw[Wb f];obtain⟨j,e,H,w,t,I⟩:=h.put (by omega);have hs:=A (by omega);rw[w];have E:lkA c j:=by unfold lkA;omega
  have B:=mR.1 (Ba y t);rw[R _ j e t E (aj _) B.2.1.2];obtain⟨k,o,p⟩:=DI c c.pos;refine Q _ (cy c c.pos) j e t k o p (λl d=>?_) λu=>?_
  .grind [MR,lkA]
  grind [jG]
 simp_all
theorem Wr1(h:CmOk c)(a:CmLk m c):CmLk m (W4 c):=by
 have f:=h.pos;have o:∀n:Int,0<=n->(∀j:Nat,j<c.χ.length->((j:Int)<n↔lkA c j))->CmLk m (cy c n):=λn g l=>by
  obtain⟨b,d,e⟩:=DI c n;refine a.same b d e (λj k=>by grind [MR]) λi=>?_;rcases jG c n with h|h<;>omega
 grind [W4,lkA]
theorem Wpv(c:Cm):(W4 c).who=c.who:=by
 grind [DI,W4]
theorem Wrb(h:CmOk c)(n:aq m=true){who:Int}(B:who≠c.who)(A:who≠0)(hi:0<=i/\i<=7):(C0 (Wv m c).1 i=who↔C0 m i=who)/\(C0 m i=who->WA (Wv m c).1 i=WA m i):=by
 have l:(C0 m i=who↔C0 m i=who)/\(C0 m i=who->WA m i=WA m i):=⟨Iff.rfl,λ_=>rfl⟩;have u:∀(a:Int) (e:Wd),0<=a/\a<=7->(WA m a).2.2≠who->e.2.2≠who->(C0 (jg m a e) i=who↔C0 m i=who)/\(C0 m i=who->WA (jg m a e) i=WA m i):=λa e v z C=>by
  unfold C0;rw[lH n v hi]
  grind
 unfold Wv;simp only;by_cases p:c.ζ=1
 .rw[Wb p];obtain⟨j,k,f,b,d,g⟩:=h.put (by omega);rw[b];by_cases w:(WA m c.χ[j].1).2.2=0
  .rw[Wb w];exact u _ _ d (by omega) (by grind)
  simp_all
 rw[Wa p];by_cases q:c.ζ=2
 .rw[Wb q];have x:=Ht n;by_cases o:(tick m).2=0
  .simp_all
  .rw[Wa o];simp only;rw[(x.2.2.2.1 o).2];exact l
 rw[Wa q];by_cases r:c.ζ=3
 .rw[Wb r];split<;>exact l
 rw[Wa r];by_cases s:c.ζ=4
 .rw[Wb s];obtain⟨j,k,f,b,d,g⟩:=h.put (by omega);rw[b];unfold gK;split
  .grind
  omega
 rw[Wa s];by_cases t:c.ζ=5
 .rw[Wb t];obtain⟨j,k,f,b,d,g⟩:=h.put (by omega);rw[b];unfold fb;split
  .grind
  omega
 rw[Wa t];by_cases y:c.ζ=7
 .rw[Wb y];obtain⟨j,k,f,b,d,g⟩:=h.put (by omega);rw[b];unfold fb;split
  .grind
  omega
 simp_all
end
end
section
structure LB(w:Wo)(k:Nat)(x:Rt):Prop where
 cm:x.ζ=5->x.cm.who=(k:Int)+1/\CmLk w.mem x.cm
 no:x.ζ≠5->∀i,0<=i->i<=7->C0 w.mem i≠(k:Int)+1
 hd:∀h∈w.holds,h.1=(k:Int)+1->x.ζ≠0/\x.ζ≠8
 tk:w.C6=(k:Int)+1->x.CY>=3/\x.ζ≠8
structure LQ(w:Wo)(k:Nat)(q:Wo×Rt):Prop where
 b:LB q.1 k q.2
 oth:∀who,who≠(k:Int)+1->who≠0->∀i,0<=i->i<=7->(C0 q.1.mem i=who↔C0 w.mem i=who)/\(C0 w.mem i=who->WA q.1.mem i=WA w.mem i)
 clk:w.mem.1<=q.1.mem.1
 hdo:∀h∈q.1.holds,h.1≠(k:Int)+1->∃h'∈w.holds,h'.1=h.1
 tko:q.1.C6≠0->q.1.C6≠(k:Int)+1->q.1.C6=w.C6
section
variable{w:Wo}{x:Rt}{k:Nat}{p:Pg}{q:Wo×Rt}{o:Opn}{n:Int}
theorem LQ.of(m:q.1.mem=w.mem)(l:q.1.holds=w.holds)(d:q.1.C6=w.C6)(c:LB q.1 k q.2):LQ w k q:=
 ⟨c,λe j g i a b=>by simp_all,by simp_all,λh f _=>⟨h,by simp_all,rfl⟩,λ_ _=>d⟩
theorem LQ.keep(b:LB w k x)(c:q.1.mem=w.mem)(f:q.1.holds=w.holds)(d:q.1.C6=w.C6)(e:x.ζ≠5)(a:q.2.ζ≠0/\q.2.ζ≠5/\q.2.ζ≠8)(g:q.2.CY=x.CY):LQ w k q:=
 LQ.of c f d ⟨λh=>Wi h a.2.1,λ_=>by rw[c];exact b.no e,λh i j=>⟨a.1,a.2.2⟩,λh=>by rw[d]at h;rw[g];exact⟨(b.tk h).1,a.2.2⟩⟩
theorem Ln:(WR x).ζ≠0/\(WR x).ζ≠5/\(WR x).ζ≠8:=by
 unfold WR de;split<;>simp
theorem Ua(a:x.ζ=1):(eS w x o).ζ≠0/\(eS w x o).ζ≠5/\(eS w x o).ζ≠8:=by
 grind [eS,bm,W7,Ln]
theorem Qz{l:List Hd}{who:Int}(h:(rO l who).length=0):∀e∈l,e.1≠who:=λe a b=>by
 have:e.2.1∈rO l who:=Xz.2 ⟨e,dA.2 ⟨a,by simp_all⟩,rfl⟩;simp_all
theorem Vv(d:∀i,0<=i->i<=7->C0 w.mem i≠(k:Int)+1)(j:∀e∈w.holds,e.1≠(k:Int)+1):LQ w k (eU w x k):=by
 unfold eU;refine⟨⟨λh=>by simp_all,λ_=>d,λh c l=>Wi l (j h c),λh=>?_⟩,λm g f i a b=>⟨Iff.rfl,λ_=>rfl⟩,aj _,λh c _=>⟨h,c,rfl⟩,λf g=>?_⟩
 .change (if w.C6=(k:Int)+1 then 0 else w.C6)=(k:Int)+1 at h;split at h<;>omega
 simp_all
theorem SF(e:LB w k x)(p:x.ζ=1){c:Int}:LQ w k (ec w x k c):=by
 have d:=e.no (by omega);unfold ec;simp only;generalize t:(if c=2 then []else x.ι)=ε;split
 .rename_i hc;exact Vv d (Qz hc.2)
 .refine LQ.of rfl rfl rfl ⟨λ_=>⟨rfl,?_⟩,λh=>Wi rfl h,λh r s=>by simp_all,λh=>⟨(e.tk h).1,by simp_all⟩⟩;have m:∀i,¬lkd (dM ((k:Int)+1) x.rv ε x.μ) i:=λi ⟨j,l,a,b⟩=>by
   change j<(al ε).length at l;have n:(dM ((k:Int)+1) x.rv ε x.μ).ζ=1:=by show(if(al ε).length=0 then(2:Int)else 1)=1;rw[Wa (by omega)]
   have o:(dM ((k:Int)+1) x.rv ε x.μ).pos=0:=rfl
   grind [lkA]
  refine⟨λi f g=>⟨λh=>Wi h (d i f g),λh=>Wi h (m i)⟩,λq=>?_⟩
  grind [dM,al]
theorem Wwz(a:LB w k x)(b:x.ζ=1){θ:List Opn}:LQ w k (ig w x k θ):=by
 unfold ig;split
 .exact SF a b
 .split
  .exact LQ.keep a rfl rfl rfl (by omega) (by grind [dO]) rfl
  .exact LQ.keep a rfl rfl rfl (by omega) (by simp_all) rfl
theorem WwJ(p:x.γ=false)(d:LB w k x)(m:x.ζ=1)(n:HOk w.holds):LQ w k (fM w x k o):=by
 unfold fM;cases c:hZ w.holds ((k:Int)+1) (W0 o).1 (W0 o).2 with
 |none=>exact LQ.keep d rfl rfl rfl (by omega) Ln (Lo p).2.2
 |some hs=>
  have l:∀e∈hs,e.1≠(k:Int)+1->e∈w.holds:=λe f g=>by
   unfold hZ at c;split at c
   .injection c with c;subst c;unfold Eu at f;rcases(kF ji n.ris).1 f with rfl|f
    .omega
    grind
   .cases c
  exact⟨⟨λh=>by simp_all,λ_=>d.no (by omega),λh j s=>by simp_all,λh=>⟨(d.tk h).1,by simp_all⟩⟩,
   λq m r i a b=>⟨Iff.rfl,λ_=>rfl⟩,aj _,λh j g=>⟨h,l h j g,rfl⟩,λ_ _=>rfl⟩
theorem Wzk(c:x.γ=false)(a:LB w k x)(b:x.ζ=1)(d:HOk w.holds):LQ w k (aT w x k p):=by
 unfold aT;split
 .exact SF a b
 .simp only;generalize opN p.1 x.pc=o;split
  .exact LQ.keep a rfl rfl rfl (by omega) (Ua b) (Uk c (by omega)).2.2
  .split
   .exact Wwz a b
   .split
    .exact LQ.keep a rfl rfl rfl (by omega) (by simp_all) rfl
    .split
     .grind [WwJ]
     .repeat' split
      all_goals exact LQ.keep a rfl rfl rfl (by omega) (by simp_all) rfl
theorem WyH(c:LB w k x)(e:x.ζ=0):LQ w k (il w x k):=by
 unfold il;split
 .exact LQ.of rfl rfl rfl c
 .split
  .rename_i hc;exact⟨⟨c.cm,c.no,c.hd,λ_=>⟨hc.1,by simp_all⟩⟩,λg j e i a b=>⟨Iff.rfl,λ_=>rfl⟩,aj _,λh f _=>⟨h,f,rfl⟩,λ_ d=>Wi rfl d⟩
  .split
   .exact LQ.of rfl rfl rfl c
   .exact LQ.keep c rfl rfl rfl (by omega) (by simp_all) rfl
theorem Wth(e:LB w k x)(m:x.ζ=5)(o:CmOk x.cm)(s:aq w.mem=true):LQ w k (ei w x k):=by
 obtain⟨t,p⟩:=e.cm m;have u:∀c:Cm,c.ζ=6\/c.ζ=8->∀i,¬lkd c i:=λc l i ⟨j,D,a,b⟩=>by grind [lkA]
 unfold ei;split
 .have v:=Wr1 o p;have y:=Wpv x.cm;split
  .rename_i f;refine LQ.of rfl rfl rfl ⟨λh=>by(change (6:Int)=5 at h;omega),λ_ i a b=>?_,λh g r=>by(show(6:Int)≠0/\(6:Int)≠8;omega),λh=>⟨(e.tk h).1,by show(6:Int)≠8;omega⟩⟩;intro B;exact u _ (.inr f) i ((v.own i a b).1 (by simp_all))
  .exact LQ.of rfl rfl rfl ⟨λ_=>⟨by show(W4 x.cm).who=_;rw[y,t],v⟩,λh=>Wi m h,e.hd,e.tk⟩
 .have hs:=Wsr o s p;have z:=WrX w.mem x.cm;have A:=λwho (a:who≠(k:Int)+1) (b:who≠0) (i:Int) (c:0<=i) (d:i<=7)=>Wrb (i:=i) o s (who:=who) (by omega) b ⟨c,d⟩;have C:=PF w.mem x.cm;simp only;refine⟨?_,A,C,λh g _=>⟨h,g,rfl⟩,λ_ _=>rfl⟩;have q:(Wv w.mem x.cm).2.ζ=6\/(Wv w.mem x.cm).2.ζ=8->∀i,0<=i->i<=7->C0 (Wv w.mem x.cm).1 i≠(k:Int)+1:=λl i a b B=>u _ l i ((hs.own i a b).1 (by omega));generalize (Wv w.mem x.cm).1=m' at*;generalize (Wv w.mem x.cm).2=c' at*;unfold dt;simp only;by_cases f:c'.ζ=8
  .rw[Wb f];exact⟨λh=>by(change (6:Int)=5 at h;omega),λ_=>q (.inr f),λh g r=>by(show(6:Int)≠0/\(6:Int)≠8;omega),λh=>⟨(e.tk h).1,by show(6:Int)≠8;omega⟩⟩
  .rw[Wa f];by_cases n:c'.ζ=6
   .rw[Wb n];have l:(if x.CZ=2 then(6:Int)else 7)=6\/(if x.CZ=2 then(6:Int)else 7)=7:=by split<;>simp
    generalize (if x.CZ=2 then(6:Int)else 7)=ph at*;exact⟨λh=>by simp_all,λ_=>q (.inl n),λh g r=>by grind,λh=>⟨(e.tk h).1,by grind⟩⟩
   .rw[Wa n];exact⟨λ_=>⟨by show c'.who=_;rw[z,t],hs⟩,λh=>Wi m h,e.hd,e.tk⟩
theorem UE(F:RX x)(B:ROk p n x)(A:GOk w)(c:LB w k x):LQ w k (ay w x k p):=by
 have H:=B.ζ;unfold ay;by_cases y:x.γ=true/\1<=x.ζ/\x.ζ<=4
 .rw[Wb y];exact LQ.keep c rfl rfl rfl (by omega) (by unfold de;simp) rfl
 rw[Wa y];have l:x.ζ≠5->x.γ=false:=λf=>by
  rw[nm];intro h;rcases F.doom h with d|d
  .simp_all
  omega
 by_cases q:x.ζ=0
 .simp_all [Wb,WyH]
 rw[Wa q];by_cases d:x.ζ=1
 .rw[Wb d];exact Wzk (l (by omega)) c d A.holds
 rw[Wa d];by_cases r:x.ζ=2
 .rw[Wb r];refine LQ.keep c rfl rfl rfl (by omega) ?_ (UG (w:=w) (l (by omega)) (by omega)).CY
  grind [eD,de]
 rw[Wa r];by_cases s:x.ζ=3
 .rw[Wb s]
  grind [LQ.keep,Rj,hV,dO]
 rw[Wa s];by_cases t:x.ζ=4
 .rw[Wb t];refine LQ.keep c rfl rfl rfl (by omega) ?_ (Rq (w:=w) (l (by omega)) (by omega)).CY
  grind [ez,de]
 rw[Wa t];by_cases f:x.ζ=5
 .rw[Wb f];exact Wth c f (B.comm f) A.mem
 rw[Wa f];by_cases u:x.ζ=6
 .rw[Wb u];by_cases C:x.ο.length>0
  .rw[Wb C];exact LQ.keep c rfl rfl rfl (by omega) (by grind [dO]) rfl
  .rw[Wa C];exact LQ.keep c rfl rfl rfl (by omega) (by simp_all) rfl
 rw[Wa u];by_cases v:x.ζ=7
 .rw[Wb v];have j:∀e∈W1 w.holds ((k:Int)+1),e.1≠(k:Int)+1/\e∈w.holds:=λe m=>by
   have:=dA.1 m;simp_all
  have o:=c.no (by omega);by_cases z:x.CZ=0
  .rw[Wb z];refine⟨⟨λh=>by simp_all,λ_=>o,λh g E=>Wi E (j h g).1,λh=>⟨?_,by simp_all⟩⟩,λG d q i a b=>⟨Iff.rfl,λ_=>rfl⟩,aj _,λh g _=>⟨h,(j h g).2,rfl⟩,λ_ _=>rfl⟩;have:=(c.tk h).1
   grind
  .rw[Wa z];have:=Vv (w:={w with holds:=W1 w.holds ((k:Int)+1)}) (x:=x) o (λe m=>(j e m).1);exact⟨this.b,this.oth,this.clk,λh g D=>by obtain⟨I,a,b⟩:=this.hdo h g D;grind,this.tko⟩
 .rw[Wa v];exact LQ.of rfl rfl rfl c
end
structure LX(w:Wo):Prop where
 root:∀(k:Nat) (h:k<w.η.length),LB w k w.η[k]
 ow:∀i,0<=i->i<=7->C0 w.mem i=0\/∃k:Nat,k<w.η.length/\C0 w.mem i=(k:Int)+1
 hd:∀h∈w.holds,∃k:Nat,k<w.η.length/\h.1=(k:Int)+1
 tk:w.C6=0\/∃k:Nat,k<w.η.length/\w.C6=(k:Int)+1
section
variable{s:Sc}{w v:Wo}{n:Int}{a:Ac}{k:Nat}{q:Wo×Rt}
theorem LB.other{j:Nat}{y:Rt}(h:LB w j y)(d:LQ w k q)(D:j≠k)(v:y.ζ=5->CmOk y.cm):LB q.1 j y:=by
 have B:((j:Int)+1)≠(k:Int)+1:=by omega
 have o:=d.oth ((j:Int)+1) B (by omega);refine⟨λc=>?_,λc i a b m=>h.no c i a b ((o i a b).1.1 m),λe x A=>?_,λm=>?_⟩
 .obtain⟨f,g⟩:=h.cm c;refine⟨f,λi a b=>?_,λu=>?_⟩
  .rw[f,(o i a b).1,←f];exact g.own i a b
  .obtain⟨C,G⟩:=g.ver u;refine⟨Ol C d.clk,λi z=>?_⟩;obtain⟨l,n,p,r⟩:=z;have F:=(v c).ε _ (Xo n);have s:lkd y.cm i:=⟨l,n,p,r⟩;have E:=(g.own i (by omega) (by omega)).2 s;simp_all
 .obtain⟨t,a,b⟩:=d.hdo e x (by omega);exact h.hd t a (b.trans A)
 .exact h.tk ((d.tko (by omega) (by omega)).symm.trans m)
theorem NQ{w0:Wo}(g:LX w0)(w:k<w0.η.length)(p:q.1.η=w0.η)(f:LQ w0 k q)(u:∀(i:Nat) (h:i<w0.η.length),w0.η[i].ζ=5->CmOk w0.η[i].cm):LX (Wo.put q k):=by
 have m:(q.1.η.set k q.2).length=w0.η.length:=by rw[aK,p]
 have v:∀i,C0 (Wo.put q k).mem i=C0 q.1.mem i:=λ_=>rfl;refine⟨λi o=>?_,λi a b=>?_,λe d=>?_,?_⟩
 .change i<(q.1.η.set k q.2).length at o;have s:i<w0.η.length:=by omega
  have r:∀y,LB q.1 i y->LB (Wo.put q k) i y:=λy l=>⟨l.cm,l.no,l.hd,l.tk⟩;show LB (Wo.put q k) i ((q.1.η.set k q.2)[i]'o);rw[ex];by_cases d:k=i
  .subst d;rw[Wb rfl];exact r _ f.b
  .rw[Wa d];simp only[p];exact r _ ((g.root i s).other f (λh=>d h.symm) (u i s))
 .show C0 q.1.mem i=0\/∃j:Nat,j<(q.1.η.set k q.2).length/\C0 q.1.mem i=(j:Int)+1;rw[m];by_cases n:C0 q.1.mem i=0
  .omega
  .by_cases c:C0 q.1.mem i=(k:Int)+1
   .grind
   .have:=(f.oth _ c n i a b).1.1 rfl;rw[←this];exact g.ow i a b
 .show∃j:Nat,j<(q.1.η.set k q.2).length/\e.1=(j:Int)+1;rw[m];by_cases c:e.1=(k:Int)+1
  .grind
  .obtain⟨t,a,b⟩:=f.hdo e d c;rw[←b];exact g.hd t a
 .show q.1.C6=0\/∃j:Nat,j<(q.1.η.set k q.2).length/\q.1.C6=(j:Int)+1;rw[m];by_cases n:q.1.C6=0
  .omega
  .by_cases c:q.1.C6=(k:Int)+1
   .grind
   .rw[f.tko n c];exact g.tk
theorem WyL(h:WOk s.2.1 n w)(l:WX w)(d:LX w):LX (cM s w a):=by
 have e:LX {w with now:=w.now+1}:=⟨λk b=>⟨(d.root k b).cm,(d.root k b).no,(d.root k b).hd,(d.root k b).tk⟩,d.ow,d.hd,d.tk⟩;have f:∀(i:Nat) (h:i<({w with now:=w.now+1}:Wo).η.length),({w with now:=w.now+1}:Wo).η[i].ζ=5->CmOk ({w with now:=w.now+1}:Wo).η[i].cm:=λi j g=>(h.root i j).comm g;unfold cM;simp only;split
 .rename_i hb;have b:a.2.1.toNat<w.η.length:=by omega
  have c:=e.root _ b;rw[Wn b];split
  .unfold m0;rw[Wn (show a.2.1.toNat<({w with now:=w.now+1}:Wo).η.length from b)];exact NQ e b (si h b) (UE (n:=n) (l _ b) (h.root _ b) ⟨h.mem,h.ψ,h.holds⟩ c) f
  .split
   .split
    .exact NQ (w0:={w with now:=w.now+1}) e b rfl (LQ.of rfl rfl rfl ⟨c.cm,c.no,c.hd,c.tk⟩) f
    omega
   .split
    .split
     .exact NQ (w0:={w with now:=w.now+1}) e b rfl (LQ.of rfl rfl rfl ⟨c.cm,c.no,c.hd,c.tk⟩) f
     omega
    omega
 omega
theorem WxK(e:dQ s=true):LX (bo s):=by
 obtain⟨f,j,l,m⟩:=p4 e;have d:∀i,0<=i->i<=7->C0 (bo s).mem i=0:=λi a b=>by
  unfold C0 WA ah bo BD;simp only;have:=f.ω.len
  grind [Wn,wd0,Xy]
 refine⟨λk n=>?_,λi a b=>.inl (d i a b),(λh c=>by cases c),.inl rfl⟩;have g:(bo s).η[k]={}:=by simp only[bo,kw]
 rw[g];exact⟨λh=>by simp_all,(λ_ i a b=>by grind),(λh c=>by cases c),λh=>by(change (0:Int)=(k:Int)+1 at h;omega)⟩
end
end
section
def pick(l:List Rw)(i:Int):Option Int:=(l.find? λr=>decide (r.1=i)).map (·.2)
def bX(i v:Int)(r:Int×Int)(h:Wr):Int×Int:=match pick h.2.2 i with
 |some x=>if h.1<=v/\r.1<h.1 then(h.1,x)else r
 |none=>r
def bst(b i v:Int)(H:List Wr):Int×Int:=H.foldl (bX i v) (0,b)
def top(b i:Int)(H:List Wr):Int×Int:=bst b i 2000000 H
section
variable{b i v v':Int}{H:List Wr}{h:Wr}{l:List Rw}
theorem HA:bst b i v (H++ [h])=bX i v (bst b i v H) h:=by simp[bst,List.foldl_append]
theorem LC(r:Int×Int):bX i v r h=r\/(∃x,pick h.2.2 i=some x/\h.1<=v/\r.1<h.1/\bX i v r h=(h.1,x)):=by
 unfold bX
 grind
theorem Wy6(c:0<=v):0<=(bst b i v H).1/\(bst b i v H).1<=v/\((bst b i v H).1=0\/∃h∈H,h.1=(bst b i v H).1):=by
 have a:∀(l:List Wr) (r:Int×Int),0<=r.1->r.1<=v->0<=(l.foldl (bX i v) r).1/\(l.foldl (bX i v) r).1<=v/\((l.foldl (bX i v) r).1=r.1\/∃h∈l,h.1=(l.foldl (bX i v) r).1):=by
  intro l
  induction l with
  |nil=>simp_all
  |cons h l ih=>
   grind [LC,List.mem_cons_of_mem,List.mem_cons_self]
 exact a H (0,b) (aj _) c
theorem D5(f:v<=v'):∀(H:List Wr),(bst b i v' H).1<=v->bst b i v H=bst b i v' H:=by
 have c:∀(l:List Wr) (r r':Int×Int),(r.1<=r'.1)->(r'.1<=v->r=r')->(l.foldl (bX i v') r').1<=v->l.foldl (bX i v) r=l.foldl (bX i v') r':=by
  intro l
  induction l with
  |nil=>simp_all
  |cons h l ih=>
   intro r r' d e a;rw[cP,cP];rw[cP]at a;refine ih _ _ ?_ ?_ a
   .grind [bX,pick]
   .unfold bX
    grind
 intro H a;exact c H (0,b) (0,b) (aj _) (λ_=>rfl) a
theorem Ef{x:Int}(h:pick l i=some x):(i,x)∈l:=by
 unfold pick at h;cases hf:l.find? λr=>decide (r.1=i)with
 |none=>simp_all
 |some r=>
  grind
structure CmR(c:Cm):Prop where
 ε:aZ c.χ
 pup:c.χ.Pairwise λa b=>a.1<b.1
theorem CmOk.r{c:Cm}(h:CmOk c):CmR c:=⟨h.ε,h.pup⟩
theorem CmR.inj{c:Cm}(h:CmR c){a b:Nat}(d:a<c.χ.length)(f:b<c.χ.length)(e:c.χ[a].1=c.χ[b].1):a=b:=by
 have g:=eH.1 h.pup
 grind
theorem WxV{c:Cm}(h:CmR c){j:Nat}(a:j<c.χ.length):pick c.χ c.χ[j].1=some c.χ[j].2:=by
 cases hp:pick c.χ c.χ[j].1 with
 |none=>
  grind [pick,Option.map_eq_none_iff,List.find?_eq_none,absurd,Xo]
 |some x=>
  obtain⟨l,b,e⟩:=eI (Ef hp);have:=h.inj b a (by rw[e]);subst this;rw[e]
end
structure MI(b:Int->Int)(m:Mm)(H:List Wr)(C:Nat->Option Cm):Prop where
 st:∀h∈H,1<=h.1/\h.1<=m.1
 fr:∀k c,C k=some c->c.ζ=3->1<=c.wv/\c.wv<=m.1/\∀h∈H,h.1≠c.wv
 fr2:∀k k' c c',k≠k'->C k=some c->C k'=some c'->c.ζ=3->c'.ζ=3->c.wv≠c'.wv
 cell:∀i,0<=i->i<=7->(∀k c,C k=some c->c.ζ=4\/c.ζ=5->¬lkd c i)->(WA m i).1=(top (b i) i H).2/\(WA m i).2.1=(top (b i) i H).1
 sto:∀k c,C k=some c->c.ζ=4\/c.ζ=5->∀(j:Nat) (hj:j<c.χ.length),lkA c j->top (b c.χ[j].1) c.χ[j].1 H=(c.wv,c.χ[j].2)/\(WA m c.χ[j].1).2.1<c.wv/\(c.ζ=5\/(j:Int)<c.pos->(WA m c.χ[j].1).1=c.χ[j].2)
def CL2(m:Mm)(C:Nat->Option Cm):Prop:=∀k c,C k=some c->CmR c/\c.who=(k:Int)+1/\CmLk m c
structure RC(b:Int->Int)(m:Mm)(H:List Wr)(C:Nat->Option Cm)(v i x:Int):Prop where
 val:x=(bst (b i) i v H).2
 clk:v<=m.1
 no:∀k c,C k=some c->c.ζ=3->c.wv<=v->pick c.χ i=none
def co(C:Nat->Option Cm)(k:Nat)(o:Option Cm):Nat->Option Cm:=λj=>if j=k then o else C j
section
variable{b:Int->Int}{m m':Mm}{H:List Wr}{C:Nat->Option Cm}{k:Nat}{c c':Cm}{o:Option Cm}{v i x:Int}
theorem du:co C k o k=o:=Wb rfl
theorem W8{j:Nat}(h:j≠k):co C k o j=C j:=Wa h
theorem MI.k1(h:MI b m H C)(G:∀c,C k=some c->c.ζ≠4/\c.ζ≠5)(I:∀c',o=some c'->c'.ζ≠3/\c'.ζ≠4/\c'.ζ≠5)
  (u:m'.1=m.1) (x:∀i,0<=i->i<=7->(WA m' i).1=(WA m i).1/\(WA m' i).2.1=(WA m i).2.1) (E:∀k c,C k=some c->CmR c):MI b m' H (co C k o):=by
 have a:∀j d,co C k o j=some d->d.ζ=3\/d.ζ=4\/d.ζ=5->j≠k/\C j=some d:=λj d e n=>by
  grind [du,W8]
 refine⟨λg D=>by rw[u];exact h.st g D,λj d e f=>?_,λj y d r z e A f s=>?_,λi t v F=>?_,λj d e n l w B=>?_⟩
 .rw[u];exact h.fr j d (a j d e (.inl f)).2 f
 .exact h.fr2 j y d r z (a j d e (.inl f)).2 (a y r A (.inl s)).2 f s
 .obtain⟨p,q⟩:=x i t v;rw[p,q];refine h.cell i t v λj d e n=>?_
  grind [W8]
 .have hk:=(a j d e (.inr n)).2;have af:=(E j d hk).ε _ (Xo w);obtain⟨p,q⟩:=x _ af.1.1 af.1.2;rw[p,q];exact h.sto j d hk n l w B
theorem RC.k1(h:RC b m H C v i x)(l:∀c',o=some c'->c'.ζ≠3)(c:m'.1=m.1):RC b m' H (co C k o) v i x:=
 ⟨h.val,by rw[c];exact h.clk,λj d a f g=>by
  by_cases e:j=k
  .grind [du,absurd]
  .rw[W8 e]at a;exact h.no j d a f g⟩
theorem MI.k2(h:MI b m H C)(B:C k=some c)(A:c.ζ=2)(f:c'.ζ=3)(D:c'.wv=m.1+1)(s:0<=m.1):MI b (m.1+1,m.2) H (co C k (some c')):=by
 have q:∀i,WA (m.1+1,m.2) i=WA m i:=λ_=>rfl;refine⟨λg o=>by have:=h.st g o;omega,λj d a n=>?_,λj t d w u a r f n=>?_,λi s x v=>?_,λj d a p l z y=>?_⟩
 .by_cases e:j=k
  .subst e;rw[du]at a;cases a;refine⟨by omega,by omega,λg o=>by have:=h.st g o;omega⟩
  .rw[W8 e]at a;have:=h.fr j d a n
   grind
 .have w1:∀j d,co C k (some c') j=some d->d.ζ=3->j≠k->d.wv<=m.1:=λj d a f e=>by
   rw[W8 e]at a;exact(h.fr j d a f).2.1
  by_cases e:j=k
  .grind [du]
  .by_cases e':t=k
   .grind [du]
   .rw[W8 e]at a;rw[W8 e']at r;exact h.fr2 j t d w u a r f n
 .rw[q];refine h.cell i s x λj d a p=>?_;by_cases e:j=k
  .simp_all
  .exact v j d (by grind [W8]) p
 .by_cases e:j=k
  .grind [du]
  .rw[W8 e]at a;rw[q];exact h.sto j d a p l z y
theorem RC.k2(h:RC b m H C v i x)(g:c'.wv=m.1+1):RC b (m.1+1,m.2) H (co C k (some c')) v i x:=
 ⟨h.val,by have:=h.clk;omega,λj d a c f=>by
  by_cases e:j=k
  .subst e;rw[du]at a;cases a;have:=h.clk;omega
  .rw[W8 e]at a;exact h.no j d a c f⟩
theorem MI.k3(h:MI b m H C)(s:C k=some c)(q:c.ζ=3)(r:c'.ζ=3)(u:c'.wv=c.wv):MI b m H (co C k (some c')):=by
 refine⟨h.st,λj d a p=>?_,λj g d v n a f r p=>?_,λi x y w=>?_,λj d a t l B A=>?_⟩
 .by_cases e:j=k
  .subst e;rw[du]at a;cases a;rw[u];exact h.fr j c s q
  .rw[W8 e]at a;exact h.fr j d a p
 .by_cases e:j=k
  .have o:g≠k:=λz=>n (e.trans z.symm);rw[W8 o]at f;subst e;rw[du]at a;cases a;rw[u];exact h.fr2 j g c v n s f q p
  .rw[W8 e]at a;by_cases o:g=k
   .subst o;rw[du]at f;cases f;rw[u];exact h.fr2 j g d c n a s r q
   .rw[W8 o]at f;exact h.fr2 j g d v n a f r p
 .refine h.cell i x y λj d a t=>?_;by_cases e:j=k
  .simp_all
  .exact w j d (by grind [W8]) t
 .by_cases e:j=k
  .grind [du]
  .rw[W8 e]at a;exact h.sto j d a t l B A
theorem RC.k3(h:RC b m H C v i x)(l:C k=some c)(f:c.ζ=3)(p:c'.wv=c.wv)(n:c'.χ=c.χ):RC b m H (co C k (some c')) v i x:=
 ⟨h.val,h.clk,λj d a g o=>by
  by_cases e:j=k
  .subst e;rw[du]at a;cases a;rw[n];exact h.no j c l f (by omega)
  .rw[W8 e]at a;exact h.no j d a g o⟩
theorem MI.k4(h:MI b m H C)(o:CL2 m C)(hm:m.1<=1000000)(y:C k=some c)(u:c.ζ=3)(w:c'.ζ=4)(eW:c'.pos=0)(hw:c'.wv=c.wv)(hp:c'.χ=c.χ){who:Int}:MI b m (H++ [(c.wv,who,c.χ)]) (co C k (some c')):=by
 obtain⟨N,m9,K⟩:=o k c y;obtain⟨f1,f2,f3⟩:=h.fr k c y u;have I:∀l:Nat,lkA c l:=λl=>by unfold lkA;omega
 have G:∀i,0<=i->i<=7->(∃(j:Nat) (a:j<c.χ.length),c.χ[j].1=i)->∀j d,C j=some d->d.ζ=4\/d.ζ=5->¬lkd d i:=λi s t ⟨l,f,e⟩ j d a q it=>by
  obtain⟨D,Y,M⟩:=o j d a;have o1:=(K.own i s t).2 ⟨l,f,e,I l⟩;have o2:=(M.own i s t).2 it
  grind
 have P:∀i,pick c.χ i=none->top (b i) i (H++ [(c.wv,who,c.χ)])=top (b i) i H:=λi A=>by
  grind [top,HA,bX]
 have Z:∀(l:Nat) (o:l<c.χ.length),(WA m c.χ[l].1).2.1<c.wv/\top (b c.χ[l].1) c.χ[l].1 (H++ [(c.wv,who,c.χ)])=(c.wv,c.χ[l].2):=λl f=>by
  have af:=(N.ε _ (Xo f)).1;obtain⟨c1,c2⟩:=h.cell _ af.1 af.2 (G _ af.1 af.2 ⟨l,f,rfl⟩);have hv:=(K.ver (.inl u)).2 c.χ[l].1 ⟨l,f,rfl,I l⟩;have hb:=(Wy6 (b:=b c.χ[l].1) (i:=c.χ[l].1) (v:=2000000) (H:=H) (by omega)).2.2;have E:(top (b c.χ[l].1) c.χ[l].1 H).1<c.wv:=by
   grind [top]
  refine⟨by omega,?_⟩;unfold top at E⊢;rw[HA];unfold bX;simp only[WxV N f];rw[Wb ⟨by omega,E⟩]
 have O:∀i x,pick c.χ i=some x->∃(j:Nat) (a:j<c.χ.length),c.χ[j].1=i:=λi x p=>by
  obtain⟨l,o,e⟩:=eI (Ef p)
  grind
 refine⟨λg n=>?_,λj d a r=>?_,λj L d R Q a F w r=>?_,λi s t A=>?_,λj d a q l f J=>?_⟩
 .rcases Xn.1 n with n|n
  .exact h.st g n
  simp_all
 .by_cases e:j=k
  .grind [du]
  .rw[W8 e]at a;obtain⟨U,V,g3⟩:=h.fr j d a r;refine⟨U,V,λg n=>?_⟩;rcases Xn.1 n with n|n
   .grind
   .rw[bH]at n;subst n;exact h.fr2 k j c d (λz=>e z.symm) y a u r
 .by_cases e:j=k
  .grind [du]
  .rw[W8 e]at a;by_cases S:L=k
   .grind [du]
   .rw[W8 S]at F;exact h.fr2 j L d R Q a F w r
 .have B:pick c.χ i=none:=by
   cases p:pick c.χ i with
   |none=>rfl
   |some x=>
    obtain⟨l,f,e⟩:=O i x p;refine Wi ⟨l,by simp_all,by simp_all,?_⟩ (A k c' du (.inl w));unfold lkA;omega
  rw[P i B];refine h.cell i s t λj d a q=>?_;by_cases e:j=k
  .simp_all
  .exact A j d (by grind [W8]) q
 .by_cases e:j=k
  .grind [du]
  .rw[W8 e]at a;obtain⟨D,Y,M⟩:=o j d a;have af:=(D.ε _ (Xo f)).1;have B:pick c.χ d.χ[l].1=none:=by
    cases p:pick c.χ d.χ[l].1 with
    |none=>rfl
    |some x=>
     obtain⟨X,W,T⟩:=O _ x p;exact Wi ⟨l,f,rfl,J⟩ (G d.χ[l].1 af.1 af.2 ⟨X,W,T⟩ j d a q)
   rw[P _ B];exact h.sto j d a q l f J
theorem RC.k4(h:RC b m H C v i x)(n:C k=some c)(l:c.ζ=3)(o:c'.ζ=4){who:Int}:RC b m (H++ [(c.wv,who,c.χ)]) (co C k (some c')) v i x:=by
 refine⟨?_,h.clk,λj d f g a=>?_⟩
 .rw[HA,h.val];unfold bX;by_cases a:c.wv<=v
  .simp only[h.no k c n l a]
  grind
 .by_cases e:j=k
  .grind [du]
  .rw[W8 e]at f;exact h.no j d f g a
theorem MI.k5(h:MI b m H C)(w:CL2 m C)(Q:aq m=true)(u:C k=some c)(P:c.ζ=4){j:Nat}(v:j<c.χ.length)(X:c.pos=j)(R:c'.χ=c.χ)(S:c'.wv=c.wv)(Y:c'.ζ=4/\c'.pos=j+1\/c'.ζ=5/\c'.pos=0/\j+1=c.χ.length):
  MI b (gK m c.χ[j].1 c.who c.χ[j].2) H (co C k (some c')):=by
 obtain⟨A,m9,T⟩:=w k c u;have E:∀l:Nat,lkA c l:=λl=>by unfold lkA;omega
 have J:∀l:Nat,lkA c' l:=λl=>by unfold lkA;omega
 have af:=(A.ε _ (Xo v)).1;have L:=(T.own _ af.1 af.2).2 ⟨j,v,rfl,E j⟩;have K:gK m c.χ[j].1 c.who c.χ[j].2=jg m c.χ[j].1 (c.χ[j].2,(WA m c.χ[j].1).2):=by
  unfold gK;rw[Wb (show(WA m c.χ[j].1).2.2=c.who from L)]
 rw[K];have r:∀i,0<=i->i<=7->WA (jg m c.χ[j].1 (c.χ[j].2,(WA m c.χ[j].1).2)) i=if i=c.χ[j].1 then(c.χ[j].2,(WA m c.χ[j].1).2)else WA m i:=λi o p=>lH Q af ⟨o,p⟩;have V:∀l d,l≠k->C l=some d->∀(a:Nat) (g:a<d.χ.length),lkA d a->d.χ[a].1≠c.χ[j].1:=λl d B f a g q F=>by
  obtain⟨W,u0,U⟩:=w l d f;have:=(U.own _ af.1 af.2).2 ⟨a,g,F,q⟩;omega
 refine⟨h.st,λl d f s=>?_,λl I d M B f D O s=>?_,λi o p x=>?_,λl d f y a g q=>?_⟩
 .by_cases e:l=k
  .grind [du]
  .rw[W8 e]at f;exact h.fr l d f s
 .by_cases e:l=k
  .grind [du]
  .rw[W8 e]at f;by_cases N:I=k
   .grind [du]
   .rw[W8 N]at D;exact h.fr2 l I d M B f D O s
 .have wM:i≠c.χ[j].1:=λF=>x k c' du (by omega) ⟨j,by simp_all,by simp_all,J j⟩;rw[r i o p,Wa wM];refine h.cell i o p λl d f y G=>?_;by_cases e:l=k
  .subst e;rw[u]at f;cases f;obtain⟨a,g,Z,e2⟩:=G;exact x l c' du (by omega) ⟨a,by simp_all,by simp_all,J a⟩
  .exact x l d (by grind [W8]) y G
 .by_cases e:l=k
  .subst e;rw[du]at f;cases f;have z:a<c.χ.length:=by simp_all
   obtain⟨s1,s2,s3⟩:=h.sto l c u (.inl P) a z (E a);have n:=(A.ε _ (Xo z)).1;simp only[R,S];rw[r _ n.1 n.2];by_cases t:c.χ[a].1=c.χ[j].1
   .have:a=j:=A.inj z v t;simp_all
   grind
  .rw[W8 e]at f;have n:=((w l d f).1.ε _ (Xo g)).1;rw[r _ n.1 n.2,Wa (V l d e f a g q)];exact h.sto l d f y a g q
theorem MI.k6(h:MI b m H C)(z:CL2 m C)(W:aq m=true)(s:C k=some c)(x:c.ζ=5){j:Nat}(p:j<c.χ.length)(dC:c.pos=j)(X:(∃c',o=some c'/\c'.χ=c.χ/\c'.wv=c.wv/\c'.ζ=5/\c'.pos=j+1)\/(o=none/\j+1=c.χ.length)):
  MI b (fb m c.χ[j].1 c.who c.wv) H (co C k o):=by
 obtain⟨E,m9,L⟩:=z k c s;have af:=(E.ε _ (Xo p)).1;have B:lkA c j:=by unfold lkA;omega
 have S:=(L.own _ af.1 af.2).2 ⟨j,p,rfl,B⟩;obtain⟨v1,v2⟩:=L.ver (.inr (.inr x));obtain⟨sj1,sj2,sj3⟩:=h.sto k c s (.inr x) j p B;have R:fb m c.χ[j].1 c.who c.wv=jg m c.χ[j].1 ((WA m c.χ[j].1).1,c.wv,0):=by
  unfold fb;rw[Wb ⟨S,v2 _ ⟨j,p,rfl,B⟩,v1⟩]
 rw[R];have v:∀i,0<=i->i<=7->WA (jg m c.χ[j].1 ((WA m c.χ[j].1).1,c.wv,0)) i=if i=c.χ[j].1 then((WA m c.χ[j].1).1,c.wv,0)else WA m i:=λi q r=>lH W af ⟨q,r⟩;have rj:∀l d,l≠k->C l=some d->∀(a:Nat) (g:a<d.χ.length),lkA d a->d.χ[a].1≠c.χ[j].1:=λl d u f a g t y=>by
  obtain⟨Cu,u0,Y⟩:=z l d f;have:=(Y.own _ af.1 af.2).2 ⟨a,g,y,t⟩;omega
 have vU:∀d,co C k o k=some d->d.ζ=5/\d.χ=c.χ/\d.wv=c.wv/\d.pos=j+1:=λd f=>by
  grind [du]
 refine⟨h.st,λl d f w=>?_,λl N d T u f G V w=>?_,λi q r K=>?_,λl d f A a g t=>?_⟩
 .by_cases e:l=k
  .simp_all
  .rw[W8 e]at f;exact h.fr l d f w
 .by_cases e:l=k
  .simp_all
  .rw[W8 e]at f;by_cases U:N=k
   .simp_all
   .rw[W8 U]at G;exact h.fr2 l N d T u f G V w
 .rw[v i q r];by_cases J:i=c.χ[j].1
  .simp_all
  .rw[Wa J];refine h.cell i q r λl d f A M=>?_;by_cases e:l=k
   .subst e;rw[s]at f;cases f;obtain⟨a,g,e1,e2⟩:=M;have u:a≠j:=λe=>J (by simp_all);have fK:(c.pos<=a):=by grind [lkA]
    rcases X with⟨c',I,F,O,P,Z⟩|⟨I,F⟩
    .refine K l c' (by rw[du];exact I) (.inr P) ⟨a,by simp_all,by simp_all,?_⟩;unfold lkA;omega
    .omega
   .exact K l d (by grind [W8]) A M
 .by_cases e:l=k
  .subst e;obtain⟨P,F,O,Z⟩:=vU d f;have D:a<c.χ.length:=by simp_all
   have Q:lkA c a/\a≠j:=by grind [lkA]
   obtain⟨s1,s2,s3⟩:=h.sto l c s (.inr x) a D Q.1;have n:=(E.ε _ (Xo D)).1;simp only[F,O];rw[v _ n.1 n.2,Wa (λy=>Q.2 (E.inj D p y))];simp_all
  .rw[W8 e]at f;have n:=((z l d f).1.ε _ (Xo g)).1;rw[v _ n.1 n.2,Wa (rj l d e f a g t)];exact h.sto l d f A a g t
end
end
section
variable{b:Int->Int}{m m':Mm}{H:List Wr}{C:Nat->Option Cm}{k:Nat}{c c':Cm}{o o':Option Cm}{v i x:Int}
def cmO(c:Cm):Option Cm:=if c.ζ=6\/c.ζ=8 then none else some c
def cn(k:Nat)(c q:Cm)(H:List Wr):List Wr:=if c.ζ<=3/\q.ζ=4 then H++ [(q.wv,(k:Int)+1,q.χ)]else H
theorem QW:co (co C k o) k o'=co C k o':=by
 funext j;unfold co;split<;>rfl
theorem MT(h:cmO c=some c'):c'=c/\c.ζ≠6/\c.ζ≠8:=by
 unfold cmO at h;split at h
 .cases h
 .cases h;exact⟨rfl,by omega,by omega⟩
def Keep(b:Int->Int)(m:Mm)(H:List Wr)(C:Nat->Option Cm)(m':Mm)(a:List Wr)(C':Nat->Option Cm):Prop:=MI b m' a C'/\∀v i x,RC b m H C v i x->RC b m' a C' v i x
theorem Keep.k1(h:MI b m H C)(f:∀c,C k=some c->c.ζ≠4/\c.ζ≠5)(d:∀c',o=some c'->c'.ζ≠3/\c'.ζ≠4/\c'.ζ≠5)
  (a:m'.1=m.1) (g:∀i,0<=i->i<=7->(WA m' i).1=(WA m i).1/\(WA m' i).2.1=(WA m i).2.1) (j:∀k c,C k=some c->CmR c):Keep b m H C m' H (co C k o):=
 ⟨h.k1 f d a g j,λv i x l=>l.k1 (λc' e=>(d c' e).1) a⟩
theorem MI.step(h:MI b m H C)(J:CL2 m C)(M:CmOk c)(K:aq m=true)(bZ:m.1<1000000)(s:C k=some c)(yB:c.ζ≠6/\c.ζ≠8):
  Keep b m H C (Wv m c).1 (cn k c (Wv m c).2 H) (co C k (cmO (Wv m c).2)):=by
 have W:∀k c,C k=some c->CmR c:=λk c e=>(J k c e).1;have X:∀d,C k=some d->d=c:=λd e=>by rw[s]at e;cases e;rfl
 obtain⟨E,m9,ir⟩:=J k c s;have da:=M.ζ;have aL:c.ζ=1\/c.ζ=4\/c.ζ=5\/c.ζ=7->c.steps=c.χ.length:=λV=>by unfold Cm.steps;rw[Wb V]
 have h0:=(WP K).2.1;have t:∀n:Int,c.ζ≠4/\c.ζ≠5->Keep b m H C m (cn k c (cy c n) H) (co C k (cmO (cy c n))):=λn V=>by
  have e:cn k c (cy c n) H=H:=by unfold cn;rw[Wa (by rcases jG c n with e|e<;>omega)]
  rw[e];refine Keep.k1 h (λd f=>by rw[X d f];exact V) (λd f=>?_) rfl (λ_ _ _=>⟨rfl,rfl⟩) W;obtain⟨e,_⟩:=MT f;subst e;rcases jG c n with e|e<;>omega
 by_cases D:c.ζ=1
 .unfold Wv;simp only;rw[Wb D];obtain⟨j,I,O,A,B,Y⟩:=M.put (by omega);rw[A];split
  .have V:(WB c 2).ζ=1\/(WB c 2).ζ=2:=by
    unfold WB;split
    .right;show cb c 2=2;unfold cb;rw[Wa (by omega),Wa (by omega)]
    .left;exact D
   have e:cn k c (WB c 2) H=H:=by unfold cn;rw[Wa (λz=>by have:=z.2;omega)]
   show Keep b m H C _ (cn k c (WB c 2) H) _;rw[e];refine Keep.k1 h (λd f=>by rw[X d f];omega) (λd f=>?_) rfl (λi a z=>?_) W
   .obtain⟨e,_⟩:=MT f;rw[show d=WB c 2 from e];omega
   .show(WA (qw m c.χ[j].1 c.who) i).1=_/\_;unfold qw;rw[lH K B ⟨a,z⟩];split
    .rename_i he;subst he;exact⟨rfl,rfl⟩
    .exact⟨rfl,rfl⟩
  .exact t _ (by omega)
 by_cases G:c.ζ=2
 .have et:tick m=((m.1+1,m.2),m.1+1):=by unfold tick;rw[Wb bZ]
  unfold Wv;simp only;rw[Wa D,Wb G,et];simp only;rw[Wa (by omega)];generalize Q:({c with wv:=m.1+1,ζ:=3,pos:=0}:Cm)=c2;have F:c2.ζ=3:=by rw[←Q]
  have L:c2.wv=m.1+1:=by rw[←Q]
  have S:c2.χ=c.χ:=by rw[←Q]
  have w:c2.who=c.who:=by rw[←Q]
  have k2:MI b (m.1+1,m.2) H (co C k (some c2)):=h.k2 s G F L h0;have yC:∀v i x,RC b m H C v i x->RC b (m.1+1,m.2) H (co C k (some c2)) v i x:=λv i x p=>p.k2 L;have iB:CL2 (m.1+1,m.2) (co C k (some c2)):=λj d f=>by
   by_cases e:j=k
   .subst e;rw[du]at f;cases f;have u4:∀i,lkd c2 i↔lkd c i:=λi=>AA S λj I=>by unfold lkA;omega
    refine⟨⟨by rw[S];exact E.ε,by rw[S];exact E.pup⟩,by rw[w];exact m9,λi a z=>?_,λ_=>⟨by rw[L];exact aj _,λi hi=>?_⟩⟩
    .rw[w,u4];exact ir.own i a z
    .rw[L];obtain⟨l,bI,a,_⟩:=(u4 i).1 hi;have sJ:=(E.ε _ (Xo bI)).1;have bN:=mR.1 (Ba K sJ);rw[←a];show(WA m c.χ[l].1).2.1<=m.1+1;omega
   .rw[W8 e]at f;obtain⟨a,z,q⟩:=J j d f;exact⟨a,z,q.own,λhz=>⟨by have:=(q.ver hz).1;show d.wv<=m.1+1;omega,(q.ver hz).2⟩⟩
  have Z:∀a,cb {c with wv:=m.1+1} 3=a->dL {c with wv:=m.1+1} 3={c with wv:=m.1+1,ζ:=a,pos:=0}:=λa e=>by unfold dL;rw[e]
  by_cases T:c.μ.length=0
  .by_cases P:c.χ.length=0
   .rw[Z 6 (by unfold cb;rw[Wb ⟨.inl ⟨rfl,T⟩,P⟩])];have e:cn k c {c with wv:=m.1+1,ζ:=6,pos:=0} H=H:=by unfold cn;rw[Wa (λz=>by have:=z.2;simp only at this;omega)]
    have g:cmO {c with wv:=m.1+1,ζ:=6,pos:=0}=none:=by unfold cmO;rw[Wb (.inl rfl)]
    rw[e,g,←QW (C:=C) (k:=k) (o:=some c2)];refine⟨k2.k1 (λd f=>?_) (λd f=>by cases f) rfl (λ_ _ _=>⟨rfl,rfl⟩) (λj d f=>(iB j d f).1),λv i x p=>(yC v i x p).k1 (λd f=>by cases f) rfl⟩;rw[du]at f;cases f;omega
   .rw[Z 4 (by unfold cb;rw[Wa (λz=>P z.2),Wb ⟨rfl,T⟩])];have e:cn k c {c with wv:=m.1+1,ζ:=4,pos:=0} H=H++ [(c2.wv,(k:Int)+1,c2.χ)]:=by unfold cn;rw[Wb ⟨by omega,rfl⟩,L,S]
    have g:cmO {c with wv:=m.1+1,ζ:=4,pos:=0}=some {c with wv:=m.1+1,ζ:=4,pos:=0}:=by unfold cmO;rw[Wa (by simp)]
    rw[e,g,←QW (C:=C) (k:=k) (o:=some c2)];exact⟨k2.k4 (c':={c with wv:=m.1+1,ζ:=4,pos:=0}) iB (by show m.1+1<=1000000;omega) du F rfl rfl L.symm S.symm,λv i x p=>(yC v i x p).k4 du F rfl⟩
  .have B:dL {c with wv:=m.1+1} 3=c2:=by
    rw[Z 3 (by unfold cb;rw[Wa (λz=>by rcases z.1 with y|y;exact T y.2;omega),Wa (λz=>T z.2)]),←Q]
   rw[B];have e:cn k c c2 H=H:=by unfold cn;rw[Wa (λz=>by have:=z.2;omega)]
   have g:cmO c2=some c2:=by unfold cmO;rw[Wa (by omega)]
   rw[e,g];exact⟨k2,yC⟩
 by_cases r:c.ζ=3
 .unfold Wv;simp only;rw[Wa D,Wa G,Wb r];split
  .exact t _ (by omega)
  .by_cases N:c.pos+1=c.steps
   .have u:WB c 4={c with ζ:=cb c 4,pos:=0}:=by unfold WB;rw[Wb N];rfl
    by_cases P:c.χ.length=0
    .have ea:cb c 4=6:=by unfold cb;rw[Wb ⟨.inr rfl,P⟩]
     rw[u,ea];have e:cn k c {c with ζ:=6,pos:=0} H=H:=by unfold cn;rw[Wa (λz=>by have:=z.2;simp only at this;omega)]
     have g:cmO {c with ζ:=6,pos:=0}=none:=by unfold cmO;rw[Wb (.inl rfl)]
     show Keep b m H C m (cn k c {c with ζ:=6,pos:=0} H) (co C k (cmO {c with ζ:=6,pos:=0}));rw[e,g];exact Keep.k1 h (λd f=>by rw[X d f];omega) (λd f=>by cases f) rfl (λ_ _ _=>⟨rfl,rfl⟩) W
    .have ea:cb c 4=4:=by unfold cb;rw[Wa (λz=>P z.2),Wa (by omega)]
     rw[u,ea];have e:cn k c {c with ζ:=4,pos:=0} H=H++ [(c.wv,(k:Int)+1,c.χ)]:=by unfold cn;rw[Wb ⟨by omega,rfl⟩]
     have g:cmO {c with ζ:=4,pos:=0}=some {c with ζ:=4,pos:=0}:=by unfold cmO;rw[Wa (by simp)]
     show Keep b m H C m (cn k c {c with ζ:=4,pos:=0} H) (co C k (cmO {c with ζ:=4,pos:=0}));rw[e,g];exact⟨h.k4 (c':={c with ζ:=4,pos:=0}) J (by omega) s r rfl rfl rfl rfl,λv i x p=>p.k4 s r rfl⟩
   .have u:WB c 4={c with pos:=c.pos+1}:=by unfold WB;rw[Wa N]
    rw[u];have e:cn k c {c with pos:=c.pos+1} H=H:=by unfold cn;rw[Wa (λz=>by have:=z.2;simp only at this;omega)]
    have g:cmO {c with pos:=c.pos+1}=some {c with pos:=c.pos+1}:=by unfold cmO;rw[Wa (by simp only;omega)]
    show Keep b m H C m (cn k c {c with pos:=c.pos+1} H) (co C k (cmO {c with pos:=c.pos+1}));rw[e,g];exact⟨h.k3 s r r rfl,λv i x p=>p.k3 s r rfl rfl⟩
 by_cases R:c.ζ=4
 .obtain⟨j,I,O,A,B,Y⟩:=M.put (by omega);have hs:=aL (by omega);unfold Wv;simp only;rw[Wa D,Wa G,Wa r,Wb R,A];have e:cn k c (WB c 5) H=H:=by unfold cn;rw[Wa (λz=>by have:=z.1;omega)]
  obtain⟨p1,p2,F⟩:=q0 c 5;have da:(WB c 5).ζ=4/\(WB c 5).pos=(j:Int)+1\/(WB c 5).ζ=5/\(WB c 5).pos=0/\j+1=c.χ.length:=by
   unfold WB;split
   .exact .inr ⟨ND c,rfl,by omega⟩
   .exact .inl ⟨R,by show c.pos+1=_;omega⟩
  have g:cmO (WB c 5)=some (WB c 5):=by unfold cmO;rw[Wa (by omega)]
  show Keep b m H C (gK m c.χ[j].1 c.who c.χ[j].2) (cn k c (WB c 5) H) (co C k (cmO (WB c 5)));rw[e,g];refine⟨h.k5 J K s R I O p1 F da,λv i x p=>p.k1 (λd f=>by cases f;omega) ?_⟩;unfold gK;split<;>rfl
 by_cases U:c.ζ=5
 .obtain⟨j,I,O,A,B,Y⟩:=M.put (by omega);have hs:=aL (by omega);unfold Wv;simp only;rw[Wa D,Wa G,Wa r,Wa R,Wb U,A];have e:cn k c (WB c 6) H=H:=by unfold cn;rw[Wa (λz=>by have:=z.1;omega)]
  obtain⟨p1,p2,F⟩:=q0 c 6;have ho:(∃c',cmO (WB c 6)=some c'/\c'.χ=c.χ/\c'.wv=c.wv/\c'.ζ=5/\c'.pos=(j:Int)+1)\/(cmO (WB c 6)=none/\j+1=c.χ.length):=by
   by_cases N:c.pos+1=c.steps
   .right;have:(WB c 6).ζ=6:=by unfold WB;rw[Wb N];exact NK c
    exact⟨by unfold cmO;rw[Wb (.inl this)],by omega⟩
   .left;have u:WB c 6={c with pos:=c.pos+1}:=by unfold WB;rw[Wa N]
    refine⟨WB c 6,by unfold cmO;rw[Wa (by rw[u];simp only;omega)],p1,F,by rw[u];exact U,by rw[u];show c.pos+1=_;omega⟩
  show Keep b m H C (fb m c.χ[j].1 c.who c.wv) (cn k c (WB c 6) H) (co C k (cmO (WB c 6)));rw[e];refine⟨h.k6 J K s U I O ho,λv i x p=>p.k1 (λd f=>?_) ?_⟩
  .rcases ho with⟨c',q,_,_,q3,_⟩|⟨q,_⟩
   .rw[q]at f;cases f;omega
   .rw[q]at f;cases f
  .unfold fb;split<;>rfl
 .have h7:c.ζ=7:=by omega
  obtain⟨j,I,O,A,B,Y⟩:=M.put (by omega);unfold Wv;simp only;rw[Wa D,Wa G,Wa r,Wa R,Wa U,Wb h7,A];have e:cn k c (cy c c.pos) H=H:=by unfold cn;rw[Wa (λz=>by have:=z.1;omega)]
  show Keep b m H C (fb m c.χ[j].1 c.who (WA m c.χ[j].1).2.1) (cn k c (cy c c.pos) H) (co C k (cmO (cy c c.pos)));rw[e];refine Keep.k1 h (λd f=>by rw[X d f];omega) (λd f=>?_) (by unfold fb;split<;>rfl) (λi a z=>?_) W
  .obtain⟨e,_⟩:=MT f;subst e;rcases jG c c.pos with e|e<;>omega
  .unfold fb;split
   .rw[lH K B ⟨a,z⟩];split
    .rename_i he;subst he;exact⟨rfl,rfl⟩
    .exact⟨rfl,rfl⟩
   .exact⟨rfl,rfl⟩
end
section
variable{s:Sc}{w v:Wo}{n:Int}{a:Ac}{x y:Rt}{k:Nat}{p:Pg}{m:Mm}{o:Opn}
structure RN(w:Wo)(x:Rt)(q:Wo×Rt):Prop where
 mem:q.1.mem=w.mem
 δ:q.1.δ=w.δ
 cm:q.2.ζ=5->q.2.cm.ζ=1\/q.2.cm.ζ=2
theorem fu{q:Wo×Rt}(a:q.1.mem=w.mem)(b:q.1.δ=w.δ)(c:q.2.ζ≠5):RN w x q:=⟨a,b,λh=>Wi h c⟩
theorem RB{a:Int}:RN w x (ec w x k a):=by
 unfold ec;simp only;generalize (if a=2 then []else x.ι)=ε;split
 .exact fu rfl rfl (by show(8:Int)≠5;omega)
 .refine⟨rfl,rfl,λ_=>?_⟩;show(dM ((k:Int)+1) x.rv ε x.μ).ζ=1\/_;unfold dM;simp only;split<;>simp
theorem Bb(a:x.ζ≠5):RN w x (ay w x k p):=by
 have b:∀z:Rt,(WR z).ζ≠5:=λz=>Ln.2.1;unfold ay;split
 .exact fu rfl rfl (by show(6:Int)≠5;omega)
 split
 .unfold il;split
  .exact fu rfl rfl a
  .split
   .exact fu rfl rfl a
   .split
    .exact fu rfl rfl a
    .exact fu rfl rfl (by show(1:Int)≠5;omega)
 split
 .rename_i h1;unfold aT;split
  .exact RB
  .simp only;generalize opN p.1 x.pc=o;split
   .exact fu rfl rfl (Ua h1).2.1
   .split
    .unfold ig;split
     .exact RB
     .split
      .exact fu rfl rfl a
      .exact fu rfl rfl a
    .split
     .exact fu rfl rfl (by show(2:Int)≠5;omega)
     .split
      .unfold fM;cases hZ w.holds ((k:Int)+1) (W0 o).1 (W0 o).2 with
       |none=>exact fu rfl rfl (b _)
       |some hs=>exact fu rfl rfl a
      .repeat' split
       all_goals exact fu rfl rfl a
 split
 .refine fu rfl rfl ?_;show(eD x).ζ≠5;unfold eD;split
  .show(6:Int)≠5;omega
  .split
   .show(1:Int)≠5;omega
   .exact a
 split
 .unfold hV;split
  .exact fu rfl rfl a
  .exact fu rfl rfl (by show(4:Int)≠5;omega)
 split
 .refine fu rfl rfl ?_;show(ez w x).ζ≠5;unfold ez;simp only;split
  .split
   .show(6:Int)≠5;omega
   .exact a
  .show(1:Int)≠5;omega
 split
 .split
  .exact fu rfl rfl a
  .exact fu rfl rfl (by show(7:Int)≠5;omega)
 split
 .split
  .exact fu rfl rfl (by show(0:Int)≠5;omega)
  .exact fu rfl rfl (by show(8:Int)≠5;omega)
 .exact fu rfl rfl a
structure RT(x:Rt):Prop where
 cm:x.ζ=5->x.cm.ζ≠6/\x.cm.ζ≠8
theorem TW(a:x.ζ=5):ay w x k p=ei w x k:=by
 unfold ay;rw[Wa (by omega),Wa (by omega),Wa (by omega),Wa (by omega),Wa (by omega),Wa (by omega),Wb a]
theorem Wvj(h:RT x):RT (ay w x k p).2:=by
 by_cases a:x.ζ=5
 .rw[TW a];have d:RT (de x):=⟨λz=>by(change (6:Int)=5 at z;omega)⟩;unfold ei;split
  .simp only;split
   .exact d
   .rename_i b;refine⟨λ_=>⟨?_,b⟩⟩;have:=(h.cm a).1;show(W4 x.cm).ζ≠6;unfold W4 cy
    repeat' split
    all_goals first|(simp only;omega)|exact this
  .show RT (dt {x with cm:=(Wv w.mem x.cm).2});generalize (Wv w.mem x.cm).2=c;unfold dt;split
   .exact d
   .rename_i b;split
    .exact⟨λz=>by simp only at z;split at z<;>omega⟩
    .rename_i e;exact⟨λ_=>⟨e,b⟩⟩
 .exact⟨λz=>by have:=(Bb (w:=w) (k:=k) (p:=p) a).cm z;omega⟩
theorem Ri:(ay w x k p).1.mem=w.mem\/(x.ζ=5/\(ay w x k p).1.mem=(Wv w.mem x.cm).1):=by
 by_cases a:x.ζ=5
 .rw[TW a];unfold ei;split
  .exact .inl rfl
  .exact .inr ⟨a,rfl⟩
 .exact .inl (Bb a).mem
theorem QH{c:Cm}(i:aq m=true):(Wv m c).1.1<=m.1+1:=by
 have h:(tick m).1.1<=m.1+1:=by unfold tick;split<;>(simp only;omega)
 unfold Wv;simp only;by_cases a:c.ζ=1
 .rw[Wb a];split<;>(show m.1<=m.1+1;omega)
 rw[Wa a];by_cases b:c.ζ=2
 .rw[Wb b];split<;>exact h
 rw[Wa b];by_cases d:c.ζ=3
 .rw[Wb d];split<;>(show m.1<=m.1+1;omega)
 rw[Wa d];by_cases e:c.ζ=4
 .rw[Wb e];unfold gK;split<;>(show m.1<=m.1+1;omega)
 rw[Wa e];by_cases f:c.ζ=5
 .rw[Wb f];unfold fb;split<;>(show m.1<=m.1+1;omega)
 rw[Wa f];by_cases g:c.ζ=7
 .rw[Wb g];unfold fb;split<;>(show m.1<=m.1+1;omega)
 rw[Wa g];show m.1<=m.1+1;omega
structure WT(w:Wo):Prop where
 root:∀(k:Nat) (h:k<w.η.length),RT w.η[k]
 clk:w.mem.1<=w.now
theorem Nr{w0:Wo}{q:Wo×Rt}(e:WT w0)(b:q.1.η=w0.η)(d:RT q.2)(c:q.1.mem.1<=q.1.now):WT (Wo.put q k):=by
 refine⟨λi a=>?_,c⟩;change i<(q.1.η.set k q.2).length at a;have f:i<w0.η.length:=by rw[aK,b]at a;exact a
 show RT ((q.1.η.set k q.2)[i]'a);rw[ex];split
 .exact d
 .simp only[b];exact e.root i f
theorem Wx8(h:WOk s.2.1 n w)(f:WT w):WT (cM s w a):=by
 have b:WT {w with now:=w.now+1}:=⟨f.root,by have:=f.clk;show w.mem.1<=w.now+1;omega⟩;unfold cM;simp only;split
 .rename_i hb;have d:a.2.1.toNat<w.η.length:=by omega
  have g:=f.root _ d;have l:a.2.1.toNat<s.2.1.length:=by rw[←h.len];exact d
  rw[Wn d];split
  .unfold m0;rw[Wn (show a.2.1.toNat<({w with now:=w.now+1}:Wo).η.length from d)];have i:=D9 (w:={w with now:=w.now+1}) (k:=a.2.1.toNat) (HJ h.progs l) ⟨h.mem,h.ψ,h.holds⟩ (h.root _ d) (by have:=h.l4;omega) h.n0;refine Nr b (si h d) (Wvj g) ?_;have o:(ay {w with now:=w.now+1} w.η[a.2.1.toNat] a.2.1.toNat (s.2.1.getD a.2.1.toNat pg0)).1.now=w.now+1:=i.now;rw[o];have q:=f.clk;rcases Ri (w:={w with now:=w.now+1}) (x:=w.η[a.2.1.toNat]) (k:=a.2.1.toNat) (p:=s.2.1.getD a.2.1.toNat pg0)with e|⟨_,e⟩
   .rw[e];show w.mem.1<=w.now+1;omega
   .rw[e];have:=QH (m:=w.mem) (c:=w.η[a.2.1.toNat].cm) h.mem;show(Wv w.mem w.η[a.2.1.toNat].cm).1.1<=w.now+1;omega
  .split
   .split
    .rename_i hc;unfold KY;refine Nr (w0:={w with now:=w.now+1}) b rfl ?_ b.clk;exact⟨λj=>by(change w.η[a.2.1.toNat].ζ=5 at j;omega)⟩
    .exact b
   .split
    .split
     .exact Nr (w0:={w with now:=w.now+1}) b rfl ⟨g.cm⟩ b.clk
     .exact b
    .exact b
 .exact b
theorem Wx1:WT (bo s):=⟨λi h=>by
 simp only[bo,kw];exact⟨λz=>by(change (0:Int)=5 at z;omega)⟩,aj _⟩
end
end Go.Sx
