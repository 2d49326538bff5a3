/- The library's sorts, by the shelf's contracts. -/
import Derived.Test.YtnddhmkccolneaaGreatM3
import Derived.Shelf.SlSortCmp.NoneTotal
import Derived.Shelf.SortM.Plain
import Derived.Shelf.SortM.SortNone
import Derived.Shelf.SlGeneric
open Array renaming getElem?_eq_some_iff→wz,getElem?_modify→Xgy
open Option renaming isSome_none→Xfs
open Bool renaming false_eq_true→dL
open Nat renaming le_refl→Xj,pos_of_ne_zero→Xhn,succ_mul→fC,mul_le_mul_right→gA
open List renaming getElem?_eq_none→hQ,size_toArray→ZZ,getElem?_eq_getElem→Xr,flatMap_cons→qp,eq_nil_of_length_eq_zero→ee,take_length→kQ
namespace Go.Sx
set_option linter.unusedVariables false
set_option linter.unusedSimpArgs false
section
variable{α:Type}[Inhabited α]{enc:α->Value}{w:World}{b off n:Nat}{d:Array α}{os:Array Obj}
theorem DO{vs}{T}{fr}(a:w.heap[b]?=some (.cells vs T fr)):
  (Sort.grow (Sort.putRow enc (Sort.ahead w n) b off d) os).heap[b]?=some (.cells (Sort.putCells enc off d vs) T fr):=by
 have c:b<w.heap.size:=(wz.1 a).1;rw[Sort.heap_grow_old _ _ (by simpa [Sort.putRow,Sort.mapBlock,Sort.ahead]using c)];simp[Sort.putRow,Sort.mapBlock,Sort.ahead,Xgy,a,Sort.onCells]
theorem M5{k}(c:k<w.heap.size)(a:k≠b):(Sort.grow (Sort.putRow enc (Sort.ahead w n) b off d) os).heap[k]?=w.heap[k]?:=by
 rw[Sort.heap_grow_old _ _ (by simpa [Sort.putRow,Sort.mapBlock,Sort.ahead]using c)];have:b≠k:=λh=>a h.symm;simp[Sort.putRow,Sort.mapBlock,Sort.ahead,Xgy,this]
theorem WtC:w.heap.size<=(Sort.grow (Sort.putRow enc (Sort.ahead w n) b off d) os).heap.size:=by
 rw[Sort.size_grow];simp[Sort.putRow,Sort.mapBlock,Sort.ahead]
theorem Mh{vs}(k):(Sort.putCells enc off d vs)[k]?=if off<=k/\k<off+d.size/\k<vs.size then some (enc d[k-off]!)else vs[k]?:=by
 unfold Sort.putCells;by_cases h:k<vs.size
 .by_cases h2:off<=k/\k<off+d.size
  .simp[h,h2]
  .have:¬(off<=k/\k<off+d.size/\k<vs.size):=λa=>h2 ⟨a.1,a.2.1⟩;rw[We this];simp[h,h2]
 .have:¬(off<=k/\k<off+d.size/\k<vs.size):=λa=>h a.2.2;rw[We this];simp[h]
theorem Wvz{vs}{T}{fr}{F}(a:w.heap[b]?=some (.cells vs T fr))(i:∀o,off<=o->o<off+d.size->F b o):
  WLe F w (Sort.grow (Sort.putRow enc (Sort.ahead w n) b off d) os) where
 size:=WtC
 row:=λk q S c=>by
  have e:k<w.heap.size:=(wz.1 c).1;by_cases h:k=b
  .subst h;rw[a]at c;injection c with c;injection c with l m p;subst l m p;exact⟨_,DO a,by simp[Sort.putCells]⟩
  .exact⟨q,by rw[M5 e h];exact c,rfl⟩
 cell:=λk o e f=>by
  by_cases h:k=b
  .subst h;unfold World.cell?;rw[DO a,a];simp only[Xfs,dL,dO];rw[Mh,We λh=>f (i o h.1 h.2.1)]
  .unfold World.cell?;simp only[];rw[M5 e h]
 whole:=λk e f=>by
  by_cases h:k=b
  .subst h;rw[DO a,a];have r:d.size=0:=by
    rcases Nat.eq_zero_or_pos d.size with g|g
    .exact g
    .exact Wy (i off (Xj _) (by omega)) (f off)
   congr 2;apply Array.ext_getElem?;intro j;rw[Mh,We (by omega)]
  .exact M5 e h
 os:=rfl
 output:=rfl
 tape:=rfl
theorem Wvd{vs}{T}{fr}{xs:List α}(d:w.heap[b]?=some (.cells vs T fr))(e:off+xs.length<=vs.size):
  Mem (Sort.grow (Sort.putRow enc (Sort.ahead w n) b off xs.toArray) os) b off (xs.map enc):=by
 intro j v a;unfold World.cell?;rw[DO d];simp only[Xfs,dL,dO];rw[List.getElem?_map]at a;have c:j<xs.length:=by
  rcases Nat.lt_or_ge j xs.length with h|h
  .exact h
  .rw[hQ h]at a;cases a
 rw[Mh,Wf ⟨by omega,by simp only[ZZ];omega,by omega⟩];rw[Xr c]at a;simp only[Option.map_some]at a;rw[←a,Nat.add_sub_cancel_left];simp[c]
end
open Go.Proofs
theorem SW{α:Type}[Inhabited α]{enc:α->List Value}{k}(a:∀x,(enc x).length=k):∀(l:List α) (t),t<l.length*k->(l.flatMap enc)[t]?=(enc (l.toArray[t/k]!))[t%k]?
 | [],t,h=>by simp at h
 |x::l,t,h=>by
  have e:0<k:=Xhn λd=>by subst d;simp at h
  rw[qp];by_cases b:t<k
  .rw[List.getElem?_append_left (by rw[a];exact b),Nat.div_eq_of_lt b,Nat.mod_eq_of_lt b];rfl
  .have e1:t/k=(t-k)/k+1:=by rw[←Nat.add_div_right _ e];congr 1;omega
   have c:t%k=(t-k)%k:=by rw[Nat.mod_eq_sub_mod (by omega)]
   rw[List.getElem?_append_right (by rw[a];omega),a,SW a l (t-k) (by rw[List.length_cons,fC]at h;omega),e1,c];simp
theorem TI{α}[Inhabited α]{enc}{k}(c:∀x,(enc x).length=k)(d:Array α):(Sort.flatK enc k d).toList=d.toList.flatMap enc:=by
 have i:(d.toList.flatMap enc).length=d.size*k:=by
  rw[List.length_flatMap];have:(d.toList.map λa=>(enc a).length)=List.replicate d.size k:=by
   rw[List.eq_replicate_iff];simp[c]
  rw[this];clear this;induction d.size with
  |zero=>simp
  |succ n ih=>rw[List.replicate_succ,List.sum_cons,ih,fC];omega
 apply List.ext_getElem?;intro t;by_cases b:t<d.size*k
 .rw[SW c d.toList t (by simpa using b)];have g:t<(Sort.flatK enc k d).size:=by simpa using b
  have e:=Sort.get_flatK enc k d t b;rw[getElem!_pos (Sort.flatK enc k d) t g]at e;have j:0<k:=Xhn λh=>by subst h;simp at b
  have f:t%k<(enc d[t/k]!).length:=by rw[c];exact Nat.mod_lt _ j
  rw[Xr (by simpa using g)];simp only[Array.getElem_toList,Array.toArray_toList];rw[e,getElem!_pos (enc d[t/k]!) (t%k) f,Xr f]
 .rw[hQ (by simpa using b),hQ (by rw[i];omega)]
theorem Ui{α β:Type}{R}{f:α->β}{enc}(h:∀a,R (f a) (enc a)):∀(l:List α),bO R (l.map f) (l.flatMap enc)
 | []=>rfl
 |a::l=>⟨enc a,l.flatMap enc,rfl,h a,Ui h l⟩
def OD(P:Program)(g:FuncId)(e:Ty)(rng:e.den->Bool)(cf:e.den->e.den->Int):Prop:=
 ∀(G:GH) (x y:e.den) (us vs:List Value) (w:World),rng x=true->rng y=true->Enc G e x us->Enc G e y vs->
  Calls P g #[.agg us.toArray,.agg vs.toArray] w λa b=>a= .returned (.int .i64 (cf x y))/\∃q c,b=Sort.grow (w.drewN q) c
theorem NB{P}{t}{a b c}(h:-1000000000<=a/\a<=1000000000)(f:-1000000000<=b/\b<=1000000000)(d:a-b=c)(w):Sem.run P (Go.binOp .sub t (.int .i64 a) (.int .i64 b)) w= .ok (.int .i64 c) w:=by
 have e:IntKind.wrap .i64 (a-b)=c:=by rw[←d];exact pt (by unfold I64;omega)
 simp only[Go.binOp,ne_eq,not_true_eq_false,dO,↓reduceIte,Op.intArith,e];rfl
theorem Wxk{P}{t}{a b}(w):Sem.run P (Go.binOp .neq t (.int .i64 a) (.int .i64 b)) w= .ok (.bool (a !=b)) w:=by
 simp only[Go.binOp,ne_eq,not_true_eq_false,dO,↓reduceIte,Op.intCmp];rfl
theorem WsU{P}{t}{x y}{a b}(w):Sem.run P (eqGuard .neq t x y (.int .i64 a) (.int .i64 b)) w= .ok () w:=rfl
theorem Nb(w:World)(a b):∃q zm,(w.alloc a).alloc b=Sort.grow (w.drewN q) zm:=
 ⟨0,#[a,b],by show World.alloc (World.alloc w a) b=_;unfold World.alloc Sort.grow;simp only[World.drewN_zero,Array.push_eq_append,Array.append_assoc];rfl⟩
theorem MW{G}:∀(t) (d) (cs),Enc G t d cs->∀v∈cs,v.oneCell'=true
 | .int _,d,cs,h,v,hv=>by simp only[Enc]at h;subst h;simp at hv;subst hv;rfl
 | .bool,d,cs,h,v,hv=>by simp only[Enc]at h;subst h;simp at hv;subst hv;rfl
 | .str,d,cs,h,v,hv=>by simp only[Enc]at h;subst h;simp at hv;subst hv;rfl
 | .slice _,d,cs,h,v,hv=>by
  obtain⟨u,rfl,g⟩:=h;simp at hv;subst hv;rcases g with⟨rfl,_⟩|⟨_,_,_,_,rfl,_⟩|⟨_,_,rfl,_⟩<;>rfl
 | .own _,d,cs,h,v,hv=>h.elim
 | .prod a b,d,cs,h,v,hv=>by
  obtain⟨i,j,rfl,e,f⟩:=h;rcases List.mem_append.1 hv with c|c
  .exact MW a _ _ e v c
  .exact MW b _ _ f v c
theorem TG{P}{ρ}(L:SlLaysF0.n6 P ρ){e}(hd:e.data=true)(h0:0<e.size)(aE:∀w,(isAgg (ρ.t 24)).run P w= .ok true w)(zE:∀w,(Go.sizeOf (ρ.t 24)).run P w= .ok e.size w)
  {g} (eg:∀I w,(callFunc g I).run P w= .ok (.enter g I) w) {rng} {cf} (hO:SwoOn rng cf) (zn:OD P g e rng cf) (N):
  AP P (ρ.f 6) (Sig.of [.mut e,.clos g 0] [] (λd=>zy rng cf N d.1)):=by
 intro d o bJ G w vs ns ks aX lO U hg;obtain⟨xs,u⟩:=d;change List e.den at xs;obtain⟨zo,Dh,ab,rfl⟩:=WoZ (N:=N) (xs:=xs) bJ;obtain⟨pc,ay,n2,aJ,rfl,rfl,rfl,bi,cvs,BI,rfl,oR,_,h2⟩:=aX;have zp:cvs= []:=ee oR;subst zp;obtain⟨rfl,rfl,rfl⟩:=h2;have kx:(lz cf xs).length=xs.length:=by unfold lz;exact List.length_mergeSort _
 have iW:aq (α:=e.den) w (WD G w e) e.size pc.nu xs pc.fp:=bi;obtain⟨h1,h3,W⟩:=iW;by_cases hx:xs= []
 .subst hx;have X:∃p cap,pc.nu.hdr= .slice p 0 cap:=by
   have sW:pc.nu.len=0:=h1.symm;unfold Nu.hdr;cases pc.nu.blk with
   |none=>exact⟨_,_,rfl⟩
   |some b=>exact⟨_,_,by rw[sW]⟩
  obtain⟨p,cap,X⟩:=X;show Calls P (ρ.f 6) #[pc.nu.hdr,.func (.func g) #[] #[]] w _;rw[X];refine(AnyF.slices_SortFunc_none L p cap _ w).mono ?_;rintro e' w' ⟨rfl,rfl⟩;have Di:lz cf ([]:List e.den)= []:=ee kx;refine⟨[],[pc.fp],[],[],G,rfl,?_⟩;exact{
   res:=⟨rfl,rfl⟩
   outs:=⟨pc,[],[],rfl,rfl,by rw[show((lz cf ([]:List e.den),()),()).1.1=([]:List e.den)from Di];exact bi,rfl,rfl,rfl⟩
   sep:=by simpa [fps]using lO
   own:=λS hS b o D=>by
    have:S=pc.fp:=by simpa [fps]using hS
    subst this;exact⟨(U pc (by simp) b o D).1,.inl ⟨pc,by simp,D⟩,(U pc (by simp) b o D).2⟩
   gx:=⟨λ_ _ _ h=>h,λ_ _ _ h=>.inl h⟩
   g:=hg
   le:={size:=Xj _,row:=λ_ vs _ h=>⟨vs,h,rfl⟩,cell:=λ_ _ _ _=>rfl,whole:=λ_ _ _=>rfl,os:=rfl,output:=rfl,tape:=rfl}}
 .have iG:0<xs.length:=by cases xs with|nil=>exact Wy rfl hx|cons a l=>simp
  cases hb:pc.nu.blk with
  |none=>rw[hb]at W;exact Wy W hx
  |some b=>
  rw[hb]at W;simp only[]at W;obtain⟨h5,h6,⟨us,T,Q,cS⟩,cs,ps,jj,aK,Bk,bk⟩:=W;obtain⟨tV,rfl⟩:=(ri hd xs cs ps).1 jj;have dw:cs.length=xs.length*e.size:=vr (λx c h=>c3 e x c h) xs cs tV
  let B (i:Nat):List Value:=(cs.drop (i*e.size)).take e.size
  have Dj:∀(i:Nat) (hi:i<xs.length),Enc G e xs[i] (B i):=λi hi=>MR (λx c h=>c3 e x c h) xs cs i xs[i] tV (Xr hi)
  let A:={p:e.den×List Value// ∃(i:Nat) (hi:i<xs.length),p=(xs[i],B i)}
  let el (i:Nat) (hi:i<xs.length):A:=⟨(xs[i],B i),i,hi,rfl⟩
  haveI:Inhabited A:=⟨el 0 iG⟩
  let enc:A->List Value:=λp=>p.1.2
  let k:A->A->Int:=λp q=>cf p.1.1 q.1.1
  have Z:∀p:A,Enc G e p.1.1 (enc p):=λp=>by
   obtain⟨i,hi,M⟩:=p.2;show Enc G e p.1.1 p.1.2;rw[M];exact Dj i hi
  have H:∀p:A,rng p.1.1=true:=λp=>by
   obtain⟨i,hi,M⟩:=p.2;rw[M];exact zo _ (List.getElem_mem hi)
  have hk:∀p:A,(enc p).length=e.size:=λp=>c3 e _ _ (Z p);have Dk:∀p:A,∀v∈enc p,v.oneCell'=true:=λp=>MW e _ _ (Z p)
  let C:List A:=(List.range xs.length).attach.map λi=>el i.1 (List.mem_range.1 i.2)
  have O:C.length=xs.length:=by simp[C]
  have Bl:∀(i:Nat) (hi:i<xs.length),C[i]'(by rw[O];exact hi)=el i hi:=λi hi=>by simp[C]
  have Dl:C.map (λp:A=>p.1.1)=xs:=by
   apply List.ext_getElem (by simp[O]);intro i h1 h2;rw[List.getElem_map,Bl i h2]
  have hSW:Sort.SWO (Go.Proofs.ltOf k):={
   irrefl:=λx=>by unfold Go.Proofs.ltOf;exact Wg (hO.irr _ (H x))
   trans:=λx y z a b=>by
    unfold Go.Proofs.ltOf at*;exact Wc (hO.tr _ _ _ (H x) (H y) (H z) (WV a) (WV b))
   ntrans:=λx y z a b=>by
    unfold Go.Proofs.ltOf at*;exact Wg (hO.nt _ _ _ (H x) (H y) (H z) (of_decide_eq_false a) (of_decide_eq_false b))}
  have hT:∀x y:A,(Go.Proofs.ltOf k) x y=false->(Go.Proofs.ltOf k) y x=false->x=y:=λx y a c=>by
   unfold Go.Proofs.ltOf at a c;have a':=of_decide_eq_false a;have c':=of_decide_eq_false c;obtain⟨i,hi,M⟩:=x.2;obtain⟨j,F,Y⟩:=y.2;have key:∀(i j:Nat) (hi:i<xs.length) (F:j<xs.length),¬cf xs[i] xs[j]<0->¬cf xs[j] xs[i]<0->¬i<j:=λi j hi F a b ab=>by
    have:=UW Dh i j hi F ab;unfold nb mZ at this;simp only[Bool.or_eq_true,Wh]at this;rcases this with h|h
    .exact a h
    .exact b h
   have a2:¬cf xs[i] xs[j]<0:=by
    have:k x y=cf xs[i] xs[j]:=by show cf x.1.1 y.1.1=_;rw[M,Y]
    rw[←this];exact a'
   have c2:¬cf xs[j] xs[i]<0:=by
    have:k y x=cf xs[j] xs[i]:=by show cf y.1.1 x.1.1=_;rw[M,Y]
    rw[←this];exact c'
   have n1:=key i j hi F a2 c2;have n2:=key j i F hi c2 a2;have tn:i=j:=by omega
   subst tn;exact Subtype.ext (M.trans Y.symm)
  have qU:(Sort.flatK enc e.size C.toArray).toList=cs:=by
   rw[TI hk];have Dm:∀(n:Nat) (hn:n<=xs.length),(C.take n).flatMap enc=cs.take (n*e.size):=by
    intro n
    induction n with
    |zero=>intro hn;simp
    |succ n ih=>
     intro hn;rw[List.take_succ_eq_append_getElem (by rw[O];omega),List.flatMap_append,ih (by omega),Bl n (by omega)];show cs.take (n*e.size)++([el n (by omega)].flatMap enc)=_;simp only[qp,List.flatMap_nil,List.append_nil];show cs.take (n*e.size)++B n=_;rw[fC,List.take_add]
   have:=Dm xs.length (Xj _);rw[←O,kQ,O,←dw,kQ]at this;simpa using this
  have hH:Sort.HoldsK enc e.size w b pc.nu.off C.toArray:=by
   intro j F;have gr:j<cs.length:=by rw[←qU];simpa using F
   refine⟨?_,by simp[World.frozen?,Q]⟩;rw[getElem!_pos (Sort.flatK enc e.size C.toArray) j F];have K:(Sort.flatK enc e.size C.toArray)[j]=cs[j]:=by
    have:(Sort.flatK enc e.size C.toArray).toList[j]'(by simpa using F)=cs[j]:=by simp only[qU]
    simpa using this
   rw[K];exact aK j cs[j] (Xr gr)
  have zq:b<w.heap.size:=(wz.1 Q).1;have uv:CmpLays P g #[] enc e.size k b pc.nu.off C.toArray.size w:=λm os dk hs x y=>by
   simpa using zn G x.1.1 y.1.1 (enc x) (enc y) (sortWorldK enc e.size w b pc.nu.off m dk os) (H x) (H y) (Z x) (Z y)
  have X:pc.nu.hdr= .slice (some ⟨b,pc.nu.off,none⟩) C.toArray.size pc.nu.cap:=by
   unfold Nu.hdr;rw[hb];simp only[ZZ,O,h1]
  show Calls P (ρ.f 6) #[pc.nu.hdr,.func (.func g) #[] #[]] w _;rw[X];refine(AnyQ.slices_SortFunc_total L e.size aE zE enc hk Dk k hSW g #[] b pc.nu.off pc.nu.cap C.toArray w eg uv hH zq (by simpa [O]using ab) hT).mono ?_;rintro e' w' ⟨rfl,m,os,rfl⟩;generalize hsd:(C.toArray.toList.mergeSort λx y=>!(Go.Proofs.ltOf k) y x)=sd;have Bm:sd.map (λp:A=>p.1.1)=lz cf xs:=by
   have hm:=List.map_mergeSort (r:=λx y:A=>!(Go.Proofs.ltOf k) y x) (s:=λx y:e.den=>!mZ cf y x) (f:=λp:A=>p.1.1) (l:=C) (λa _ b _=>rfl);rw[Dl]at hm;rw[←hsd,lz,←hm]
  have Dn:sd.length=xs.length:=by have:=Ws List.length Bm;rw[List.length_map,kx]at this;exact this
  have zr:(Sort.flatK enc e.size sd.toArray).toList=sd.flatMap enc:=TI hk _;have sw:bO (Enc G e) (lz cf xs) (sd.flatMap enc):=by rw[←Bm];exact Ui (R:=Enc G e) Z sd
  have E:(sd.flatMap enc).length=xs.length*e.size:=by rw[vr (λx c h=>c3 e x c h) _ _ sw,kx]
  have vR:pc.nu.off+(sd.flatMap enc).length<=us.size:=by
   rw[E];have:=gA e.size h5;omega
  have Do:∀o,pc.nu.off<=o->o<pc.nu.off+xs.length*e.size->pc.fp b o:=λo ha dg=>by
   have:=gA e.size h5;exact bk (Go.Sx.rng b pc.nu.off (pc.nu.cap*e.size)) (List.mem_cons_self ..) b o ⟨rfl,ha,by omega⟩
  have Dp:sortWorldK enc e.size w b pc.nu.off m sd.toArray os=Sort.grow (Sort.putRow id (Sort.ahead w m) b pc.nu.off (sd.flatMap enc).toArray) os:=by
   unfold sortWorldK Sort.putRowK;rw[←zr]
  rw[Dp];generalize sd.flatMap enc=V at sw E vR;have hw:WLe (Of [pc]) w (Sort.grow (Sort.putRow id (Sort.ahead w m) b pc.nu.off V.toArray) os):=Wvz Q λo ha dg=>⟨pc,by simp,Do o ha (by simpa [E]using dg)⟩;have ho:aq (α:=e.den) (Sort.grow (Sort.putRow id (Sort.ahead w m) b pc.nu.off V.toArray) os) (WD G (Sort.grow (Sort.putRow id (Sort.ahead w m) b pc.nu.off V.toArray) os) e) e.size pc.nu (lz cf xs) pc.fp:=by
   refine⟨by rw[kx];exact h1,h3,?_⟩;rw[hb];refine⟨by rw[kx];exact h5,h6,⟨_,T,DO Q,by simpa [Sort.putCells]using cS⟩,V,[],(ri hd _ _ _).2 ⟨sw,rfl⟩,?_,Bk,bk⟩;have:=Wvd (enc:=id) (n:=m) (os:=os) (xs:=V) Q vR
   rwa [List.map_id]at this
  refine⟨[],[pc.fp],[],[],G,rfl,?_⟩;exact{
   res:=⟨rfl,rfl⟩
   outs:=⟨pc,[],[],rfl,rfl,ho,rfl,rfl,rfl⟩
   sep:=by simpa [fps]using lO
   own:=λS hS J o D=>by
    have:S=pc.fp:=by simpa [fps]using hS
    subst this;exact⟨(U pc (by simp) J o D).1,.inl ⟨pc,by simp,D⟩,Nat.lt_of_lt_of_le (U pc (by simp) J o D).2 hw.size⟩
   gx:=⟨λ_ _ _ h=>h,λ_ _ _ h=>.inl h⟩
   g:=λJ o v hv=>by
    have K:=hg J o v hv;have jH:J<w.heap.size:=by
     unfold World.cell? at K;simp only[]at K;rcases Nat.lt_or_ge J w.heap.size with h|h
     .exact h
     .rw[Array.getElem?_eq_none h]at K;cases K
    exact(hw.cell J o jH λ⟨q,Y,hf⟩=>by
     have:q=pc:=by simpa using Y
     subst this;have:=(U q (by simp) J o hf).1;rw[hv]at this;cases this).trans K
   le:=hw}
end Go.Sx
