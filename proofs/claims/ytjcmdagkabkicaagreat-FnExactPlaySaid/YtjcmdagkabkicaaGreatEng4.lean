/- The library's sorts, by the shelf's contracts. -/
import Derived.Test.YtjcmdagkabkicaaGreatM3
import Derived.Shelf.SlSortCmp.NoneTotal
import Derived.Shelf.SortM.Plain
import Derived.Shelf.SortM.SortNone
import Derived.Shelf.SlGeneric
open Array renaming getElem?_eq_some_iff→Xbw,getElem?_modify→Xgl
open Option renaming isSome_none→Xea
open Bool renaming false_eq_true→Xap
open Nat renaming le_refl→Xm,pos_of_ne_zero→Xgp,succ_mul→Xbr,mul_le_mul_right→Xax
open List renaming getElem?_eq_none→Xbp,size_toArray→Xef,getElem?_eq_getElem→Xq,flatMap_cons→Xgw,eq_nil_of_length_eq_zero→Xx,take_length→Xdf
namespace Go.Sx
set_option linter.unusedVariables false
set_option linter.unusedSimpArgs false
section
variable{α:Type}[Inhabited α]{enc:α->Value}{w:World}{b off n:Nat}{d:Array α}{os:Array Obj}
theorem Wjc{vs:Array Value}{T:TypeId}{fr:Nat×Nat}(hb:w.heap[b]?=some (.cells vs T fr)):
  (Sort.grow (Sort.putRow enc (Sort.ahead w n) b off d) os).heap[b]?=some (.cells (Sort.putCells enc off d vs) T fr):=by
 have hg:b<w.heap.size:=(Xbw.1 hb).1;rw[Sort.heap_grow_old _ _ (by simpa [Sort.putRow,Sort.mapBlock,Sort.ahead]using hg)];simp[Sort.putRow,Sort.mapBlock,Sort.ahead,Xgl,hb,Sort.onCells]
theorem Wms{k:Nat}(hk:k<w.heap.size)(bI:k≠b):(Sort.grow (Sort.putRow enc (Sort.ahead w n) b off d) os).heap[k]?=w.heap[k]?:=by
 rw[Sort.heap_grow_old _ _ (by simpa [Sort.putRow,Sort.mapBlock,Sort.ahead]using hk)];have:b≠k:=λh=>bI h.symm;simp[Sort.putRow,Sort.mapBlock,Sort.ahead,Xgl,this]
theorem Wsr:w.heap.size<=(Sort.grow (Sort.putRow enc (Sort.ahead w n) b off d) os).heap.size:=by
 rw[Sort.size_grow];simp[Sort.putRow,Sort.mapBlock,Sort.ahead]
theorem Whk{vs:Array Value}(k:Nat):(Sort.putCells enc off d vs)[k]?=if off<=k/\k<off+d.size/\k<vs.size then some (enc d[k-off]!)else vs[k]?:=by
 unfold Sort.putCells;by_cases h:k<vs.size
 .by_cases h2:off<=k/\k<off+d.size
  .simp[h,h2]
  .have:¬(off<=k/\k<off+d.size/\k<vs.size):=λh3=>h2 ⟨h3.1,h3.2.1⟩;rw[Wc this];simp[h,h2]
 .have:¬(off<=k/\k<off+d.size/\k<vs.size):=λh3=>h h3.2.2;rw[Wc this];simp[h]
theorem Wtw{vs:Array Value}{T:TypeId}{fr:Nat×Nat}{F:CS}(hb:w.heap[b]?=some (.cells vs T fr))(hF:∀o,off<=o->o<off+d.size->F b o):
  WLe F w (Sort.grow (Sort.putRow enc (Sort.ahead w n) b off d) os) where
 size:=Wsr
 row:=λk us S hk=>by
  have ac:k<w.heap.size:=(Xbw.1 hk).1;by_cases h:k=b
  .subst h;rw[hb]at hk;injection hk with hk;injection hk with h1 h2 h3;subst h1 h2 h3;exact⟨_,Wjc hb,by simp[Sort.putCells]⟩
  .exact⟨us,by rw[Wms ac h];exact hk,rfl⟩
 cell:=λk o ac hn=>by
  by_cases h:k=b
  .subst h;unfold World.cell?;rw[Wjc hb,hb];simp only[Xea,Xap,Wat];rw[Whk,Wc λh=>hn (hF o h.1 h.2.1)]
  .unfold World.cell?;simp only[];rw[Wms ac h]
 whole:=λk ac hn=>by
  by_cases h:k=b
  .subst h;rw[Wjc hb,hb];have hz:d.size=0:=by
    rcases Nat.eq_zero_or_pos d.size with h0|h0
    .exact h0
    .exact WD (hF off (Xm _) (by omega)) (hn off)
   congr 2;apply Array.ext_getElem?;intro j;rw[Whk,Wc (by omega)]
  .exact Wms ac h
 os:=rfl
 output:=rfl
 tape:=rfl
theorem Wuz{vs:Array Value}{T:TypeId}{fr:Nat×Nat}{xs:List α}(hb:w.heap[b]?=some (.cells vs T fr))(ad:off+xs.length<=vs.size):
  Mem (Sort.grow (Sort.putRow enc (Sort.ahead w n) b off xs.toArray) os) b off (xs.map enc):=by
 intro j v hj;unfold World.cell?;rw[Wjc hb];simp only[Xea,Xap,Wat];rw[List.getElem?_map]at hj;have uF:j<xs.length:=by
  rcases Nat.lt_or_ge j xs.length with h|h
  .exact h
  .rw[Xbp h]at hj;cases hj
 rw[Whk,Wf ⟨by omega,by simp only[Xef];omega,by omega⟩];rw[Xq uF]at hj;simp only[Option.map_some]at hj;rw[←hj,Nat.add_sub_cancel_left];simp[uF]
end
end Go.Sx
namespace Go.Sx
open Go.Proofs
set_option linter.unusedVariables false
set_option linter.unusedSimpArgs false
theorem WiZ{α:Type}[Inhabited α]{enc:α->List Value}{k:Nat}(hk:∀x,(enc x).length=k):∀(l:List α) (t:Nat),t<l.length*k->(l.flatMap enc)[t]?=(enc (l.toArray[t/k]!))[t%k]?
 | [],t,h=>by simp at h
 |x::l,t,h=>by
  have k0:0<k:=Xgp λh0=>by subst h0;simp at h
  rw[Xgw];by_cases ht:t<k
  .rw[List.getElem?_append_left (by rw[hk];exact ht),Nat.div_eq_of_lt ht,Nat.mod_eq_of_lt ht];rfl
  .have e1:t/k=(t-k)/k+1:=by rw[←Nat.add_div_right _ k0];congr 1;omega
   have e2:t%k=(t-k)%k:=by rw[Nat.mod_eq_sub_mod (by omega)]
   rw[List.getElem?_append_right (by rw[hk];omega),hk,WiZ hk l (t-k) (by rw[List.length_cons,Xbr]at h;omega),e1,e2];simp
theorem Wkq{α:Type}[Inhabited α]{enc:α->List Value}{k:Nat}(hk:∀x,(enc x).length=k)(d:Array α):(Sort.flatK enc k d).toList=d.toList.flatMap enc:=by
 have hl:(d.toList.flatMap enc).length=d.size*k:=by
  rw[List.length_flatMap];have:(d.toList.map λa=>(enc a).length)=List.replicate d.size k:=by
   rw[List.eq_replicate_iff];simp[hk]
  rw[this];clear this;induction d.size with
  |zero=>simp
  |succ n ih=>rw[List.replicate_succ,List.sum_cons,ih,Xbr];omega
 apply List.ext_getElem?;intro t;by_cases ht:t<d.size*k
 .rw[WiZ hk d.toList t (by simpa using ht)];have hs:t<(Sort.flatK enc k d).size:=by simpa using ht
  have hg:=Sort.get_flatK enc k d t ht;rw[getElem!_pos (Sort.flatK enc k d) t hs]at hg;have k0:0<k:=Xgp λh0=>by subst h0;simp at ht
  have hm:t%k<(enc d[t/k]!).length:=by rw[hk];exact Nat.mod_lt _ k0
  rw[Xq (by simpa using hs)];simp only[Array.getElem_toList,Array.toArray_toList];rw[hg,getElem!_pos (enc d[t/k]!) (t%k) hm,Xq hm]
 .rw[Xbp (by simpa using ht),Xbp (by rw[hl];omega)]
theorem WmR{α β:Type}{R:β->List Value->Prop}{f:α->β}{enc:α->List Value}(h:∀a,R (f a) (enc a)):∀(l:List α),Wef R (l.map f) (l.flatMap enc)
 | []=>rfl
 |a::l=>⟨enc a,l.flatMap enc,rfl,h a,WmR h l⟩
def WvV(P:Program)(g:FuncId)(e:Ty)(rng:e.den->Bool)(cf:e.den->e.den->Int):Prop:=
 ∀(G:GH) (x y:e.den) (us vs:List Value) (w:World),rng x=true->rng y=true->Enc G e x us->Enc G e y vs->
  Calls P g #[.agg us.toArray,.agg vs.toArray] w λe' w'=>e'= .returned (.int .i64 (cf x y))/\∃q sm,w'=Sort.grow (w.drewN q) sm
theorem Wo7{P:Program}{t:TypeId}{a b c:Int}(h:-1000000000<=a/\a<=1000000000)(h2:-1000000000<=b/\b<=1000000000)(hc:a-b=c)(w:World):Sem.run P (Go.binOp .sub t (.int .i64 a) (.int .i64 b)) w= .ok (.int .i64 c) w:=by
 have e:IntKind.wrap .i64 (a-b)=c:=by rw[←hc];exact WgM (by unfold I64;omega)
 simp only[Go.binOp,ne_eq,not_true_eq_false,Wat,↓reduceIte,Op.intArith,e];rfl
theorem Wvf{P:Program}{t:TypeId}{a b:Int}(w:World):Sem.run P (Go.binOp .neq t (.int .i64 a) (.int .i64 b)) w= .ok (.bool (a !=b)) w:=by
 simp only[Go.binOp,ne_eq,not_true_eq_false,Wat,↓reduceIte,Op.intCmp];rfl
theorem WsB{P:Program}{t:TypeId}{x y:Operand}{a b:Int}(w:World):Sem.run P (eqGuard .neq t x y (.int .i64 a) (.int .i64 b)) w= .ok () w:=rfl
theorem Wmu(w:World)(a b:Obj):∃q sm,(w.alloc a).alloc b=Sort.grow (w.drewN q) sm:=
 ⟨0,#[a,b],by show World.alloc (World.alloc w a) b=_;unfold World.alloc Sort.grow;simp only[World.drewN_zero,Array.push_eq_append,Array.append_assoc];rfl⟩
theorem Wmp{G:GH}:∀(t:Ty) (d:t.den) (cs:List Value),Enc G t d cs->∀v∈cs,v.oneCell'=true
 | .int _,d,cs,h,v,hv=>by simp only[Enc]at h;subst h;simp at hv;subst hv;rfl
 | .bool,d,cs,h,v,hv=>by simp only[Enc]at h;subst h;simp at hv;subst hv;rfl
 | .str,d,cs,h,v,hv=>by simp only[Enc]at h;subst h;simp at hv;subst hv;rfl
 | .slice _,d,cs,h,v,hv=>by
  obtain⟨u,rfl,hr⟩:=h;simp at hv;subst hv;rcases hr with⟨rfl,_⟩|⟨_,_,_,_,rfl,_⟩|⟨_,_,rfl,_⟩<;>rfl
 | .own _,d,cs,h,v,hv=>h.elim
 | .prod a b,d,cs,h,v,hv=>by
  obtain⟨c1,c2,rfl,h1,h2⟩:=h;rcases List.mem_append.1 hv with h3|h3
  .exact Wmp a _ _ h1 v h3
  .exact Wmp b _ _ h2 v h3
theorem WkH{P:Program}{ρ:Go.Shelf.Ren}(L:SlLaysF0.n6 P ρ){e:Ty}(hd:e.data=true)(h0:0<e.size)(aE:∀w,(isAgg (ρ.t 24)).run P w= .ok true w)(zE:∀w,(Go.sizeOf (ρ.t 24)).run P w= .ok e.size w)
  {g:FuncId} (eg:∀args w,(callFunc g args).run P w= .ok (.enter g args) w) {rng:e.den->Bool} {cf:e.den->e.den->Int} (hO:SwoOn rng cf) (sn:WvV P g e rng cf) (N:Nat):
  Wwi P (ρ.f 6) (Sig.of [.mut e,.clos g 0] [] (λd=>Zqd rng cf N d.1)):=by
 intro d o bh G w vs ns ks aP jf cR hg;obtain⟨xs,u⟩:=d;change List e.den at xs;obtain⟨so,xo,ac,rfl⟩:=Wpm (N:=N) (xs:=xs) bh;obtain⟨pc,au,n2,aC,rfl,rfl,rfl,aR,cvs,vM,rfl,kT,_,h2⟩:=aP;have sq:cvs= []:=Xx kT;subst sq;obtain⟨rfl,rfl,rfl⟩:=h2;have hQ:(Wev cf xs).length=xs.length:=by unfold Wev;exact List.length_mergeSort _
 have fQ:WbN (α:=e.den) w (Wy G w e) e.size pc.nu xs pc.fp:=aR;obtain⟨h1,h3,h4⟩:=fQ;by_cases hx:xs= []
 .subst hx;have he:∃p cap,pc.nu.hdr= .slice p 0 cap:=by
   have nA:pc.nu.len=0:=h1.symm;unfold Nu.hdr;cases pc.nu.blk with
   |none=>exact⟨_,_,rfl⟩
   |some b=>exact⟨_,_,by rw[nA]⟩
  obtain⟨p,cap,he⟩:=he;show Calls P (ρ.f 6) #[pc.nu.hdr,.func (.func g) #[] #[]] w _;rw[he];refine(AnyF.slices_SortFunc_none L p cap _ w).mono ?_;rintro e' w' ⟨rfl,rfl⟩;have xp:Wev cf ([]:List e.den)= []:=Xx hQ;refine⟨[],[pc.fp],[],[],G,rfl,?_⟩;exact{
   res:=⟨rfl,rfl⟩
   outs:=⟨pc,[],[],rfl,rfl,by rw[show((Wev cf ([]:List e.den),()),()).1.1=([]:List e.den)from xp];exact aR,rfl,rfl,rfl⟩
   sep:=by simpa [fps]using jf
   own:=λS hS b o hS'=>by
    have:S=pc.fp:=by simpa [fps]using hS
    subst this;exact⟨(cR pc (by simp) b o hS').1,.inl ⟨pc,by simp,hS'⟩,(cR pc (by simp) b o hS').2⟩
   gx:=⟨λ_ _ _ h=>h,λ_ _ _ h=>.inl h⟩
   g:=hg
   le:={size:=Xm _,row:=λ_ vs _ h=>⟨vs,h,rfl⟩,cell:=λ_ _ _ _=>rfl,whole:=λ_ _ _=>rfl,os:=rfl,output:=rfl,tape:=rfl}}
 .have fL:0<xs.length:=by cases xs with|nil=>exact WD rfl hx|cons a l=>simp
  cases hb:pc.nu.blk with
  |none=>rw[hb]at h4;exact WD h4 hx
  |some b=>
  rw[hb]at h4;simp only[]at h4;obtain⟨h5,h6,⟨us,T,bf,cj⟩,cs,ps,ga,aM,uG,bd⟩:=h4;obtain⟨ot,rfl⟩:=(WcC hd xs cs ps).1 ga;have cP:cs.length=xs.length*e.size:=Wd1 (λx c h=>W5 e x c h) xs cs ot
  let chunk (i:Nat):List Value:=(cs.drop (i*e.size)).take e.size
  have xq:∀(i:Nat) (hi:i<xs.length),Enc G e xs[i] (chunk i):=λi hi=>Wk9 (λx c h=>W5 e x c h) xs cs i xs[i] ot (Xq hi)
  let A:={p:e.den×List Value// ∃(i:Nat) (hi:i<xs.length),p=(xs[i],chunk i)}
  let el (i:Nat) (hi:i<xs.length):A:=⟨(xs[i],chunk i),i,hi,rfl⟩
  haveI:Inhabited A:=⟨el 0 fL⟩
  let enc:A->List Value:=λp=>p.1.2
  let cfA:A->A->Int:=λp q=>cf p.1.1 q.1.1
  have gP:∀p:A,Enc G e p.1.1 (enc p):=λp=>by
   obtain⟨i,hi,hp⟩:=p.2;show Enc G e p.1.1 p.1.2;rw[hp];exact xq i hi
  have lM:∀p:A,rng p.1.1=true:=λp=>by
   obtain⟨i,hi,hp⟩:=p.2;rw[hp];exact so _ (List.getElem_mem hi)
  have hk:∀p:A,(enc p).length=e.size:=λp=>W5 e _ _ (gP p);have xr:∀p:A,∀v∈enc p,v.oneCell'=true:=λp=>Wmp e _ _ (gP p)
  let dl:List A:=(List.range xs.length).attach.map λi=>el i.1 (List.mem_range.1 i.2)
  have li:dl.length=xs.length:=by simp[dl]
  have uH:∀(i:Nat) (hi:i<xs.length),dl[i]'(by rw[li];exact hi)=el i hi:=λi hi=>by simp[dl]
  have xt:dl.map (λp:A=>p.1.1)=xs:=by
   apply List.ext_getElem (by simp[li]);intro i h1 h2;rw[List.getElem_map,uH i h2]
  have hSW:Sort.SWO (Go.Proofs.ltOf cfA):={
   irrefl:=λx=>by unfold Go.Proofs.ltOf;exact Wk (hO.irr _ (lM x))
   trans:=λx y z a b=>by
    unfold Go.Proofs.ltOf at*;exact We (hO.tr _ _ _ (lM x) (lM y) (lM z) (WaT a) (WaT b))
   ntrans:=λx y z a b=>by
    unfold Go.Proofs.ltOf at*;exact Wk (hO.nt _ _ _ (lM x) (lM y) (lM z) (of_decide_eq_false a) (of_decide_eq_false b))}
  have hT:∀x y:A,(Go.Proofs.ltOf cfA) x y=false->(Go.Proofs.ltOf cfA) y x=false->x=y:=λx y a c=>by
   unfold Go.Proofs.ltOf at a c;have a':=of_decide_eq_false a;have c':=of_decide_eq_false c;obtain⟨i,hi,hp⟩:=x.2;obtain⟨j,hj,hq⟩:=y.2;have key:∀(i j:Nat) (hi:i<xs.length) (hj:j<xs.length),¬cf xs[i] xs[j]<0->¬cf xs[j] xs[i]<0->¬i<j:=λi j hi hj a b ac=>by
    have:=WnG xo i j hi hj ac;unfold Wjb WeG at this;simp only[Bool.or_eq_true,Wi]at this;rcases this with h|h
    .exact a h
    .exact b h
   have a2:¬cf xs[i] xs[j]<0:=by
    have:cfA x y=cf xs[i] xs[j]:=by show cf x.1.1 y.1.1=_;rw[hp,hq]
    rw[←this];exact a'
   have c2:¬cf xs[j] xs[i]<0:=by
    have:cfA y x=cf xs[j] xs[i]:=by show cf y.1.1 x.1.1=_;rw[hp,hq]
    rw[←this];exact c'
   have n1:=key i j hi hj a2 c2;have n2:=key j i hj hi c2 a2;have nJ:i=j:=by omega
   subst nJ;exact Subtype.ext (hp.trans hq.symm)
  have mm:(Sort.flatK enc e.size dl.toArray).toList=cs:=by
   rw[Wkq hk];have xu:∀(n:Nat) (hn:n<=xs.length),(dl.take n).flatMap enc=cs.take (n*e.size):=by
    intro n
    induction n with
    |zero=>intro hn;simp
    |succ n ih=>
     intro hn;rw[List.take_succ_eq_append_getElem (by rw[li];omega),List.flatMap_append,ih (by omega),uH n (by omega)];show cs.take (n*e.size)++([el n (by omega)].flatMap enc)=_;simp only[Xgw,List.flatMap_nil,List.append_nil];show cs.take (n*e.size)++chunk n=_;rw[Xbr,List.take_add]
   have:=xu xs.length (Xm _);rw[←li,Xdf,li,←cP,Xdf]at this;simpa using this
  have hH:Sort.HoldsK enc e.size w b pc.nu.off dl.toArray:=by
   intro j hj;have eF:j<cs.length:=by rw[←mm];simpa using hj
   refine⟨?_,by simp[World.frozen?,bf]⟩;rw[getElem!_pos (Sort.flatK enc e.size dl.toArray) j hj];have hc:(Sort.flatK enc e.size dl.toArray)[j]=cs[j]:=by
    have:(Sort.flatK enc e.size dl.toArray).toList[j]'(by simpa using hj)=cs[j]:=by simp only[mm]
    simpa using this
   rw[hc];exact aM j cs[j] (Xq eF)
  have sr:b<w.heap.size:=(Xbw.1 bf).1;have oS:CmpLays P g #[] enc e.size cfA b pc.nu.off dl.toArray.size w:=λm os dk hs x y=>by
   simpa using sn G x.1.1 y.1.1 (enc x) (enc y) (sortWorldK enc e.size w b pc.nu.off m dk os) (lM x) (lM y) (gP x) (gP y)
  have he:pc.nu.hdr= .slice (some ⟨b,pc.nu.off,none⟩) dl.toArray.size pc.nu.cap:=by
   unfold Nu.hdr;rw[hb];simp only[Xef,li,h1]
  show Calls P (ρ.f 6) #[pc.nu.hdr,.func (.func g) #[] #[]] w _;rw[he];refine(AnyQ.slices_SortFunc_total L e.size aE zE enc hk xr cfA hSW g #[] b pc.nu.off pc.nu.cap dl.toArray w eg oS hH sr (by simpa [li]using ac) hT).mono ?_;rintro e' w' ⟨rfl,m,os,rfl⟩;generalize hsd:(dl.toArray.toList.mergeSort λx y=>!(Go.Proofs.ltOf cfA) y x)=sd;have uI:sd.map (λp:A=>p.1.1)=Wev cf xs:=by
   have hm:=List.map_mergeSort (r:=λx y:A=>!(Go.Proofs.ltOf cfA) y x) (s:=λx y:e.den=>!WeG cf y x) (f:=λp:A=>p.1.1) (l:=dl) (λa _ b _=>rfl);rw[xt]at hm;rw[←hsd,Wev,←hm]
  have xw:sd.length=xs.length:=by have:=Wm List.length uI;rw[List.length_map,hQ]at this;exact this
  have ss:(Sort.flatK enc e.size sd.toArray).toList=sd.flatMap enc:=Wkq hk _;have m6:Wef (Enc G e) (Wev cf xs) (sd.flatMap enc):=by rw[←uI];exact WmR (R:=Enc G e) gP sd
  have hcs'l:(sd.flatMap enc).length=xs.length*e.size:=by rw[Wd1 (λx c h=>W5 e x c h) _ _ m6,hQ]
  have pw:pc.nu.off+(sd.flatMap enc).length<=us.size:=by
   rw[hcs'l];have:=Xax e.size h5;omega
  have xx:∀o,pc.nu.off<=o->o<pc.nu.off+xs.length*e.size->pc.fp b o:=λo ha cA=>by
   have:=Xax e.size h5;exact bd (Go.Sx.rng b pc.nu.off (pc.nu.cap*e.size)) (List.mem_cons_self ..) b o ⟨rfl,ha,by omega⟩
  have xy:sortWorldK enc e.size w b pc.nu.off m sd.toArray os=Sort.grow (Sort.putRow id (Sort.ahead w m) b pc.nu.off (sd.flatMap enc).toArray) os:=by
   unfold sortWorldK Sort.putRowK;rw[←ss]
  rw[xy];generalize sd.flatMap enc=cI at m6 hcs'l pw;have hw:WLe (Of [pc]) w (Sort.grow (Sort.putRow id (Sort.ahead w m) b pc.nu.off cI.toArray) os):=Wtw bf λo ha cA=>⟨pc,by simp,xx o ha (by simpa [hcs'l]using cA)⟩;have ho:WbN (α:=e.den) (Sort.grow (Sort.putRow id (Sort.ahead w m) b pc.nu.off cI.toArray) os) (Wy G (Sort.grow (Sort.putRow id (Sort.ahead w m) b pc.nu.off cI.toArray) os) e) e.size pc.nu (Wev cf xs) pc.fp:=by
   refine⟨by rw[hQ];exact h1,h3,?_⟩;rw[hb];refine⟨by rw[hQ];exact h5,h6,⟨_,T,Wjc bf,by simpa [Sort.putCells]using cj⟩,cI,[],(WcC hd _ _ _).2 ⟨m6,rfl⟩,?_,uG,bd⟩;have:=Wuz (enc:=id) (n:=m) (os:=os) (xs:=cI) bf pw
   rwa [List.map_id]at this
  refine⟨[],[pc.fp],[],[],G,rfl,?_⟩;exact{
   res:=⟨rfl,rfl⟩
   outs:=⟨pc,[],[],rfl,rfl,ho,rfl,rfl,rfl⟩
   sep:=by simpa [fps]using jf
   own:=λS hS b' o hS'=>by
    have:S=pc.fp:=by simpa [fps]using hS
    subst this;exact⟨(cR pc (by simp) b' o hS').1,.inl ⟨pc,by simp,hS'⟩,Nat.lt_of_lt_of_le (cR pc (by simp) b' o hS').2 hw.size⟩
   gx:=⟨λ_ _ _ h=>h,λ_ _ _ h=>.inl h⟩
   g:=λb' o v hv=>by
    have hc:=hg b' o v hv;have gD:b'<w.heap.size:=by
     unfold World.cell? at hc;simp only[]at hc;rcases Nat.lt_or_ge b' w.heap.size with h|h
     .exact h
     .rw[Array.getElem?_eq_none h]at hc;cases hc
    exact(hw.cell b' o gD λ⟨q,hq,hf⟩=>by
     have:q=pc:=by simpa using hq
     subst this;have:=(cR q (by simp) b' o hf).1;rw[hv]at this;cases this).trans hc
   le:=hw}
end Go.Sx
