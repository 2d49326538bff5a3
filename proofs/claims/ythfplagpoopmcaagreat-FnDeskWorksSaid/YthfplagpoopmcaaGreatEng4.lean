/- The library's sorts, by the shelf's contracts. -/
import Derived.Test.YthfplagpoopmcaaGreatM3
import Derived.Shelf.SlSortCmp.NoneTotal
import Derived.Shelf.SortM.Plain
import Derived.Shelf.SortM.SortNone
import Derived.Shelf.SlGeneric
open Array renaming getElem?_eq_some_iff→Xbs,getElem?_modify→Xfm
open Option renaming isSome_none→Xdr
open Bool renaming false_eq_true→Xap
open Nat renaming le_refl→Xm,pos_of_ne_zero→Xgc,succ_mul→Xbl,mul_le_mul_right→Xau
open List renaming getElem?_eq_none→Xbp,size_toArray→Xdy,getElem?_eq_getElem→Xp,flatMap_cons→Xgd,eq_nil_of_length_eq_zero→Xu,take_length→Xdk
namespace Go.Sx
set_option linter.unusedVariables false
set_option linter.unusedSimpArgs false
section
variable{α:Type}[Inhabited α]{enc:α->Value}{w:World}{b off n:Nat}{d:Array α}{os:Array Obj}
theorem Wg5{vs:Array Value}{T:TypeId}{fr:Nat×Nat}(hb:w.heap[b]?=some (.cells vs T fr)):
  (Sort.grow (Sort.putRow enc (Sort.ahead w n) b off d) os).heap[b]?=some (.cells (Sort.putCells enc off d vs) T fr):=by
 have hg:b<w.heap.size:=(Xbs.1 hb).1;rw[Sort.heap_grow_old _ _ (by simpa [Sort.putRow,Sort.mapBlock,Sort.ahead]using hg)];simp[Sort.putRow,Sort.mapBlock,Sort.ahead,Xfm,hb,Sort.onCells]
theorem WiP{k:Nat}(hk:k<w.heap.size)(bZ:k≠b):(Sort.grow (Sort.putRow enc (Sort.ahead w n) b off d) os).heap[k]?=w.heap[k]?:=by
 rw[Sort.heap_grow_old _ _ (by simpa [Sort.putRow,Sort.mapBlock,Sort.ahead]using hk)];have:b≠k:=λh=>bZ h.symm;simp[Sort.putRow,Sort.mapBlock,Sort.ahead,Xfm,this]
theorem Won:w.heap.size<=(Sort.grow (Sort.putRow enc (Sort.ahead w n) b off d) os).heap.size:=by
 rw[Sort.size_grow];simp[Sort.putRow,Sort.mapBlock,Sort.ahead]
theorem WfA{vs:Array Value}(k:Nat):(Sort.putCells enc off d vs)[k]?=if off<=k/\k<off+d.size/\k<vs.size then some (enc d[k-off]!)else vs[k]?:=by
 unfold Sort.putCells;by_cases h:k<vs.size
 .by_cases h2:off<=k/\k<off+d.size
  .simp[h,h2]
  .have:¬(off<=k/\k<off+d.size/\k<vs.size):=λh3=>h2 ⟨h3.1,h3.2.1⟩;rw[Wc this];simp[h,h2]
 .have:¬(off<=k/\k<off+d.size/\k<vs.size):=λh3=>h h3.2.2;rw[Wc this];simp[h]
theorem WqT{vs:Array Value}{T:TypeId}{fr:Nat×Nat}{F:CS}(hb:w.heap[b]?=some (.cells vs T fr))(hF:∀o,off<=o->o<off+d.size->F b o):
  WLe F w (Sort.grow (Sort.putRow enc (Sort.ahead w n) b off d) os) where
 size:=Won
 row:=λk us S hk=>by
  have ad:k<w.heap.size:=(Xbs.1 hk).1;by_cases h:k=b
  .subst h;rw[hb]at hk;injection hk with hk;injection hk with h1 h2 h3;subst h1 h2 h3;exact⟨_,Wg5 hb,by simp[Sort.putCells]⟩
  .exact⟨us,by rw[WiP ad h];exact hk,rfl⟩
 cell:=λk o ad hn=>by
  by_cases h:k=b
  .subst h;unfold World.cell?;rw[Wg5 hb,hb];simp only[Xdr,Xap,Wae];rw[WfA,Wc λh=>hn (hF o h.1 h.2.1)]
  .unfold World.cell?;simp only[];rw[WiP ad h]
 whole:=λk ad hn=>by
  by_cases h:k=b
  .subst h;rw[Wg5 hb,hb];have hz:d.size=0:=by
    rcases Nat.eq_zero_or_pos d.size with h0|h0
    .exact h0
    .exact Ww (hF off (Xm _) (by omega)) (hn off)
   congr 2;apply Array.ext_getElem?;intro j;rw[WfA,Wc (by omega)]
  .exact WiP ad h
 os:=rfl
 output:=rfl
 tape:=rfl
theorem Wqx{vs:Array Value}{T:TypeId}{fr:Nat×Nat}{xs:List α}(hb:w.heap[b]?=some (.cells vs T fr))(aa:off+xs.length<=vs.size):
  Mem (Sort.grow (Sort.putRow enc (Sort.ahead w n) b off xs.toArray) os) b off (xs.map enc):=by
 intro j v hj;unfold World.cell?;rw[Wg5 hb];simp only[Xdr,Xap,Wae];rw[List.getElem?_map]at hj;have sS:j<xs.length:=by
  rcases Nat.lt_or_ge j xs.length with h|h
  .exact h
  .rw[Xbp h]at hj;cases hj
 rw[WfA,We ⟨by omega,by simp only[Xdy];omega,by omega⟩];rw[Xp sS]at hj;simp only[Option.map_some]at hj;rw[←hj,Nat.add_sub_cancel_left];simp[sS]
end
end Go.Sx
namespace Go.Sx
open Go.Proofs
set_option linter.unusedVariables false
set_option linter.unusedSimpArgs false
theorem WgI{α:Type}[Inhabited α]{enc:α->List Value}{k:Nat}(hk:∀x,(enc x).length=k):∀(l:List α) (t:Nat),t<l.length*k->(l.flatMap enc)[t]?=(enc (l.toArray[t/k]!))[t%k]?
 | [],t,h=>by simp at h
 |x::l,t,h=>by
  have k0:0<k:=Xgc λh0=>by subst h0;simp at h
  rw[Xgd];by_cases ht:t<k
  .rw[List.getElem?_append_left (by rw[hk];exact ht),Nat.div_eq_of_lt ht,Nat.mod_eq_of_lt ht];rfl
  .have e1:t/k=(t-k)/k+1:=by rw[←Nat.add_div_right _ k0];congr 1;omega
   have e2:t%k=(t-k)%k:=by rw[Nat.mod_eq_sub_mod (by omega)]
   rw[List.getElem?_append_right (by rw[hk];omega),hk,WgI hk l (t-k) (by rw[List.length_cons,Xbl]at h;omega),e1,e2];simp
theorem Wip{α:Type}[Inhabited α]{enc:α->List Value}{k:Nat}(hk:∀x,(enc x).length=k)(d:Array α):(Sort.flatK enc k d).toList=d.toList.flatMap enc:=by
 have hl:(d.toList.flatMap enc).length=d.size*k:=by
  rw[List.length_flatMap];have:(d.toList.map λa=>(enc a).length)=List.replicate d.size k:=by
   rw[List.eq_replicate_iff];simp[hk]
  rw[this];clear this;induction d.size with
  |zero=>simp
  |succ n ih=>rw[List.replicate_succ,List.sum_cons,ih,Xbl];omega
 apply List.ext_getElem?;intro t;by_cases ht:t<d.size*k
 .rw[WgI hk d.toList t (by simpa using ht)];have hs:t<(Sort.flatK enc k d).size:=by simpa using ht
  have hg:=Sort.get_flatK enc k d t ht;rw[getElem!_pos (Sort.flatK enc k d) t hs]at hg;have k0:0<k:=Xgc λh0=>by subst h0;simp at ht
  have hm:t%k<(enc d[t/k]!).length:=by rw[hk];exact Nat.mod_lt _ k0
  rw[Xp (by simpa using hs)];simp only[Array.getElem_toList,Array.toArray_toList];rw[hg,getElem!_pos (enc d[t/k]!) (t%k) hm,Xp hm]
 .rw[Xbp (by simpa using ht),Xbp (by rw[hl];omega)]
theorem Wkn{α β:Type}{R:β->List Value->Prop}{f:α->β}{enc:α->List Value}(h:∀a,R (f a) (enc a)):∀(l:List α),WcT R (l.map f) (l.flatMap enc)
 | []=>rfl
 |a::l=>⟨enc a,l.flatMap enc,rfl,h a,Wkn h l⟩
def WrC(P:Program)(g:FuncId)(e:Ty)(rng:e.den->Bool)(cf:e.den->e.den->Int):Prop:=
 ∀(G:GH) (x y:e.den) (us vs:List Value) (w:World),rng x=true->rng y=true->Enc G e x us->Enc G e y vs->
  Calls P g #[.agg us.toArray,.agg vs.toArray] w λe' w'=>e'= .returned (.int .i64 (cf x y))/\∃q rk,w'=Sort.grow (w.drewN q) rk
theorem Wlv{P:Program}{t:TypeId}{a b c:Int}(h:-1000000000<=a/\a<=1000000000)(h2:-1000000000<=b/\b<=1000000000)(hc:a-b=c)(w:World):Sem.run P (Go.binOp .sub t (.int .i64 a) (.int .i64 b)) w= .ok (.int .i64 c) w:=by
 have e:IntKind.wrap .i64 (a-b)=c:=by rw[←hc];exact WdK (by unfold I64;omega)
 simp only[Go.binOp,ne_eq,not_true_eq_false,Wae,↓reduceIte,Op.intArith,e];rfl
theorem WrK{P:Program}{t:TypeId}{a b:Int}(w:World):Sem.run P (Go.binOp .neq t (.int .i64 a) (.int .i64 b)) w= .ok (.bool (a !=b)) w:=by
 simp only[Go.binOp,ne_eq,not_true_eq_false,Wae,↓reduceIte,Op.intCmp];rfl
theorem Wpm{P:Program}{t:TypeId}{x y:Operand}{a b:Int}(w:World):Sem.run P (eqGuard .neq t x y (.int .i64 a) (.int .i64 b)) w= .ok () w:=rfl
theorem WiY(w:World)(a b:Obj):∃q rk,(w.alloc a).alloc b=Sort.grow (w.drewN q) rk:=
 ⟨0,#[a,b],by show World.alloc (World.alloc w a) b=_;unfold World.alloc Sort.grow;simp only[World.drewN_zero,Array.push_eq_append,Array.append_assoc];rfl⟩
theorem WjA{G:GH}:∀(t:Ty) (d:t.den) (cs:List Value),Enc G t d cs->∀v∈cs,v.oneCell'=true
 | .int _,d,cs,h,v,hv=>by simp only[Enc]at h;subst h;simp at hv;subst hv;rfl
 | .bool,d,cs,h,v,hv=>by simp only[Enc]at h;subst h;simp at hv;subst hv;rfl
 | .str,d,cs,h,v,hv=>by simp only[Enc]at h;subst h;simp at hv;subst hv;rfl
 | .slice _,d,cs,h,v,hv=>by
  obtain⟨u,rfl,hr⟩:=h;simp at hv;subst hv;rcases hr with⟨rfl,_⟩|⟨_,_,_,_,rfl,_⟩|⟨_,_,rfl,_⟩<;>rfl
 | .own _,d,cs,h,v,hv=>h.elim
 | .prod a b,d,cs,h,v,hv=>by
  obtain⟨c1,c2,rfl,h1,h2⟩:=h;rcases List.mem_append.1 hv with h3|h3
  .exact WjA a _ _ h1 v h3
  .exact WjA b _ _ h2 v h3
theorem WhR{P:Program}{ρ:Go.Shelf.Ren}(L:SlLaysF0.n6 P ρ){e:Ty}(hd:e.data=true)(h0:0<e.size)(aE:∀w,(isAgg (ρ.t 24)).run P w= .ok true w)(zE:∀w,(Go.sizeOf (ρ.t 24)).run P w= .ok e.size w)
  {g:FuncId} (eg:∀args w,(callFunc g args).run P w= .ok (.enter g args) w) {rng:e.den->Bool} {cf:e.den->e.den->Int} (hO:SwoOn rng cf) (rm:WrC P g e rng cf) (N:Nat):
  Wsk P (ρ.f 6) (Sig.of [.mut e,.clos g 0] [] (λd=>Zh5 rng cf N d.1)):=by
 intro d o aM G w vs ns ks au hC cl hg;obtain⟨xs,u⟩:=d;change List e.den at xs;obtain⟨rn,uK,ad,rfl⟩:=Wmj (N:=N) (xs:=xs) aM;obtain⟨pc,aj,n2,ak,rfl,rfl,rfl,az,cvs,tm,rfl,jG,_,h2⟩:=au;have rq:cvs= []:=Xu jG;subst rq;obtain⟨rfl,rfl,rfl⟩:=h2;have gz:(Wdc cf xs).length=xs.length:=by unfold Wdc;exact List.length_mergeSort _
 have ek:Wa9 (α:=e.den) w (Wm G w e) e.size pc.nu xs pc.fp:=az;obtain⟨h1,h3,h4⟩:=ek;by_cases hx:xs= []
 .subst hx;have he:∃p cap,pc.nu.hdr= .slice p 0 cap:=by
   have m7:pc.nu.len=0:=h1.symm;unfold Nu.hdr;cases pc.nu.blk with
   |none=>exact⟨_,_,rfl⟩
   |some b=>exact⟨_,_,by rw[m7]⟩
  obtain⟨p,cap,he⟩:=he;show Calls P (ρ.f 6) #[pc.nu.hdr,.func (.func g) #[] #[]] w _;rw[he];refine(AnyF.slices_SortFunc_none L p cap _ w).mono ?_;rintro e' w' ⟨rfl,rfl⟩;have uL:Wdc cf ([]:List e.den)= []:=Xu gz;refine⟨[],[pc.fp],[],[],G,rfl,?_⟩;exact{
   res:=⟨rfl,rfl⟩
   outs:=⟨pc,[],[],rfl,rfl,by rw[show((Wdc cf ([]:List e.den),()),()).1.1=([]:List e.den)from uL];exact az,rfl,rfl,rfl⟩
   sep:=by simpa [fps]using hC
   own:=λS hS b o hS'=>by
    have:S=pc.fp:=by simpa [fps]using hS
    subst this;exact⟨(cl pc (by simp) b o hS').1,.inl ⟨pc,by simp,hS'⟩,(cl pc (by simp) b o hS').2⟩
   gx:=⟨λ_ _ _ h=>h,λ_ _ _ h=>.inl h⟩
   g:=hg
   le:={size:=Xm _,row:=λ_ vs _ h=>⟨vs,h,rfl⟩,cell:=λ_ _ _ _=>rfl,whole:=λ_ _ _=>rfl,os:=rfl,output:=rfl,tape:=rfl}}
 .have eE:0<xs.length:=by cases xs with|nil=>exact Ww rfl hx|cons a l=>simp
  cases hb:pc.nu.blk with
  |none=>rw[hb]at h4;exact Ww h4 hx
  |some b=>
  rw[hb]at h4;simp only[]at h4;obtain⟨h5,h6,⟨us,T,aJ,bE⟩,cs,ps,eD,ay,sT,aG⟩:=h4;obtain⟨nK,rfl⟩:=(WbM hd xs cs ps).1 eD;have cK:cs.length=xs.length*e.size:=Wc5 (λx c h=>WS e x c h) xs cs nK
  let chunk (i:Nat):List Value:=(cs.drop (i*e.size)).take e.size
  have uM:∀(i:Nat) (hi:i<xs.length),Enc G e xs[i] (chunk i):=λi hi=>WiW (λx c h=>WS e x c h) xs cs i xs[i] nK (Xp hi)
  let A:={p:e.den×List Value// ∃(i:Nat) (hi:i<xs.length),p=(xs[i],chunk i)}
  let el (i:Nat) (hi:i<xs.length):A:=⟨(xs[i],chunk i),i,hi,rfl⟩
  haveI:Inhabited A:=⟨el 0 eE⟩
  let enc:A->List Value:=λp=>p.1.2
  let cfA:A->A->Int:=λp q=>cf p.1.1 q.1.1
  have fy:∀p:A,Enc G e p.1.1 (enc p):=λp=>by
   obtain⟨i,hi,hp⟩:=p.2;show Enc G e p.1.1 p.1.2;rw[hp];exact uM i hi
  have kx:∀p:A,rng p.1.1=true:=λp=>by
   obtain⟨i,hi,hp⟩:=p.2;rw[hp];exact rn _ (List.getElem_mem hi)
  have hk:∀p:A,(enc p).length=e.size:=λp=>WS e _ _ (fy p);have uN:∀p:A,∀v∈enc p,v.oneCell'=true:=λp=>WjA e _ _ (fy p)
  let dl:List A:=(List.range xs.length).attach.map λi=>el i.1 (List.mem_range.1 i.2)
  have lm:dl.length=xs.length:=by simp[dl]
  have sU:∀(i:Nat) (hi:i<xs.length),dl[i]'(by rw[lm];exact hi)=el i hi:=λi hi=>by simp[dl]
  have uO:dl.map (λp:A=>p.1.1)=xs:=by
   apply List.ext_getElem (by simp[lm]);intro i h1 h2;rw[List.getElem_map,sU i h2]
  have hSW:Sort.SWO (Go.Proofs.ltOf cfA):={
   irrefl:=λx=>by unfold Go.Proofs.ltOf;exact Ws (hO.irr _ (kx x))
   trans:=λx y z a b=>by
    unfold Go.Proofs.ltOf at*;exact Wb (hO.tr _ _ _ (kx x) (kx y) (kx z) (WN a) (WN b))
   ntrans:=λx y z a b=>by
    unfold Go.Proofs.ltOf at*;exact Ws (hO.nt _ _ _ (kx x) (kx y) (kx z) (of_decide_eq_false a) (of_decide_eq_false b))}
  have hT:∀x y:A,(Go.Proofs.ltOf cfA) x y=false->(Go.Proofs.ltOf cfA) y x=false->x=y:=λx y a c=>by
   unfold Go.Proofs.ltOf at a c;have a':=of_decide_eq_false a;have c':=of_decide_eq_false c;obtain⟨i,hi,hp⟩:=x.2;obtain⟨j,hj,hq⟩:=y.2;have key:∀(i j:Nat) (hi:i<xs.length) (hj:j<xs.length),¬cf xs[i] xs[j]<0->¬cf xs[j] xs[i]<0->¬i<j:=λi j hi hj a b ad=>by
    have:=WkI uK i j hi hj ad;unfold Whl WdF at this;simp only[Bool.or_eq_true,Wg]at this;rcases this with h|h
    .exact a h
    .exact b h
   have a2:¬cf xs[i] xs[j]<0:=by
    have:cfA x y=cf xs[i] xs[j]:=by show cf x.1.1 y.1.1=_;rw[hp,hq]
    rw[←this];exact a'
   have c2:¬cf xs[j] xs[i]<0:=by
    have:cfA y x=cf xs[j] xs[i]:=by show cf y.1.1 x.1.1=_;rw[hp,hq]
    rw[←this];exact c'
   have n1:=key i j hi hj a2 c2;have n2:=key j i hj hi c2 a2;have nj:i=j:=by omega
   subst nj;exact Subtype.ext (hp.trans hq.symm)
  have ln:(Sort.flatK enc e.size dl.toArray).toList=cs:=by
   rw[Wip hk];have uP:∀(n:Nat) (hn:n<=xs.length),(dl.take n).flatMap enc=cs.take (n*e.size):=by
    intro n
    induction n with
    |zero=>intro hn;simp
    |succ n ih=>
     intro hn;rw[List.take_succ_eq_append_getElem (by rw[lm];omega),List.flatMap_append,ih (by omega),sU n (by omega)];show cs.take (n*e.size)++([el n (by omega)].flatMap enc)=_;simp only[Xgd,List.flatMap_nil,List.append_nil];show cs.take (n*e.size)++chunk n=_;rw[Xbl,List.take_add]
   have:=uP xs.length (Xm _);rw[←lm,Xdk,lm,←cK,Xdk]at this;simpa using this
  have hH:Sort.HoldsK enc e.size w b pc.nu.off dl.toArray:=by
   intro j hj;have d4:j<cs.length:=by rw[←ln];simpa using hj
   refine⟨?_,by simp[World.frozen?,aJ]⟩;rw[getElem!_pos (Sort.flatK enc e.size dl.toArray) j hj];have hc:(Sort.flatK enc e.size dl.toArray)[j]=cs[j]:=by
    have:(Sort.flatK enc e.size dl.toArray).toList[j]'(by simpa using hj)=cs[j]:=by simp only[ln]
    simpa using this
   rw[hc];exact ay j cs[j] (Xp d4)
  have rr:b<w.heap.size:=(Xbs.1 aJ).1;have oi:CmpLays P g #[] enc e.size cfA b pc.nu.off dl.toArray.size w:=λm os dk hs x y=>by
   simpa using rm G x.1.1 y.1.1 (enc x) (enc y) (sortWorldK enc e.size w b pc.nu.off m dk os) (kx x) (kx y) (fy x) (fy y)
  have he:pc.nu.hdr= .slice (some ⟨b,pc.nu.off,none⟩) dl.toArray.size pc.nu.cap:=by
   unfold Nu.hdr;rw[hb];simp only[Xdy,lm,h1]
  show Calls P (ρ.f 6) #[pc.nu.hdr,.func (.func g) #[] #[]] w _;rw[he];refine(AnyQ.slices_SortFunc_total L e.size aE zE enc hk uN cfA hSW g #[] b pc.nu.off pc.nu.cap dl.toArray w eg oi hH rr (by simpa [lm]using ad) hT).mono ?_;rintro e' w' ⟨rfl,m,os,rfl⟩;generalize hsd:(dl.toArray.toList.mergeSort λx y=>!(Go.Proofs.ltOf cfA) y x)=sd;have sW:sd.map (λp:A=>p.1.1)=Wdc cf xs:=by
   have hm:=List.map_mergeSort (r:=λx y:A=>!(Go.Proofs.ltOf cfA) y x) (s:=λx y:e.den=>!WdF cf y x) (f:=λp:A=>p.1.1) (l:=dl) (λa _ b _=>rfl);rw[uO]at hm;rw[←hsd,Wdc,←hm]
  have uQ:sd.length=xs.length:=by have:=Wk List.length sW;rw[List.length_map,gz]at this;exact this
  have rt:(Sort.flatK enc e.size sd.toArray).toList=sd.flatMap enc:=Wip hk _;have mz:WcT (Enc G e) (Wdc cf xs) (sd.flatMap enc):=by rw[←sW];exact Wkn (R:=Enc G e) fy sd
  have hcs'l:(sd.flatMap enc).length=xs.length*e.size:=by rw[Wc5 (λx c h=>WS e x c h) _ _ mz,gz]
  have oT:pc.nu.off+(sd.flatMap enc).length<=us.size:=by
   rw[hcs'l];have:=Xau e.size h5;omega
  have uR:∀o,pc.nu.off<=o->o<pc.nu.off+xs.length*e.size->pc.fp b o:=λo ha bV=>by
   have:=Xau e.size h5;exact aG (Go.Sx.rng b pc.nu.off (pc.nu.cap*e.size)) (List.mem_cons_self ..) b o ⟨rfl,ha,by omega⟩
  have uS:sortWorldK enc e.size w b pc.nu.off m sd.toArray os=Sort.grow (Sort.putRow id (Sort.ahead w m) b pc.nu.off (sd.flatMap enc).toArray) os:=by
   unfold sortWorldK Sort.putRowK;rw[←rt]
  rw[uS];generalize sd.flatMap enc=bY at mz hcs'l oT;have hw:WLe (Of [pc]) w (Sort.grow (Sort.putRow id (Sort.ahead w m) b pc.nu.off bY.toArray) os):=WqT aJ λo ha bV=>⟨pc,by simp,uR o ha (by simpa [hcs'l]using bV)⟩;have ho:Wa9 (α:=e.den) (Sort.grow (Sort.putRow id (Sort.ahead w m) b pc.nu.off bY.toArray) os) (Wm G (Sort.grow (Sort.putRow id (Sort.ahead w m) b pc.nu.off bY.toArray) os) e) e.size pc.nu (Wdc cf xs) pc.fp:=by
   refine⟨by rw[gz];exact h1,h3,?_⟩;rw[hb];refine⟨by rw[gz];exact h5,h6,⟨_,T,Wg5 aJ,by simpa [Sort.putCells]using bE⟩,bY,[],(WbM hd _ _ _).2 ⟨mz,rfl⟩,?_,sT,aG⟩;have:=Wqx (enc:=id) (n:=m) (os:=os) (xs:=bY) aJ oT
   rwa [List.map_id]at this
  refine⟨[],[pc.fp],[],[],G,rfl,?_⟩;exact{
   res:=⟨rfl,rfl⟩
   outs:=⟨pc,[],[],rfl,rfl,ho,rfl,rfl,rfl⟩
   sep:=by simpa [fps]using hC
   own:=λS hS b' o hS'=>by
    have:S=pc.fp:=by simpa [fps]using hS
    subst this;exact⟨(cl pc (by simp) b' o hS').1,.inl ⟨pc,by simp,hS'⟩,Nat.lt_of_lt_of_le (cl pc (by simp) b' o hS').2 hw.size⟩
   gx:=⟨λ_ _ _ h=>h,λ_ _ _ h=>.inl h⟩
   g:=λb' o v hv=>by
    have hc:=hg b' o v hv;have fL:b'<w.heap.size:=by
     unfold World.cell? at hc;simp only[]at hc;rcases Nat.lt_or_ge b' w.heap.size with h|h
     .exact h
     .rw[Array.getElem?_eq_none h]at hc;cases hc
    exact(hw.cell b' o fL λ⟨q,hq,hf⟩=>by
     have:q=pc:=by simpa using hq
     subst this;have:=(cl q (by simp) b' o hf).1;rw[hv]at this;cases this).trans hc
   le:=hw}
end Go.Sx
