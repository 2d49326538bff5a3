/- The library's sorts, by the shelf's contracts. -/
import Derived.Test.YtokgfiajefpfoaaGreatM3
import Derived.Shelf.SlSortCmp.NoneTotal
import Derived.Shelf.SortM.Plain
import Derived.Shelf.SortM.SortNone
import Derived.Shelf.SlGeneric
open Array renaming getElem?_eq_some_iff→xR,getElem?_modify→XM
open Option renaming isSome_none→VU
open Bool renaming false_eq_true→jP
open Nat renaming le_refl→Xl,pos_of_ne_zero→XU,succ_mul→gz,mul_le_mul_right→iv
open List renaming getElem?_eq_none→ju,size_toArray→VX,getElem?_eq_getElem→Xp,flatMap_cons→XW,eq_nil_of_length_eq_zero→Xv,take_length→gt
namespace Go.Sx
set_option linter.unusedVariables false
set_option linter.unusedSimpArgs false
section
variable{α:Type}[Inhabited α]{enc:α->Value}{w:World}{b off n:Nat}{d:Array α}{os:Array Obj}
theorem Et{vs:Array Value}{T:TypeId}{a:Nat×Nat}(c:w.heap[b]?=some (.cells vs T a)):
  (Sort.grow (Sort.putRow enc (Sort.ahead w n) b off d) os).heap[b]?=some (.cells (Sort.putCells enc off d vs) T a):=by
 have e:b<w.heap.size:=(xR.1 c).1;rw[Sort.heap_grow_old _ _ (by simpa [Sort.putRow,Sort.mapBlock,Sort.ahead]using e)];simp[Sort.putRow,Sort.mapBlock,Sort.ahead,XM,c,Sort.onCells]
theorem Mp{k:Nat}(c:k<w.heap.size)(a:k≠b):(Sort.grow (Sort.putRow enc (Sort.ahead w n) b off d) os).heap[k]?=w.heap[k]?:=by
 rw[Sort.heap_grow_old _ _ (by simpa [Sort.putRow,Sort.mapBlock,Sort.ahead]using c)];have:b≠k:=λh=>a h.symm;simp[Sort.putRow,Sort.mapBlock,Sort.ahead,XM,this]
theorem WtM:w.heap.size<=(Sort.grow (Sort.putRow enc (Sort.ahead w n) b off d) os).heap.size:=by
 rw[Sort.size_grow];simp[Sort.putRow,Sort.mapBlock,Sort.ahead]
theorem LO{vs:Array Value}(k:Nat):(Sort.putCells enc off d vs)[k]?=if off<=k/\k<off+d.size/\k<vs.size then some (enc d[k-off]!)else vs[k]?:=by
 unfold Sort.putCells;by_cases h:k<vs.size
 .by_cases h2:off<=k/\k<off+d.size
  .simp[h,h2]
  .have:¬(off<=k/\k<off+d.size/\k<vs.size):=λa=>h2 ⟨a.1,a.2.1⟩;rw[Wa this];simp[h,h2]
 .have:¬(off<=k/\k<off+d.size/\k<vs.size):=λa=>h a.2.2;rw[Wa this];simp[h]
theorem Wwd{vs:Array Value}{T:TypeId}{l:Nat×Nat}{F:CS}(a:w.heap[b]?=some (.cells vs T l))(i:∀o,off<=o->o<off+d.size->F b o):
  WLe F w (Sort.grow (Sort.putRow enc (Sort.ahead w n) b off d) os) where
 size:=WtM
 row:=λk r S c=>by
  have e:k<w.heap.size:=(xR.1 c).1;by_cases h:k=b
  .subst h;rw[a]at c;injection c with c;injection c with m p q;subst m p q;exact⟨_,Et a,by simp[Sort.putCells]⟩
  .exact⟨r,by rw[Mp e h];exact c,rfl⟩
 cell:=λk o e f=>by
  by_cases h:k=b
  .subst h;unfold World.cell?;rw[Et a,a];simp only[VU,jP,gH];rw[LO,Wa λh=>f (i o h.1 h.2.1)]
  .unfold World.cell?;simp only[];rw[Mp e h]
 whole:=λk e f=>by
  by_cases h:k=b
  .subst h;rw[Et a,a];have s:d.size=0:=by
    rcases Nat.eq_zero_or_pos d.size with g|g
    .exact g
    .exact Wi (i off (Xl _) (by omega)) (f off)
   congr 2;apply Array.ext_getElem?;intro j;rw[LO,Wa (by omega)]
  .exact Mp e h
 os:=rfl
 output:=rfl
 tape:=rfl
theorem WvV{vs:Array Value}{T:TypeId}{d:Nat×Nat}{xs:List α}(e:w.heap[b]?=some (.cells vs T d))(f:off+xs.length<=vs.size):
  Mem (Sort.grow (Sort.putRow enc (Sort.ahead w n) b off xs.toArray) os) b off (xs.map enc):=by
 intro j v a;unfold World.cell?;rw[Et e];simp only[VU,jP,gH];rw[List.getElem?_map]at a;have c:j<xs.length:=by
  rcases Nat.lt_or_ge j xs.length with h|h
  .exact h
  .rw[ju h]at a;cases a
 rw[LO,Wb ⟨by omega,by simp only[VX];omega,by omega⟩];rw[Xp c]at a;simp only[Option.map_some]at a;rw[←a,Nat.add_sub_cancel_left];simp[c]
end
open Go.Proofs
theorem Pw{α:Type}[Inhabited α]{enc:α->List Value}{k:Nat}(a:∀x,(enc x).length=k):∀(l:List α) (t:Nat),t<l.length*k->(l.flatMap enc)[t]?=(enc (l.toArray[t/k]!))[t%k]?
 | [],t,h=>by simp at h
 |x::l,t,h=>by
  have e:0<k:=XU λd=>by subst d;simp at h
  rw[XW];by_cases b:t<k
  .rw[List.getElem?_append_left (by rw[a];exact b),Nat.div_eq_of_lt b,Nat.mod_eq_of_lt b];rfl
  .have e1:t/k=(t-k)/k+1:=by rw[←Nat.add_div_right _ e];congr 1;omega
   have c:t%k=(t-k)%k:=by rw[Nat.mod_eq_sub_mod (by omega)]
   rw[List.getElem?_append_right (by rw[a];omega),a,Pw a l (t-k) (by rw[List.length_cons,gz]at h;omega),e1,c];simp
theorem PV{α:Type}[Inhabited α]{enc:α->List Value}{k:Nat}(c:∀x,(enc x).length=k)(d:Array α):(Sort.flatK enc k d).toList=d.toList.flatMap enc:=by
 have i:(d.toList.flatMap enc).length=d.size*k:=by
  rw[List.length_flatMap];have:(d.toList.map λa=>(enc a).length)=List.replicate d.size k:=by
   rw[List.eq_replicate_iff];simp[c]
  rw[this];clear this;induction d.size with
  |zero=>simp
  |succ n ih=>rw[List.replicate_succ,List.sum_cons,ih,gz];omega
 apply List.ext_getElem?;intro t;by_cases b:t<d.size*k
 .rw[Pw c d.toList t (by simpa using b)];have g:t<(Sort.flatK enc k d).size:=by simpa using b
  have e:=Sort.get_flatK enc k d t b;rw[getElem!_pos (Sort.flatK enc k d) t g]at e;have j:0<k:=XU λh=>by subst h;simp at b
  have f:t%k<(enc d[t/k]!).length:=by rw[c];exact Nat.mod_lt _ j
  rw[Xp (by simpa using g)];simp only[Array.getElem_toList,Array.toArray_toList];rw[e,getElem!_pos (enc d[t/k]!) (t%k) f,Xp f]
 .rw[ju (by simpa using b),ju (by rw[i];omega)]
theorem QM{α β:Type}{R:β->List Value->Prop}{f:α->β}{enc:α->List Value}(h:∀a,R (f a) (enc a)):∀(l:List α),b4 R (l.map f) (l.flatMap enc)
 | []=>rfl
 |a::l=>⟨enc a,l.flatMap enc,rfl,h a,QM h l⟩
def N0(P:Program)(g:FuncId)(e:Ty)(rng:e.den->Bool)(cf:e.den->e.den->Int):Prop:=
 ∀(G:GH) (x y:e.den) (us vs:List Value) (w:World),rng x=true->rng y=true->Enc G e x us->Enc G e y vs->
  Calls P g #[.agg us.toArray,.agg vs.toArray] w λa b=>a= .returned (.int .i64 (cf x y))/\∃q c,b=Sort.grow (w.drewN q) c
theorem M4{P:Program}{t:TypeId}{a b c:Int}(h:-1000000000<=a/\a<=1000000000)(f:-1000000000<=b/\b<=1000000000)(d:a-b=c)(w:World):Sem.run P (Go.binOp .sub t (.int .i64 a) (.int .i64 b)) w= .ok (.int .i64 c) w:=by
 have e:IntKind.wrap .i64 (a-b)=c:=by rw[←d];exact v7 (by unfold I64;omega)
 simp only[Go.binOp,ne_eq,not_true_eq_false,gH,↓reduceIte,Op.intArith,e];rfl
theorem Wya{P:Program}{t:TypeId}{a b:Int}(w:World):Sem.run P (Go.binOp .neq t (.int .i64 a) (.int .i64 b)) w= .ok (.bool (a !=b)) w:=by
 simp only[Go.binOp,ne_eq,not_true_eq_false,gH,↓reduceIte,Op.intCmp];rfl
theorem WsW{P:Program}{t:TypeId}{x y:Operand}{a b:Int}(w:World):Sem.run P (eqGuard .neq t x y (.int .i64 a) (.int .i64 b)) w= .ok () w:=rfl
theorem MU(w:World)(a b:Obj):∃q xn,(w.alloc a).alloc b=Sort.grow (w.drewN q) xn:=
 ⟨0,#[a,b],by show World.alloc (World.alloc w a) b=_;unfold World.alloc Sort.grow;simp only[World.drewN_zero,Array.push_eq_append,Array.append_assoc];rfl⟩
theorem Mn{G:GH}:∀(t:Ty) (d:t.den) (cs:List Value),Enc G t d cs->∀v∈cs,v.oneCell'=true
 | .int _,d,cs,h,v,hv=>by simp only[Enc]at h;subst h;simp at hv;subst hv;rfl
 | .bool,d,cs,h,v,hv=>by simp only[Enc]at h;subst h;simp at hv;subst hv;rfl
 | .str,d,cs,h,v,hv=>by simp only[Enc]at h;subst h;simp at hv;subst hv;rfl
 | .slice _,d,cs,h,v,hv=>by
  obtain⟨u,rfl,g⟩:=h;simp at hv;subst hv;rcases g with⟨rfl,_⟩|⟨_,_,_,_,rfl,_⟩|⟨_,_,rfl,_⟩<;>rfl
 | .own _,d,cs,h,v,hv=>h.elim
 | .prod a b,d,cs,h,v,hv=>by
  obtain⟨i,j,rfl,e,f⟩:=h;rcases List.mem_append.1 hv with c|c
  .exact Mn a _ _ e v c
  .exact Mn b _ _ f v c
theorem Qx{P:Program}{ρ:Go.Shelf.Ren}(L:SlLaysF0.n6 P ρ){e:Ty}(hd:e.data=true)(h0:0<e.size)(aE:∀w,(isAgg (ρ.t 24)).run P w= .ok true w)(zE:∀w,(Go.sizeOf (ρ.t 24)).run P w= .ok e.size w)
  {g:FuncId} (eg:∀H w,(callFunc g H).run P w= .ok (.enter g H) w) {rng:e.den->Bool} {cf:e.den->e.den->Int} (hO:SwoOn rng cf) (xo:N0 P g e rng cf) (N:Nat):
  xK P (ρ.f 6) (Sig.of [.mut e,.clos g 0] [] (λd=>Ah rng cf N d.1)):=by
 intro d o bB G w vs ns ks bh kO O hg;obtain⟨xs,u⟩:=d;change List e.den at xs;obtain⟨xp,BF,ab,rfl⟩:=Wpg (N:=N) (xs:=xs) bB;obtain⟨pc,aC,n2,aN,rfl,rfl,rfl,aM,cvs,AN,rfl,oY,_,h2⟩:=bh;have xq:cvs= []:=Xv oY;subst xq;obtain⟨rfl,rfl,rfl⟩:=h2;have Y:(lb cf xs).length=xs.length:=by unfold lb;exact List.length_mergeSort _
 have gE:aF (α:=e.den) w (WF G w e) e.size pc.nu xs pc.fp:=aM;obtain⟨h1,h3,U⟩:=gE;by_cases hx:xs= []
 .subst hx;have V:∃p cap,pc.nu.hdr= .slice p 0 cap:=by
   have rr:pc.nu.len=0:=h1.symm;unfold Nu.hdr;cases pc.nu.blk with
   |none=>exact⟨_,_,rfl⟩
   |some b=>exact⟨_,_,by rw[rr]⟩
  obtain⟨p,cap,V⟩:=V;show Calls P (ρ.f 6) #[pc.nu.hdr,.func (.func g) #[] #[]] w _;rw[V];refine(AnyF.slices_SortFunc_none L p cap _ w).mono ?_;rintro e' w' ⟨rfl,rfl⟩;have xr:lb cf ([]:List e.den)= []:=Xv Y;refine⟨[],[pc.fp],[],[],G,rfl,?_⟩;exact{
   res:=⟨rfl,rfl⟩
   outs:=⟨pc,[],[],rfl,rfl,by rw[show((lb cf ([]:List e.den),()),()).1.1=([]:List e.den)from xr];exact aM,rfl,rfl,rfl⟩
   sep:=by simpa [fps]using kO
   own:=λS hS b o C=>by
    have:S=pc.fp:=by simpa [fps]using hS
    subst this;exact⟨(O pc (by simp) b o C).1,.inl ⟨pc,by simp,C⟩,(O pc (by simp) b o C).2⟩
   gx:=⟨λ_ _ _ h=>h,λ_ _ _ h=>.inl h⟩
   g:=hg
   le:={size:=Xl _,row:=λ_ vs _ h=>⟨vs,h,rfl⟩,cell:=λ_ _ _ _=>rfl,whole:=λ_ _ _=>rfl,os:=rfl,output:=rfl,tape:=rfl}}
 .have dC:0<xs.length:=by cases xs with|nil=>exact Wi rfl hx|cons a l=>simp
  cases hb:pc.nu.blk with
  |none=>rw[hb]at U;exact Wi U hx
  |some b=>
  rw[hb]at U;simp only[]at U;obtain⟨h5,h6,⟨us,T,af,cK⟩,cs,ps,gZ,aG,Ab,aU⟩:=U;obtain⟨rz,rfl⟩:=(q9 hd xs cs ps).1 gZ;have bN:cs.length=xs.length*e.size:=v8 (λx c h=>dF e x c h) xs cs rz
  let B (i:Nat):List Value:=(cs.drop (i*e.size)).take e.size
  have xt:∀(i:Nat) (hi:i<xs.length),Enc G e xs[i] (B i):=λi hi=>Mt (λx c h=>dF e x c h) xs cs i xs[i] rz (Xp hi)
  let A:={p:e.den×List Value// ∃(i:Nat) (hi:i<xs.length),p=(xs[i],B i)}
  let el (i:Nat) (hi:i<xs.length):A:=⟨(xs[i],B i),i,hi,rfl⟩
  haveI:Inhabited A:=⟨el 0 dC⟩
  let enc:A->List Value:=λp=>p.1.2
  let k:A->A->Int:=λp q=>cf p.1.1 q.1.1
  have X:∀p:A,Enc G e p.1.1 (enc p):=λp=>by
   obtain⟨i,hi,K⟩:=p.2;show Enc G e p.1.1 p.1.2;rw[K];exact xt i hi
  have F:∀p:A,rng p.1.1=true:=λp=>by
   obtain⟨i,hi,K⟩:=p.2;rw[K];exact xp _ (List.getElem_mem hi)
  have hk:∀p:A,(enc p).length=e.size:=λp=>dF e _ _ (X p);have BG:∀p:A,∀v∈enc p,v.oneCell'=true:=λp=>Mn e _ _ (X p)
  let dl:List A:=(List.range xs.length).attach.map λi=>el i.1 (List.mem_range.1 i.2)
  have M:dl.length=xs.length:=by simp[dl]
  have Ad:∀(i:Nat) (hi:i<xs.length),dl[i]'(by rw[M];exact hi)=el i hi:=λi hi=>by simp[dl]
  have sm:dl.map (λp:A=>p.1.1)=xs:=by
   apply List.ext_getElem (by simp[M]);intro i h1 h2;rw[List.getElem_map,Ad i h2]
  have hSW:Sort.SWO (Go.Proofs.ltOf k):={
   irrefl:=λx=>by unfold Go.Proofs.ltOf;exact Wl (hO.irr _ (F x))
   trans:=λx y z a b=>by
    unfold Go.Proofs.ltOf at*;exact Wf (hO.tr _ _ _ (F x) (F y) (F z) (Wx a) (Wx b))
   ntrans:=λx y z a b=>by
    unfold Go.Proofs.ltOf at*;exact Wl (hO.nt _ _ _ (F x) (F y) (F z) (of_decide_eq_false a) (of_decide_eq_false b))}
  have hT:∀x y:A,(Go.Proofs.ltOf k) x y=false->(Go.Proofs.ltOf k) y x=false->x=y:=λx y a c=>by
   unfold Go.Proofs.ltOf at a c;have a':=of_decide_eq_false a;have c':=of_decide_eq_false c;obtain⟨i,hi,K⟩:=x.2;obtain⟨j,E,W⟩:=y.2;have Z:∀(i j:Nat) (hi:i<xs.length) (E:j<xs.length),¬cf xs[i] xs[j]<0->¬cf xs[j] xs[i]<0->¬i<j:=λi j hi E a b ab=>by
    have:=RV BF i j hi E ab;unfold mY mT at this;simp only[Bool.or_eq_true,Wg]at this;rcases this with h|h
    .exact a h
    .exact b h
   have a2:¬cf xs[i] xs[j]<0:=by
    have:k x y=cf xs[i] xs[j]:=by show cf x.1.1 y.1.1=_;rw[K,W]
    rw[←this];exact a'
   have c2:¬cf xs[j] xs[i]<0:=by
    have:k y x=cf xs[j] xs[i]:=by show cf y.1.1 x.1.1=_;rw[K,W]
    rw[←this];exact c'
   have n1:=Z i j hi E a2 c2;have n2:=Z j i E hi c2 a2;have je:i=j:=by omega
   subst je;exact Subtype.ext (K.trans W.symm)
  have py:(Sort.flatK enc e.size dl.toArray).toList=cs:=by
   rw[PV hk];have xu:∀(n:Nat) (hn:n<=xs.length),(dl.take n).flatMap enc=cs.take (n*e.size):=by
    intro n
    induction n with
    |zero=>intro hn;simp
    |succ n ih=>
     intro hn;rw[List.take_succ_eq_append_getElem (by rw[M];omega),List.flatMap_append,ih (by omega),Ad n (by omega)];show cs.take (n*e.size)++([el n (by omega)].flatMap enc)=_;simp only[XW,List.flatMap_nil,List.append_nil];show cs.take (n*e.size)++B n=_;rw[gz,List.take_add]
   have:=xu xs.length (Xl _);rw[←M,gt,M,←bN,gt]at this;simpa using this
  have hH:Sort.HoldsK enc e.size w b pc.nu.off dl.toArray:=by
   intro j E;have bw:j<cs.length:=by rw[←py];simpa using E
   refine⟨?_,by simp[World.frozen?,af]⟩;rw[getElem!_pos (Sort.flatK enc e.size dl.toArray) j E];have J:(Sort.flatK enc e.size dl.toArray)[j]=cs[j]:=by
    have:(Sort.flatK enc e.size dl.toArray).toList[j]'(by simpa using E)=cs[j]:=by simp only[py]
    simpa using this
   rw[J];exact aG j cs[j] (Xp bw)
  have xw:b<w.heap.size:=(xR.1 af).1;have qd:CmpLays P g #[] enc e.size k b pc.nu.off dl.toArray.size w:=λm os dk hs x y=>by
   simpa using xo G x.1.1 y.1.1 (enc x) (enc y) (sortWorldK enc e.size w b pc.nu.off m dk os) (F x) (F y) (X x) (X y)
  have V:pc.nu.hdr= .slice (some ⟨b,pc.nu.off,none⟩) dl.toArray.size pc.nu.cap:=by
   unfold Nu.hdr;rw[hb];simp only[VX,M,h1]
  show Calls P (ρ.f 6) #[pc.nu.hdr,.func (.func g) #[] #[]] w _;rw[V];refine(AnyQ.slices_SortFunc_total L e.size aE zE enc hk BG k hSW g #[] b pc.nu.off pc.nu.cap dl.toArray w eg qd hH xw (by simpa [M]using ab) hT).mono ?_;rintro e' w' ⟨rfl,m,os,rfl⟩;generalize hsd:(dl.toArray.toList.mergeSort λx y=>!(Go.Proofs.ltOf k) y x)=sd;have Ae:sd.map (λp:A=>p.1.1)=lb cf xs:=by
   have hm:=List.map_mergeSort (r:=λx y:A=>!(Go.Proofs.ltOf k) y x) (s:=λx y:e.den=>!mT cf y x) (f:=λp:A=>p.1.1) (l:=dl) (λa _ b _=>rfl);rw[sm]at hm;rw[←hsd,lb,←hm]
  have BH:sd.length=xs.length:=by have:=Wp List.length Ae;rw[List.length_map,Y]at this;exact this
  have xy:(Sort.flatK enc e.size sd.toArray).toList=sd.flatMap enc:=PV hk _;have qU:b4 (Enc G e) (lb cf xs) (sd.flatMap enc):=by rw[←Ae];exact QM (R:=Enc G e) X sd
  have D:(sd.flatMap enc).length=xs.length*e.size:=by rw[v8 (λx c h=>dF e x c h) _ _ qU,Y]
  have uF:pc.nu.off+(sd.flatMap enc).length<=us.size:=by
   rw[D];have:=iv e.size h5;omega
  have BI:∀o,pc.nu.off<=o->o<pc.nu.off+xs.length*e.size->pc.fp b o:=λo ha cS=>by
   have:=iv e.size h5;exact aU (Go.Sx.rng b pc.nu.off (pc.nu.cap*e.size)) (List.mem_cons_self ..) b o ⟨rfl,ha,by omega⟩
  have xz:sortWorldK enc e.size w b pc.nu.off m sd.toArray os=Sort.grow (Sort.putRow id (Sort.ahead w m) b pc.nu.off (sd.flatMap enc).toArray) os:=by
   unfold sortWorldK Sort.putRowK;rw[←xy]
  rw[xz];generalize sd.flatMap enc=Q at qU D uF;have hw:WLe (Of [pc]) w (Sort.grow (Sort.putRow id (Sort.ahead w m) b pc.nu.off Q.toArray) os):=Wwd af λo ha cS=>⟨pc,by simp,BI o ha (by simpa [D]using cS)⟩;have ho:aF (α:=e.den) (Sort.grow (Sort.putRow id (Sort.ahead w m) b pc.nu.off Q.toArray) os) (WF G (Sort.grow (Sort.putRow id (Sort.ahead w m) b pc.nu.off Q.toArray) os) e) e.size pc.nu (lb cf xs) pc.fp:=by
   refine⟨by rw[Y];exact h1,h3,?_⟩;rw[hb];refine⟨by rw[Y];exact h5,h6,⟨_,T,Et af,by simpa [Sort.putCells]using cK⟩,Q,[],(q9 hd _ _ _).2 ⟨qU,rfl⟩,?_,Ab,aU⟩;have:=WvV (enc:=id) (n:=m) (os:=os) (xs:=Q) af uF
   rwa [List.map_id]at this
  refine⟨[],[pc.fp],[],[],G,rfl,?_⟩;exact{
   res:=⟨rfl,rfl⟩
   outs:=⟨pc,[],[],rfl,rfl,ho,rfl,rfl,rfl⟩
   sep:=by simpa [fps]using kO
   own:=λS hS I o C=>by
    have:S=pc.fp:=by simpa [fps]using hS
    subst this;exact⟨(O pc (by simp) I o C).1,.inl ⟨pc,by simp,C⟩,Nat.lt_of_lt_of_le (O pc (by simp) I o C).2 hw.size⟩
   gx:=⟨λ_ _ _ h=>h,λ_ _ _ h=>.inl h⟩
   g:=λI o v hv=>by
    have J:=hg I o v hv;have iA:I<w.heap.size:=by
     unfold World.cell? at J;simp only[]at J;rcases Nat.lt_or_ge I w.heap.size with h|h
     .exact h
     .rw[Array.getElem?_eq_none h]at J;cases J
    exact(hw.cell I o iA λ⟨q,W,hf⟩=>by
     have:q=pc:=by simpa using W
     subst this;have:=(O q (by simp) I o hf).1;rw[hv]at this;cases this).trans J
   le:=hw}
end Go.Sx
