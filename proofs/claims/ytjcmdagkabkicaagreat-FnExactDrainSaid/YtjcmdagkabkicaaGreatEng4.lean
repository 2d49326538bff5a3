/- The library's sorts, by the shelf's contracts. -/
import Derived.Test.YtjcmdagkabkicaaGreatM3
import Derived.Shelf.SlSortCmp.NoneTotal
import Derived.Shelf.SortM.Plain
import Derived.Shelf.SortM.SortNone
import Derived.Shelf.SlGeneric
open Array renaming getElem?_eq_some_iff→Xbw,getElem?_modify→Xgi
open Option renaming isSome_none→Xeb
open Bool renaming false_eq_true→Xai
open Nat renaming le_refl→Xm,pos_of_ne_zero→Xgs,succ_mul→Xbs,mul_le_mul_right→Xaz
open List renaming getElem?_eq_none→Xbq,size_toArray→Xeg,getElem?_eq_getElem→Xq,flatMap_cons→Xgw,eq_nil_of_length_eq_zero→Xx,take_length→Xde
namespace Go.Sx
set_option linter.unusedVariables false
set_option linter.unusedSimpArgs false
section
variable{α:Type}[Inhabited α]{enc:α->Value}{w:World}{b off n:Nat}{d:Array α}{os:Array Obj}
theorem WiZ{vs:Array Value}{T:TypeId}{fr:Nat×Nat}(hb:w.heap[b]?=some (.cells vs T fr)):
  (Sort.grow (Sort.putRow enc (Sort.ahead w n) b off d) os).heap[b]?=some (.cells (Sort.putCells enc off d vs) T fr):=by
 have hg:b<w.heap.size:=(Xbw.1 hb).1;rw[Sort.heap_grow_old _ _ (by simpa [Sort.putRow,Sort.mapBlock,Sort.ahead]using hg)];simp[Sort.putRow,Sort.mapBlock,Sort.ahead,Xgi,hb,Sort.onCells]
theorem Wmg{k:Nat}(hk:k<w.heap.size)(bQ:k≠b):(Sort.grow (Sort.putRow enc (Sort.ahead w n) b off d) os).heap[k]?=w.heap[k]?:=by
 rw[Sort.heap_grow_old _ _ (by simpa [Sort.putRow,Sort.mapBlock,Sort.ahead]using hk)];have:b≠k:=λh=>bQ h.symm;simp[Sort.putRow,Sort.mapBlock,Sort.ahead,Xgi,this]
theorem WrV:w.heap.size<=(Sort.grow (Sort.putRow enc (Sort.ahead w n) b off d) os).heap.size:=by
 rw[Sort.size_grow];simp[Sort.putRow,Sort.mapBlock,Sort.ahead]
theorem Wg4{vs:Array Value}(k:Nat):(Sort.putCells enc off d vs)[k]?=if off<=k/\k<off+d.size/\k<vs.size then some (enc d[k-off]!)else vs[k]?:=by
 unfold Sort.putCells;by_cases h:k<vs.size
 .by_cases h2:off<=k/\k<off+d.size
  .simp[h,h2]
  .have:¬(off<=k/\k<off+d.size/\k<vs.size):=λh3=>h2 ⟨h3.1,h3.2.1⟩;rw[Wc this];simp[h,h2]
 .have:¬(off<=k/\k<off+d.size/\k<vs.size):=λh3=>h h3.2.2;rw[Wc this];simp[h]
theorem Wuv{vs:Array Value}{T:TypeId}{fr:Nat×Nat}{F:CS}(hb:w.heap[b]?=some (.cells vs T fr))(hF:∀o,off<=o->o<off+d.size->F b o):
  WLe F w (Sort.grow (Sort.putRow enc (Sort.ahead w n) b off d) os) where
 size:=WrV
 row:=λk us S hk=>by
  have ac:k<w.heap.size:=(Xbw.1 hk).1;by_cases h:k=b
  .subst h;rw[hb]at hk;injection hk with hk;injection hk with h1 h2 h3;subst h1 h2 h3;exact⟨_,WiZ hb,by simp[Sort.putCells]⟩
  .exact⟨us,by rw[Wmg ac h];exact hk,rfl⟩
 cell:=λk o ac hn=>by
  by_cases h:k=b
  .subst h;unfold World.cell?;rw[WiZ hb,hb];simp only[Xeb,Xai,W7];rw[Wg4,Wc λh=>hn (hF o h.1 h.2.1)]
  .unfold World.cell?;simp only[];rw[Wmg ac h]
 whole:=λk ac hn=>by
  by_cases h:k=b
  .subst h;rw[WiZ hb,hb];have hz:d.size=0:=by
    rcases Nat.eq_zero_or_pos d.size with h0|h0
    .exact h0
    .exact WE (hF off (Xm _) (by omega)) (hn off)
   congr 2;apply Array.ext_getElem?;intro j;rw[Wg4,Wc (by omega)]
  .exact Wmg ac h
 os:=rfl
 output:=rfl
 tape:=rfl
theorem Wus{vs:Array Value}{T:TypeId}{fr:Nat×Nat}{xs:List α}(hb:w.heap[b]?=some (.cells vs T fr))(ad:off+xs.length<=vs.size):
  Mem (Sort.grow (Sort.putRow enc (Sort.ahead w n) b off xs.toArray) os) b off (xs.map enc):=by
 intro j v hj;unfold World.cell?;rw[WiZ hb];simp only[Xeb,Xai,W7];rw[List.getElem?_map]at hj;have xu:j<xs.length:=by
  rcases Nat.lt_or_ge j xs.length with h|h
  .exact h
  .rw[Xbq h]at hj;cases hj
 rw[Wg4,Wf ⟨by omega,by simp only[Xeg];omega,by omega⟩];rw[Xq xu]at hj;simp only[Option.map_some]at hj;rw[←hj,Nat.add_sub_cancel_left];simp[xu]
end
end Go.Sx
namespace Go.Sx
open Go.Proofs
set_option linter.unusedVariables false
set_option linter.unusedSimpArgs false
theorem WjI{α:Type}[Inhabited α]{enc:α->List Value}{k:Nat}(hk:∀x,(enc x).length=k):∀(l:List α) (t:Nat),t<l.length*k->(l.flatMap enc)[t]?=(enc (l.toArray[t/k]!))[t%k]?
 | [],t,h=>by simp at h
 |x::l,t,h=>by
  have k0:0<k:=Xgs λh0=>by subst h0;simp at h
  rw[Xgw];by_cases ht:t<k
  .rw[List.getElem?_append_left (by rw[hk];exact ht),Nat.div_eq_of_lt ht,Nat.mod_eq_of_lt ht];rfl
  .have e1:t/k=(t-k)/k+1:=by rw[←Nat.add_div_right _ k0];congr 1;omega
   have e2:t%k=(t-k)%k:=by rw[Nat.mod_eq_sub_mod (by omega)]
   rw[List.getElem?_append_right (by rw[hk];omega),hk,WjI hk l (t-k) (by rw[List.length_cons,Xbs]at h;omega),e1,e2];simp
theorem Wks{α:Type}[Inhabited α]{enc:α->List Value}{k:Nat}(hk:∀x,(enc x).length=k)(d:Array α):(Sort.flatK enc k d).toList=d.toList.flatMap enc:=by
 have hl:(d.toList.flatMap enc).length=d.size*k:=by
  rw[List.length_flatMap];have:(d.toList.map λa=>(enc a).length)=List.replicate d.size k:=by
   rw[List.eq_replicate_iff];simp[hk]
  rw[this];clear this;induction d.size with
  |zero=>simp
  |succ n ih=>rw[List.replicate_succ,List.sum_cons,ih,Xbs];omega
 apply List.ext_getElem?;intro t;by_cases ht:t<d.size*k
 .rw[WjI hk d.toList t (by simpa using ht)];have hs:t<(Sort.flatK enc k d).size:=by simpa using ht
  have hg:=Sort.get_flatK enc k d t ht;rw[getElem!_pos (Sort.flatK enc k d) t hs]at hg;have k0:0<k:=Xgs λh0=>by subst h0;simp at ht
  have hm:t%k<(enc d[t/k]!).length:=by rw[hk];exact Nat.mod_lt _ k0
  rw[Xq (by simpa using hs)];simp only[Array.getElem_toList,Array.toArray_toList];rw[hg,getElem!_pos (enc d[t/k]!) (t%k) hm,Xq hm]
 .rw[Xbq (by simpa using ht),Xbq (by rw[hl];omega)]
theorem WnD{α β:Type}{R:β->List Value->Prop}{f:α->β}{enc:α->List Value}(h:∀a,R (f a) (enc a)):∀(l:List α),Wd2 R (l.map f) (l.flatMap enc)
 | []=>rfl
 |a::l=>⟨enc a,l.flatMap enc,rfl,h a,WnD h l⟩
def Wwr(P:Program)(g:FuncId)(e:Ty)(rng:e.den->Bool)(cf:e.den->e.den->Int):Prop:=
 ∀(G:GH) (x y:e.den) (us vs:List Value) (w:World),rng x=true->rng y=true->Enc G e x us->Enc G e y vs->
  Calls P g #[.agg us.toArray,.agg vs.toArray] w λe' w'=>e'= .returned (.int .i64 (cf x y))/\∃q u9,w'=Sort.grow (w.drewN q) u9
theorem WoQ{P:Program}{t:TypeId}{a b c:Int}(h:-1000000000<=a/\a<=1000000000)(h2:-1000000000<=b/\b<=1000000000)(hc:a-b=c)(w:World):Sem.run P (Go.binOp .sub t (.int .i64 a) (.int .i64 b)) w= .ok (.int .i64 c) w:=by
 have e:IntKind.wrap .i64 (a-b)=c:=by rw[←hc];exact Wgi (by unfold I64;omega)
 simp only[Go.binOp,ne_eq,not_true_eq_false,W7,↓reduceIte,Op.intArith,e];rfl
theorem Wv3{P:Program}{t:TypeId}{a b:Int}(w:World):Sem.run P (Go.binOp .neq t (.int .i64 a) (.int .i64 b)) w= .ok (.bool (a !=b)) w:=by
 simp only[Go.binOp,ne_eq,not_true_eq_false,W7,↓reduceIte,Op.intCmp];rfl
theorem WsH{P:Program}{t:TypeId}{x y:Operand}{a b:Int}(w:World):Sem.run P (eqGuard .neq t x y (.int .i64 a) (.int .i64 b)) w= .ok () w:=rfl
theorem Wlo(w:World)(a b:Obj):∃q u9,(w.alloc a).alloc b=Sort.grow (w.drewN q) u9:=
 ⟨0,#[a,b],by show World.alloc (World.alloc w a) b=_;unfold World.alloc Sort.grow;simp only[World.drewN_zero,Array.push_eq_append,Array.append_assoc];rfl⟩
theorem WlZ{G:GH}:∀(t:Ty) (d:t.den) (cs:List Value),Enc G t d cs->∀v∈cs,v.oneCell'=true
 | .int _,d,cs,h,v,hv=>by simp only[Enc]at h;subst h;simp at hv;subst hv;rfl
 | .bool,d,cs,h,v,hv=>by simp only[Enc]at h;subst h;simp at hv;subst hv;rfl
 | .str,d,cs,h,v,hv=>by simp only[Enc]at h;subst h;simp at hv;subst hv;rfl
 | .slice _,d,cs,h,v,hv=>by
  obtain⟨u,rfl,hr⟩:=h;simp at hv;subst hv;rcases hr with⟨rfl,_⟩|⟨_,_,_,_,rfl,_⟩|⟨_,_,rfl,_⟩<;>rfl
 | .own _,d,cs,h,v,hv=>h.elim
 | .prod a b,d,cs,h,v,hv=>by
  obtain⟨c1,c2,rfl,h1,h2⟩:=h;rcases List.mem_append.1 hv with h3|h3
  .exact WlZ a _ _ h1 v h3
  .exact WlZ b _ _ h2 v h3
theorem Wla{P:Program}{ρ:Go.Shelf.Ren}(L:SlLaysF0.n6 P ρ){e:Ty}(hd:e.data=true)(h0:0<e.size)(aE:∀w,(isAgg (ρ.t 24)).run P w= .ok true w)(zE:∀w,(Go.sizeOf (ρ.t 24)).run P w= .ok e.size w)
  {g:FuncId} (eg:∀args w,(callFunc g args).run P w= .ok (.enter g args) w) {rng:e.den->Bool} {cf:e.den->e.den->Int} (hO:SwoOn rng cf) (vc:Wwr P g e rng cf) (N:Nat):
  WwD P (ρ.f 6) (Sig.of [.mut e,.clos g 0] [] (λd=>Zq2 rng cf N d.1)):=by
 intro d o bm G w vs ns ks aR jQ c9 hg;obtain⟨xs,u⟩:=d;change List e.den at xs;obtain⟨vd,zU,ac,rfl⟩:=WoN (N:=N) (xs:=xs) bm;obtain⟨pc,au,n2,aC,rfl,rfl,rfl,aT,cvs,yx,rfl,mp,_,h2⟩:=aR;have ve:cvs= []:=Xx mp;subst ve;obtain⟨rfl,rfl,rfl⟩:=h2;have iN:(Wes cf xs).length=xs.length:=by unfold Wes;exact List.length_mergeSort _
 have gk:WbP (α:=e.den) w (Wy G w e) e.size pc.nu xs pc.fp:=aT;obtain⟨h1,h3,h4⟩:=gk;by_cases hx:xs= []
 .subst hx;have he:∃p cap,pc.nu.hdr= .slice p 0 cap:=by
   have pN:pc.nu.len=0:=h1.symm;unfold Nu.hdr;cases pc.nu.blk with
   |none=>exact⟨_,_,rfl⟩
   |some b=>exact⟨_,_,by rw[pN]⟩
  obtain⟨p,cap,he⟩:=he;show Calls P (ρ.f 6) #[pc.nu.hdr,.func (.func g) #[] #[]] w _;rw[he];refine(AnyF.slices_SortFunc_none L p cap _ w).mono ?_;rintro e' w' ⟨rfl,rfl⟩;have zV:Wes cf ([]:List e.den)= []:=Xx iN;refine⟨[],[pc.fp],[],[],G,rfl,?_⟩;exact{
   res:=⟨rfl,rfl⟩
   outs:=⟨pc,[],[],rfl,rfl,by rw[show((Wes cf ([]:List e.den),()),()).1.1=([]:List e.den)from zV];exact aT,rfl,rfl,rfl⟩
   sep:=by simpa [fps]using jQ
   own:=λS hS b o hS'=>by
    have:S=pc.fp:=by simpa [fps]using hS
    subst this;exact⟨(c9 pc (by simp) b o hS').1,.inl ⟨pc,by simp,hS'⟩,(c9 pc (by simp) b o hS').2⟩
   gx:=⟨λ_ _ _ h=>h,λ_ _ _ h=>.inl h⟩
   g:=hg
   le:={size:=Xm _,row:=λ_ vs _ h=>⟨vs,h,rfl⟩,cell:=λ_ _ _ _=>rfl,whole:=λ_ _ _=>rfl,os:=rfl,output:=rfl,tape:=rfl}}
 .have fZ:0<xs.length:=by cases xs with|nil=>exact WE rfl hx|cons a l=>simp
  cases hb:pc.nu.blk with
  |none=>rw[hb]at h4;exact WE h4 hx
  |some b=>
  rw[hb]at h4;simp only[]at h4;obtain⟨h5,h6,⟨us,T,bi,ct⟩,cs,ps,gD,aM,xw,bg⟩:=h4;obtain⟨qC,rfl⟩:=(Wcr hd xs cs ps).1 gD;have c7:cs.length=xs.length*e.size:=Wd5 (λx c h=>W6 e x c h) xs cs qC
  let chunk (i:Nat):List Value:=(cs.drop (i*e.size)).take e.size
  have zW:∀(i:Nat) (hi:i<xs.length),Enc G e xs[i] (chunk i):=λi hi=>WlW (λx c h=>W6 e x c h) xs cs i xs[i] qC (Xq hi)
  let A:={p:e.den×List Value// ∃(i:Nat) (hi:i<xs.length),p=(xs[i],chunk i)}
  let el (i:Nat) (hi:i<xs.length):A:=⟨(xs[i],chunk i),i,hi,rfl⟩
  haveI:Inhabited A:=⟨el 0 fZ⟩
  let enc:A->List Value:=λp=>p.1.2
  let cfA:A->A->Int:=λp q=>cf p.1.1 q.1.1
  have ig:∀p:A,Enc G e p.1.1 (enc p):=λp=>by
   obtain⟨i,hi,hp⟩:=p.2;show Enc G e p.1.1 p.1.2;rw[hp];exact zW i hi
  have nd:∀p:A,rng p.1.1=true:=λp=>by
   obtain⟨i,hi,hp⟩:=p.2;rw[hp];exact vd _ (List.getElem_mem hi)
  have hk:∀p:A,(enc p).length=e.size:=λp=>W6 e _ _ (ig p);have zX:∀p:A,∀v∈enc p,v.oneCell'=true:=λp=>WlZ e _ _ (ig p)
  let dl:List A:=(List.range xs.length).attach.map λi=>el i.1 (List.mem_range.1 i.2)
  have mF:dl.length=xs.length:=by simp[dl]
  have xx:∀(i:Nat) (hi:i<xs.length),dl[i]'(by rw[mF];exact hi)=el i hi:=λi hi=>by simp[dl]
  have zY:dl.map (λp:A=>p.1.1)=xs:=by
   apply List.ext_getElem (by simp[mF]);intro i h1 h2;rw[List.getElem_map,xx i h2]
  have hSW:Sort.SWO (Go.Proofs.ltOf cfA):={
   irrefl:=λx=>by unfold Go.Proofs.ltOf;exact Wj (hO.irr _ (nd x))
   trans:=λx y z a b=>by
    unfold Go.Proofs.ltOf at*;exact We (hO.tr _ _ _ (nd x) (nd y) (nd z) (WaU a) (WaU b))
   ntrans:=λx y z a b=>by
    unfold Go.Proofs.ltOf at*;exact Wj (hO.nt _ _ _ (nd x) (nd y) (nd z) (of_decide_eq_false a) (of_decide_eq_false b))}
  have hT:∀x y:A,(Go.Proofs.ltOf cfA) x y=false->(Go.Proofs.ltOf cfA) y x=false->x=y:=λx y a c=>by
   unfold Go.Proofs.ltOf at a c;have a':=of_decide_eq_false a;have c':=of_decide_eq_false c;obtain⟨i,hi,hp⟩:=x.2;obtain⟨j,hj,hq⟩:=y.2;have key:∀(i j:Nat) (hi:i<xs.length) (hj:j<xs.length),¬cf xs[i] xs[j]<0->¬cf xs[j] xs[i]<0->¬i<j:=λi j hi hj a b ac=>by
    have:=Wn5 zU i j hi hj ac;unfold WiD We5 at this;simp only[Bool.or_eq_true,Wi]at this;rcases this with h|h
    .exact a h
    .exact b h
   have a2:¬cf xs[i] xs[j]<0:=by
    have:cfA x y=cf xs[i] xs[j]:=by show cf x.1.1 y.1.1=_;rw[hp,hq]
    rw[←this];exact a'
   have c2:¬cf xs[j] xs[i]<0:=by
    have:cfA y x=cf xs[j] xs[i]:=by show cf y.1.1 x.1.1=_;rw[hp,hq]
    rw[←this];exact c'
   have n1:=key i j hi hj a2 c2;have n2:=key j i hj hi c2 a2;have pW:i=j:=by omega
   subst pW;exact Subtype.ext (hp.trans hq.symm)
  have nW:(Sort.flatK enc e.size dl.toArray).toList=cs:=by
   rw[Wks hk];have zZ:∀(n:Nat) (hn:n<=xs.length),(dl.take n).flatMap enc=cs.take (n*e.size):=by
    intro n
    induction n with
    |zero=>intro hn;simp
    |succ n ih=>
     intro hn;rw[List.take_succ_eq_append_getElem (by rw[mF];omega),List.flatMap_append,ih (by omega),xx n (by omega)];show cs.take (n*e.size)++([el n (by omega)].flatMap enc)=_;simp only[Xgw,List.flatMap_nil,List.append_nil];show cs.take (n*e.size)++chunk n=_;rw[Xbs,List.take_add]
   have:=zZ xs.length (Xm _);rw[←mF,Xde,mF,←c7,Xde]at this;simpa using this
  have hH:Sort.HoldsK enc e.size w b pc.nu.off dl.toArray:=by
   intro j hj;have fb:j<cs.length:=by rw[←nW];simpa using hj
   refine⟨?_,by simp[World.frozen?,bi]⟩;rw[getElem!_pos (Sort.flatK enc e.size dl.toArray) j hj];have hc:(Sort.flatK enc e.size dl.toArray)[j]=cs[j]:=by
    have:(Sort.flatK enc e.size dl.toArray).toList[j]'(by simpa using hj)=cs[j]:=by simp only[nW]
    simpa using this
   rw[hc];exact aM j cs[j] (Xq fb)
  have vf:b<w.heap.size:=(Xbw.1 bi).1;have qX:CmpLays P g #[] enc e.size cfA b pc.nu.off dl.toArray.size w:=λm os dk hs x y=>by
   simpa using vc G x.1.1 y.1.1 (enc x) (enc y) (sortWorldK enc e.size w b pc.nu.off m dk os) (nd x) (nd y) (ig x) (ig y)
  have he:pc.nu.hdr= .slice (some ⟨b,pc.nu.off,none⟩) dl.toArray.size pc.nu.cap:=by
   unfold Nu.hdr;rw[hb];simp only[Xeg,mF,h1]
  show Calls P (ρ.f 6) #[pc.nu.hdr,.func (.func g) #[] #[]] w _;rw[he];refine(AnyQ.slices_SortFunc_total L e.size aE zE enc hk zX cfA hSW g #[] b pc.nu.off pc.nu.cap dl.toArray w eg qX hH vf (by simpa [mF]using ac) hT).mono ?_;rintro e' w' ⟨rfl,m,os,rfl⟩;generalize hsd:(dl.toArray.toList.mergeSort λx y=>!(Go.Proofs.ltOf cfA) y x)=sd;have xy:sd.map (λp:A=>p.1.1)=Wes cf xs:=by
   have hm:=List.map_mergeSort (r:=λx y:A=>!(Go.Proofs.ltOf cfA) y x) (s:=λx y:e.den=>!We5 cf y x) (f:=λp:A=>p.1.1) (l:=dl) (λa _ b _=>rfl);rw[zY]at hm;rw[←hsd,Wes,←hm]
  have z7:sd.length=xs.length:=by have:=Wn List.length xy;rw[List.length_map,iN]at this;exact this
  have vg:(Sort.flatK enc e.size sd.toArray).toList=sd.flatMap enc:=Wks hk _;have oN:Wd2 (Enc G e) (Wes cf xs) (sd.flatMap enc):=by rw[←xy];exact WnD (R:=Enc G e) ig sd
  have hcs'l:(sd.flatMap enc).length=xs.length*e.size:=by rw[Wd5 (λx c h=>W6 e x c h) _ _ oN,iN]
  have rL:pc.nu.off+(sd.flatMap enc).length<=us.size:=by
   rw[hcs'l];have:=Xaz e.size h5;omega
  have z8:∀o,pc.nu.off<=o->o<pc.nu.off+xs.length*e.size->pc.fp b o:=λo ha cJ=>by
   have:=Xaz e.size h5;exact bg (Go.Sx.rng b pc.nu.off (pc.nu.cap*e.size)) (List.mem_cons_self ..) b o ⟨rfl,ha,by omega⟩
  have Aa:sortWorldK enc e.size w b pc.nu.off m sd.toArray os=Sort.grow (Sort.putRow id (Sort.ahead w m) b pc.nu.off (sd.flatMap enc).toArray) os:=by
   unfold sortWorldK Sort.putRowK;rw[←vg]
  rw[Aa];generalize sd.flatMap enc=cR at oN hcs'l rL;have hw:WLe (Of [pc]) w (Sort.grow (Sort.putRow id (Sort.ahead w m) b pc.nu.off cR.toArray) os):=Wuv bi λo ha cJ=>⟨pc,by simp,z8 o ha (by simpa [hcs'l]using cJ)⟩;have ho:WbP (α:=e.den) (Sort.grow (Sort.putRow id (Sort.ahead w m) b pc.nu.off cR.toArray) os) (Wy G (Sort.grow (Sort.putRow id (Sort.ahead w m) b pc.nu.off cR.toArray) os) e) e.size pc.nu (Wes cf xs) pc.fp:=by
   refine⟨by rw[iN];exact h1,h3,?_⟩;rw[hb];refine⟨by rw[iN];exact h5,h6,⟨_,T,WiZ bi,by simpa [Sort.putCells]using ct⟩,cR,[],(Wcr hd _ _ _).2 ⟨oN,rfl⟩,?_,xw,bg⟩;have:=Wus (enc:=id) (n:=m) (os:=os) (xs:=cR) bi rL
   rwa [List.map_id]at this
  refine⟨[],[pc.fp],[],[],G,rfl,?_⟩;exact{
   res:=⟨rfl,rfl⟩
   outs:=⟨pc,[],[],rfl,rfl,ho,rfl,rfl,rfl⟩
   sep:=by simpa [fps]using jQ
   own:=λS hS b' o hS'=>by
    have:S=pc.fp:=by simpa [fps]using hS
    subst this;exact⟨(c9 pc (by simp) b' o hS').1,.inl ⟨pc,by simp,hS'⟩,Nat.lt_of_lt_of_le (c9 pc (by simp) b' o hS').2 hw.size⟩
   gx:=⟨λ_ _ _ h=>h,λ_ _ _ h=>.inl h⟩
   g:=λb' o v hv=>by
    have hc:=hg b' o v hv;have g0:b'<w.heap.size:=by
     unfold World.cell? at hc;simp only[]at hc;rcases Nat.lt_or_ge b' w.heap.size with h|h
     .exact h
     .rw[Array.getElem?_eq_none h]at hc;cases hc
    exact(hw.cell b' o g0 λ⟨q,hq,hf⟩=>by
     have:q=pc:=by simpa using hq
     subst this;have:=(c9 q (by simp) b' o hf).1;rw[hv]at this;cases this).trans hc
   le:=hw}
end Go.Sx
