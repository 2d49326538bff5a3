/- The library's sorts, by the shelf's contracts. -/
import Derived.Test.YtiagkodiffhaoaaGreatM3
import Derived.Shelf.SlSortCmp.NoneTotal
import Derived.Shelf.SortM.Plain
import Derived.Shelf.SortM.SortNone
import Derived.Shelf.SlGeneric
open Array renaming getElem?_eq_some_iff->D3,getElem?_modify->Xhc
open Option renaming isSome_none->Xhl
open Bool renaming false_eq_true->my
open Nat renaming le_refl->Xj,pos_of_ne_zero->Xhs,succ_mul->lz,mul_le_mul_right->lu
open List renaming getElem?_eq_none->sG,size_toArray->Xgf,getElem?_eq_getElem->Xq,flatMap_cons->Xhw,eq_nil_of_length_eq_zero->eY,take_length->jz
namespace Go.Sx
set_option linter.unusedVariables false
set_option linter.unusedSimpArgs false
section
variable{c:Type}[Inhabited c]{enc:c->Value}{w:World}{b t n:Nat}{d:Array c}{v:Array Obj}
theorem Hl{a:Array Value}{T:TypeId}{f:Nat×Nat}(c:w.heap[b]?=some (.cells a T f)):
  (Sort.grow (Sort.putRow enc (Sort.ahead w n) b t d) v).heap[b]?=some (.cells (Sort.putCells enc t d a) T f):=by
 have e:b<w.heap.size:=(D3.1 c).1;rw[Sort.heap_grow_old _ _ (by simpa [Sort.putRow,Sort.mapBlock,Sort.ahead]using e)];simp[Sort.putRow,Sort.mapBlock,Sort.ahead,Xhc,c,Sort.onCells]
theorem Qn{k:Nat}(c:k<w.heap.size)(a:k≠b):(Sort.grow (Sort.putRow enc (Sort.ahead w n) b t d) v).heap[k]?=w.heap[k]?:=by
 rw[Sort.heap_grow_old _ _ (by simpa [Sort.putRow,Sort.mapBlock,Sort.ahead]using c)];have:b≠k:=λh=>a h.symm;simp[Sort.putRow,Sort.mapBlock,Sort.ahead,Xhc,this]
theorem WvN:w.heap.size<=(Sort.grow (Sort.putRow enc (Sort.ahead w n) b t d) v).heap.size:=by
 rw[Sort.size_grow];simp[Sort.putRow,Sort.mapBlock,Sort.ahead]
theorem Pt{a:Array Value}(k:Nat):(Sort.putCells enc t d a)[k]?=if t<=k/\k<t+d.size/\k<a.size then some (enc d[k-t]!)else a[k]?:=by
 unfold Sort.putCells;by_cases h:k<a.size
 .by_cases h2:t<=k/\k<t+d.size
  .simp[h,h2]
  .have:¬(t<=k/\k<t+d.size/\k<a.size):=λc=>h2 ⟨c.1,c.2.1⟩;rw[Wa this];simp[h,h2]
 .have:¬(t<=k/\k<t+d.size/\k<a.size):=λc=>h c.2.2;rw[Wa this];simp[h]
theorem WyA{u:Array Value}{T:TypeId}{l:Nat×Nat}{F:CS}(a:w.heap[b]?=some (.cells u T l))(i:∀o,t<=o->o<t+d.size->F b o):
  WLe F w (Sort.grow (Sort.putRow enc (Sort.ahead w n) b t d) v) where
 size:=WvN
 row:=λk r S c=>by
  have e:k<w.heap.size:=(D3.1 c).1;by_cases h:k=b
  .subst h;rw[a]at c;injection c with c;injection c with m p q;subst m p q;exact⟨_,Hl a,by simp[Sort.putCells]⟩
  .exact⟨r,by rw[Qn e h];exact c,rfl⟩
 cell:=λk o e f=>by
  by_cases h:k=b
  .subst h;unfold World.cell?;rw[Hl a,a];simp only[Xhl,my,jN];rw[Pt,Wa λh=>f (i o h.1 h.2.1)]
  .unfold World.cell?;simp only[];rw[Qn e h]
 whole:=λk e f=>by
  by_cases h:k=b
  .subst h;rw[Hl a,a];have s:d.size=0:=by
    rcases Nat.eq_zero_or_pos d.size with g|g
    .exact g
    .exact Wh (i t (Xj _) (by omega)) (f t)
   congr 2;apply Array.ext_getElem?;intro j;rw[Pt,Wa (by omega)]
  .exact Qn e h
 os:=rfl
 output:=rfl
 tape:=rfl
theorem Wyh{k:Array Value}{T:TypeId}{d:Nat×Nat}{a:List c}(e:w.heap[b]?=some (.cells k T d))(f:t+a.length<=k.size):
  Mem (Sort.grow (Sort.putRow enc (Sort.ahead w n) b t a.toArray) v) b t (a.map enc):=by
 intro j l g;unfold World.cell?;rw[Hl e];simp only[Xhl,my,jN];rw[List.getElem?_map]at g;have i:j<a.length:=by
  rcases Nat.lt_or_ge j a.length with h|h
  .exact h
  .rw[sG h]at g;cases g
 rw[Pt,Wb ⟨by omega,by simp only[Xgf];omega,by omega⟩];rw[Xq i]at g;simp only[Option.map_some]at g;rw[<-g,Nat.add_sub_cancel_left];simp[i]
end
open Go.Proofs
theorem UW{a:Type}[Inhabited a]{enc:a->List Value}{k:Nat}(f:∀x,(enc x).length=k):∀(l:List a) (t:Nat),t<l.length*k->(l.flatMap enc)[t]?=(enc (l.toArray[t/k]!))[t%k]?
 | [],t,h=>by simp at h
 |x::l,t,h=>by
  have e:0<k:=Xhs λd=>by subst d;simp at h
  rw[Xhw];by_cases b:t<k
  .rw[List.getElem?_append_left (by rw[f];exact b),Nat.div_eq_of_lt b,Nat.mod_eq_of_lt b];rfl
  .have e1:t/k=(t-k)/k+1:=by rw[<-Nat.add_div_right _ e];congr 1;omega
   have c:t%k=(t-k)%k:=by rw[Nat.mod_eq_sub_mod (by omega)]
   rw[List.getElem?_append_right (by rw[f];omega),f,UW f l (t-k) (by rw[List.length_cons,lz]at h;omega),e1,c];simp
theorem VB{a:Type}[Inhabited a]{enc:a->List Value}{k:Nat}(c:∀x,(enc x).length=k)(d:Array a):(Sort.flatK enc k d).toList=d.toList.flatMap enc:=by
 have i:(d.toList.flatMap enc).length=d.size*k:=by
  rw[List.length_flatMap];have:(d.toList.map λl=>(enc l).length)=List.replicate d.size k:=by
   rw[List.eq_replicate_iff];simp[c]
  rw[this];clear this;induction d.size with
  |zero=>simp
  |succ n ih=>rw[List.replicate_succ,List.sum_cons,ih,lz];omega
 apply List.ext_getElem?;intro t;by_cases b:t<d.size*k
 .rw[UW c d.toList t (by simpa using b)];have g:t<(Sort.flatK enc k d).size:=by simpa using b
  have e:=Sort.get_flatK enc k d t b;rw[getElem!_pos (Sort.flatK enc k d) t g]at e;have j:0<k:=Xhs λh=>by subst h;simp at b
  have f:t%k<(enc d[t/k]!).length:=by rw[c];exact Nat.mod_lt _ j
  rw[Xq (by simpa using g)];simp only[Array.getElem_toList,Array.toArray_toList];rw[e,getElem!_pos (enc d[t/k]!) (t%k) f,Xq f]
 .rw[sG (by simpa using b),sG (by rw[i];omega)]
theorem X4{c a:Type}{R:a->List Value->Prop}{f:c->a}{enc:c->List Value}(h:∀b,R (f b) (enc b)):∀(l:List c),da R (l.map f) (l.flatMap enc)
 | []=>rfl
 |b::l=>⟨enc b,l.flatMap enc,rfl,h b,X4 h l⟩
def Od(P:Program)(g:FuncId)(e:Ty)(rng:e.den->Bool)(a:e.den->e.den->Int):Prop:=
 ∀(G:GH) (x y:e.den) (h f:List Value) (w:World),rng x=true->rng y=true->Enc G e x h->Enc G e y f->
  Calls P g #[.agg h.toArray,.agg f.toArray] w λd b=>d= .returned (.int .i64 (a x y))/\∃q c,b=Sort.grow (w.drewN q) c
theorem Rx{P:Program}{t:TypeId}{a b c:Int}(h:-1000000000<=a/\a<=1000000000)(f:-1000000000<=b/\b<=1000000000)(d:a-b=c)(w:World):Sem.run P (Go.binOp .sub t (.int .i64 a) (.int .i64 b)) w= .ok (.int .i64 c) w:=by
 have e:IntKind.wrap .i64 (a-b)=c:=by rw[<-d];exact Dq (by unfold I64;omega)
 simp only[Go.binOp,ne_eq,not_true_eq_false,jN,↓reduceIte,Op.intArith,e];rfl
theorem WAI{P:Program}{t:TypeId}{a b:Int}(w:World):Sem.run P (Go.binOp .neq t (.int .i64 a) (.int .i64 b)) w= .ok (.bool (a !=b)) w:=by
 simp only[Go.binOp,ne_eq,not_true_eq_false,jN,↓reduceIte,Op.intCmp];rfl
theorem WuI{P:Program}{t:TypeId}{x y:Operand}{a b:Int}(w:World):Sem.run P (eqGuard .neq t x y (.int .i64 a) (.int .i64 b)) w= .ok () w:=rfl
theorem QC(w:World)(a b:Obj):∃q yD,(w.alloc a).alloc b=Sort.grow (w.drewN q) yD:=
 ⟨0,#[a,b],by show World.alloc (World.alloc w a) b=_;unfold World.alloc Sort.grow;simp only[World.drewN_zero,Array.push_eq_append,Array.append_assoc];rfl⟩
theorem QQ{G:GH}:∀(t:Ty) (d:t.den) (a:List Value),Enc G t d a->∀v∈a,v.oneCell'=true
 | .int _,d,a,h,v,hv=>by simp only[Enc]at h;subst h;simp at hv;subst hv;rfl
 | .bool,d,a,h,v,hv=>by simp only[Enc]at h;subst h;simp at hv;subst hv;rfl
 | .slice _,d,a,h,v,hv=>by
  obtain⟨u,rfl,g⟩:=h;simp at hv;subst hv;rcases g with⟨rfl,_⟩|⟨_,_,_,_,rfl,_⟩|⟨_,_,rfl,_⟩<;>rfl
 | .own _,d,a,h,v,hv=>h.elim
 | .prod k b,d,a,h,v,hv=>by
  obtain⟨i,j,rfl,e,f⟩:=h;rcases List.mem_append.1 hv with c|c
  .exact QQ k _ _ e v c
  .exact QQ b _ _ f v c
theorem Vy{P:Program}{ρ:Go.Shelf.Ren}(L:SlLaysF0.n6 P ρ){e:Ty}(hd:e.data=true)(h0:0<e.size)(aE:∀w,(isAgg (ρ.t 24)).run P w= .ok true w)(zE:∀w,(Go.sizeOf (ρ.t 24)).run P w= .ok e.size w)
  {g:FuncId} (eg:∀H w,(callFunc g H).run P w= .ok (.enter g H) w) {rng:e.den->Bool} {u:e.den->e.den->Int} (hO:SwoOn rng u) (yE:Od P g e rng u) (N:Nat):
  zl P (ρ.f 6) (Sig.of [.mut e,.clos g 0] [] (λd=>CA rng u N d.1)):=by
 intro d o bA G w qa2 ns ks bc lR O hg;obtain⟨a,qa1⟩:=d;change List e.den at a;obtain⟨yF,Co,ab,rfl⟩:=WqC (N:=N) (a:=a) bA;obtain⟨R,aD,n2,aZ,rfl,rfl,rfl,aF,cvs,Bt,rfl,pX,_,h2⟩:=bc;have yG:cvs= []:=eY pX;subst yG;obtain⟨rfl,rfl,rfl⟩:=h2;have Y:(n7 u a).length=a.length:=by unfold n7;exact List.length_mergeSort _
 have it:az (a:=e.den) w (WL G w e) e.size R.nu a R.fp:=aF;obtain⟨h1,h3,U⟩:=it;by_cases hx:a= []
 .subst hx;have V:∃p l,R.nu.hdr= .slice p 0 l:=by
   have sY:R.nu.len=0:=h1.symm;unfold Nu.hdr;cases R.nu.blk with
   |none=>exact⟨_,_,rfl⟩
   |some b=>exact⟨_,_,by rw[sY]⟩
  obtain⟨p,l,V⟩:=V;show Calls P (ρ.f 6) #[R.nu.hdr,.func (.func g) #[] #[]] w _;rw[V];refine(AnyF.slices_SortFunc_none L p l _ w).mono ?_;rintro e' w' ⟨rfl,rfl⟩;have tB:n7 u ([]:List e.den)= []:=eY Y;refine⟨[],[R.fp],[],[],G,rfl,?_⟩;exact{
   res:=⟨rfl,rfl⟩
   outs:=⟨R,[],[],rfl,rfl,by rw[show((n7 u ([]:List e.den),()),()).1.1=([]:List e.den)from tB];exact aF,rfl,rfl,rfl⟩
   sep:=by simpa [fps]using lR
   own:=λS hS b o C=>by
    have:S=R.fp:=by simpa [fps]using hS
    subst this;exact⟨(O R (by simp) b o C).1,.inl ⟨R,by simp,C⟩,(O R (by simp) b o C).2⟩
   gx:=⟨λ_ _ _ h=>h,λ_ _ _ h=>.inl h⟩
   g:=hg
   le:={size:=Xj _,row:=λ_ qa2 _ h=>⟨qa2,h,rfl⟩,cell:=λ_ _ _ _=>rfl,whole:=λ_ _ _=>rfl,os:=rfl,output:=rfl,tape:=rfl}}
 .have dg:0<a.length:=by cases a with|nil=>exact Wh rfl hx|cons t qa0=>simp
  cases hb:R.nu.blk with
  |none=>rw[hb]at U;exact Wh U hx
  |some b=>
  rw[hb]at U;simp only[]at U;obtain⟨h5,h6,⟨us,T,ae,dy⟩,s,ps,iQ,aA,wQ,aO⟩:=U;obtain⟨ta,rfl⟩:=(w5 hd a s ps).1 iQ;have bQ:s.length=a.length*e.size:=zO (λx c h=>fi e x c h) a s ta
  let B (i:Nat):List Value:=(s.drop (i*e.size)).take e.size
  have tC:∀(i:Nat) (r:i<a.length),Enc G e a[i] (B i):=λi r=>Qd (λx c h=>fi e x c h) a s i a[i] ta (Xq r)
  let A:={p:e.den×List Value// ∃(i:Nat) (r:i<a.length),p=(a[i],B i)}
  let el (i:Nat) (r:i<a.length):A:=⟨(a[i],B i),i,r,rfl⟩
  haveI:Inhabited A:=⟨el 0 dg⟩
  let enc:A->List Value:=λp=>p.1.2
  let k:A->A->Int:=λp q=>u p.1.1 q.1.1
  have X:∀p:A,Enc G e p.1.1 (enc p):=λp=>by
   obtain⟨i,r,K⟩:=p.2;show Enc G e p.1.1 p.1.2;rw[K];exact tC i r
  have F:∀p:A,rng p.1.1=true:=λp=>by
   obtain⟨i,r,K⟩:=p.2;rw[K];exact yF _ (List.getElem_mem r)
  have hk:∀p:A,(enc p).length=e.size:=λp=>fi e _ _ (X p);have Cp:∀p:A,∀v∈enc p,v.oneCell'=true:=λp=>QQ e _ _ (X p)
  let dl:List A:=(List.range a.length).attach.map λi=>el i.1 (List.mem_range.1 i.2)
  have M:dl.length=a.length:=by simp[dl]
  have AQ:∀(i:Nat) (r:i<a.length),dl[i]'(by rw[M];exact r)=el i r:=λi r=>by simp[dl]
  have oG:dl.map (λp:A=>p.1.1)=a:=by
   apply List.ext_getElem (by simp[M]);intro i h1 h2;rw[List.getElem_map,AQ i h2]
  have hSW:Sort.SWO (Go.Proofs.ltOf k):={
   irrefl:=λx=>by unfold Go.Proofs.ltOf;exact Wj (hO.irr _ (F x))
   trans:=λx y z t b=>by
    unfold Go.Proofs.ltOf at*;exact Wf (hO.tr _ _ _ (F x) (F y) (F z) (Wx t) (Wx b))
   ntrans:=λx y z t b=>by
    unfold Go.Proofs.ltOf at*;exact Wj (hO.nt _ _ _ (F x) (F y) (F z) (of_decide_eq_false t) (of_decide_eq_false b))}
  have hT:∀x y:A,(Go.Proofs.ltOf k) x y=false->(Go.Proofs.ltOf k) y x=false->x=y:=λx y t c=>by
   unfold Go.Proofs.ltOf at t c;have a':=of_decide_eq_false t;have c':=of_decide_eq_false c;obtain⟨i,r,K⟩:=x.2;obtain⟨j,E,W⟩:=y.2;have Z:∀(i j:Nat) (r:i<a.length) (E:j<a.length),¬u a[i] a[j]<0->¬u a[j] a[i]<0->¬i<j:=λi j r E t b ab=>by
    have:=Yn Co i j r E ab;unfold qF qv at this;simp only[Bool.or_eq_true,Wg]at this;rcases this with h|h
    .exact t h
    .exact b h
   have a2:¬u a[i] a[j]<0:=by
    have:k x y=u a[i] a[j]:=by show u x.1.1 y.1.1=_;rw[K,W]
    rw[<-this];exact a'
   have c2:¬u a[j] a[i]<0:=by
    have:k y x=u a[j] a[i]:=by show u y.1.1 x.1.1=_;rw[K,W]
    rw[<-this];exact c'
   have n1:=Z i j r E a2 c2;have n2:=Z j i E r c2 a2;have iA:i=j:=by omega
   subst iA;exact Subtype.ext (K.trans W.symm)
  have qz:(Sort.flatK enc e.size dl.toArray).toList=s:=by
   rw[VB hk];have nz:∀(n:Nat) (hn:n<=a.length),(dl.take n).flatMap enc=s.take (n*e.size):=by
    intro n
    induction n with
    |zero=>intro hn;simp
    |succ n ih=>
     intro hn;rw[List.take_succ_eq_append_getElem (by rw[M];omega),List.flatMap_append,ih (by omega),AQ n (by omega)];show s.take (n*e.size)++([el n (by omega)].flatMap enc)=_;simp only[Xhw,List.flatMap_nil,List.append_nil];show s.take (n*e.size)++B n=_;rw[lz,List.take_add]
   have:=nz a.length (Xj _);rw[<-M,jz,M,<-bQ,jz]at this;simpa using this
  have hH:Sort.HoldsK enc e.size w b R.nu.off dl.toArray:=by
   intro j E;have br:j<s.length:=by rw[<-qz];simpa using E
   refine⟨?_,by simp[World.frozen?,ae]⟩;rw[getElem!_pos (Sort.flatK enc e.size dl.toArray) j E];have J:(Sort.flatK enc e.size dl.toArray)[j]=s[j]:=by
    have:(Sort.flatK enc e.size dl.toArray).toList[j]'(by simpa using E)=s[j]:=by simp only[qz]
    simpa using this
   rw[J];exact aA j s[j] (Xq br)
  have yH:b<w.heap.size:=(D3.1 ae).1;have rn:CmpLays P g #[] enc e.size k b R.nu.off dl.toArray.size w:=λm f dk hs x y=>by
   simpa using yE G x.1.1 y.1.1 (enc x) (enc y) (sortWorldK enc e.size w b R.nu.off m dk f) (F x) (F y) (X x) (X y)
  have V:R.nu.hdr= .slice (some ⟨b,R.nu.off,none⟩) dl.toArray.size R.nu.cap:=by
   unfold Nu.hdr;rw[hb];simp only[Xgf,M,h1]
  show Calls P (ρ.f 6) #[R.nu.hdr,.func (.func g) #[] #[]] w _;rw[V];refine(AnyQ.slices_SortFunc_total L e.size aE zE enc hk Cp k hSW g #[] b R.nu.off R.nu.cap dl.toArray w eg rn hH yH (by simpa [M]using ab) hT).mono ?_;rintro e' w' ⟨rfl,m,f,rfl⟩;generalize hsd:(dl.toArray.toList.mergeSort λx y=>!(Go.Proofs.ltOf k) y x)=sd;have AR:sd.map (λp:A=>p.1.1)=n7 u a:=by
   have hm:=List.map_mergeSort (r:=λx y:A=>!(Go.Proofs.ltOf k) y x) (s:=λx y:e.den=>!qv u y x) (f:=λp:A=>p.1.1) (l:=dl) (λt _ b _=>rfl);rw[oG]at hm;rw[<-hsd,n7,<-hm]
  have Cq:sd.length=a.length:=by have:=Wq List.length AR;rw[List.length_map,Y]at this;exact this
  have yI:(Sort.flatK enc e.size sd.toArray).toList=sd.flatMap enc:=VB hk _;have sr:da (Enc G e) (n7 u a) (sd.flatMap enc):=by rw[<-AR];exact X4 (R:=Enc G e) X sd
  have D:(sd.flatMap enc).length=a.length*e.size:=by rw[zO (λx c h=>fi e x c h) _ _ sr,Y]
  have vm:R.nu.off+(sd.flatMap enc).length<=us.size:=by
   rw[D];have:=lu e.size h5;omega
  have Cr:∀o,R.nu.off<=o->o<R.nu.off+a.length*e.size->R.fp b o:=λo ha dc=>by
   have:=lu e.size h5;exact aO (Go.Sx.rng b R.nu.off (R.nu.cap*e.size)) (List.mem_cons_self ..) b o ⟨rfl,ha,by omega⟩
  have yJ:sortWorldK enc e.size w b R.nu.off m sd.toArray f=Sort.grow (Sort.putRow id (Sort.ahead w m) b R.nu.off (sd.flatMap enc).toArray) f:=by
   unfold sortWorldK Sort.putRowK;rw[<-yI]
  rw[yJ];generalize sd.flatMap enc=Q at sr D vm;have hw:WLe (Of [R]) w (Sort.grow (Sort.putRow id (Sort.ahead w m) b R.nu.off Q.toArray) f):=WyA ae λo ha dc=>⟨R,by simp,Cr o ha (by simpa [D]using dc)⟩;have ho:az (a:=e.den) (Sort.grow (Sort.putRow id (Sort.ahead w m) b R.nu.off Q.toArray) f) (WL G (Sort.grow (Sort.putRow id (Sort.ahead w m) b R.nu.off Q.toArray) f) e) e.size R.nu (n7 u a) R.fp:=by
   refine⟨by rw[Y];exact h1,h3,?_⟩;rw[hb];refine⟨by rw[Y];exact h5,h6,⟨_,T,Hl ae,by simpa [Sort.putCells]using dy⟩,Q,[],(w5 hd _ _ _).2 ⟨sr,rfl⟩,?_,wQ,aO⟩;have:=Wyh (enc:=id) (n:=m) (v:=f) (a:=Q) ae vm
   rwa [List.map_id]at this
  refine⟨[],[R.fp],[],[],G,rfl,?_⟩;exact{
   res:=⟨rfl,rfl⟩
   outs:=⟨R,[],[],rfl,rfl,ho,rfl,rfl,rfl⟩
   sep:=by simpa [fps]using lR
   own:=λS hS I o C=>by
    have:S=R.fp:=by simpa [fps]using hS
    subst this;exact⟨(O R (by simp) I o C).1,.inl ⟨R,by simp,C⟩,Nat.lt_of_lt_of_le (O R (by simp) I o C).2 hw.size⟩
   gx:=⟨λ_ _ _ h=>h,λ_ _ _ h=>.inl h⟩
   g:=λI o v hv=>by
    have J:=hg I o v hv;have jE:I<w.heap.size:=by
     unfold World.cell? at J;simp only[]at J;rcases Nat.lt_or_ge I w.heap.size with h|h
     .exact h
     .rw[Array.getElem?_eq_none h]at J;cases J
    exact(hw.cell I o jE λ⟨q,W,hf⟩=>by
     have:q=R:=by simpa using W
     subst this;have:=(O q (by simp) I o hf).1;rw[hv]at this;cases this).trans J
   le:=hw}
end Go.Sx
