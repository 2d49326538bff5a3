/- The abstract machine, part 3: a reflective interpreter of the program's code over data, with its soundness over the model. -/
import Derived.Test.YtnkbflecplbceaaGreatEng2
open Option renaming bind_assoc→Xgu,map→Xfm,bind_some→Xd,getD_some→Xdz,bind_eq_some_iff→Xbv,map_eq_some_iff→Xx
open Bool renaming not_true→Xab,and_eq_true→Xh,not_eq_true'→Xaq,false_eq_true→Xbi,or_eq_true→Xbw
open List renaming mem_map→Xv,mem_cons_of_mem→Xe,mem_append_left→Xk,mem_append_right→Xg,mem_cons→Xo,mem_cons_self→Xi,length_append→Xaa,getD_eq_getElem?_getD→Xba,getElem?_append→Xaz,getElem?_cons_zero→Xdq,getElem?_eq_none→Xbg,all_eq_true→Xae,append_of_mem→Xeg,mem_append→Xm,range→Xdi,mem_filter→Xav,mem_range→Xej,filter_cons→Xbm,eq_nil_of_length_eq_zero→Xy,eq_nil_iff_forall_not_mem→Xeu,nodup_nil→Xdk,mem_of_getElem?→Xax,nodup_cons→Xai,nil_append→Xcf,cons_append→Xbh,length_filter_le→Xeq,length_range→Xfk,mem_flatMap→Xft,map_cons→Xaj,map_map→Xeh,map_congr_left→Xfa,append_nil→Xcy,nodup_append→Xak,filter_append→Xcv,prefix_append→Xgn,map_append→Xr,map_nil→Xck,mem_erase_of_ne→Xgh,length_erase_of_mem→Xfo,length_pos_of_mem→Xga,length_cons→Xu,getElem?_cons_succ→Xdr,getElem?_eq_some_iff→Xt,getElem?_append_right→Xay,getElem?_tail→Xch,mapM_cons→Xfd,pairwise_singleton→Xbd,mem_singleton→Xz,take_of_length_le→Xcz,getElem?_eq_getElem→Xs,drop_zero→Xcc,tail_cons→Xei,getElem?_map→Xal,length→Xa,sum_cons→Xca
open Nat renaming sub_self→Xdb,blt_eq→Xhd,le_refl→Xn,zero_add→Xbc,zero_le→Xbk,sub_zero→Xdc,beq→Xbt,le_trans→Xcq,add_zero→Xau,add_sub_cancel_left→Xbe,le_of_ble_eq_true→Xgd,add_mul→Xcx,zero_mul→Xew
open Array renaming getD_eq_getD_getElem?→Xcp,getElem?_setIfInBounds→Xfc,getElem?_eq_getElem→Xdh,getElem?_eq_some_iff→Xdf,replicate→Xef
namespace Go.Sx
set_option linter.unusedVariables false
set_option linter.unusedSimpArgs false
abbrev Out:=AVal×Waf×Nat
def WcX(x:AVal)(objs:Waf)(nx:Nat):Option Out:=some (x,objs,nx)
section
variable{T:Tab}{Γ:Ctx}{A:List (Nat×An)}
theorem Wa3{α β:Type}{c:Prop}[Decidable c]{x:Option α}{f:α->Option β}:(if c then x else none).bind f=if c then x.bind f else none:=by split<;>rfl
theorem Wck{α β:Type}{c:Bool}{x:Option α}{f:α->Option β}:(bif c then x else none).bind f=bif c then x.bind f else none:=by cases c<;>rfl
theorem WfB{R:Type}(sg:Sig)(st:St)(xs:List AVal)(k:KV R):Wfn sg st xs k=(Wfn sg st xs WcX).bind λp=>k p.1 p.2.1 p.2.2:=by
 unfold Wfn;split
 .split
  .rw[sg.law,sg.law,Xgu];rfl
  .rfl
 .rfl
theorem Wqk{R:Type}(sg:Sig)(st:St)(xs:List AVal)(k:KV R):WmG sg st xs k=(WmG sg st xs WcX).bind λp=>k p.1 p.2.1 p.2.2:=by
 unfold WmG;cases sg.fresh with
 |true=>exact WfB _ _ _ _
 |false=>
  simp only[cond_false];split
  .split
   .exact WfB _ _ _ _
   .exact WfB _ _ _ _
  .rfl
theorem WlQ{R:Type}(st:St)(te:Ty)(s x:AVal)(k:KV R):WeI st te s x k=(WeI st te s x WcX).bind λp=>k p.1 p.2.1 p.2.2:=by
 unfold WeI;split
 .split
  .split
   .split
    .rw[Wck];rfl
    .rfl
   .rfl
  .rfl
 .split
  .split
   .split
    .rw[Wa3,Wck];rfl
    .rfl
   .rfl
  .rfl
 .rfl
theorem Wmn{R:Type}(st:St)(e:Ty)(ps:List (Nat×AVal))(k:KV R):Wdp st e ps k=(Wdp st e ps WcX).bind λp=>k p.1 p.2.1 p.2.2:=by
 unfold Wdp;split
 .rw[Wa3];split
  .split
   .split
    .rw[Wa3];rfl
    .rfl
   .rfl
  .rfl
 .rfl
theorem Wol{R:Type}(st:St)(te:Ty)(id:Nat)(l h:Option Int)(k:KV R):Wfi st te id l h k=(Wfi st te id l h WcX).bind λp=>k p.1 p.2.1 p.2.2:=by
 unfold Wfi;split
 .rw[Wa3,Wck];rfl
 .rfl
theorem Wky{R:Type}(st:St)(t t2:TypeId)(s x:AVal)(k:KV R):Wd4 T st t t2 s x k=(Wd4 T st t t2 s x WcX).bind λp=>k p.1 p.2.1 p.2.2:=by
 unfold Wd4;split
 .split
  .split
   .cases Wt3 st s x with
    |false=>exact WlQ _ _ _ _ _
    |true=>
    simp only[Xab,cond_false];split
    .rw[Wck];rfl
    .split
     .split
      .rw[Wck];rfl
      .rfl
     .rfl
    .split
     .split
      .rw[Wck];rfl
      .rfl
     .rfl
    .rfl
   .rfl
  .rfl
 .rfl
theorem Wvx{R:Type}(p:Option (Bool×AVal))(objs:Waf)(nx:Nat)(k:KV R):(match p with|some (c,v)=>bif c then k v objs nx else none|none=>none)=(match p with|some (c,v)=>bif c then WcX v objs nx else none|none=>none).bind λp=>k p.1 p.2.1 p.2.2:=by
 rcases p with _|⟨c,v⟩
 .rfl
 .cases c<;>rfl
theorem WgD{R:Type}(o:Oper)(st:St)(k:KV R):rxe T Γ A o st k=(rxe T Γ A o st WcX).bind λp=>k p.1 p.2.1 p.2.2:=by
 unfold rxe;split
 .split
  .rw[Wa3];rfl
  .rw[Wa3];rfl
  .rfl
 .split<;>rfl
 .split
  .split
   .split<;>rfl
   .rfl
  .rfl
 .split
  .split
   .split
    .rw[Wa3];split
     .exact Wmn _ _ _ _
     .rfl
    .split
     .rw[Wa3];rfl
     .rfl
   .rfl
  .rfl
 .split
  .split
   .split
    .rw[Wa3,Wck];rfl
    .rw[Wa3,Wck];rfl
   .rfl
  .rfl
 .split
  .split
   .split<;>rfl
   .rfl
  .rfl
 .split
  .split
   .split
    .split
     .rw[Wa3];split
      .exact Wol _ _ _ _ _ _
      .rfl
     .split
      .rw[Wa3,Wck];rfl
      .rw[Wa3,Wck];rfl
      .rfl
    .rfl
   .rfl
  .exact Wvx _ _ _ _
 .split
  .split
   .exact Wky _ _ _ _ _ _
   .rfl
  .split
   .split
    .split
     .rw[Wa3];rfl
     .rfl
    .rfl
   .rfl
  .exact Wvx _ _ _ _
  .split
   .split
    .exact Wqk _ _ _ _
    .rfl
   .rfl
  .rfl
 .exact Wvx _ _ _ _
end
section
variable{T:Tab}{Γ:Ctx}{A:List (Nat×An)}
theorem Wnu{st:St}{env:List (Nat×AVal)}{t:TypeId}{x v:AVal}:WcO T {env:=env,objs:=st.objs,nx:=st.nx} t x v=(WcO T st t x v).map λs=>{env:=env,objs:=s.objs,nx:=s.nx}:=by
 unfold WcO;generalize look T t=q;generalize WgJ v=z;rcases q with _|te
 .rfl
 rcases z with _|ds
 .rcases x with(c|cs)|xs
  .cases c<;>rfl
  .rfl
  .rfl
 rcases x with(c|cs)|xs
 .cases c with
  |ptr id off=>
   show(match look st.objs id with|some (.box cs)=>_|_=>_)=Xfm _ (match look st.objs id with|some (.box cs)=>_|_=>_);generalize look st.objs id=ob;rcases ob with _|ob
   .rfl
   cases ob with
   |box cs=>
    show(if _ then _ else _)=Xfm _ (if _ then _ else _);split<;>rfl
   |arr e xs=>rfl
   |hole e xs i p=>rfl
   |dead=>rfl
  |eptr id i off=>
   show(match look st.objs id with|some (.arr e xs)=>_|_=>_)=Xfm _ (match look st.objs id with|some (.arr e xs)=>_|_=>_);generalize look st.objs id=ob;rcases ob with _|ob
   .rfl
   cases ob with
   |box cs=>rfl
   |hole e xs i p=>rfl
   |dead=>rfl
   |arr e xs=>
    show(if _ then _ else _)=Xfm _ (if _ then _ else _);by_cases hc:(decide (te.ty.size=ds.length)&&te.plain&&decide (off+ds.length<=e.size)&&e.data)=true
    .rw[if_pos hc,if_pos hc];generalize Waw e (Weg (split e (List.getD xs i e.dflt)) off ds) st.objs=r;rcases r with _|⟨d,m,l⟩
     .rfl
     .cases m<;>cases l<;>rfl
    .rw[if_neg hc,if_neg hc];by_cases fa:(decide (te.ty.size=ds.length)&&te.plain&&decide (off=0)&&decide (ds.length=e.size))=true
     .rw[if_pos fa,if_pos fa];generalize Waw e ds st.objs=r;rcases r with _|⟨d,m,l⟩
      .rfl
      .cases l with
       |nil=>
        show(if _ then _ else _)=Xfm _ (if _ then _ else _);split<;>rfl
       |cons _ _=>rfl
     .rw[if_neg fa,if_neg fa];rfl
  |_=>rfl
 .rfl
 .rfl
theorem Wrm{R:Type}(o:Oper){st:St}{env:List (Nat×AVal)}(k:KV R)(he:∀x∈Wai o.op,ev {env:=env,objs:=st.objs,nx:=st.nx} x=ev st x):
  rxe T Γ A o {env:=env,objs:=st.objs,nx:=st.nx} k=rxe T Γ A o st k:=by
 have bs:(∀t x l h m,o.op≠ .slice t x l h m)->Waj T {env:=env,objs:=st.objs,nx:=st.nx} o.op=Waj T st o.op:=λhm=>Whl o.op hm he (λ_ _ _ _ _ _ _=>rfl);obtain⟨dst,op,type,pos,after,guard⟩:=o;simp only at he bs;cases op with
 |alloc t=>rfl
 |box t x=>simp only[rxe,he x (by simp[Wai])]
 |build t parts=>simp only[rxe,WcJ (st:=st) parts.toList λp hp=>he p.2 (by simp only[Wai];exact Xv.2 ⟨p,hp,rfl⟩)]
 |buildSlice t n parts=>
  have e1:∀e ps,Wdp {env:=env,objs:=st.objs,nx:=st.nx} e ps k=Wdp st e ps k:=λ_ _=>rfl;simp only[rxe,e1,WcJ (st:=st) parts.toList λp hp=>he p.2 (by simp only[Wai];exact Xv.2 ⟨p,hp,rfl⟩)]
 |makeSlice t n c=>simp only[rxe,he n (by simp[Wai]),he c (by simp[Wai])]
 |store t a x=>
  simp only[rxe,he a (by simp[Wai]),he x (by simp[Wai])];split
  .rename_i p v _ _;have e:=Wnu (T:=T) (st:={env:=st.env,objs:=WdR st.objs (WfR st.objs p v),nx:=st.nx}) (env:=env) (t:=t) (x:=p) (v:=Whk st.objs (WfR st.objs p v) v);simp only at e;rw[e];cases WcO T {env:=st.env,objs:=WdR st.objs (WfR st.objs p v),nx:=st.nx} t p (Whk st.objs (WfR st.objs p v) v)<;>rfl
  .rfl
 |slice t x lo hi m=>
  have hx:=he x (by simp[Wai]);have aY:=Wj7 (st:=st) (aj:={env:=env,objs:=st.objs,nx:=st.nx}) lo λy hy=>he y (by simp only[Wai];exact Xe _ (Xk _ hy));have qL:=Wj7 (st:=st) (aj:={env:=env,objs:=st.objs,nx:=st.nx}) hi λy hy=>he y (by simp only[Wai];exact Xe _ (Xg _ (Xk _ hy)));cases m with
  |none=>
   have hp:Waj T {env:=env,objs:=st.objs,nx:=st.nx} (.slice t x lo hi none)=Waj T st (.slice t x lo hi none):=by
    simp only[Waj,hx];refine Wb3 λv _=>?_;simp only[Wks,aY,qL]
   have e1:∀te id l h,Wfi {env:=env,objs:=st.objs,nx:=st.nx} te id l h k=Wfi st te id l h k:=λ_ _ _ _=>rfl;simp only[rxe,hx,aY,qL,hp,e1]
  |some y=>rfl
 |call c=>
  have hargs:=Wl2 (st:=st) (aj:={env:=env,objs:=st.objs,nx:=st.nx}) c.args.toList λx hx=>he x (by simp only[Wai];exact Xg _ hx);have hp:=bs (λ_ _ _ _ _ h=>by cases h);simp only[rxe];split
  .rename_i s x t t2 hc ha dh;have h1:ev {env:=env,objs:=st.objs,nx:=st.nx} s=ev st s:=he s (by simp only[Wai];rw[ha];exact Xg _ (by simp));have h2:ev {env:=env,objs:=st.objs,nx:=st.nx} x=ev st x:=he x (by simp only[Wai];rw[ha];exact Xg _ (by simp));rw[h1,h2];rfl
  .rename_i x t hc ha dh;have h1:ev {env:=env,objs:=st.objs,nx:=st.nx} x=ev st x:=he x (by simp only[Wai];rw[ha];exact Xg _ (by simp));rw[h1]
  .rw[hp]
  .rename_i f hc;have h1:ev {env:=env,objs:=st.objs,nx:=st.nx} f=ev st f:=he f (by simp only[Wai];rw[hc];exact Xk _ (by simp));rw[h1,hargs];rfl
  .rfl
 |move x=>simp only[rxe,bs (λ_ _ _ _ _ h=>by cases h)]
 |assign x=>simp only[rxe,bs (λ_ _ _ _ _ h=>by cases h)]
 |pick c a b=>simp only[rxe,bs (λ_ _ _ _ _ h=>by cases h)]
 |load t a=>simp only[rxe,bs (λ_ _ _ _ _ h=>by cases h)]
 |nilCheck x=>simp only[rxe,bs (λ_ _ _ _ _ h=>by cases h)]
 |binOp op t x y z=>simp only[rxe,bs (λ_ _ _ _ _ h=>by cases h)]
 |unOp op t x=>simp only[rxe,bs (λ_ _ _ _ _ h=>by cases h)]
 |convert s d x=>simp only[rxe,bs (λ_ _ _ _ _ h=>by cases h)]
 |fieldAddr s x f=>simp only[rxe,bs (λ_ _ _ _ _ h=>by cases h)]
 |field t x f=>simp only[rxe,bs (λ_ _ _ _ _ h=>by cases h)]
 |indexAddr t x i=>simp only[rxe,bs (λ_ _ _ _ _ h=>by cases h)]
 |index t x i=>simp only[rxe,bs (λ_ _ _ _ _ h=>by cases h)]
 |extract t ix=>simp only[rxe,bs (λ_ _ _ _ _ h=>by cases h)]
 |makeFunc f first captured=>simp only[rxe,bs (λ_ _ _ _ _ h=>by cases h)]
 |_=>rfl
def WuT(T:Tab)(o:Oper)(st:St):Option AVal:=match o.op with
 | .build t parts=>match look T t,Wcz st parts.toList with
  |some ⟨ty,true,.struct fs⟩,some ps=>
   if fs.all (λf=>match look T f.2 with|some te=>te.plain|none=>false)then
    match WlY T fs ps (WeD ty)with
    |some cs=>some (.s (.agg cs))
    |none=>none
   else none
  |_,_=>none
 |op=>match Waj T st op with
  |some (c,v)=>bif c then some v else none
  |none=>none
theorem WwP(p:Option (Bool×AVal))(objs:Waf)(nx:Nat):(match p with|some (c,v)=>bif c then WcX v objs nx else none|none=>none)=(match p with|some (c,v)=>bif c then some v else none|none=>none).bind λv=>WcX v objs nx:=by
 rcases p with _|⟨c,v⟩
 .rfl
 .cases c<;>rfl
theorem Wmm{o:Oper}(hm:WaU o=false)(st:St):rxe T Γ A o st WcX=(WuT T o st).bind λv=>WcX v st.objs st.nx:=by
 obtain⟨dst,op,type,pos,after,guard⟩:=o;cases op with
 |alloc t=>cases hm
 |box t x=>cases hm
 |buildSlice t n parts=>cases hm
 |makeSlice t n c=>cases hm
 |store t a x=>cases hm
 |slice t x lo hi m=>cases hm
 |build t parts=>
  simp only[rxe,WuT];generalize look T t=q;generalize Wcz st parts.toList=z;rcases q with _|⟨ty,agg,shape⟩
  .rfl
  rcases z with _|ps
  .cases agg<;>cases shape<;>rfl
  cases agg with
  |false=>rfl
  |true=>
   cases shape with
   |struct fs=>
    show(if _ then _ else _)=Option.bind (if _ then _ else _) _;rw[Wa3];cases WlY T fs ps (WeD ty)<;>rfl
   |_=>rfl
 |call c=>
  simp only[rxe,WuT];split
  .rename_i hc _ _;simp only[WaU,hc]at hm;cases hm
  .rename_i hc _ _;simp only[WaU,hc]at hm;cases hm
  .exact WwP _ _ _
  .rename_i hc;simp only[WaU,hc]at hm;cases hm
  .rename_i h0 h1 h2 h3;have:Waj T st (.call c)=none:=by
    simp only[Waj];split
    .rename_i hc _ _;first|exact absurd hc (h0 _)|exact absurd hc (h1 _)|exact absurd hc (h2 _)|exact absurd hc (h3 _)
    .rename_i hc _ _;first|exact absurd hc (h0 _)|exact absurd hc (h1 _)|exact absurd hc (h2 _)|exact absurd hc (h3 _)
    .rename_i hc _ _;first|exact absurd hc (h0 _)|exact absurd hc (h1 _)|exact absurd hc (h2 _)|exact absurd hc (h3 _)
    .rfl
   rw[this];rfl
 |_=>first|rfl|exact WwP (Waj T st _) st.objs st.nx
theorem WpY{o:Oper}(hm:WaU o=false){st aj:St}(he:∀x∈Wai o.op,ev aj x=ev st x)(hl:Wvi o.op=true->∀x∈Wai o.op,∀v,ev st x=some v->Wet st aj v):WuT T o aj=WuT T o st:=by
 have bs:(∀t x l h m,o.op≠ .slice t x l h m)->Waj T aj o.op=Waj T st o.op:=λhm=>Whl o.op hm he hl;obtain⟨dst,op,type,pos,after,guard⟩:=o;simp only at he bs;cases op with
 |slice t x lo hi m=>cases hm
 |build t parts=>simp only[WuT,WcJ (st:=st) parts.toList λp hp=>he p.2 (by simp only[Wai];exact Xv.2 ⟨p,hp,rfl⟩)]
 |_=>simp only[WuT,bs (λ_ _ _ _ _ h=>by cases h)]
theorem WcV(objs:Waf):∀l,∃pre,kill objs l=pre++objs
 | []=>⟨[],rfl⟩
 |i::l=>by
  obtain⟨pre,h⟩:=WcV objs l;exact⟨(i,.dead)::pre,by simp only[kill,h];rfl⟩
theorem Wad:∀(ps:List PTy) (o:WfY ps) (ids:List Kp) (objs:Waf) (nx:Nat),∃pre,(Wag ps o ids objs nx).1=pre++objs
 | [],_,_,objs,_=>⟨[],rfl⟩
 | .v _ _::ps,o,ids,objs,nx=>Wad ps o ids objs nx
 | .rp _::ps,o,ids,objs,nx=>Wad ps o ids objs nx
 | .box t::ps,o,ids,objs,nx=>by
  cases ids with
  |nil=>exact⟨[],rfl⟩
  |cons k ids=>
   obtain⟨pre,h⟩:=Wad ps o.2 ids ((k.id,Whj (look objs k.id) k.off (unfold t o.1 nx).1)::((unfold t o.1 nx).2.1++objs)) (unfold t o.1 nx).2.2;exact⟨pre++(k.id,Whj (look objs k.id) k.off (unfold t o.1 nx).1)::(unfold t o.1 nx).2.1,by simp only[Wag,h];simp⟩
 | .vj _::ps,o,ids,objs,nx=>Wad ps o ids objs nx
 | .boxal t _::ps,o,ids,objs,nx=>by
  cases ids with
  |nil=>exact⟨[],rfl⟩
  |cons k ids=>
   obtain⟨pre,h⟩:=Wad ps o.2 ids ((k.id,Whj (look objs k.id) k.off (unfold t o.1 nx).1)::((unfold t o.1 nx).2.1++objs)) (unfold t o.1 nx).2.2;exact⟨pre++(k.id,Whj (look objs k.id) k.off (unfold t o.1 nx).1)::(unfold t o.1 nx).2.1,by simp only[Wag,h];simp⟩
 | .mut e::ps,o,ids,objs,nx=>by
  cases ids with
  |nil=>exact⟨[],rfl⟩
  |cons k ids=>
   obtain⟨pre,h⟩:=Wad ps o.2 ids ((k.id,.arr e o.1)::objs) nx;exact⟨pre++ [(k.id,.arr e o.1)],by simp only[Wag,h];simp⟩
 | .clos _ _::ps,o,ids,objs,nx=>Wad ps o ids objs nx
 | .kv t _::ps,o,ids,objs,nx=>by
  obtain⟨pre,h⟩:=Wad ps o.2 (ids.drop t.owns) (Wcr t o.1 ((ids.take t.owns).map Kp.id)++objs) nx;exact⟨pre++Wcr t o.1 ((ids.take t.owns).map Kp.id),by simp only[Wag,h];simp⟩
theorem Wap:∀(rs:List PTy) (d:WgS rs) (objs:Waf) (nx:Nat),∃pre,(Wbw rs d objs nx).2.1=pre++objs
 | [],_,objs,_=>⟨[],rfl⟩
 | .v t agg::rs,d,objs,nx=>by
  obtain⟨pre,h⟩:=Wap rs d.2 ((unfold t d.1 nx).2.1++objs) (unfold t d.1 nx).2.2;exact⟨pre++(unfold t d.1 nx).2.1,by simp only[Wbw,h];simp⟩
 | .box t::rs,d,objs,nx=>by
  obtain⟨pre,h⟩:=Wap rs d.2 ((nx,.box (unfold t d.1 (nx+1)).1)::((unfold t d.1 (nx+1)).2.1++objs)) (unfold t d.1 (nx+1)).2.2;exact⟨pre++(nx,.box (unfold t d.1 (nx+1)).1)::(unfold t d.1 (nx+1)).2.1,by simp only[Wbw,h];simp⟩
 | .mut _::rs,d,objs,nx=>Wap rs d objs nx
 | .clos _ _::rs,d,objs,nx=>Wap rs d objs nx
 | .kv _ _::rs,d,objs,nx=>Wap rs d objs nx
 | .rp _::rs,d,objs,nx=>Wap rs d objs nx
 | .vj t::rs,d,objs,nx=>by
  obtain⟨pre,h⟩:=Wap rs d.2 ((unfold t d.1 nx).2.1++objs) (unfold t d.1 nx).2.2;exact⟨pre++(unfold t d.1 nx).2.1,by simp only[Wbw,h];simp⟩
 | .boxal _ _::rs,d,objs,nx=>Wap rs d objs nx
def Suf(objs:Waf)(r:Option Out):Prop:=∀x objs' nx,r=some (x,objs',nx)->∃pre,objs'=pre++objs
theorem Suf.none{objs:Waf}:Suf objs none:=λ_ _ _ h=>by cases h
theorem Suf.out{objs pre:Waf}{x:AVal}{nx:Nat}:Suf objs (WcX x (pre++objs) nx):=λ_ _ _ h=>by
 injection h with h;have:=congrArg (λp:Out=>p.2.1) h;exact⟨pre,this.symm⟩
theorem Suf.ite{objs:Waf}{c:Prop}[Decidable c]{r:Option Out}(h:Suf objs r):Suf objs (if c then r else Option.none):=by split;exact h;exact .none
theorem Suf.bif{objs:Waf}{c:Bool}{r:Option Out}(h:Suf objs r):Suf objs (bif c then r else Option.none):=by cases c;exact .none;exact h
theorem Wi8{st ae:St}{t:TypeId}{x v:AVal}(h:WcO T st t x v=some ae):∃pre,ae.objs=pre++st.objs:=by
 unfold WcO at h;split at h
 .split at h
  .split at h
   .injection h with h;subst h;exact⟨[_],rfl⟩
   .cases h
  .cases h
 .split at h
  .split at h
   .split at h
    .injection h with h;subst h;exact⟨[_],rfl⟩
    .cases h
   .split at h
    .split at h
     .rename_i m _;split at h
      .injection h with h;subst h;obtain⟨pre,hp⟩:=WcV st.objs m;exact⟨_::pre,by simp only[hp];rfl⟩
      .cases h
     .cases h
    .cases h
  .cases h
 .cases h
theorem WnA(p:Option (Bool×AVal))(objs:Waf)(nx:Nat):Suf objs (match p with|some (c,v)=>bif c then WcX v objs nx else none|none=>none):=by
 rcases p with _|⟨c,v⟩
 .exact .none
 .exact Suf.bif (Suf.out (pre:=[]))
theorem Wd0(sg:Sig)(st:St)(xs:List AVal):Suf st.objs (Wfn sg st xs WcX):=by
 unfold Wfn;split
 .rename_i A _;split
  .intro x objs' nx h;rw[sg.law]at h;cases hr:sg.run A.d with
   |none=>rw[hr]at h;cases h
   |some out=>
    rw[hr]at h;simp only[Xd]at h;injection h with h;have h2:=congrArg (λp:Out=>p.2.1) h;simp only at h2;obtain⟨p1,e1⟩:=WcV st.objs A.moved;obtain⟨p2,e2⟩:=Wad sg.ps out.1 A.kept (kill st.objs A.moved) st.nx;obtain⟨p3,e3⟩:=Wap sg.rs out.2 (Wag sg.ps out.1 A.kept (kill st.objs A.moved) st.nx).1 (Wag sg.ps out.1 A.kept (kill st.objs A.moved) st.nx).2;refine⟨p3++(p2++p1),?_⟩;rw[←h2,e3,e2,e1];simp
  .exact .none
 .exact .none
theorem Suf.over{objs:Waf}{l:List Nat}{r:Option Out}(h:Suf (kill objs l) r):Suf objs r:=λx objs' nx hr=>by
 obtain⟨p1,e1⟩:=h x objs' nx hr;obtain⟨p2,e2⟩:=WcV objs l;exact⟨p1++p2,by rw[e1,e2];simp⟩
theorem WmV(sg:Sig)(st:St)(xs:List AVal):Suf st.objs (WmG sg st xs WcX):=by
 unfold WmG;cases sg.fresh with
 |true=>exact Wd0 _ _ _
 |false=>
  simp only[cond_false];split
  .split
   .exact Wd0 _ _ _
   .exact Suf.over (Wd0 sg {env:=st.env,objs:=kill st.objs _,nx:=st.nx} _)
  .exact .none
theorem WnP{objs:Waf}{x:AVal}{p:Nat×Ob}{l:List Nat}{nx:Nat}:Suf objs (WcX x (p::kill objs l) nx):=by
 obtain⟨pre,h⟩:=WcV objs l;rw[h];exact Suf.out (pre:=p::pre)
theorem Wjc(st:St)(te:Ty)(s x:AVal):Suf st.objs (WeI st te s x WcX):=by
 unfold WeI;split
 .split
  .split
   .split
    .exact Suf.bif WnP
    .exact .none
   .exact .none
  .exact .none
 .split
  .split
   .split
    .exact Suf.ite (Suf.bif WnP)
    .exact .none
   .exact .none
  .exact .none
 .exact .none
theorem Wi7(st:St)(e:Ty)(ps:List (Nat×AVal)):Suf st.objs (Wdp st e ps WcX):=by
 unfold Wdp;split
 .refine Suf.ite ?_;split
  .split
   .exact Suf.ite (Suf.over WnP)
   .exact .none
  .exact .none
 .exact .none
theorem Wlg(st:St)(te:Ty)(id:Nat)(l h:Option Int):Suf st.objs (Wfi st te id l h WcX):=by
 unfold Wfi;split
 .exact Suf.ite (Suf.bif (Suf.out (pre:=[])))
 .exact .none
theorem Wp7(o:Oper)(st:St):Suf st.objs (rxe T Γ A o st WcX):=by
 unfold rxe;split
 .split
  .exact Suf.ite (Suf.out (pre:=[_]))
  .exact Suf.ite (Suf.out (pre:=[_]))
  .exact .none
 .split
  .exact Suf.out (pre:=[_])
  .exact .none
 .split
  .split
   .split
    .exact Suf.out (pre:=[])
    .exact .none
   .exact .none
  .exact .none
 .split
  .split
   .split
    .exact Suf.ite (Wi7 _ _ _)
    .split
     .exact Suf.ite (Suf.over (Suf.out (pre:=[_])))
     .exact .none
   .exact .none
  .exact .none
 .split
  .split
   .split
    .exact Suf.ite (Suf.bif (Suf.out (pre:=[_])))
    .exact Suf.ite (Suf.bif (Suf.out (pre:=[_])))
   .exact .none
  .exact .none
 .split
  .split
   .rename_i ae hs;split
    .obtain⟨pre,h⟩:=Wi8 hs;rw[h];exact Suf.over Suf.out
    .exact .none
   .exact .none
  .exact .none
 .split
  .split
   .split
    .split
     .exact Suf.ite (Wlg _ _ _ _ _)
     .split
      .exact Suf.ite (Suf.bif (Suf.out (pre:=[_,_])))
      .exact Suf.ite (Suf.bif (Suf.out (pre:=[_,_,_])))
      .exact .none
    .exact .none
   .exact .none
  .exact WnA _ _ _
 .split
  .split
   .unfold Wd4;split
    .split
     .split
      .cases Wt3 st _ _ with
       |false=>exact Wjc _ _ _ _
       |true=>
       simp only[Xab,cond_false];split
       .exact Suf.bif (Suf.out (pre:=[_]))
       .split
        .split
         .exact Suf.bif (Suf.out (pre:=[_,_]))
         .exact .none
        .exact .none
       .split
        .split
         .exact Suf.bif (Suf.out (pre:=[_,_]))
         .exact .none
        .exact .none
       .exact .none
      .exact .none
     .exact .none
    .exact .none
   .exact .none
  .split
   .split
    .split
     .exact Suf.ite (Suf.out (pre:=[_]))
     .exact .none
    .exact .none
   .exact .none
  .exact WnA _ _ _
  .split
   .split
    .exact WmV _ _ _
    .exact .none
   .exact .none
  .exact .none
 .exact WnA _ _ _
end
end Go.Sx
namespace Go.Sx
set_option linter.unusedVariables false
set_option linter.unusedSimpArgs false
theorem Wpu{x y:Nat}{l:List Nat}:y∈WwZ x l↔y=x\/y∈l:=by
 unfold WwZ;cases h:Wb0 x l with
 |true=>
  have:=(WaS x l).1 h;simp only[cond_true];exact⟨.inr,λh=>h.elim (λe=>e▸this) id⟩
 |false=>simp
theorem Wj0{y:Nat}:∀(m l:List Nat),y∈WlP m l↔y∈m\/y∈l
 | [],l=>by simp[WlP]
 |x::m,l=>by
  rw[WlP,Wj0 m,Wpu,Xo];constructor
  .rintro(h|h|h)
   .exact .inl (.inr h)
   .exact .inl (.inl h)
   .exact .inr h
  .rintro((h|h)|h)
   .exact .inr (.inl h)
   .exact .inl h
   .exact .inr (.inr h)
theorem Wis{acc:List (List Nat)}{y:Nat}:∀(ds l:List Nat),y∈Wlu acc ds l↔(∃j∈ds,y=j\/y∈acc.getD j [])\/y∈l
 | [],l=>by simp[Wlu]
 |j::ds,l=>by
  rw[Wlu,Wis ds,Wj0,Wpu];constructor
  .rintro(⟨k,hk,h⟩|h|h|h)
   .exact .inl ⟨k,Xe _ hk,h⟩
   .exact .inl ⟨j,Xi ..,.inr h⟩
   .exact .inl ⟨j,Xi ..,.inl h⟩
   .exact .inr h
  .rintro(⟨k,hk,h⟩|h)
   .rcases Xo.1 hk with rfl|hk
    .exact .inr (h.elim (λh=>.inr (.inl h)) .inl)
    .exact .inl ⟨k,hk,h⟩
   .exact .inr (.inr (.inr h))
def WmS(ops:Array Oper)(S:Nat->Prop):Prop:=∀i o,ops[i]?=some o->S i->∀d∈Wm4 o,S d
theorem WjS{ops:Array Oper}{S:Nat->Prop}(hS:WmS ops S):∀(l:List Oper) (acc:List (List Nat)),(∀(k:Nat) (o:Oper),l[k]?=some o->ops[acc.length+k]?=some o)->
  (∀i,S i->∀j∈acc.getD i [],S j)->∀i,S i->∀j∈(WeJ l acc).getD i [],S j
 | [],acc,_,h=>h
 |o::l,acc,hl,h=>by
  refine WjS hS l _ (λk o' hk=>?_) (λi hi j hj=>?_)
  .have:=hl (k+1) o' (by simpa using hk);rw[Xaa];have e:acc.length+(k+1)=acc.length+ [Wlu acc (Wm4 o) []].length+k:=by simp;omega
   rw[←e];exact this
  .rw[Xba,Xaz]at hj;split at hj
   .exact h i hi j (by rw[Xba];exact hj)
   .rename_i hlt;by_cases he:i=acc.length
    .subst he;simp only[Xdb,Xdq,Xdz]at hj;rcases(Wis _ _).1 hj with⟨k,hk,ee⟩|hj
     .have hSk:=hS _ o (hl 0 o (by simp)) hi k hk;rcases ee with rfl|ee
      .exact hSk
      .exact h k hSk j ee
     .cases hj
    .have:[Wlu acc (Wm4 o) []][i-acc.length]?=none:=Xbg (by simp;omega);rw[this]at hj;cases hj
theorem Wqi{ops:Array Oper}{S:Nat->Prop}(hS:WmS ops S){i j:Nat}(h:Wc6 (WeJ ops.toList []) j i=true)(hi:S i):S j:=
 WjS hS ops.toList [] (λk o hk=>by simpa using hk) (λi _ j hj=>by simp at hj) i hi j ((WaS _ _).1 h)
theorem Wjn{ops:Array Oper}:∀(l:List Oper) (n:Nat),WtT l n=true->∀(k:Nat) (o:Oper),l[k]?=some o->∀d∈Wm4 o,d<n+k
 | [],_,_,k,o,hk=>by simp at hk
 |o'::l,n,h,k,o,hk=>by
  simp only[WtT,Xh,Xae]at h;cases k with
  |zero=>
   simp at hk;subst hk;intro e he;have:=h.1 e he;rw[Xhd]at this;omega
  |succ k=>
   have:=Wjn (ops:=ops) l (n+1) h.2 k o (by simpa using hk);intro e he;have:=this e he;omega
structure Order(ops:Array Oper)(l:List Nat):Prop where
 nodup:l.Nodup
 all:∀i,i<ops.size↔i∈l
 dep:∀p i s,l=p++i::s->∀o,ops[i]?=some o->∀d∈Wm4 o,d∈p
theorem Order.closed{ops:Array Oper}{l:List Nat}(h:Order ops l){p s:List Nat}(e:l=p++s):WmS ops (· ∈p):=λi o ho hi d hd=>by
 obtain⟨a,b,rfl⟩:=Xeg hi;have:=h.dep a i (b++s) (by rw[e];simp) o ho d hd;simp[this]
theorem Order.bef{ops:Array Oper}{l:List Nat}(h:Order ops l){p s:List Nat}{i j:Nat}(e:l=p++s)(hb:Wc6 (WeJ ops.toList []) j i=true)(hi:i∈p):j∈p:=
 Wqi (h.closed e) hb hi
theorem Order.bef'{ops:Array Oper}{l:List Nat}(h:Order ops l){p s:List Nat}{i j:Nat}(e:l=p++i::s)(hb:Wc6 (WeJ ops.toList []) j i=true)(hne:j≠i):j∈p:=by
 have:=h.bef (p:=p++ [i]) (s:=s) (by rw[e];simp) hb (by simp);rcases Xm.1 this with h|h
 .exact h
 .simp at h;exact absurd h hne
def unl(ops:Array Oper)(listed:Array Bool):List Nat:=(Xdi ops.size).filter λi=>!listed.getD i true
theorem WfF{ops:Array Oper}{listed:Array Bool}{i:Nat}:i∈unl ops listed↔i<ops.size/\listed.getD i true=false:=by
 unfold unl;rw[Xav,Xej];simp
theorem Wgc{α:Type}{p q:α->Bool}:∀(l:List α),(∀x∈l,q x=true->p x=true)->(∃x∈l,p x=true/\q x=false)->(l.filter q).length<(l.filter p).length
 | [],_,⟨x,hx,_⟩=>by cases hx
 |x::l,h,⟨y,hy,hp,hq⟩=>by
  have hle:∀(l:List α),(∀x∈l,q x=true->p x=true)->(l.filter q).length<=(l.filter p).length:=by
   intro l
   induction l with
   |nil=>intro _;simp
   |cons x l ih=>
    intro h;have:=ih λx hx=>h x (Xe _ hx);have hx:=h x (Xi ..);rw[Xbm,Xbm];cases hqx:q x with
    |true=>rw[hx hqx];simpa using this
    |false=>cases p x<;>simp<;>omega
  rw[Xbm,Xbm];rcases Xo.1 hy with rfl|hy
  .rw[hp,hq];have:=hle l λx hx=>h x (Xe _ hx);simp;omega
  .have:=Wgc l (λx hx=>h x (Xe _ hx)) ⟨y,hy,hp,hq⟩;have hx:=h x (Xi ..);cases hqx:q x with
   |true=>rw[hx hqx];simpa using this
   |false=>cases p x<;>simp<;>omega
theorem WkA{listed:Array Bool}{i j:Nat}:(listed.setIfInBounds i true).getD j true=(if i=j then true else listed.getD j true):=by
 simp only[Xcp,Xfc];split
 .split<;>rfl
 .rfl
theorem Wr3{listed:Array Bool}{i j:Nat}(hi:i<listed.size):(listed.setIfInBounds i true).getD j false=(if i=j then true else listed.getD j false):=by
 simp only[Xcp,Xfc];split
 .simp[hi]
 .rfl
theorem WvR{listed:Array Bool}{i:Nat}(hi:i<listed.size):listed.getD i true=listed.getD i false:=by
 simp[hi]
theorem WpC{o:Oper}{e:Edge}(he:e∈o.after)(hb:Region.binds .any e=true):e.on∈Wm4 o:=
 Xv.2 ⟨e,Xav.2 ⟨by simpa using he,hb⟩,rfl⟩
theorem Wpb{ops:Array Oper}(hb:∀(k:Nat) (o:Oper),ops[k]?=some o->∀d∈Wm4 o,d<k):∀(fuel t:Nat) (listed:Array Bool),listed.size=ops.size->(unl ops listed).length<=fuel->
  (Region.linearise.go .any ops fuel t listed []).Nodup/\
  (∀i,i∈Region.linearise.go .any ops fuel t listed []↔i∈unl ops listed)/\
  (∀p i s,Region.linearise.go .any ops fuel t listed []=p++i::s->∀o,ops[i]?=some o->∀e∈o.after,Region.binds .any e=true->listed.getD e.on false=true\/e.on∈p)
 |0,t,listed,hs,hlen=>by
  have:unl ops listed= []:=Xy (by omega);simp only[Region.linearise.go,List.reverse_nil,this];exact⟨by simp,by simp,λp i s h=>by simp at h⟩
 |fuel+1,t,listed,hs,hlen=>by
  have oo:Region.linearise.go .any ops (fuel+1) t listed []=match(Region.ready .any ops listed)[t%(Region.ready .any ops listed).length]? with
   |some i=>Region.linearise.go .any ops fuel (t/(Region.ready .any ops listed).length) (listed.setIfInBounds i true) [i]
   |none=>[]:=rfl
  rw[oo];cases hi:(Region.ready .any ops listed)[t%(Region.ready .any ops listed).length]? with
  |none=>
   have bB:Region.ready .any ops listed= []:=by
    cases hr:Region.ready .any ops listed with
    |nil=>rfl
    |cons x xs=>
     rw[hr]at hi;have hlt:t%(x::xs).length<(x::xs).length:=Nat.mod_lt _ (by simp);simp at hi;simp at hlt;omega
   have hu:unl ops listed= []:=by
    have key:∀n i,i<=n->i∉unl ops listed:=by
     intro n
     induction n with
     |zero=>
      intro i il hm;obtain⟨h1,h2⟩:=WfF.1 hm;have:i∈Region.ready .any ops listed:=by
       rw[mem_ready];refine⟨h2,ops[i],Xdh h1,λe he lX=>?_⟩;have:=hb i _ (Xdh h1) e.on (WpC he lX);omega
      rw[bB]at this;cases this
     |succ n ih=>
      intro i il hm;obtain⟨h1,h2⟩:=WfF.1 hm;have:i∈Region.ready .any ops listed:=by
       rw[mem_ready];refine⟨h2,ops[i],Xdh h1,λe he lX=>?_⟩;have hlt:=hb i _ (Xdh h1) e.on (WpC he lX);have bZ:=ih e.on (by omega);have h3:e.on<ops.size:=by omega
       cases h4:listed.getD e.on true with
       |false=>exact absurd (WfF.2 ⟨h3,h4⟩) bZ
       |true=>rw[←WvR (by omega)];exact h4
      rw[bB]at this;cases this
    exact Xeu.2 λi=>key i i (Xn _)
   rw[hu];exact⟨Xdk,λ_=>Iff.rfl,λp i s h=>by simp at h⟩
  |some i=>
   have yW:=Xax hi;obtain⟨h1,o,ho,h3⟩:=mem_ready.1 yW;have rX:i<ops.size:=(Xdf.1 ho).1;have yX:i∈unl ops listed:=WfF.2 ⟨rX,h1⟩;simp only[];rw[linearise_go_acc,List.reverse_singleton,List.singleton_append];have iL:(unl ops (listed.setIfInBounds i true)).length<=fuel:=by
    have:(unl ops (listed.setIfInBounds i true)).length<(unl ops listed).length:=by
     refine Wgc _ (λx _ hx=>?_) ⟨i,Xej.2 rX,by simpa using h1,by rw[WkA];simp⟩;rw[WkA]at hx;split at hx
     .simp at hx
     .exact hx
    omega
   obtain⟨g1,g2,g3⟩:=Wpb hb fuel (t/(Region.ready .any ops listed).length) (listed.setIfInBounds i true) (by simp[hs]) iL;have hmem:∀j,j∈unl ops (listed.setIfInBounds i true)↔j∈unl ops listed/\j≠i:=λj=>by
    rw[WfF,WfF,WkA];constructor
    .rintro⟨q1,q2⟩;split at q2
     .cases q2
     .rename_i hne;exact⟨⟨q1,q2⟩,λe=>hne e.symm⟩
    .rintro⟨⟨q1,q2⟩,hne⟩;exact⟨q1,by rw[if_neg (λe=>hne e.symm)];exact q2⟩
   refine⟨Xai.2 ⟨λhm=>?_,g1⟩,λj=>?_,λp j s e o' gO ed qN lX=>?_⟩
   .exact((hmem i).1 ((g2 i).1 hm)).2 rfl
   .rw[Xo,g2,hmem];constructor
    .rintro(rfl|h)
     .exact yX
     .exact h.1
    .intro h;by_cases he:j=i
     .exact .inl he
     .exact .inr ⟨h,he⟩
   .cases p with
    |nil=>
     simp only[Xcf,List.cons.injEq]at e;obtain⟨rfl,_⟩:=e;rw[ho]at gO;injection gO with gO;subst gO;exact .inl (h3 ed qN lX)
    |cons x p=>
     simp only[Xbh,List.cons.injEq]at e;obtain⟨rfl,e⟩:=e;rcases g3 p j s e o' gO ed qN lX with h|h
     .rw[Wr3 (by omega)]at h;split at h
      .rename_i he;exact .inr (by rw[he];simp)
      .exact .inl h
     .exact .inr (Xe _ h)
theorem WiM{ops:Array Oper}{t:Nat}(hb:∀(k:Nat) (o:Oper),ops[k]?=some o->∀d∈Wm4 o,d<k):Order ops (Region.linearise .any ops t):=by
 have hu:∀i,i∈unl ops (Xef ops.size false)↔i<ops.size:=λi=>by
  rw[WfF];constructor
  .exactλh=>h.1
  .exactλh=>⟨h,by simp[h]⟩
 obtain⟨h1,h2,h3⟩:=Wpb hb ops.size t (Xef ops.size false) (by simp) (by
  have:=Xeq (λi=>!(Xef ops.size false).getD i true) (Xdi ops.size);rw[Xfk]at this;exact this)
 refine⟨h1,λi=>by unfold Region.linearise;rw[h2,hu],λp i s e o ho d hd=>?_⟩;unfold Wm4 at hd;obtain⟨ed,qN,rfl⟩:=Xv.1 hd;obtain⟨qN,lX⟩:=Xav.1 qN;rcases h3 p i s e o ho ed (by simpa using qN) lX with h|h
 .exfalso;rw[Xcp,Array.getElem?_replicate]at h;split at h<;>simp at h
 .exact h
theorem Wjm{ops:Array Oper}{t:Nat}(hb:∀(k:Nat) (o:Oper),ops[k]?=some o->∀d∈Wm4 o,d<k):Order ops (Region.schedule true ops t):=by
 unfold Region.schedule;rw[if_pos (by simp)];exact WiM hb
end Go.Sx
namespace Go.Sx
set_option linter.unusedVariables false
set_option linter.unusedSimpArgs false
def Wrx(n:Nat)(kept:List Nat)(o:Oper):Bool:=match o.dst with
 |some d=>Nat.blt d n&& !Wb0 d kept
 |none=>true
def Wdu(n:Nat)(kept:List Nat):Code->Bool
 | .region _ ops _=>ops.toList.all (Wrx n kept)
 | .seq a b=>Wdu n kept a&&Wdu n kept b
 | .cond _ x y=>Wdu n kept x&&Wdu n kept y
 | .block _ c=>Wdu n kept c
 | .loop c=>Wdu n kept c
 |_=>true
theorem Wok{nt:Slots}{n:Nat}{kept:List Nat}(hn:nt.n=n)(hk:∀p∈nt.kept,p.1∈kept){o:Oper}(h:Wrx n kept o=true):∀d,o.dst=some d->nt.Ok d:=λd hd=>by
 unfold Wrx at h;rw[hd]at h;simp only[Xh,Xaq]at h;refine⟨by have h1:=h.1;rw[Xhd]at h1;rw[hn];exact h1,λp hp e=>?_⟩;have:=hk p hp;rw[e]at this;rw[(WaS d kept).2 this]at h;exact absurd h.2 (by simp)
def Ex.to:Ex->Exit
 | .normal=>.normal
 | .exit id=>.exit id
 | .ret=>.ret
section
variable{w0:World}{F:CS}{nt:Slots}{G0:GH}{P:Program}{T:Tab}{Γ:Ctx}{A:List (Nat×An)}{R:Type}{r:R}
def Wr9(w0:World)(F:CS)(nt:Slots)(G0:GH)(k:St->Option R)(r:R)(K:Act->World->Prop):Prop:=
 ∀st a w G ν,Rel w0 F nt G0 G ν st a w->k st=some r->K a w
theorem Wn5{G:GH}{ν:Nat->Nu}{st:St}{a:Act}{w:World}(hr:Rel w0 F nt G0 G ν st a w){ops:Array Oper}{j:Nat}{t:Tmp}(ht:(ops[j]?).bind (·.dst)=some t){b:Bool}(hb:(look st.env t).bind asB=some b):
  a.tmps[t]?=some (.bool b)/\yielded ops a.tmps j=some b:=by
 cases hl:look st.env t with
 |none=>simp[hl]at hb
 |some x=>
  simp only[hl,Xd]at hb;obtain⟨v,hv,hx⟩:=hr.env t x hl;have:=Wop x v b hx hb;subst this;refine⟨hv,?_⟩;unfold yielded;rw[ht];simp[hv]
theorem Wu5(hT:Wan P T)(hΓ:Wfg P Γ){ops:Array Oper}{o:Oper}(hd:∀d,o.dst=some d->nt.Ok d){k:St->Option R}{K:Act->World->Prop}{Q:Exit->Act->World->Prop}(hK:Wr9 w0 F nt G0 k r K)
  {st:St} {a:Act} {w:World} {G:GH} {ν:Nat->Nu} (hr:Rel w0 F nt G0 G ν st a w) (h:rxg T Γ A ops o st k=some r):
  if Region.wanted o (yielded ops a.tmps)then o.wp P a w K Q else K (a.put o.dst undef) w:=by
 unfold rxg at h;have im:∀ae,Rel w0 F nt G0 G ν ae a w->Rel w0 F nt G0 G ν (ae.put o.dst (.tup [])) (a.put o.dst undef) w:=λae bO=>
  bO.put hd ⟨[],rfl,rfl,λj x v hj=>by simp at hj⟩
 have dS:∀b:Bool,AValRel G ν st.nx (one .bool b) (.bool b):=λb=>WL (t:=.bool) (d:=b) (v:=.bool b) rfl;split at h
 .rename_i hg;simp only[Region.wanted,hg,if_true];exact WsR hT hΓ hr hd h (λae a' w' G' ν' bO hk=>hK _ _ _ _ _ bO hk)
 .rename_i j want hg;split at h
  .rename_i t ht;split at h
   .rename_i hl;obtain⟨v,hv,hx⟩:=hr.env t _ hl;have gQ:v=undef:=by
     obtain⟨vs,h1,h2,_⟩:=hx;rw[h1,Xy h2];rfl
    subst gQ;have hy:yielded ops a.tmps j=none:=by
     unfold yielded;rw[ht];simp only[Xd,hv];rfl
    simp only[Region.wanted,hg,hy];rw[if_neg (by simp)];exact hK _ _ _ _ _ (im _ hr) h
   .rename_i x _ hl;split at h
    .rename_i b hb;obtain⟨hv,hy⟩:=Wn5 hr ht (b:=b) (by rw[hl];exact hb);simp only[Region.wanted,hg,hy];have mZ:=hr.rebind hv (dS b);cases b with
     |true=>
      simp only[cond_true]at h;cases want with
      |true=>
       simp only[if_true]at h;simp only[beq_self_eq_true,if_true];exact WsR hT hΓ mZ hd h (λae a' w' G' ν' bO hk=>hK _ _ _ _ _ bO hk)
      |false=>
       simp only[Xbi,if_false]at h;rw[if_neg (by simp)];exact hK _ _ _ _ _ (im _ mZ) h
     |false=>
      simp only[cond_false]at h;cases want with
      |true=>
       simp only[if_true]at h;rw[if_neg (by simp)];exact hK _ _ _ _ _ (im _ mZ) h
      |false=>
       simp only[Xbi,if_false]at h;simp only[beq_self_eq_true,if_true];exact WsR hT hΓ mZ hd h (λae a' w' G' ν' bO hk=>hK _ _ _ _ _ bO hk)
    .cases h
   .cases h
  .cases h
theorem WuK(hT:Wan P T)(hΓ:Wfg P Γ){ops:Array Oper}:∀(l:List Oper),(∀o∈l,∀d,o.dst=some d->nt.Ok d)->∀{k:St->Option R} {Q:Exit->Act->World->Prop},Wr9 w0 F nt G0 k r (Q .normal)->
  Wr9 w0 F nt G0 (λst=>rxs T Γ A ops l st k) r (wpList P ops Q l)
 | [],_,k,Q,hK=>λst a w G ν hr h=>hK st a w G ν hr h
 |o::l,hd,k,Q,hK=>λst a w G ν hr h=>by
  have ih:=WuK (ops:=ops) hT hΓ l (λo ho=>hd o (Xe _ ho)) hK;have h:rxg T Γ A ops o st (λae=>match opG A o ae with
   |some (c,ch)=>bif c then rxs T Γ A ops l ch k else none
   |none=>none)=some r:=h
  have yY:Wr9 w0 F nt G0 (λae=>match opG A o ae with
   |some (c,ch)=>bif c then rxs T Γ A ops l ch k else none
   |none=>none) r (wpList P ops Q l):=λdx a1 w1 G1 ν1 jJ h1=>by
   have h1:(match opG A o dx with
    |some (c,ch)=>bif c then rxs T Γ A ops l ch k else none
    |none=>none)=some r:=h1
   split at h1
   .rename_i c aj hg;obtain⟨rfl,h1⟩:=WaO h1;have:∃G' ν',Rel w0 F nt G0 G' ν' aj a1 w1:=by
     unfold opG at hg;split at hg
     .split at hg
      .injection hg with hg;injection hg with _ hg;subst hg;exact⟨G1,ν1,jJ⟩
      .exact Wmz jJ hg
     .injection hg with hg;injection hg with _ hg;subst hg;exact⟨G1,ν1,jJ⟩
     .injection hg with hg;injection hg with _ hg;subst hg;exact⟨G1,ν1,jJ⟩
     .injection hg with hg;injection hg with _ hg;subst hg;exact⟨G1,ν1,jJ⟩
     .injection hg with hg;injection hg with _ hg;subst hg;exact⟨G1,ν1,jJ⟩
    obtain⟨G2,ν2,gi⟩:=this;exact ih aj a1 w1 G2 ν2 gi h1
   .cases h1
  have:=Wu5 hT hΓ (hd o (Xi ..)) (Q:=Q) yY hr h;unfold wpList;split
  .rename_i hw;rw[if_pos hw]at this;exact .inl this
  .rename_i hw;rw[if_neg hw]at this;exact this
end
end Go.Sx
namespace Go.Sx
set_option linter.unusedVariables false
set_option linter.unusedSimpArgs false
section
variable{T:Tab}{Γ:Ctx}{A:List (Nat×An)}{ops:Array Oper}
theorem Wkr{R:Type}(o:Oper)(st:St)(k:St->Option R):rx1 T Γ A o st k=(rx1 T Γ A o st some).bind k:=by
 unfold rx1;rw[WgD,WgD o st (λx objs nx=>some _),Xgu];rfl
theorem Wtq{R:Type}(o:Oper)(st:St)(k:St->Option R):rxg T Γ A ops o st k=(rxg T Γ A ops o st some).bind k:=by
 unfold rxg;cases o.guard with
 |none=>exact Wkr o st k
 |some g=>
  obtain⟨j,want⟩:=g;simp only;cases(ops[j]?).bind (·.dst)with
  |none=>rfl
  |some t=>
   simp only;cases look st.env t with
   |none=>rfl
   |some x=>
    have main:(match asB x with
      |some b=>bif b
       then(if want then rx1 T Γ A o (st.put (some t) (one .bool true)) k else k ((st.put (some t) (one .bool true)).put o.dst (.tup [])))
       else(if want then k ((st.put (some t) (one .bool false)).put o.dst (.tup []))else rx1 T Γ A o (st.put (some t) (one .bool false)) k)
      |none=>none)=(match asB x with
      |some b=>bif b
       then(if want then rx1 T Γ A o (st.put (some t) (one .bool true)) some else some ((st.put (some t) (one .bool true)).put o.dst (.tup [])))
       else(if want then some ((st.put (some t) (one .bool false)).put o.dst (.tup []))else rx1 T Γ A o (st.put (some t) (one .bool false)) some)
      |none=>none).bind k:=by
     cases asB x with
     |none=>rfl
     |some b=>
      cases b<;>cases want
      .exact Wkr _ _ _
      .rfl
      .rfl
      .exact Wkr _ _ _
    cases x with
    |s y=>exact main
    |tup l=>
     cases l with
     |nil=>rfl
     |cons y l=>exact main
theorem Wo7{R:Type}{o:Oper}{st:St}{k:St->Option R}{r:R}(h:rxg T Γ A ops o st k=some r):∃ae,rxg T Γ A ops o st some=some ae/\k ae=some r:=by
 rw[Wtq]at h;exact Xbv.1 h
structure Eff(o:Oper)(v:AVal)(pre:Waf)(ah:Nat)(st ae:St):Prop where
 env:∀t,look ae.env t=if o.dst=some t then some v else look st.env t
 objs:ae.objs=pre++st.objs
 nx:ae.nx=ah
theorem Wdh(st:St)(dst:Option Tmp)(x:AVal)(t:Nat):look (st.put dst x).env t=if dst=some t then some x else look st.env t:=by
 cases dst with
 |none=>simp[St.put]
 |some d=>
  simp only[St.put];rw[WD];by_cases h:d=t
  .subst h;simp
  .rw[if_neg h,if_neg (by simpa using h)]
theorem WeZ{st aj:St}{x:Operand}(h:∀t∈Wra x,look aj.env t=look st.env t):ev aj x=ev st x:=by
 cases x with
 |tmp t=>exact h t (by simp[Wra])
 |_=>rfl
theorem WgM{st:St}{x:Operand}{v:AVal}:∀(l:List Operand),x∈l->ev st x=some v->∀id∈Wa8 v,id∈WeN st l
 | [],h,_,_,_=>by cases h
 |y::l,h,hv,id,bA=>by
  simp only[WeN];rcases Xo.1 h with rfl|h
  .rw[hv];exact Xk _ bA
  .split
   .exact Xg _ (WgM l h hv id bA)
   .exact WgM l h hv id bA
theorem WgA{st aj:St}:∀(l:List Operand),(∀x∈l,ev aj x=ev st x)->WeN aj l=WeN st l
 | [],_=>rfl
 |x::l,h=>by simp only[WeN,h x (Xi ..),WgA l λy hy=>h y (Xe _ hy)]
theorem Wq4{o:Oper}{st ae aj:St}(h:rx1 T Γ A o st some=some ae)(he:∀x∈Wai o.op,ev aj x=ev st x)
  (hm:WaU o=true->aj.objs=st.objs/\aj.nx=st.nx) (hf:WaU o=false->∀id∈WcY o st,look aj.objs id=look st.objs id):
  ∃v pre ah,Eff o v pre ah st ae/\(WaU o=false->pre= []/\ah=st.nx)/\
   ∃bJ,rx1 T Γ A o aj some=some bJ/\(WaU o=true->Eff o v pre ah aj bJ)/\(WaU o=false->Eff o v [] aj.nx aj bJ):=by
 unfold rx1 at*;rw[WgD]at h;obtain⟨⟨v,objs',ah⟩,h1,h2⟩:=Xbv.1 h;injection h2 with h2;subst h2;cases dM:WaU o with
 |true=>
  obtain⟨e1,e2⟩:=hm dM;obtain⟨pre,rfl⟩:=Wp7 o st v objs' ah h1;refine⟨v,pre,ah,⟨λt=>Wdh _ _ _ _,by cases o.dst<;>rfl,by cases o.dst<;>rfl⟩,by simp,?_⟩;have h3:rxe T Γ A o aj WcX=some (v,pre++st.objs,ah):=by
   obtain⟨vg,xh,nx2⟩:=aj;simp only at e1 e2;subst e1 e2;rw[Wrm o (env:=vg) (st:=st) WcX he];exact h1
  refine⟨_,?_,λ_=>⟨λt=>Wdh (⟨aj.env,pre++st.objs,ah⟩) o.dst v t,?_,?_⟩,by simp⟩
  .rw[WgD,h3];rfl
  .rw[e1];cases o.dst<;>rfl
  .cases o.dst<;>rfl
 |false=>
  rw[Wmm dM]at h1;obtain⟨u,h3,h4⟩:=Xbv.1 h1;injection h4 with h4;have e1:u=v:=congrArg (λp:Out=>p.1) h4;have e2:st.objs=objs':=congrArg (λp:Out=>p.2.1) h4;have e3:st.nx=ah:=congrArg (λp:Out=>p.2.2) h4;subst e1 e2 e3;refine⟨u,[],st.nx,⟨λt=>Wdh _ _ _ _,by cases o.dst<;>rfl,by cases o.dst<;>rfl⟩,by simp,?_⟩;have h5:WuT T o aj=some u:=by
   rw[←h3];refine WpY dM he λvi x hx v hv id bA=>hf dM id ?_;unfold WcY;rw[vi];exact WgM _ hx hv id bA
  refine⟨_,?_,by simp,λ_=>⟨λt=>Wdh (⟨aj.env,aj.objs,aj.nx⟩) o.dst u t,?_,?_⟩⟩
  .rw[WgD,Wmm dM,h5];rfl
  .cases o.dst<;>rfl
  .cases o.dst<;>rfl
theorem Wvk{x:AVal}{b:Bool}(h:asB x=some b):x=one .bool b:=by
 unfold asB at h;split at h
 .injection h with h;subst h;rfl
 .cases h
theorem Wea{st:St}{t:Nat}{x:AVal}(h:look st.env t=some x)(t':Nat):look (st.put (some t) x).env t'=look st.env t':=by
 rw[Wdh];split
 .rename_i e;injection e with e;subst e;exact h.symm
 .rfl
theorem Wd8(st:St)(d:Option Tmp)(x:AVal):(st.put d x).objs=st.objs:=by cases d<;>rfl
theorem Wid(st:St)(d:Option Tmp)(x:AVal):(st.put d x).nx=st.nx:=by cases d<;>rfl
theorem Wgi{o:Oper}{st aj:St}(h:∀x∈Wai o.op,ev aj x=ev st x):WcY o aj=WcY o st:=by
 unfold WcY;rw[WgA _ h]
theorem WrY{o:Oper}{st ae aj:St}(h:rxg T Γ A ops o st some=some ae)(he:∀t∈Wdn ops o,look aj.env t=look st.env t)
  (hm:WaU o=true->aj.objs=st.objs/\aj.nx=st.nx) (hf:WaU o=false->∀id∈WcY o st,look aj.objs id=look st.objs id):
  ∃v pre ah,Eff o v pre ah st ae/\(WaU o=false->pre= []/\ah=st.nx)/\
   ∃bJ,rxg T Γ A ops o aj some=some bJ/\(WaU o=true->Eff o v pre ah aj bJ)/\(WaU o=false->Eff o v [] aj.nx aj bJ):=by
 have xi:∀x∈Wai o.op,ev aj x=ev st x:=λx hx=>WeZ λt ht=>he t (by
  unfold Wdn;exact Xk _ (Xft.2 ⟨x,hx,ht⟩))
 unfold rxg at h⊢;cases hg:o.guard with
 |none=>
  rw[hg]at h;exact Wq4 h xi hm hf
 |some g=>
  obtain⟨j,want⟩:=g;rw[hg]at h;simp only at h⊢;cases ht:(ops[j]?).bind (·.dst)with
  |none=>rw[ht]at h;cases h
  |some t=>
   rw[ht]at h;simp only at h⊢;have iN:look aj.env t=look st.env t:=he t (by
    unfold Wdn;refine Xg _ ?_;rw[hg];simp only;rw[ht];simp)
   rw[iN];cases hx:look st.env t with
   |none=>rw[hx]at h;cases h
   |some x=>
    rw[hx]at h;have skip:∀(s s2:St) (s':St),some (s.put o.dst (.tup []))=some s'->(∀t,look s.env t=look st.env t)->s.objs=st.objs->s.nx=st.nx->(∀t,look s2.env t=look aj.env t)->s2.objs=aj.objs->s2.nx=aj.nx->
      ∃v pre ah,Eff o v pre ah st s'/\(WaU o=false->pre= []/\ah=st.nx)/\
       ∃bJ,some (s2.put o.dst (.tup []))=some bJ/\(WaU o=true->Eff o v pre ah aj bJ)/\(WaU o=false->Eff o v [] aj.nx aj bJ):=by
     intro s s2 s' hs a1 a2 a3 b1 b2 b3;injection hs with hs;subst hs;refine⟨.tup [],[],st.nx,⟨λt=>?_,by rw[Wd8,a2];rfl,by rw[Wid,a3]⟩,λ_=>⟨rfl,rfl⟩,_,rfl,λdM=>⟨λt=>?_,by rw[Wd8,b2];rfl,by rw[Wid,b3];exact(hm dM).2⟩,λ_=>⟨λt=>?_,by rw[Wd8,b2];rfl,by rw[Wid,b3]⟩⟩
     .rw[Wdh,a1]
     .rw[Wdh,b1]
     .rw[Wdh,b1]
    have doit:∀b:Bool,x=one .bool b->rx1 T Γ A o (st.put (some t) (one .bool b)) some=some ae->
      ∃v pre ah,Eff o v pre ah st ae/\(WaU o=false->pre= []/\ah=st.nx)/\
       ∃bJ,rx1 T Γ A o (aj.put (some t) (one .bool b)) some=some bJ/\(WaU o=true->Eff o v pre ah aj bJ)/\(WaU o=false->Eff o v [] aj.nx aj bJ):=by
     intro b hb h1;subst hb;have l1:=Wea hx;have l2:=Wea (st:=aj) (t:=t) (x:=one .bool b) (by rw[iN];exact hx);have rY:∀x∈Wai o.op,ev (st.put (some t) (one .bool b)) x=ev st x:=λx hx=>WeZ λt' _=>l1 t';have vk:∀x∈Wai o.op,ev (aj.put (some t) (one .bool b)) x=ev aj x:=λx hx=>WeZ λt' _=>l2 t';obtain⟨v,pre,ah,e1,e2,bJ,e3,e4,e5⟩:=Wq4 (aj:=aj.put (some t) (one .bool b)) h1 (λx hx=>by rw[vk x hx,rY x hx,xi x hx])
      (λdM=>hm dM) (λgh id bA=>hf gh id (by rw[←Wgi rY];exact bA))
     refine⟨v,pre,ah,⟨λt'=>by rw[e1.env,l1],e1.objs,e1.nx⟩,e2,bJ,e3,λdM=>⟨λt'=>by rw[(e4 dM).env,l2],(e4 dM).objs,(e4 dM).nx⟩,λdM=>⟨λt'=>by rw[(e5 dM).env,l2],(e5 dM).objs,(e5 dM).nx⟩⟩
    have main:(match asB x with
      |some b=>bif b
       then(if want then rx1 T Γ A o (st.put (some t) (one .bool true)) some else some ((st.put (some t) (one .bool true)).put o.dst (.tup [])))
       else(if want then some ((st.put (some t) (one .bool false)).put o.dst (.tup []))else rx1 T Γ A o (st.put (some t) (one .bool false)) some)
      |none=>none)=some ae->∃v pre ah,Eff o v pre ah st ae/\(WaU o=false->pre= []/\ah=st.nx)/\
       ∃bJ,(match asB x with
      |some b=>bif b
       then(if want then rx1 T Γ A o (aj.put (some t) (one .bool true)) some else some ((aj.put (some t) (one .bool true)).put o.dst (.tup [])))
       else(if want then some ((aj.put (some t) (one .bool false)).put o.dst (.tup []))else rx1 T Γ A o (aj.put (some t) (one .bool false)) some)
      |none=>none)=some bJ/\(WaU o=true->Eff o v pre ah aj bJ)/\(WaU o=false->Eff o v [] aj.nx aj bJ):=by
     intro h;cases hb:asB x with
     |none=>rw[hb]at h;cases h
     |some b=>
      rw[hb]at h;have dS:=Wvk hb;have r1:∀b',b'=b->∀t',look (st.put (some t) (one .bool b')).env t'=look st.env t':=λb' e=>by subst e;exact Wea (by rw[hx,dS])
      have r2:∀b',b'=b->∀t',look (aj.put (some t) (one .bool b')).env t'=look aj.env t':=λb' e=>by subst e;exact Wea (by rw[iN,hx,dS])
      cases b<;>cases want
      .exact doit false dS h
      .exact skip _ _ _ h (r1 _ rfl) (Wd8 _ _ _) (Wid _ _ _) (r2 _ rfl) (Wd8 _ _ _) (Wid _ _ _)
      .exact skip _ _ _ h (r1 _ rfl) (Wd8 _ _ _) (Wid _ _ _) (r2 _ rfl) (Wd8 _ _ _) (Wid _ _ _)
      .exact doit true dS h
    cases x with
    |s y=>exact main h
    |tup l=>
     cases l with
     |nil=>exact skip st aj ae h (λ_=>rfl) rfl rfl (λ_=>rfl) rfl rfl
     |cons y l=>exact main h
end
end Go.Sx
namespace Go.Sx
set_option linter.unusedVariables false
set_option linter.unusedSimpArgs false
structure Rc where
 i:Nat
 v:AVal
 pre:Waf
 nx:Nat
 ids:List Nat
 mv:Bool
section
variable{T:Tab}{Γ:Ctx}{A:List (Nat×An)}{ops:Array Oper}
structure StepTo(T:Tab)(Γ:Ctx)(A:List (Nat×An))(ops:Array Oper)(ρ:Rc)(o:Oper)(st ae:St):Prop where
 at_:ops[ρ.i]?=some o
 isM:ρ.mv=WaU o
 lk:ρ.mv=false->ρ.ids=WcY o st
 run:rxg T Γ A ops o st some=some ae
 env:∀t,look ae.env t=if o.dst=some t then some ρ.v else look st.env t
 objs:ae.objs=if ρ.mv then ρ.pre++st.objs else st.objs
 nx:ae.nx=if ρ.mv then ρ.nx else st.nx
def Wvz(T:Tab)(Γ:Ctx)(A:List (Nat×An))(ops:Array Oper):List Rc->St->St->Prop
 | [],st,ae=>st=ae
 |ρ::l,st,ae=>∃o dx,StepTo T Γ A ops ρ o st dx/\Wvz T Γ A ops l dx ae
theorem WsV{i:Nat}{o:Oper}{st ae:St}(hi:ops[i]?=some o)(h:rxg T Γ A ops o st some=some ae):
  ∃ρ:Rc,ρ.i=i/\StepTo T Γ A ops ρ o st ae:=by
 obtain⟨v,pre,ah,e1,e2,_⟩:=WrY (aj:=st) h (λ_ _=>rfl) (λ_=>⟨rfl,rfl⟩) (λ_ _ _=>rfl);refine⟨⟨i,v,pre,ah,WcY o st,WaU o⟩,rfl,hi,rfl,λ_=>rfl,h,e1.env,?_,?_⟩
 .simp only;cases hm:WaU o with
  |true=>simpa using e1.objs
  |false=>rw[e1.objs,(e2 hm).1];rfl
 .simp only;cases hm:WaU o with
  |true=>simpa using e1.nx
  |false=>rw[e1.nx,(e2 hm).2];rfl
theorem StepTo.move{ρ:Rc}{o:Oper}{st ae aj:St}(h:StepTo T Γ A ops ρ o st ae)(he:∀t∈Wdn ops o,look aj.env t=look st.env t)
  (hm:ρ.mv=true->aj.objs=st.objs/\aj.nx=st.nx) (hf:ρ.mv=false->∀id∈ρ.ids,look aj.objs id=look st.objs id):
  ∃bJ,StepTo T Γ A ops ρ o aj bJ:=by
 obtain⟨v,pre,ah,e1,e2,bJ,e3,e4,e5⟩:=WrY (aj:=aj) h.run he (λdM=>hm (by rw[h.isM];exact dM)) (λgh id bA=>hf (by rw[h.isM];exact gh) id (by rw[h.lk (by rw[h.isM];exact gh)];exact bA));have hv:∀t,o.dst=some t->v=ρ.v:=λt ht=>by
  have a:=e1.env t;have b:=h.env t;rw[if_pos ht]at a b;rw[a]at b;injection b
 have uL:ρ.mv=false->WcY o aj=WcY o st:=λ_=>Wgi λx hx=>WeZ λt ht=>he t (by
  unfold Wdn;exact Xk _ (Xft.2 ⟨x,hx,ht⟩))
 cases dM:WaU o with
 |true=>
  have hρ:ρ.mv=true:=by rw[h.isM];exact dM
  have e4:=e4 dM;obtain⟨q1,q2⟩:=hm hρ;refine⟨bJ,h.at_,h.isM,λhf=>(by rw[hρ]at hf;cases hf),e3,λt=>?_,?_,?_⟩
  .rw[e4.env];split
   .rename_i ht;rw[hv t ht]
   .rfl
  .rw[e4.objs,hρ];simp only[if_true];have a:=e1.objs;have b:=h.objs;rw[hρ]at b;simp only[if_true]at b;rw[a]at b;rw[List.append_cancel_right b]
  .rw[e4.nx,hρ];simp only[if_true];have a:=e1.nx;have b:=h.nx;rw[hρ]at b;simp only[if_true]at b;rw[←a,b]
 |false=>
  have hρ:ρ.mv=false:=by rw[h.isM];exact dM
  have e5:=e5 dM;refine⟨bJ,h.at_,h.isM,λhf=>by rw[uL hρ];exact h.lk hρ,e3,λt=>?_,?_,?_⟩
  .rw[e5.env];split
   .rename_i ht;rw[hv t ht]
   .rfl
  .rw[e5.objs,hρ];rfl
  .rw[e5.nx,hρ];rfl
def Wts(ids:List Nat)(pre:Waf):Prop:=∀id∈ids,id∉Whf pre
def Wxi(B:List (List Nat))(x y:Rc):Prop:=
 (x.mv=false->y.mv=true->Wc6 B x.i y.i=true\/Wts x.ids y.pre)/\
 (x.mv=true->y.mv=false->Wc6 B x.i y.i=true\/Wts y.ids x.pre)
theorem WeQ{α:Type}:∀(l:List Nat) (k:List Nat->α),Wf9 l k=k l
 | [],_=>rfl
 |x::l,k=>by rw[Wf9,WeQ l]
theorem Wmj{α:Type}:∀(l:List (List Nat)) (k:List (List Nat)->α),Wpk l k=k l
 | [],_=>rfl
 |x::l,k=>by rw[Wpk,WeQ,Wmj l]
theorem Wjq{ids:List Nat}{pre:Waf}(h:WgY ids (Whf pre)=true):Wts ids pre:=λid bA hk=>by
 unfold WgY at h;have:=Xae.1 h id bA;rw[(WaS id _).2 hk]at this;cases this
theorem WpJ(pre objs:Waf):Wri objs (pre++objs)=Whf pre:=by
 unfold Wri;simp
theorem WkP{B:List (List Nat)}{R:Type}{k:St->Option R}{r:R}:∀(l:List Nat) (fl mu:List (Nat×List Nat)) (st:St),rdx T Γ A ops B l fl mu st k=some r->
  ∃(rs:List Rc) (ae:St),rs.map (·.i)=l/\Wvz T Γ A ops rs st ae/\k ae=some r/\rs.Pairwise (Wxi B)/\
   (∀p∈fl,∀ρ∈rs,ρ.mv=true->Wc6 B p.1 ρ.i=true\/Wts p.2 ρ.pre)/\
   (∀p∈mu,∀ρ∈rs,ρ.mv=false->Wc6 B p.1 ρ.i=true\/WgY ρ.ids p.2=true)
 | [],fl,mu,st,h=>⟨[],st,rfl,rfl,h,List.Pairwise.nil,by simp,by simp⟩
 |i::l,fl,mu,st,h=>by
  simp only[rdx]at h;cases ho:ops[i]? with
  |none=>rw[ho]at h;cases h
  |some o=>
   rw[ho]at h;simp only at h;cases hm:WaU o with
   |true=>
    simp only[hm,cond_true]at h;obtain⟨dx,h1,h2⟩:=Wo7 h;rw[WeQ]at h2;obtain⟨kC,h2⟩:=WaO h2;obtain⟨ρ,hi,hs⟩:=WsV ho h1;have hρ:ρ.mv=true:=by rw[hs.isM];exact hm
    have ar:=hs.objs;rw[hρ]at ar;simp only[if_true]at ar;rw[ar,WpJ]at kC h2;obtain⟨rs,ae,q1,q2,q3,q4,q5,q6⟩:=WkP l _ _ _ h2;refine⟨ρ::rs,ae,by simp[hi,q1],⟨o,dx,hs,q2⟩,q3,List.Pairwise.cons (λy hy=>⟨λhf=>(by rw[hρ]at hf;cases hf),λ_ oq=>?_⟩) q4,λp hp y hy ot=>?_,λp hp y hy oq=>?_⟩
    .rcases q6 (i,Whf ρ.pre) (Xi ..) y hy oq with h|h
     .rw[hi];exact .inl h
     .exact .inr (Wjq h)
    .rcases Xo.1 hy with rfl|hy
     .have:=Xae.1 kC p hp;rw[Xbw]at this;rw[hi];exact this.imp id Wjq
     .exact q5 p hp y hy ot
    .rcases Xo.1 hy with rfl|hy
     .rw[hρ]at oq;cases oq
     .exact q6 p (Xe _ hp) y hy oq
   |false=>
    simp only[hm,cond_false]at h;rw[WeQ]at h;obtain⟨kC,h⟩:=WaO h;obtain⟨dx,h1,h2⟩:=Wo7 h;obtain⟨ρ,hi,hs⟩:=WsV ho h1;have hρ:ρ.mv=false:=by rw[hs.isM];exact hm
    have vm:=hs.lk hρ;rw[←vm]at kC h2;obtain⟨rs,ae,q1,q2,q3,q4,q5,q6⟩:=WkP l _ _ _ h2;refine⟨ρ::rs,ae,by simp[hi,q1],⟨o,dx,hs,q2⟩,q3,List.Pairwise.cons (λy hy=>⟨λ_ ot=>?_,λhf=>(by rw[hρ]at hf;cases hf)⟩) q4,λp hp y hy ot=>?_,λp hp y hy oq=>?_⟩
    .rw[hi];exact q5 (i,ρ.ids) (Xi ..) y hy ot
    .rcases Xo.1 hy with rfl|hy
     .rw[hρ]at ot;cases ot
     .exact q5 p (Xe _ hp) y hy ot
    .rcases Xo.1 hy with rfl|hy
     .have:=Xae.1 kC p hp;rw[Xbw]at this;rw[hi];exact this
     .exact q6 p hp y hy oq
def Wel(ops:Array Oper)(i:Nat):Option Tmp:=(ops[i]?).bind (·.dst)
def Wpf(ops:Array Oper):List Rc->(Nat->Option AVal)->Nat->Option AVal
 | [],e,t=>e t
 |ρ::a,e,t=>Wpf ops a (λt'=>if Wel ops ρ.i=some t' then some ρ.v else e t') t
def WhJ:List Rc->Waf×Nat->Waf×Nat
 | [],m=>m
 |ρ::a,m=>WhJ a (if ρ.mv then(ρ.pre++m.1,ρ.nx)else m)
theorem WgQ:∀(rs:List Rc) (st ae:St),Wvz T Γ A ops rs st ae->(∀t,look ae.env t=Wpf ops rs (look st.env) t)/\(ae.objs,ae.nx)=WhJ rs (st.objs,st.nx)
 | [],st,ae,h=>by cases h;exact⟨λ_=>rfl,rfl⟩
 |ρ::rs,st,ae,⟨o,dx,hs,h⟩=>by
  obtain⟨h1,h2⟩:=WgQ rs dx ae h;have e:(look dx.env)= λt'=>if Wel ops ρ.i=some t' then some ρ.v else look st.env t':=funext λt=>by
   rw[hs.env];unfold Wel;rw[hs.at_];rfl
  refine⟨λt=>by rw[h1,e];rfl,?_⟩;rw[h2,WhJ];congr 1;rw[hs.objs,hs.nx];split<;>rfl
theorem Wj9:∀(a:List Rc) (ρ:Rc) (b:List Rc) (st ae:St),Wvz T Γ A ops (a++ρ::b) st ae->∃o dx aj,Wvz T Γ A ops a st dx/\StepTo T Γ A ops ρ o dx aj
 | [],ρ,b,st,ae,⟨o,dx,hs,h⟩=>⟨o,st,dx,rfl,hs⟩
 |x::a,ρ,b,st,ae,⟨o,dx,hs,h⟩=>by
  obtain⟨o',s1,s2,h1,h2⟩:=Wj9 a ρ b dx ae h;exact⟨o',s1,s2,⟨o,dx,hs,h1⟩,h2⟩
theorem WbF:∀(a:List Rc) (m:Waf×Nat),WhJ a m=WhJ (a.filter (·.mv)) m
 | [],_=>rfl
 |ρ::a,m=>by
  rw[WhJ,WbF a,Xbm];cases h:ρ.mv with
  |true=>simp only[if_true,WhJ,h]
  |false=>simp only[Xbi,if_false]
theorem WdW:∀(a b:List Rc) (m:Waf×Nat),WhJ (a++b) m=WhJ b (WhJ a m)
 | [],_,_=>rfl
 |ρ::a,b,m=>by rw[Xbh,WhJ,WdW a b];rfl
theorem Wio{pre objs:Waf}{id:Nat}(h:id∉Whf pre):look (pre++objs) id=look objs id:=by
 induction pre with
 |nil=>rfl
 |cons p pre ih=>
  obtain⟨j,ob⟩:=p;simp only[Whf,Xaj,Xo,not_or]at h;rw[Xbh,WD,if_neg (λe=>h.1 e.symm)];exact ih h.2
theorem WiO{id:Nat}:∀(a:List Rc) (m:Waf×Nat),(∀ρ∈a,ρ.mv=true->id∉Whf ρ.pre)->look (WhJ a m).1 id=look m.1 id
 | [],_,_=>rfl
 |ρ::a,m,h=>by
  rw[WhJ,WiO a _ λx hx=>h x (Xe _ hx)];split
  .rename_i hm;exact Wio (h ρ (Xi ..) hm)
  .rfl
def Wkh(ops:Array Oper):Prop:=∀i j t,Wel ops i=some t->Wel ops j=some t->i=j
theorem Wgg{t:Nat}:∀(a:List Rc) (e:Nat->Option AVal),(∀ρ∈a,Wel ops ρ.i≠some t)->Wpf ops a e t=e t
 | [],_,_=>rfl
 |ρ::a,e,h=>by
  rw[Wpf,Wgg a _ λx hx=>h x (Xe _ hx),if_neg (h ρ (Xi ..))]
theorem Wiq{t:Nat}(h1:Wkh ops):∀(a:List Rc) (e:Nat->Option AVal),(a.map (·.i)).Nodup->∀ρ∈a,Wel ops ρ.i=some t->Wpf ops a e t=some ρ.v
 | [],_,_,_,h,_=>by cases h
 |x::a,e,hn,ρ,hρ,ht=>by
  rw[Xaj,Xai]at hn;rw[Wpf];rcases Xo.1 hρ with rfl|hρ
  .rw[Wgg a _ λy hy yZ=>hn.1 (by rw[h1 _ _ _ ht yZ];exact Xv.2 ⟨y,hy,rfl⟩),if_pos ht]
  .exact Wiq h1 a _ hn.2 ρ hρ ht
theorem WjH{t:Nat}(h1:Wkh ops){a b:List Rc}{e:Nat->Option AVal}(ha:(a.map (·.i)).Nodup)(hb:(b.map (·.i)).Nodup)
  (h:∀ρ,Wel ops ρ.i=some t->(ρ∈a↔ρ∈b)):Wpf ops a e t=Wpf ops b e t:=by
 by_cases hx:∃ρ∈a,Wel ops ρ.i=some t
 .obtain⟨ρ,hρ,ht⟩:=hx;rw[Wiq h1 a e ha ρ hρ ht,Wiq h1 b e hb ρ ((h ρ ht).1 hρ) ht]
 .rw[Wgg a e λρ hρ ht=>hx ⟨ρ,hρ,ht⟩,Wgg b e λρ hρ ht=>hx ⟨ρ,(h ρ ht).2 hρ,ht⟩]
end
end Go.Sx
namespace Go.Sx
set_option linter.unusedVariables false
set_option linter.unusedSimpArgs false
theorem WfK{α:Type}{x:α}:∀{a c b d:List α},(a++x::b).Nodup->a++x::b=c++x::d->a=c
 | [],[],_,_,_,_=>rfl
 | [],y::c,b,d,hn,h=>by
  simp only[Xcf,Xbh,List.cons.injEq]at h;obtain⟨rfl,h⟩:=h;rw[Xcf,Xai]at hn;exact absurd (by rw[h];simp) hn.1
 |y::a,[],b,d,hn,h=>by
  simp only[Xcf,Xbh,List.cons.injEq]at h;obtain⟨rfl,h⟩:=h;rw[Xbh,Xai]at hn;exact absurd (by simp) hn.1
 |y::a,z::c,b,d,hn,h=>by
  simp only[Xbh,List.cons.injEq]at h;obtain⟨rfl,h⟩:=h;rw[Xbh,Xai]at hn;rw[WfK hn.2 h]
def WaN(ops:Array Oper)(i:Nat):Bool:=match ops[i]? with
 |some o=>WaU o
 |none=>false
theorem Rel.same{w0:World}{F:CS}{nt:Slots}{G0 G:GH}{ν:Nat->Nu}{st aj:St}{a:Act}{w:World}(h:Rel w0 F nt G0 G ν st a w)
  (he:∀t,look aj.env t=look st.env t) (ho:aj.objs=st.objs) (hn:aj.nx=st.nx):Rel w0 F nt G0 G ν aj a w:=
 ⟨h.defers,h.ntm,h.par,λi x hx=>by rw[he]at hx;rw[hn];exact h.env i x hx,by rw[ho,hn];exact h.h,h.gx⟩
theorem WuY:∀(rs:List Rc),(rs.map (·.i)).Nodup->∃rec:Nat->Rc,∀ρ∈rs,rec ρ.i=ρ
 | [],_=>⟨λi=>⟨i,.tup [],[],0,[],false⟩,by simp⟩
 |ρ::rs,h=>by
  rw[Xaj,Xai]at h;obtain⟨rec,hr⟩:=WuY rs h.2;refine⟨λi=>if i=ρ.i then ρ else rec i,λx hx=>?_⟩;rcases Xo.1 hx with rfl|hx
  .simp
  .simp only;rw[if_neg (λe=>h.1 (by rw[←e];exact Xv.2 ⟨x,hx,rfl⟩))];exact hr x hx
section
variable{w0:World}{F:CS}{nt:Slots}{G0:GH}{P:Program}{T:Tab}{Γ:Ctx}{A:List (Nat×An)}{ops:Array Oper}{Q:Exit->Act->World->Prop}
theorem WsZ(hT:Wan P T)(hΓ:Wfg P Γ)(hd:∀o∈ops,∀d,o.dst=some d->nt.Ok d){l L:List Nat}(hl:Order ops l)(hL:Order ops L)(dS:Wkh ops)
  (hsl:∀(i:Nat) (o:Oper) (t:Nat),ops[i]?=some o->t∈Wdn ops o->∀j,Wel ops j=some t->j=i\/Wc6 (WeJ ops.toList []) j i=true\/Wc6 (WeJ ops.toList []) i j=true)
  (hσ:l.filter (WaN ops)=L.filter (WaN ops)) {rs:List Rc} {st ae:St} (jj:rs.map (·.i)=L) (kD:Wvz T Γ A ops rs st ae) (bR:rs.Pairwise (Wxi (WeJ ops.toList [])))
  (hK:∀a w G ν,Rel w0 F nt G0 G ν ae a w->Q .normal a w) {a:Act} {w:World} {G:GH} {ν:Nat->Nu} (hr:Rel w0 F nt G0 G ν st a w):wpOps P ops Q l a w:=by
 have aP:(rs.map (·.i)).Nodup:=by rw[jj];exact hL.nodup
 obtain⟨rec,bd⟩:=WuY rs aP;have hLr:L.map rec=rs:=by
  rw[←jj,Xeh]
  conv=>rhs;rw[←List.map_id rs]
  exact Xfa λρ hρ=>bd ρ hρ
 have iO:∀i,i∈l↔i∈L:=λi=>by rw[←hl.all,hL.all]
 have jk:∀i∈L,(rec i).i=i/\rec i∈rs:=λi hi=>by
  rw[←jj]at hi;obtain⟨ρ,hρ,rfl⟩:=Xv.1 hi;rw[bd ρ hρ];exact⟨rfl,hρ⟩
 have iP:∀i∈L,∃pre post o dx aj,L=pre++i::post/\Wvz T Γ A ops (pre.map rec) st dx/\StepTo T Γ A ops (rec i) o dx aj:=λi hi=>by
  obtain⟨pre,post,e⟩:=Xeg hi;have:rs=pre.map rec++rec i::post.map rec:=by rw[←hLr,e];simp
  rw[this]at kD;obtain⟨o,dx,aj,h1,h2⟩:=Wj9 _ _ _ _ _ kD;exact⟨pre,post,o,dx,aj,e,h1,h2⟩
 have gD:∀i∈L,(rec i).mv=WaN ops i:=λi hi=>by
  obtain⟨pre,post,o,dx,aj,e,h1,h2⟩:=iP i hi;rw[h2.isM];have:=h2.at_;rw[(jk i hi).1]at this;unfold WaN;rw[this]
 have fx:∀(p:List Nat),(∀i∈p,i∈L)->(p.map rec).filter (·.mv)=(p.filter (WaN ops)).map rec:=by
  intro p
  induction p with
  |nil=>intro _;rfl
  |cons i p ih=>
   intro h;have:=ih λj hj=>h j (Xe _ hj);rw[Xaj,Xbm,Xbm,gD i (h i (Xi ..))];split
   .rw[Xaj,this]
   .exact this
 have ou:∀(p:List Nat),(∀i∈p,i∈L)->(p.map rec).map (·.i)=p:=by
  intro p h;rw[Xeh]
  conv=>rhs;rw[←List.map_id p]
  exact Xfa λi hi=>(jk i (h i hi)).1
 have il:∀(p:List Nat),(∀i∈p,i∈L)->∀i∈L,(rec i∈p.map rec↔i∈p):=λp hp i hi=>by
  constructor
  .intro h;obtain⟨j,hj,e⟩:=Xv.1 h;have:j=i:=by rw[←(jk j (hp j hj)).1,←(jk i hi).1,e]
   rw[←this];exact hj
  .exactλh=>Xv.2 ⟨i,h,rfl⟩
 have m0:∀i j pre post,L=pre++i::post->j∈post->Wxi (WeJ ops.toList []) (rec i) (rec j):=λi j pre post e hj=>by
  have:rs=pre.map rec++rec i::post.map rec:=by rw[←hLr,e];simp
  rw[this,List.pairwise_append]at bR;exact(List.pairwise_cons.1 bR.2.1).1 _ (Xv.2 ⟨j,hj,rfl⟩)
 suffices main:∀(s p:List Nat),l=p++s->∀(aj:St) (a:Act) (w:World) (G:GH) (ν:Nat->Nu),Rel w0 F nt G0 G ν aj a w->
   (∀t,look aj.env t=Wpf ops (p.map rec) (look st.env) t)->(aj.objs,aj.nx)=WhJ (p.map rec) (st.objs,st.nx)->wpOps P ops Q s a w from
  main l [] rfl st a w G ν hr (λ_=>rfl) rfl
 intro s
 induction s with
 |nil=>
  intro p e aj a w G ν gi he hm;rw[Xcy]at e;subst e;obtain⟨f1,f2⟩:=WgQ _ _ _ kD;have rZ:∀i∈l,i∈L:=λi hi=>(iO i).1 hi;refine hK a w G ν (gi.same (λt=>?_) ?_ ?_)
  .rw[f1,he];refine WjH dS aP (by rw[ou l rZ];exact hl.nodup) λρ _=>?_;constructor
   .intro hρ;have hi:ρ.i∈L:=by rw[←jj];exact Xv.2 ⟨ρ,hρ,rfl⟩
    rw[←bd ρ hρ];exact(il l rZ ρ.i hi).2 ((iO _).2 hi)
   .intro hρ;obtain⟨i,hi,rfl⟩:=Xv.1 hρ;exact(jk i (rZ i hi)).2
  .have:WhJ (l.map rec) (st.objs,st.nx)=WhJ rs (st.objs,st.nx):=by
    rw[WbF,fx l rZ,hσ,←fx L (λi hi=>hi),←WbF,hLr]
   rw[this,←f2]at hm;exact(congrArg (·.1) hm).symm
  .have:WhJ (l.map rec) (st.objs,st.nx)=WhJ rs (st.objs,st.nx):=by
    rw[WbF,fx l rZ,hσ,←fx L (λi hi=>hi),←WbF,hLr]
   rw[this,←f2]at hm;exact(congrArg (·.2) hm).symm
 |cons i s ih=>
  intro p e aj a w G ν gi he hm;have qO:i∈L:=(iO i).1 (by rw[e];simp);have r9:∀j∈p,j∈L:=λj hj=>(iO j).1 (by rw[e];exact Xk _ hj);obtain⟨pre,post,o,dx,y0,eL,h1,h2⟩:=iP i qO;have iQ:∀j∈pre,j∈L:=λj hj=>by rw[eL];exact Xk _ hj
  have ov:ops[i]?=some o:=by have:=h2.at_;rw[(jk i qO).1]at this;exact this
  obtain⟨g1,g2⟩:=WgQ _ _ _ h1;have lY:=hl.nodup;have lZ:=hL.nodup;rw[e]at lY;rw[eL]at lZ;have sa:i∉p:=λh=>(Xak.1 lY).2.2 i h i (Xi ..) rfl;have iR:i∉pre:=λh=>(Xak.1 lZ).2.2 i h i (Xi ..) rfl;have oz:∀t∈Wdn ops o,look aj.env t=look dx.env t:=λt ht=>by
   rw[he,g1];refine WjH dS (by rw[ou p r9];exact(Xak.1 lY).1) (by rw[ou pre iQ];exact(Xak.1 lZ).1) λρ hρt=>?_;have key:∀j∈L,Wel ops j=some t->(j∈p↔j∈pre):=λj hj uX=>by
    rcases hsl i o t ov ht j uX with rfl|hb|hb
    .exact⟨λh=>absurd h sa,λh=>absurd h iR⟩
    .by_cases l0:j=i
     .subst l0;exact⟨λh=>absurd h sa,λh=>absurd h iR⟩
     .exact⟨λ_=>hL.bef' eL hb l0,λ_=>hl.bef' e hb l0⟩
    .exact⟨λh=>absurd (hl.bef e hb h) sa,λh=>absurd (hL.bef eL hb h) iR⟩
   constructor
   .intro hρ;obtain⟨j,hj,rfl⟩:=Xv.1 hρ;have sc:=r9 j hj;rw[(jk j sc).1]at hρt;exact Xv.2 ⟨j,(key j sc hρt).1 hj,rfl⟩
   .intro hρ;obtain⟨j,hj,rfl⟩:=Xv.1 hρ;have sc:=iQ j hj;rw[(jk j sc).1]at hρt;exact Xv.2 ⟨j,(key j sc hρt).2 hj,rfl⟩
  have xj:WhJ (p.map rec) (st.objs,st.nx)=WhJ ((p.filter (WaN ops)).map rec) (st.objs,st.nx):=by rw[WbF,fx p r9]
  have m6:WhJ (pre.map rec) (st.objs,st.nx)=WhJ ((pre.filter (WaN ops)).map rec) (st.objs,st.nx):=by rw[WbF,fx pre iQ]
  obtain⟨y5,h3⟩:=h2.move (aj:=aj) oz (λdM=>by
   have oA:WaN ops i=true:=by rw[←gD i qO];exact dM
   have:p.filter (WaN ops)=pre.filter (WaN ops):=by
    have q:=hσ;rw[e,eL,Xcv,Xcv,Xbm,Xbm,if_pos oA,if_pos oA]at q;refine WfK ?_ q;have:=hl.nodup.filter (WaN ops);rw[e,Xcv,Xbm,if_pos oA]at this;exact this
   rw[xj,this,←m6,←g2]at hm;exact⟨congrArg (·.1) hm,congrArg (·.2) hm⟩) (λgh id bA=>by
   have q:(p.filter (WaN ops))<+:l.filter (WaN ops):=by rw[e,Xcv];exact Xgn _ _
   have q2:(pre.filter (WaN ops))<+:l.filter (WaN ops):=by rw[hσ,eL,Xcv];exact Xgn _ _
   have tT:aj.objs=(WhJ ((p.filter (WaN ops)).map rec) (st.objs,st.nx)).1:=by rw[←xj,←hm]
   have nZ:dx.objs=(WhJ ((pre.filter (WaN ops)).map rec) (st.objs,st.nx)).1:=by rw[←m6,←g2]
   rw[tT,nZ];rcases List.prefix_or_prefix_of_prefix q q2 with⟨X,hX⟩|⟨X,hX⟩
   .
    rw[←hX,Xr,WdW];refine(WiO _ _ λρ hρ hρm=>?_).symm;obtain⟨m,qP,rfl⟩:=Xv.1 hρ;have io:m∈pre:=(Xav.1 (by rw[←hX];exact Xg _ qP:m∈pre.filter (WaN ops))).1;have oB:m∉p:=λhmem=>by
     have vn:WaN ops m=true:=(Xav.1 (by rw[←hX];exact Xg _ qP:m∈pre.filter (WaN ops))).2;have kE:(pre.filter (WaN ops)).Nodup:=(Xak.1 lZ).1.filter _;rw[←hX]at kE;exact(Xak.1 kE).2.2 m (Xav.2 ⟨hmem,vn⟩) m qP rfl
    obtain⟨u,v,eu⟩:=Xeg io;have hf:=m0 m i u (v++i::post) (by rw[eL,eu];simp) (by simp);rcases hf.2 hρm gh with hb|hb
    .rw[(jk m (iQ m io)).1,(jk i qO).1]at hb;exact absurd (hl.bef' e hb (λhc=>iR (hc▸io))) oB
    .exact hb id bA
   .rw[←hX,Xr,WdW];refine WiO _ _ λρ hρ hρm=>?_;obtain⟨m,qP,rfl⟩:=Xv.1 hρ;have xk:m∈p.filter (WaN ops):=by rw[←hX];exact Xg _ qP
    have ma:m∈p:=(Xav.1 xk).1;have oB:m∉pre:=λhmem=>by
     have vn:WaN ops m=true:=(Xav.1 xk).2;have kE:(p.filter (WaN ops)).Nodup:=(Xak.1 lY).1.filter _;rw[←hX]at kE;exact(Xak.1 kE).2.2 m (Xav.2 ⟨hmem,vn⟩) m qP rfl
    have xl:=r9 m ma;have oC:m∈post:=by
     rw[eL]at xl;rcases Xm.1 xl with h|h
     .exact absurd h oB
     .rcases Xo.1 h with h|h
      .exact absurd (h▸ma) sa
      .exact h
    have hf:=m0 i m pre post eL oC;rcases hf.1 gh hρm with hb|hb
    .rw[(jk m (r9 m ma)).1,(jk i qO).1]at hb;exact absurd (hl.bef e hb ma) sa
    .exact hb id bA)
  have y6:∀d,o.dst=some d->nt.Ok d:=hd o (Array.mem_of_getElem? ov);have tY:=Wu5 (F:=F) (G0:=G0) (w0:=w0) hT hΓ y6 (Q:=Q) (k:=some) (r:=y5) (K:=wpOps P ops Q s) (λy7 a' w' G' ν' hr4 h4=>by
   injection h4 with h4;subst h4;refine ih (p++ [i]) (by rw[e];simp) y7 a' w' G' ν' hr4 (λt=>?_) ?_
   .rw[h3.env];have hv:Wpf ops ((p++ [i]).map rec) (look st.env) t=if Wel ops i=some t then some (rec i).v else Wpf ops (p.map rec) (look st.env) t:=by
     rw[Xr];have gen:∀(x:List Rc) (y:Rc) (e:Nat->Option AVal),Wpf ops (x++ [y]) e t=if Wel ops y.i=some t then some y.v else Wpf ops x e t:=by
      intro x
      induction x with
      |nil=>intro y e;rfl
      |cons z x ih=>intro y e;rw[Xbh,Wpf,ih];rfl
     rw[List.map_singleton,gen,(jk i qO).1]
    rw[hv,he];have:Wel ops i=o.dst:=by unfold Wel;rw[ov];rfl
    rw[this]
   .rw[Xr,WdW,←hm];simp only[Xaj,Xck,WhJ];rw[h3.objs,h3.nx];split<;>rfl) gi h3.run
  rw[wpOps_cons];unfold wpOp;rw[ov];simp only;split
  .rename_i hw;rw[if_pos hw]at tY;exact .inl tY
  .rename_i hw;rw[if_neg hw]at tY;exact tY
end
end Go.Sx
namespace Go.Sx
set_option linter.unusedVariables false
set_option linter.unusedSimpArgs false
theorem WjI:∀{l:List (Nat×Nat)},Wbz (l.map (·.1))=true->∀p∈l,∀q∈l,p.1=q.1->p=q
 | [],_,p,hp,_,_,_=>by cases hp
 |x::l,h,p,hp,q,hq,e=>by
  have hn:=(WeV _).1 h;simp only[Xaj,Wbz,Xh]at h;rw[Xaj,Xai]at hn;rcases Xo.1 hp with h1|h1
  .rcases Xo.1 hq with h2|h2
   .rw[h1,h2]
   .exact absurd (Xv.2 ⟨q,h2,by rw[←e,h1]⟩) hn.1
  .rcases Xo.1 hq with h2|h2
   .exact absurd (Xv.2 ⟨p,h1,by rw[e,h2]⟩) hn.1
   .exact WjI h.2 p h1 q h2 e
theorem Wj5:∀(l:List Oper) (n k:Nat) (o:Oper) (d:Nat),l[k]?=some o->o.dst=some d->(d,n+k)∈WhC l n
 | [],_,k,o,d,h,_=>by simp at h
 |x::l,n,k,o,d,h,hd=>by
  cases k with
  |zero=>
   simp at h;subst h;simp only[WhC,hd];exact Xi ..
  |succ k=>
   have:=Wj5 l (n+1) k o d (by simpa using h) hd;have e:n+(k+1)=n+1+k:=by omega
   rw[e];simp only[WhC];split
   .exact Xe _ this
   .exact this
theorem Whp{ops:Array Oper}{B:List (List Nat)}{D:List (Nat×Nat)}:∀(l:List Oper) (n:Nat),Wk6 ops B D l n=true->∀(k:Nat) (o:Oper),l[k]?=some o->∀t∈Wdn ops o,∀p∈D,p.1=t->
  p.2=n+k\/Wc6 B p.2 (n+k)=true\/Wc6 B (n+k) p.2=true
 | [],_,_,k,o,h=>by simp at h
 |x::l,n,h,k,o,hk=>by
  simp only[Wk6,Xh]at h;cases k with
  |zero=>
   simp at hk;subst hk;intro t ht p hp e;have:=Xae.1 (Xae.1 h.1 t ht) p hp;simp only[Xbw,Xaq]at this;rcases this with((h1|h1)|h1)|h1
   .rw[e]at h1;simp at h1
   .exact .inl (by simpa using h1)
   .exact .inr (.inl h1)
   .exact .inr (.inr h1)
  |succ k=>
   have:=Whp l (n+1) h.2 k o (by simpa using hk);have e:n+(k+1)=n+1+k:=by omega
   rw[e];exact this
structure RegOk(ops:Array Oper):Prop where
 back:∀(k:Nat) (o:Oper),ops[k]?=some o->∀d∈Wm4 o,d<k
 one:Wkh ops
 slots:∀(i:Nat) (o:Oper) (t:Nat),ops[i]?=some o->t∈Wdn ops o->∀j,Wel ops j=some t->j=i\/Wc6 (WeJ ops.toList []) j i=true\/Wc6 (WeJ ops.toList []) i j=true
theorem WiZ{ops:Array Oper}{j t:Nat}(h:Wel ops j=some t):(t,j)∈WhC ops.toList 0:=by
 unfold Wel at h;obtain⟨o,ho,hd⟩:=Xbv.1 h;have:=Wj5 ops.toList 0 j o t (by simpa using ho) hd;rw[Xbc]at this;exact this
theorem Wqx{ops:Array Oper}(h:WvH ops (WeJ ops.toList [])=true):RegOk ops:=by
 simp only[WvH,Xh]at h;obtain⟨⟨h1,h2⟩,h3⟩:=h;refine⟨λk o ho e he=>?_,λi j t hi hj=>?_,λi o t ho ht j hj=>?_⟩
 .have:=Wjn (ops:=ops) ops.toList 0 h1 k o (by simpa using ho) e he;omega
 .have:=WjI h2 _ (WiZ hi) _ (WiZ hj) rfl;exact congrArg (·.2) this
 .have:=Whp ops.toList 0 h3 i o (by simpa using ho) t ht _ (WiZ hj) rfl;simpa using this
theorem WjP{ops:Array Oper}:∀(l done:List Nat),Wi2 ops l done=true->done.Nodup->(∀i∈done,i<ops.size)->
  (done++l).Nodup/\(∀i∈done++l,i<ops.size)/\(done++l).length=ops.size/\(∀p i s,l=p++i::s->∀o,ops[i]?=some o->∀d∈Wm4 o,d∈done++p)
 | [],done,h,hn,hlt=>by
  simp only[Wi2]at h;exact⟨by simpa using hn,by simpa using hlt,by simpa using h,λp i s e=>by simp at e⟩
 |x::l,done,h,hn,hlt=>by
  simp only[Wi2,Xh,Xaq]at h;obtain⟨⟨h1,h2⟩,h3⟩:=h;have hx:x∉done:=λhm=>by rw[(WaS x done).2 hm]at h1;cases h1
  cases ho:ops[x]? with
  |none=>rw[ho]at h2;cases h2
  |some o=>
   rw[ho]at h2;have oi:x<ops.size:=(Xdf.1 ho).1;obtain⟨g1,g2,g3,g4⟩:=WjP l (x::done) h3 (Xai.2 ⟨hx,hn⟩) (λi hi=>by
    rcases Xo.1 hi with rfl|hi
    .exact oi
    .exact hlt i hi)
   have kF:List.Perm (x::done++l) (done++x::l):=by simpa using(List.perm_middle (a:=x) (l₁:=done) (l₂:=l)).symm
   refine⟨kF.nodup_iff.1 g1,λi hi=>g2 i (kF.mem_iff.2 hi),by rw[←kF.length_eq];exact g3,λp i s e o' gO d hd=>?_⟩;cases p with
   |nil=>
    simp only[Xcf,List.cons.injEq]at e;obtain⟨rfl,_⟩:=e;rw[ho]at gO;injection gO with gO;subst gO;have:=Xae.1 h2 d hd;simpa using(WaS d done).1 this
   |cons y p=>
    simp only[Xbh,List.cons.injEq]at e;obtain⟨rfl,e⟩:=e;have:=g4 p i s e o' gO d hd;simp only[Xbh,Xo,Xm]at this⊢;rcases this with h|h|h
    .exact .inr (.inl h)
    .exact .inl h
    .exact .inr (.inr h)
theorem WnW{l:List Nat}{n:Nat}(hn:l.Nodup)(hlt:∀i∈l,i<n)(hlen:l.length=n):∀i,i<n->i∈l:=by
 intro i hi;refine Classical.byContradiction λh=>?_;have h1:(i::l).Nodup:=Xai.2 ⟨h,hn⟩;have h2:∀j∈i::l,j∈Xdi n:=λj hj=>by
  rw[Xej];rcases Xo.1 hj with rfl|hj
  .exact hi
  .exact hlt j hj
 have key:∀(a b:List Nat),a.Nodup->(∀x∈a,x∈b)->a.length<=b.length:=by
  intro a
  induction a with
  |nil=>intro b _ _;simp
  |cons x a ih=>
   intro b oD dY;rw[Xai]at oD;have se:x∈b:=dY x (Xi ..);have:=ih (b.erase x) oD.2 λy hy=>(Xgh (λe=>oD.1 (by rw[←e];exact hy))).2 (dY y (Xe _ hy));rw[Xfo se]at this;have hpos:=Xga se;simp;omega
 have:=key _ _ h1 h2;rw[Xfk,Xu]at this;omega
theorem Wn2{ops:Array Oper}{l:List Nat}(h:Wi2 ops l []=true):Order ops l:=by
 obtain⟨h1,h2,h3,h4⟩:=WjP l [] h Xdk (by simp);rw[Xcf]at h1 h2 h3;exact⟨h1,λi=>⟨WnW h1 h2 h3 i,h2 i⟩,λp i s e o ho d hd=>by simpa using h4 p i s e o ho d hd⟩
theorem WjO:∀(l:List Oper) (n i:Nat),i∈Why l n↔n<=i/\∃o,l[i-n]?=some o/\WaU o=true
 | [],n,i=>by simp[Why]
 |o::l,n,i=>by
  have ih:=WjO l (n+1) i;have sf:(n<=i/\∃o',(o::l)[i-n]?=some o'/\WaU o'=true)↔(i=n/\WaU o=true)\/(n+1<=i/\∃o',l[i-(n+1)]?=some o'/\WaU o'=true):=by
   by_cases hi:i=n
   .subst hi;constructor
    .rintro⟨_,o',h1,h2⟩;rw[Xdb]at h1;injection h1 with h1;subst h1;exact .inl ⟨rfl,h2⟩
    .rintro(⟨_,h⟩|⟨h,_⟩)
     .exact⟨Xn _,o,by rw[Xdb];rfl,h⟩
     .omega
   .constructor
    .rintro⟨h0,o',h1,h2⟩;have e:i-n=(i-(n+1))+1:=by omega
     rw[e,Xdr]at h1;exact .inr ⟨by omega,o',h1,h2⟩
    .rintro(⟨h,_⟩|⟨h0,o',h1,h2⟩)
     .exact absurd h hi
     .have e:i-n=(i-(n+1))+1:=by omega
      exact⟨by omega,o',by rw[e,Xdr];exact h1,h2⟩
  rw[sf,←ih];simp only[Why];cases hm:WaU o with
  |true=>simp
  |false=>simp
theorem Wnb{ops:Array Oper}{i:Nat}:i∈Why ops.toList 0↔WaN ops i=true:=by
 rw[WjO];unfold WaN;simp only[Xbk,true_and,Xdc,Array.getElem?_toList];cases ops[i]? with
 |none=>simp
 |some o=>simp
theorem WoT{B:List (List Nat)}:∀(σ rem:List Nat) (n:Nat),σ.length<=n->σ.Nodup->(∀i,i∈rem↔i∈σ)->(∀p m s,σ=p++m::s->∀m'∈m::s,Wc6 B m' m=false)->σ∈WvT B n rem
 | [],rem,n,hn,aP,hmem,hb=>by
  have:rem= []:=Xeu.2 λi hi=>by have:=(hmem i).1 hi;cases this
  subst this;cases n<;>simp[WvT]
 |m::s,rem,0,hn,_,_,_=>by simp at hn
 |m::s,rem,n+1,hn,aP,hmem,hb=>by
  have hm:m∈rem:=(hmem m).2 (Xi ..);rw[Xai]at aP;cases jl:rem with
  |nil=>rw[jl]at hm;cases hm
  |cons x xs=>
   rw[←jl];have vo:WvT B (n+1) rem=(rem.filter λm=>rem.all λm'=>!Wc6 B m' m).flatMap λm=>(WvT B n (rem.filter λx=>!Xbt x m)).map (m:: ·):=by rw[jl];rfl
   rw[vo];refine Xft.2 ⟨m,Xav.2 ⟨hm,Xae.2 λm' ii=>?_⟩,Xv.2 ⟨s,?_,rfl⟩⟩
   .rw[hb [] m s rfl m' ((hmem m').1 ii)];rfl
   .refine WoT s _ n (by simpa using hn) aP.2 (λi=>?_) (λp q s' e=>hb (m::p) q s' (by rw[e];rfl));rw[Xav,hmem,Xo];constructor
    .rintro⟨h1,h2⟩;rcases h1 with rfl|h1
     .simp at h2
     .exact h1
    .intro h;refine⟨.inr h,?_⟩;have hne:i≠m:=λe=>aP.1 (e▸h);cases hb':Xbt i m with
     |false=>rfl
     |true=>exact absurd (Nat.eq_of_beq_eq_true hb') hne
theorem WuF:∀(l m:List Nat),eqN l m=true->l=m
 | [],[],_=>rfl
 | [],_::_,h=>by cases h
 |_::_,[],h=>by cases h
 |i::l,j::m,h=>by
  simp only[eqN,Xh]at h;have:i=j:=by simpa using h.1
  rw[this,WuF l m h.2]
theorem WrL{α:Type}{a b:Option α}{r:α}(h:Wft a b=some r):a=some r/\b=some r:=by
 unfold Wft at h;split at h
 .rename_i e;exact⟨h,e▸h⟩
 .cases h
section
variable{w0:World}{F:CS}{nt:Slots}{G0:GH}{P:Program}{T:Tab}{Γ:Ctx}{A:List (Nat×An)}{R:Type}{r:R}
theorem Wo3{ops:Array Oper}{B:List (List Nat)}{st:St}{k:St->Option R}:∀(l:List (List Nat)),Wwt T Γ A ops B st k l=some r->∀σ∈l,∃L,Wi2 ops L []=true/\L.filter (λi=>Wb0 i σ)=σ/\rdx T Γ A ops B L [] [] st k=some r
 | [],_,σ,hσ=>by cases hσ
 |τ::l,h,σ,hσ=>by
  have one:Wf9 (Wlj ops.toList B ops.size [] τ) (λL=>bif Wi2 ops L []&&eqN (L.filter λi=>Wb0 i τ) τ then rdx T Γ A ops B L [] [] st k else none)=some r->∃L,Wi2 ops L []=true/\L.filter (λi=>Wb0 i τ)=τ/\rdx T Γ A ops B L [] [] st k=some r:=λh=>by
   rw[WeQ]at h;obtain⟨hc,h⟩:=WaO h;simp only[Xh]at hc;exact⟨_,hc.1,WuF _ _ hc.2,h⟩
  cases l with
  |nil=>
   simp only[Wwt]at h;rcases Xo.1 hσ with rfl|hσ
   .exact one h
   .cases hσ
  |cons x l=>
   have h:Wft (Wf9 (Wlj ops.toList B ops.size [] τ) (λL=>bif Wi2 ops L []&&eqN (L.filter λi=>Wb0 i τ) τ then rdx T Γ A ops B L [] [] st k else none)) (Wwt T Γ A ops B st k (x::l))=some r:=h;obtain⟨h1,h2⟩:=WrL h;rcases Xo.1 hσ with rfl|hσ
   .exact one h1
   .exact Wo3 (x::l) h2 σ hσ
theorem WtL(hM:P.follows .mixedOrders=true)(hT:Wan P T)(hΓ:Wfg P Γ){id:Nat}{ops:Array Oper}(hd:∀o∈ops,∀d,o.dst=some d->nt.Ok d){k:St->Option R}{Q:Exit->Act->World->Prop}(hK:Wr9 w0 F nt G0 k r (Q .normal)):
  Wr9 w0 F nt G0 (λst=>Wvb T Γ A ops st k) r ((Code.region id ops true).wp P Q):=λst a w G ν hr h=>by
 simp only[Wvb,Wmj]at h;obtain⟨vp,h⟩:=WaO h;have hR:=Wqx vp;refine wp_region_draw λt=>?_;rw[hM];have hl:Order ops (Region.schedule true ops t):=Wjm hR.back;generalize Region.schedule true ops t=l at hl;have hσ:l.filter (WaN ops)∈WvT (WeJ ops.toList []) ops.size (Why ops.toList 0):=by
  refine WoT _ _ _ ?_ (hl.nodup.filter _) (λi=>?_) (λp m s e m' ii=>?_)
  .refine Xcq (Xeq _ _) ?_;have dQ:l.length<=(Xdi ops.size).length:=by
    have key:∀(a b:List Nat),a.Nodup->(∀x∈a,x∈b)->a.length<=b.length:=by
     intro a
     induction a with
     |nil=>intro b _ _;simp
     |cons x a ih=>
      intro b oD dY;rw[Xai]at oD;have se:x∈b:=dY x (Xi ..);have:=ih (b.erase x) oD.2 λy hy=>(Xgh (λe=>oD.1 (by rw[←e];exact hy))).2 (dY y (Xe _ hy));rw[Xfo se]at this;have hpos:=Xga se;simp;omega
    exact key _ _ hl.nodup λx hx=>Xej.2 ((hl.all x).2 hx)
   rw[Xfk]at dQ;exact dQ
  .rw[Wnb,Xav];constructor
   .intro h;refine⟨(hl.all i).1 ?_,h⟩;unfold WaN at h;split at h
    .rename_i o ho;exact(Xdf.1 ho).1
    .cases h
   .exactλh=>h.2
  .cases hb:Wc6 (WeJ ops.toList []) m' m with
   |false=>rfl
   |true=>
    exfalso;have qQ:m∈l:=(Xav.1 (by rw[e];simp:m∈l.filter (WaN ops))).1;obtain⟨u,v,eu⟩:=Xeg qQ;have hm'u:m'∈u++ [m]:=hl.bef (p:=u++ [m]) (s:=v) (by rw[eu];simp) hb (by simp);have vq:WaN ops m=true:=(Xav.1 (by rw[e];simp:m∈l.filter (WaN ops))).2;have sh:=hl.nodup.filter (WaN ops);have e2:l.filter (WaN ops)=u.filter (WaN ops)++m::v.filter (WaN ops):=by rw[eu,Xcv,Xbm,if_pos vq]
    have y8:p=u.filter (WaN ops):=by
     refine WfK (b:=s) (d:=v.filter (WaN ops)) (x:=m) ?_ ?_
     .rw[←e];exact sh
     .rw[←e,e2]
    rcases Xo.1 ii with rfl|hm's
    .
     have:=hl.bef (p:=u++ [m']) (s:=v) (by rw[eu];simp) hb (by simp);have hcl:WmS ops (λj=>j∈u\/(j=m'/\False)):=λi o ho hi d hd=>by
      rcases hi with hi|⟨_,hf⟩
      .exact .inl (hl.closed (p:=u) (s:=m'::v) eu i o ho hi d hd)
      .exact hf.elim
     have back:∀(j i:Nat),Wc6 (WeJ ops.toList []) j i=true->j<i:=λj i l0=>by
      have hcl2:WmS ops (λx=>x<i\/(x=i)):=λx o ho hx d hd=>by
       have:d<x:=hR.back x o ho d hd;omega
      refine Classical.byContradiction λhn=>?_;have hlt:∀(l:List Oper) (acc:List (List Nat)),(∀(k:Nat) (o:Oper),l[k]?=some o->ops[acc.length+k]?=some o)->(∀i,∀j∈acc.getD i [],j<i)->∀i,∀j∈(WeJ l acc).getD i [],j<i:=by
       intro l
       induction l with
       |nil=>intro acc _ h;exact h
       |cons o l ih=>
        intro acc hl h;refine ih _ (λk o' hk=>?_) (λi j hj=>?_)
        .have:=hl (k+1) o' (by simpa using hk);rw[Xaa];have e:acc.length+(k+1)=acc.length+ [Wlu acc (Wm4 o) []].length+k:=by simp;omega
         rw[←e];exact this
        .rw[Xba,Xaz]at hj;split at hj
         .exact h i j (by rw[Xba];exact hj)
         .by_cases he:i=acc.length
          .subst he;simp only[Xdb,Xdq,Xdz]at hj;rcases(Wis _ _).1 hj with⟨k,hk,ee⟩|hj
           .have jH:k<acc.length:=hR.back acc.length o (hl 0 o (by simp)) k hk;rcases ee with rfl|ee
            .exact jH
            .have:=h k j ee;omega
           .cases hj
          .have:[Wlu acc (Wm4 o) []][i-acc.length]?=none:=Xbg (by simp;omega);rw[this]at hj;cases hj
      exact hn (hlt ops.toList [] (λk o hk=>by simpa using hk) (λi j hj=>by simp at hj) i j ((WaS _ _).1 l0))
     have:=back m' m' hb;omega
    .
     have hm'l:m'∈p:=by
      rw[y8];rcases Xm.1 hm'u with h|h
      .refine Xav.2 ⟨h,?_⟩;exact(Xav.1 (by rw[e];simp[hm's]:m'∈l.filter (WaN ops))).2
      .simp at h;subst h;rw[e]at sh;have:=(Xai.1 (Xak.1 sh).2.1).1;exact absurd hm's this
     rw[e]at sh;exact(Xak.1 sh).2.2 m' hm'l m' (Xe _ hm's) rfl
 obtain⟨L,g1,g2,g3⟩:=Wo3 _ h _ hσ;have hL:=Wn2 g1;obtain⟨rs,ae,q1,q2,q3,q4,_,_⟩:=WkP _ _ _ _ g3;have hf:l.filter (WaN ops)=L.filter (WaN ops):=by
  rw[←g2];refine List.filter_congr λi hi=>?_;cases hm:WaN ops i with
  |true=>exact(WaS _ _).2 (Xav.2 ⟨(hl.all i).1 ((hL.all i).2 hi),hm⟩)
  |false=>
   cases he:Wb0 i (l.filter (WaN ops))with
   |false=>rfl
   |true=>
    have:=(Xav.1 ((WaS _ _).1 he)).2;rw[hm]at this;cases this
 have bO:Rel w0 F nt G0 G ν st a {w with drawn:=w.drawn+1}:=⟨hr.defers,hr.ntm,hr.par,hr.env,?_,hr.gx⟩
 .exact WsZ hT hΓ hd hl hL hR.one hR.slots hf q1 q2 q4 (λa w G ν hr=>hK ae a w G ν hr q3) bO
 .exact hr.h.drew
end
end Go.Sx
namespace Go.Sx
set_option linter.unusedVariables false
set_option linter.unusedSimpArgs false
section
variable{w0:World}{F:CS}{nt:Slots}{G0:GH}{P:Program}{T:Tab}{Γ:Ctx}{A:List (Nat×An)}{R:Type}{r:R}
theorem Wnv(hM:P.follows .mixedOrders=true)(hT:Wan P T)(hΓ:Wfg P Γ){n:Nat}{kept:List Nat}(hn:nt.n=n)(jm:∀p∈nt.kept,p.1∈kept){ann:Nat->List Ghost}{N:Nat}:∀(c:Code),Wdu n kept c=true->∀{k:Ex->St->Option R} {Q:Exit->Act->World->Prop},
  (∀e,Wr9 w0 F nt G0 (k e) r (Q e.to))->Wr9 w0 F nt G0 (λst=>sx T Γ ann N c st k) r (c.wp P Q)
 | .skip,_,k,Q,hK=>λst a w G ν hr h=>wp_skip (hK .normal st a w G ν hr h)
 | .exit id,_,k,Q,hK=>λst a w G ν hr h=>wp_exit (hK (.exit id) st a w G ν hr h)
 | .ret,_,k,Q,hK=>λst a w G ν hr h=>wp_ret (hK .ret st a w G ν hr h)
 | .region id ops draw,aI,k,Q,hK=>λst a w G ν hr h=>by
  have fv:Wr9 w0 F nt G0 (λae=>match Weh (ann id) ae with|some (c,ch)=>bif c then k .normal ch else none|none=>none) r (Q .normal):=λae a' w' G' ν' bO h'=>by
   simp only at h';split at h'
   .rename_i c ch hg;obtain⟨rfl,h'⟩:=WaO h';obtain⟨G2,ν2,gi⟩:=Wdv _ _ _ _ _ bO hg;exact hK .normal _ _ _ _ _ gi h'
   .cases h'
  have si:∀o∈ops,∀d,o.dst=some d->nt.Ok d:=λo ho=>Wok hn jm (Xae.1 aI o (by simpa using ho));cases draw with
  |true=>exact WtL hM hT hΓ si fv st a w G ν hr h
  |false=>exact wp_region_list (WuK hT hΓ ops.toList (λo ho=>si o (by simpa using ho)) fv st a w G ν hr h)
 | .seq x y,aI,k,Q,hK=>λst a w G ν hr h=>by
  simp only[Wdu,Xh]at aI;refine wp_seq (Wnv hM hT hΓ hn jm x aI.1 (Q:=Exit.then (y.wp P Q) Q) (λe=>?_) st a w G ν hr h);cases e with
  |normal=>exact Wnv hM hT hΓ hn jm y aI.2 hK
  |exit id=>exact hK (.exit id)
  |ret=>exact hK .ret
 | .cond c x y,aI,k,Q,hK=>λst a w G ν hr h=>by
  simp only[Wdu,Xh]at aI;simp only[sx]at h;split at h
  .rename_i b hb;cases hv:ev st c with
   |none=>simp[hv]at hb
   |some v=>
    simp only[hv,Xd]at hb;have hc:=Wop v _ b (WK hr c v hv) hb;refine wp_cond hc ?_;cases b with
    |true=>exact Wnv hM hT hΓ hn jm x aI.1 hK st a w G ν hr h
    |false=>exact Wnv hM hT hΓ hn jm y aI.2 hK st a w G ν hr h
  .cases h
 | .block id c,aI,k,Q,hK=>λst a w G ν hr h=>by
  simp only[Wdu]at aI;refine wp_block (Wnv hM hT hΓ hn jm c aI (Q:=Exit.inBlock id Q) (λe=>?_) st a w G ν hr h);cases e with
  |normal=>exact hK .normal
  |exit bI=>
   intro ae a' w' G' ν' bO h';simp only[Ex.to,Exit.inBlock];split
   .rename_i he;simp only[he,if_true]at h';exact hK .normal _ _ _ _ _ bO h'
   .rename_i he;simp only[he,if_false]at h';exact hK (.exit bI) _ _ _ _ _ bO h'
  |ret=>exact hK .ret
 | .loop c,aI,k,Q,hK=>λst a w G ν hr h=>by
  simp only[Wdu]at aI;refine wp_loop_rounds N ?_;have key:∀(m:Nat),Wr9 w0 F nt G0 (λst=>Wnx (Wka (ann (WfA c)) λst k=>sx T Γ ann N c st k) m st k) r (Code.rounds P c Q m):=by
   intro m
   induction m with
   |zero=>intro st a w G ν hr h;cases h
   |succ m ih=>
    intro st a w G ν hr h;rw[rounds_succ];have h:sx T Γ ann N c st (λe ae=>match e with
     | .normal=>match Weh (ann (WfA c)) ae with
      |some (b,ch)=>bif b then Wnx (Wka (ann (WfA c)) λst k=>sx T Γ ann N c st k) m ch k else none
      |none=>none
     | .exit id=>k (.exit id) ae
     | .ret=>k .ret ae)=some r:=by
     rw[←h];simp only[Wnx,Wka];congr 1
    refine Wnv hM hT hΓ hn jm c aI (Q:=Exit.then (Code.rounds P c Q m) Q) (λe=>?_) st a w G ν hr h;cases e with
    |normal=>
     intro ae a' w' G' ν' bO h';simp only at h';split at h'
     .rename_i b ch hg;obtain⟨rfl,h'⟩:=WaO h';obtain⟨G2,ν2,gi⟩:=Wdv _ _ _ _ _ bO hg;exact ih _ _ _ _ _ gi h'
     .cases h'
    |exit id=>exact hK (.exit id)
    |ret=>exact hK .ret
  have h:(match Weh (ann (WfA c)) st with
   |some (b,ae)=>bif b then Wnx (Wka (ann (WfA c)) λst k=>sx T Γ ann N c st k) N ae k else none
   |none=>none)=some r:=h
  split at h
  .rename_i b ae hg;obtain⟨rfl,h⟩:=WaO h;obtain⟨G2,ν2,gi⟩:=Wdv _ _ _ _ _ hr hg;exact key N _ _ _ _ _ gi h
  .cases h
 | .scope ..,_,k,Q,hK=>λst a w G ν hr h=>by cases h
 | .label ..,_,k,Q,hK=>λst a w G ν hr h=>by cases h
 | .goto ..,_,k,Q,hK=>λst a w G ν hr h=>by cases h
 | .rangeFunc ..,_,k,Q,hK=>λst a w G ν hr h=>by cases h
 | .refuse ..,_,k,Q,hK=>λst a w G ν hr h=>by cases h
end
end Go.Sx
namespace Go.Sx
set_option linter.unusedVariables false
set_option linter.unusedSimpArgs false
section
variable{w0:World}{F:CS}{nt:Slots}{G0 G G':GH}{ν:Nat->Nu}{φ:Nat->CS}{objs:Waf}{nx ah:Nat}{st ae:St}{a:Act}{w w':World}{P:Program}{T:Tab}{Γ:Ctx}
theorem Whw:∀(xs:List AVal) (j i:Nat),look (WgT j xs) i=if j<=i then xs[i-j]? else none
 | [],j,i=>by simp[WgT,look]
 |x::xs,j,i=>by
  simp only[WgT];rw[WD,Whw xs (j+1) i];by_cases h:j=i
  .subst h;simp
  .by_cases h2:j<=i
   .have h3:j+1<=i:=by omega
    rw[if_neg h,if_pos h3,if_pos h2,show i-j=(i-(j+1))+1 by omega];rfl
   .rw[if_neg h,if_neg h2,if_neg (by omega)]
theorem Wjr:∀(l:List Nat),Wrp (WjD l)=l
 | []=>rfl
 |i::l=>by
  show i::Wrp (WjD l)=i::l;rw[Wjr l]
theorem WjC:∀(ps:List PTy) (d:Wfr ps) (objs:Waf) (nx n:Nat),WjK ps n=true->∃ids,ids.length=n/\(WM ps d objs nx).1.take n=WjD ids
 |_,_,_,_,0,_=>⟨[],rfl,rfl⟩
 | [],_,_,_,_+1,h=>by cases h
 | .v _ _::_,_,_,_,_+1,h=>by cases h
 | .mut _::_,_,_,_,_+1,h=>by cases h
 | .clos _ _::_,_,_,_,_+1,h=>by cases h
 | .kv _ _::_,_,_,_,_+1,h=>by cases h
 | .rp _::_,_,_,_,_+1,h=>by cases h
 | .vj _::_,_,_,_,_+1,h=>by cases h
 | .boxal _ _::_,_,_,_,_+1,h=>by cases h
 | .box t::ps,d,objs,nx,n+1,h=>by
  obtain⟨ids,h1,h2⟩:=WjC ps d.2 ((nx,.box (unfold t d.1 (nx+1)).1)::((unfold t d.1 (nx+1)).2.1++objs)) (unfold t d.1 (nx+1)).2.2 n h;refine⟨nx::ids,by simp[h1],?_⟩;simp only[WM,List.take_succ_cons,h2];rfl
theorem Wcu:∀(ps:List PTy) (d:Wfr ps) (vs:List Value) (ns:List Pc) (ks:List Nu) (objs:Waf) (nx ah:Nat),Wcp ps=true->Wbp G w ps d vs ns ks->At ν φ nx ns->nx+ns.length<=ah->
  (WM ps d objs nx).2.2=nx+ns.length/\
  (∀id ob,look (WM ps d objs nx).2.1 id=some ob->(nx<=id/\id<nx+ns.length/\WcE G ν ah w id (φ id) ob)\/look objs id=some ob)/\
  (WM ps d objs nx).1.length=vs.length/\∀(j:Nat) (x:AVal) (v:Value),(WM ps d objs nx).1[j]?=some x->vs[j]?=some v->AValRel G ν ah x v
 | [],d,vs,ns,ks,objs,nx,ah,_,⟨h1,h2,h3⟩,_,_=>by
  subst h1 h2;exact⟨rfl,λid ob h=>.inr h,rfl,λj x v h=>by simp[WM]at h⟩
 | .v t agg::ps,d,vs,ns,ks,objs,nx,ah,eK,⟨v,vs',n1,n2,h1,h2,h3,h4⟩,hν,hx=>by
  subst h2;obtain⟨us,jE⟩:=WnB h3;have aT:=W8 _ _ _ _ jE;have hlen:(n1++n2).length=t.owns+n2.length:=by rw[Xaa,aT]
  obtain⟨_,o1⟩:=Wav t d.1 nx us n1 jE hν.left;obtain⟨e1,e2,e3,e4⟩:=Wcu ps d.2 vs' n2 ks ((unfold t d.1 nx).2.1++objs) (nx+t.owns) ah eK h4 (hν.right aT) (by omega);simp only[WM,WaQ];refine⟨by rw[e1,hlen];omega,λid ob hl=>?_,by rw[h1];simp[e3],λj x u hj hu=>?_⟩
  .rcases e2 id ob hl with⟨g1,g2,g3⟩|g
   .exact .inl ⟨by omega,by omega,g3⟩
   .rcases WH g with g|g
    .obtain⟨g1,g2,e,xs,rfl,g3⟩:=o1 id ob g;exact .inl ⟨g1,by omega,g3⟩
    .exact .inr g
  .rw[h1]at hu;cases j with
   |zero=>simp at hj hu;subst hj hu;exact Wk1 h3 hν.left (by omega)
   |succ j=>exact e4 j x u (by simpa using hj) (by simpa using hu)
 | .kv t agg::ps,d,vs,ns,ks,objs,nx,ah,eK,⟨v,vs',n1,n2,ks',h1,h2,_,h3,h4⟩,hν,hx=>by
  subst h2;obtain⟨us,jE⟩:=WnB h3;have aT:=W8 _ _ _ _ jE;have hlen:(n1++n2).length=t.owns+n2.length:=by rw[Xaa,aT]
  obtain⟨_,o1⟩:=Wav t d.1 nx us n1 jE hν.left;obtain⟨e1,e2,e3,e4⟩:=Wcu ps d.2 vs' n2 ks' ((unfold t d.1 nx).2.1++objs) (nx+t.owns) ah eK h4 (hν.right aT) (by omega);simp only[WM,WaQ];refine⟨by rw[e1,hlen];omega,λid ob hl=>?_,by rw[h1];simp[e3],λj x u hj hu=>?_⟩
  .rcases e2 id ob hl with⟨g1,g2,g3⟩|g
   .exact .inl ⟨by omega,by omega,g3⟩
   .rcases WH g with g|g
    .obtain⟨g1,g2,e,xs,rfl,g3⟩:=o1 id ob g;exact .inl ⟨g1,by omega,g3⟩
    .exact .inr g
  .rw[h1]at hu;cases j with
   |zero=>simp at hj hu;subst hj hu;exact Wk1 h3 hν.left (by omega)
   |succ j=>exact e4 j x u (by simpa using hj) (by simpa using hu)
 | .box t::ps,d,vs,ns,ks,objs,nx,ah,eK,⟨b,o,vs',n1,n2,ks',h1,h2,h3,⟨us,hrow,hmem,gP⟩,h6⟩,hν,hx=>by
  subst h2;have aT:=W8 _ _ _ _ gP;have hlen:((⟨Wcc b o,rng b o t.size⟩:Pc)::(n1++n2)).length=1+t.owns+n2.length:=by rw[Xu,Xaa,aT];omega
  obtain⟨hν0,hφ0⟩:ν nx=Wcc b o/\φ nx=rng b o t.size:=by have:=hν 0 _ rfl;simpa using this
  have hν1:At ν φ (nx+1) (n1++n2):=hν.right (n1:=[⟨Wcc b o,rng b o t.size⟩]) rfl;obtain⟨c1,o1⟩:=Wav t d.1 (nx+1) us n1 gP hν1.left;have cG:=Wcf t d.1 (nx+1);obtain⟨e1,e2,e3,e4⟩:=Wcu ps d.2 vs' n2 ks' ((nx,.box (unfold t d.1 (nx+1)).1)::((unfold t d.1 (nx+1)).2.1++objs)) (nx+1+t.owns) ah eK h6 (hν1.right aT) (by omega);simp only[WM,WaQ];refine⟨by rw[e1,hlen];omega,λid ob hl=>?_,by rw[h1];simp[e3],λj x u hj hu=>?_⟩
  .rcases e2 id ob hl with⟨g1,g2,g3⟩|g
   .exact .inl ⟨by omega,by omega,g3⟩
   .rw[WD]at g;split at g
    .rename_i e;subst e;injection g with g;subst g;exact .inl ⟨Xn _,by omega,b,us,by rw[hν0];rfl,by rw[hν0,cG];exact hrow,by rw[hν0];exact hmem,c1 ah (by omega),by rw[hν0,cG,hφ0];exactλ_ _ hh=>hh⟩
    .rcases WH g with g|g
     .obtain⟨g1,g2,e,xs,rfl,g3⟩:=o1 id ob g;exact .inl ⟨by omega,by omega,g3⟩
     .exact .inr g
  .rw[h1]at hu;cases j with
   |zero=>
    simp at hj hu;subst hj hu;exact⟨⟨by omega,b,by rw[hν0];rfl,by rw[hν0];rfl⟩,rfl⟩
   |succ j=>exact e4 j x u (by simpa using hj) (by simpa using hu)
 | .vj _::_,_,_,_,_,_,_,_,_,h,_,_=>h.elim
 | .boxal t lf::ps,d,vs,ns,ks,objs,nx,ah,eK,⟨b,o,b',pc,vs',n1,n2,ks',h1,h2,h3,⟨us,hrow,hmem,gP⟩,h4,h5,h7,h6⟩,hν,hx=>by
  subst h2;have aT:=W8 _ _ _ _ gP;have hlen:((⟨Wcc b o,rng b o t.size⟩:Pc)::(n1++n2)).length=1+t.owns+n2.length:=by rw[Xu,Xaa,aT];omega
  obtain⟨hν0,hφ0⟩:ν nx=Wcc b o/\φ nx=rng b o t.size:=by have:=hν 0 _ rfl;simpa using this
  have hν1:At ν φ (nx+1) (n1++n2):=hν.right (n1:=[⟨Wcc b o,rng b o t.size⟩]) rfl;obtain⟨c1,o1⟩:=Wav t d.1 (nx+1) us n1 gP hν1.left;have cG:=Wcf t d.1 (nx+1);have xm:lf<n1.length:=(Xt.1 h4).1;have hνl:ν (nx+1+lf)=pc.nu:=(hν1.left lf pc h4).1;obtain⟨e1,e2,e3,e4⟩:=Wcu ps d.2.2 vs' n2 ks' ((nx,.box (unfold t d.1 (nx+1)).1)::((unfold t d.1 (nx+1)).2.1++objs)) (nx+1+t.owns) ah eK h6 (hν1.right aT) (by omega);simp only[WM,WaQ];refine⟨by rw[e1,hlen];omega,λid ob hl=>?_,by rw[h1];simp[e3],λj x u hj hu=>?_⟩
  .rcases e2 id ob hl with⟨g1,g2,g3⟩|g
   .exact .inl ⟨by omega,by omega,g3⟩
   .rw[WD]at g;split at g
    .rename_i e;subst e;injection g with g;subst g;exact .inl ⟨Xn _,by omega,b,us,by rw[hν0];rfl,by rw[hν0,cG];exact hrow,by rw[hν0];exact hmem,c1 ah (by omega),by rw[hν0,cG,hφ0];exactλ_ _ hh=>hh⟩
    .rcases WH g with g|g
     .obtain⟨g1,g2,e,xs,rfl,g3⟩:=o1 id ob g;exact .inl ⟨by omega,by omega,g3⟩
     .exact .inr g
  .rw[h1]at hu
   match j with
   |0=>
    simp at hj hu;subst hj hu;exact⟨⟨by omega,b,by rw[hν0];rfl,by rw[hν0];rfl⟩,rfl⟩
   |1=>
    simp at hj hu;subst hj hu;exact⟨⟨by omega,by rw[hνl];exact h7,b',by rw[hνl];exact h5,by rw[hνl];rfl⟩,rfl⟩
   |j+2=>exact e4 j x u (by simpa using hj) (by simpa using hu)
 | .rp t::ps,d,vs,ns,ks,objs,nx,ah,eK,⟨b,o,us,vs',h1,h2,h3,h4⟩,hν,hx=>by
  obtain⟨e1,e2,e3,e4⟩:=Wcu ps d.2 vs' ns ks objs nx ah eK h4 hν hx;simp only[WM];refine⟨e1,e2,by rw[h1];simp[e3],λj x u hj hu=>?_⟩;rw[h1]at hu;cases j with
  |zero=>
   simp at hj hu;subst hj hu;exact⟨⟨b,o,us,by rw[Xau],h2,h3⟩,rfl⟩
  |succ j=>exact e4 j x u (by simpa using hj) (by simpa using hu)
 | .mut e::ps,d,vs,ns,ks,objs,nx,ah,eK,⟨pc,vs',n2,ks',h1,h2,h3,h4,h5⟩,hν,hx=>by
  subst h2;have hlen:(pc::n2).length=1+n2.length:=by rw[Xu];omega
  obtain⟨hν0,hφ0⟩:ν nx=pc.nu/\φ nx=pc.fp:=by have:=hν 0 _ rfl;simpa using this
  obtain⟨e1,e2,e3,e4⟩:=Wcu ps d.2 vs' n2 ks' ((nx,.arr e d.1)::objs) (nx+1) ah eK h5 (hν.right (n1:=[pc]) rfl) (by omega);simp only[WM];refine⟨by rw[e1,hlen];omega,λid ob hl=>?_,by rw[h1];simp[e3],λj x u hj hu=>?_⟩
  .rcases e2 id ob hl with⟨g1,g2,g3⟩|g
   .exact .inl ⟨by omega,by omega,g3⟩
   .rw[WD]at g;split at g
    .rename_i e;subst e;injection g with g;subst g;refine .inl ⟨Xn _,by omega,?_⟩;show OwnL w (TyRel G w _) _ (ν nx) d.1 (φ nx);rw[hν0,hφ0];exact h4
    .exact .inr g
  .rw[h1]at hu;cases j with
   |zero=>
    simp at hj hu;subst hj hu;exact⟨⟨by omega,by rw[hν0]⟩,Wir _⟩
   |succ j=>exact e4 j x u (by simpa using hj) (by simpa using hu)
 | .clos g n::ps,d,vs,ns,ks,objs,nx,ah,eK,⟨cvs,vs',h1,h2,h3,h4⟩,hν,hx=>by
  simp only[Wcp,Xh]at eK;obtain⟨e1,e2,e3,e4⟩:=Wcu ps d (cvs++vs') ns ks objs nx ah eK.2 h4 hν hx;obtain⟨ids,g1,g2⟩:=WjC ps d objs nx n eK.1;simp only[WM];rw[g2,Wjr];have hlen:(WM ps d objs nx).1.length=n+vs'.length:=by rw[e3,Xaa,h2]
  have kG:∀(j id:Nat),ids[j]?=some id->(WM ps d objs nx).1[j]?=some (AVal.s (.one (.ptr id 0))):=λj id hj=>by
   have hlt:j<n:=by rw[←g1];exact(Xt.1 hj).1
   have:((WM ps d objs nx).1.take n)[j]?=some (.s (.one (.ptr id 0))):=by rw[g2];simp[WjD,hj]
   rw[List.getElem?_take,if_pos hlt]at this;exact this
  refine⟨e1,e2,by rw[h1];simp[hlen],λj x u hj hu=>?_⟩;rw[h1]at hu;cases j with
  |zero=>
   simp at hj hu;subst hj hu;refine⟨⟨cvs,rfl,by rw[h2,g1],λj id u hj hu=>?_⟩,rfl⟩;have hlt:j<cvs.length:=(Xt.1 hu).1;obtain⟨⟨q1,q2⟩,q3⟩:=e4 j _ u (kG j id hj) (by rw[List.getElem?_append_left hlt];exact hu);exact⟨q1,q3,q2⟩
  |succ j=>
   have hj':(WM ps d objs nx).1[n+j]?=some x:=by
    rw[←List.getElem?_drop];simpa using hj
   exact e4 (n+j) x u hj' (by rw[Xay (by omega),h2,Xbe];simpa using hu)
theorem Wda:∀(ps:List PTy) (d:Wfr ps) (vs:List Value) (ns:List Pc) (ks:List Nu),Wbp G w ps d vs ns ks->vs.length<=WbW ps
 | [],d,vs,ns,ks,⟨h1,_,_⟩=>by rw[h1];exact Xn _
 | .v t agg::ps,d,vs,ns,ks,⟨v,vs',n1,n2,h1,h2,h3,h4⟩=>by rw[h1,Xu];have:=Wda ps _ _ _ _ h4;simp only[WbW];omega
 | .box t::ps,d,vs,ns,ks,⟨b,o,vs',n1,n2,ks',h1,h2,h3,h4,h6⟩=>by rw[h1,Xu];have:=Wda ps _ _ _ _ h6;simp only[WbW];omega
 | .mut e::ps,d,vs,ns,ks,⟨pc,vs',n2,ks',h1,h2,h3,h4,h5⟩=>by rw[h1,Xu];have:=Wda ps _ _ _ _ h5;simp only[WbW];omega
 | .clos g n::ps,d,vs,ns,ks,⟨cvs,vs',h1,h2,h3,h4⟩=>by rw[h1,Xu];have:=Wda ps _ _ _ _ h4;simp at this;simp only[WbW];omega
 | .kv t agg::ps,d,vs,ns,ks,⟨v,vs',n1,n2,ks',h1,h2,jd,h3,h4⟩=>by rw[h1,Xu];have:=Wda ps _ _ _ _ h4;simp only[WbW];omega
 | .rp t::ps,d,vs,ns,ks,⟨b,o,us,vs',h1,h2,h3,h4⟩=>by rw[h1,Xu];have:=Wda ps _ _ _ _ h4;simp only[WbW];omega
 | .vj _::_,_,_,_,_,h=>h.elim
 | .boxal t lf::ps,d,vs,ns,ks,⟨b,o,b',pc,vs',n1,n2,ks',h1,h2,h3,h4,h5,h6,h7,h8⟩=>by rw[h1,Xu,Xu];have:=Wda ps _ _ _ _ h8;simp only[WbW];omega
def WnL(i:Nat)(vs:List Value):List (Nat×Value):=match vs with
 |v::_=>[(i,v)]
 | []=>[]
def WE:List PTy->Nat->Nat->List Value->List (Nat×Value)
 | [],_,_,_=>[]
 |_::ps,i,k+1,vs=>WE ps i k vs
 | .v _ _::ps,i,0,vs=>WE ps (i+1) 0 vs.tail
 | .box _::ps,i,0,vs=>WnL i vs++WE ps (i+1) 0 vs.tail
 | .mut _::ps,i,0,vs=>WnL i vs++WE ps (i+1) 0 vs.tail
 | .clos _ n::ps,i,0,vs=>WnL i vs++WE ps (i+1) n vs.tail
 | .kv _ _::ps,i,0,vs=>WnL i vs++WE ps (i+1) 0 vs.tail
 | .rp _::ps,i,0,vs=>WE ps (i+1) 0 vs.tail
 | .vj _::ps,i,0,vs=>WE ps (i+1) 0 vs.tail
 | .boxal _ _::ps,i,0,vs=>WnL i vs++WE ps (i+2) 0 vs.tail.tail
theorem Wbu{i:Nat}{vs:List Value}{p:Nat×Value}(h:p∈WnL i vs):p.1=i/\vs[0]?=some p.2:=by
 unfold WnL at h;split at h
 .simp at h;subst h;exact⟨rfl,rfl⟩
 .cases h
theorem WR:∀(ps:List PTy) (i k:Nat) (vs:List Value),∀p∈WE ps i k vs,p.1∈Wed ps i k
 | [],_,_,_,p,h=>by simp[WE]at h
 | .v _ _::ps,i,k+1,vs,p,h=>WR ps i k vs p h
 | .box _::ps,i,k+1,vs,p,h=>WR ps i k vs p h
 | .mut _::ps,i,k+1,vs,p,h=>WR ps i k vs p h
 | .clos _ _::ps,i,k+1,vs,p,h=>WR ps i k vs p h
 | .v _ _::ps,i,0,vs,p,h=>WR ps (i+1) 0 vs.tail p h
 | .box _::ps,i,0,vs,p,h=>by
  simp only[WE]at h;rcases Xm.1 h with h|h
  .rw[(Wbu h).1];exact Xi ..
  .exact Xe _ (WR ps (i+1) 0 vs.tail p h)
 | .mut _::ps,i,0,vs,p,h=>by
  simp only[WE]at h;rcases Xm.1 h with h|h
  .rw[(Wbu h).1];exact Xi ..
  .exact Xe _ (WR ps (i+1) 0 vs.tail p h)
 | .clos _ n::ps,i,0,vs,p,h=>by
  simp only[WE]at h;rcases Xm.1 h with h|h
  .rw[(Wbu h).1];exact Xi ..
  .exact Xe _ (WR ps (i+1) n vs.tail p h)
 | .kv _ _::ps,i,k+1,vs,p,h=>WR ps i k vs p h
 | .kv _ _::ps,i,0,vs,p,h=>by
  simp only[WE]at h;rcases Xm.1 h with h|h
  .rw[(Wbu h).1];exact Xi ..
  .exact Xe _ (WR ps (i+1) 0 vs.tail p h)
 | .rp _::ps,i,k+1,vs,p,h=>WR ps i k vs p h
 | .rp _::ps,i,0,vs,p,h=>WR ps (i+1) 0 vs.tail p h
 | .vj _::ps,i,k+1,vs,p,h=>WR ps i k vs p h
 | .vj _::ps,i,0,vs,p,h=>WR ps (i+1) 0 vs.tail p h
 | .boxal _ _::ps,i,k+1,vs,p,h=>WR ps i k vs p h
 | .boxal _ _::ps,i,0,vs,p,h=>by
  simp only[WE]at h;rcases Xm.1 h with h|h
  .rw[(Wbu h).1];exact Xi ..
  .exact Xe _ (WR ps (i+2) 0 vs.tail.tail p h)
theorem WJ:∀(ps:List PTy) (i k:Nat) (vs:List Value),∀p∈WE ps i k vs,i<=p.1/\vs[p.1-i]?=some p.2
 | [],_,_,_,p,h=>by simp[WE]at h
 | .v _ _::ps,i,k+1,vs,p,h=>WJ ps i k vs p h
 | .box _::ps,i,k+1,vs,p,h=>WJ ps i k vs p h
 | .mut _::ps,i,k+1,vs,p,h=>WJ ps i k vs p h
 | .clos _ _::ps,i,k+1,vs,p,h=>WJ ps i k vs p h
 | .v _ _::ps,i,0,vs,p,h=>by
  obtain⟨h1,h2⟩:=WJ ps (i+1) 0 vs.tail p h;refine⟨by omega,?_⟩;rw[show p.1-i=(p.1-(i+1))+1 by omega,←Xch];exact h2
 | .box _::ps,i,0,vs,p,h=>by
  simp only[WE]at h;rcases Xm.1 h with h|h
  .obtain⟨h1,h2⟩:=Wbu h;rw[h1];exact⟨Xn _,by rw[Xdb];exact h2⟩
  .obtain⟨h1,h2⟩:=WJ ps (i+1) 0 vs.tail p h;refine⟨by omega,?_⟩;rw[show p.1-i=(p.1-(i+1))+1 by omega,←Xch];exact h2
 | .mut _::ps,i,0,vs,p,h=>by
  simp only[WE]at h;rcases Xm.1 h with h|h
  .obtain⟨h1,h2⟩:=Wbu h;rw[h1];exact⟨Xn _,by rw[Xdb];exact h2⟩
  .obtain⟨h1,h2⟩:=WJ ps (i+1) 0 vs.tail p h;refine⟨by omega,?_⟩;rw[show p.1-i=(p.1-(i+1))+1 by omega,←Xch];exact h2
 | .clos _ n::ps,i,0,vs,p,h=>by
  simp only[WE]at h;rcases Xm.1 h with h|h
  .obtain⟨h1,h2⟩:=Wbu h;rw[h1];exact⟨Xn _,by rw[Xdb];exact h2⟩
  .obtain⟨h1,h2⟩:=WJ ps (i+1) n vs.tail p h;refine⟨by omega,?_⟩;rw[show p.1-i=(p.1-(i+1))+1 by omega,←Xch];exact h2
 | .kv _ _::ps,i,k+1,vs,p,h=>WJ ps i k vs p h
 | .kv _ _::ps,i,0,vs,p,h=>by
  simp only[WE]at h;rcases Xm.1 h with h|h
  .obtain⟨h1,h2⟩:=Wbu h;rw[h1];exact⟨Xn _,by rw[Xdb];exact h2⟩
  .obtain⟨h1,h2⟩:=WJ ps (i+1) 0 vs.tail p h;refine⟨by omega,?_⟩;rw[show p.1-i=(p.1-(i+1))+1 by omega,←Xch];exact h2
 | .rp _::ps,i,k+1,vs,p,h=>WJ ps i k vs p h
 | .rp _::ps,i,0,vs,p,h=>by
  obtain⟨h1,h2⟩:=WJ ps (i+1) 0 vs.tail p h;refine⟨by omega,?_⟩;rw[show p.1-i=(p.1-(i+1))+1 by omega,←Xch];exact h2
 | .vj _::ps,i,k+1,vs,p,h=>WJ ps i k vs p h
 | .vj _::ps,i,0,vs,p,h=>by
  obtain⟨h1,h2⟩:=WJ ps (i+1) 0 vs.tail p h;refine⟨by omega,?_⟩;rw[show p.1-i=(p.1-(i+1))+1 by omega,←Xch];exact h2
 | .boxal _ _::ps,i,k+1,vs,p,h=>WJ ps i k vs p h
 | .boxal _ _::ps,i,0,vs,p,h=>by
  simp only[WE]at h;rcases Xm.1 h with h|h
  .obtain⟨h1,h2⟩:=Wbu h;rw[h1];exact⟨Xn _,by rw[Xdb];exact h2⟩
  .obtain⟨h1,h2⟩:=WJ ps (i+2) 0 vs.tail.tail p h;refine⟨by omega,?_⟩;rw[show p.1-i=(p.1-(i+2))+1+1 by omega,←Xch,←Xch];exact h2
def Wnn(tmps:Array Value):ResultVar->Sem Value
 | .tmp t=>pure (tmps.getD t undef)
 | .cell b t=>do loadVar t (←asAddr (tmps.getD b undef))
theorem WkV(hT:Wan P T)(hr:Rel w0 F nt G0 G ν st a w):∀(l:List ResultVar) (xs:List AVal),WeE T st l=some xs->
  ∃vs:List Value,(l.mapM (Wnn a.tmps)).run P w= .ok vs w/\vs.length=xs.length/\
   ∀(j:Nat) (x:AVal) (v:Value),xs[j]?=some x->vs[j]?=some v->AValRel G ν st.nx x v
 | [],xs,h=>by
  simp only[WeE]at h;injection h with h;subst h;exact⟨[],by simp,rfl,λj x v hj=>by simp at hj⟩
 | .tmp t::l,xs,h=>by
  simp only[WeE]at h;split at h
  .rename_i x tV h1 h2;injection h with h;subst h;obtain⟨vs,h3,h4,h5⟩:=WkV hT hr l tV h2;obtain⟨v,hv,hx⟩:=hr.env t x h1;refine⟨v::vs,?_,by simp[h4],λj y u hj hu=>?_⟩
   .have ca:a.tmps.getD t undef=v:=by simp[Xcp,hv]
    simp only[Xfd,Sem.run_bind,Wnn,Sem.run_pure,Result.andThen_ok,h3,ca]
   .cases j with
    |zero=>simp at hj hu;subst hj hu;exact hx
    |succ j=>exact h5 j y u (by simpa using hj) (by simpa using hu)
  .cases h
 | .cell b t::l,xs,h=>by
  simp only[WeE]at h;split at h
  .rename_i x tV h1 h2;injection h with h;subst h;obtain⟨vs,h3,h4,h5⟩:=WkV hT hr l tV h2;cases hb:look st.env b with
   |none=>simp[hb]at h1
   |some y=>
    simp only[hb,Xd]at h1;obtain⟨v,hv,hx⟩:=hr.env b y hb;obtain⟨u,hu,tZ⟩:=Whq hT hr.h hx h1;refine⟨u::vs,?_,by simp[h4],λj z q hj hq=>?_⟩
    .have ca:a.tmps.getD b undef=v:=by simp[Xcp,hv]
     unfold Instr.loadAt at hu;rw[Sem.run_bind]at hu;obtain⟨p,rfl⟩:∃p,v= .pointer (some p):=by
      unfold Instr.sureAddr at hu;split at hu
      .exact⟨_,rfl⟩
      .simp[stuck]at hu
     simp only[Instr.sureAddr,Sem.run_pure,Result.andThen_ok]at hu;have ha:(asAddr (.pointer (some p))).run P w= .ok p w:=rfl;simp only[Xfd,Sem.run_bind,Wnn,Sem.run_pure,Result.andThen_ok,ca,ha,hu,h3]
    .cases j with
     |zero=>simp at hj hq;subst hj hq;exact tZ
     |succ j=>exact h5 j z q (by simpa using hj) (by simpa using hq)
  .cases h
theorem WdH(h:HR w0 F G ν φ objs nx w)(hg:GLe G G'):∀(rs:List PTy) (xs:List AVal) (vs:List Value) (A:Outs (WgS rs)),vs.length=xs.length->
  (∀(j:Nat) (x:AVal) (v:Value),xs[j]?=some x->vs[j]?=some v->AValRel G ν nx x v)->Lent G' w φ objs A.lent->A.moved.Nodup->Wa7 rs xs objs=some A->
  ∃ns,Wgw G' w rs A.d vs ns/\Sep (fps ns)/\(∀q∈ns,CS.le q.fp (FromL φ objs A.moved))/\(∀i∈A.moved,Live objs i)
 | [],xs,vs,A,hlen,hx,hl,aP,hf=>by
  simp only[Wa7]at hf;split at hf
  .injection hf with hf;subst hf;have eH:vs= []:=Xy (by simpa using hlen);exact⟨[],⟨eH,rfl⟩,List.Pairwise.nil,by simp,by simp⟩
  .cases hf
 | .v t agg::rs,xs,vs,A,hlen,hx,hl,aP,hf=>by
  simp only[Wa7]at hf;split at hf
  .rename_i x xs;split at hf
   .rename_i d m l A' h1 h2;injection hf with hf;subst hf
    match vs,hlen with
    |v::vs,hlen=>
     cases hc:cellsOf agg x with
     |none=>simp[hc]at h1
     |some cs=>
      simp[hc]at h1;obtain⟨k1,k2,k3⟩:=Xak.1 aP;obtain⟨n1,g1,g2,g3,g4,_⟩:=Wki h hg (hx 0 x v rfl rfl) (hl.mono (λi hi=>Xk _ hi)) k1 hc h1;obtain⟨n2,g5,g6,g7,g8⟩:=WdH h hg rs xs vs A' (by simpa using hlen) (λj y u hj hu=>hx (j+1) y u (by simpa using hj) (by simpa using hu)) (hl.mono (λi hi=>Xg _ hi)) k2 h2;refine⟨n1++n2,⟨v,vs,n1,n2,rfl,rfl,g1,g5⟩,Wcl h g2 g6 g3 g7 (λi hi hj=>k3 i hi i hj rfl),λq hq=>?_,λi hi=>?_⟩
      .rcases Xm.1 hq with hq|hq
       .exactλb o hh=>FromL.mono (λi hi=>Xk _ hi) b o (g3 q hq b o hh)
       .exactλb o hh=>FromL.mono (λi hi=>Xg _ hi) b o (g7 q hq b o hh)
      .rcases Xm.1 hi with hi|hi
       .exact g4 i hi
       .exact g8 i hi
   .cases hf
  .cases hf
 | .box t::rs,xs,vs,A,hlen,hx,hl,aP,hf=>by
  simp only[Wa7]at hf;split at hf
  .rename_i id xs;split at hf
   .rename_i cs aY;split at hf
    .rename_i d m l A' h1 h2;injection hf with hf;subst hf
     match vs,hlen with
     |v::vs,hlen=>
      obtain⟨k0,k1⟩:=Xai.1 aP;obtain⟨k2,k3,k4⟩:=Xak.1 k1;obtain⟨⟨_,b,hνb,rfl⟩,_⟩:=hx 0 _ v rfl rfl;have aw:Live objs id:=⟨_,aY,by simp⟩;obtain⟨b'',us,mb,hrow,hmem,bn,eJ⟩:WcE G ν nx w id (φ id) (.box cs):=h.ob _ _ aY;rw[hνb]at mb;injection mb with mb;subst mb;obtain⟨n1,g1,g2,g3,g4,_⟩:=Wah h hg t cs us d m l bn (hl.mono (λi hi=>Xk _ hi)) k2 h1;have cG:cs.length=t.size:=by rw[←bn.1];exact WA _ _ _ _ g1
      obtain⟨n2,g5,g6,g7,g8⟩:=WdH h hg rs xs vs A' (by simpa using hlen) (λj y u hj hu=>hx (j+1) y u (by simpa using hj) (by simpa using hu)) (hl.mono (λi hi=>Xg _ hi)) k3 h2;rw[cG]at hrow eJ;refine⟨⟨Wcc b ((ν id).off+0),rng b ((ν id).off+0) t.size⟩::(n1++n2),⟨b,(ν id).off+0,vs,n1,n2,rfl,rfl,⟨us,hrow,hmem,g1⟩,g5⟩,?_,λq hq=>?_,λi hi=>?_⟩
      .refine Wcl h (n1:=[⟨Wcc b ((ν id).off+0),rng b ((ν id).off+0) t.size⟩]) (m:=[id]) (l:=m++A'.moved) (Xbd _ _) (Wcl h g2 g6 g3 g7 (λi hi hj=>k4 i hi i hj rfl)) (λq hq=>?_) (λq hq=>?_) (λi hi hj=>k0 (by rw[←Xz.1 hi];exact hj))
       .rw[Xz.1 hq];exactλb o hh=>⟨id,by simp,aw,eJ b o hh⟩
       .rcases Xm.1 hq with hq|hq
        .exactλb o hh=>FromL.mono (λi hi=>Xk _ hi) b o (g3 q hq b o hh)
        .exactλb o hh=>FromL.mono (λi hi=>Xg _ hi) b o (g7 q hq b o hh)
      .rcases Xo.1 hq with rfl|hq
       .exactλb o hh=>⟨id,by simp,aw,eJ b o hh⟩
       .rcases Xm.1 hq with hq|hq
        .exactλb o hh=>FromL.mono (λi hi=>Xe _ (Xk _ hi)) b o (g3 q hq b o hh)
        .exactλb o hh=>FromL.mono (λi hi=>Xe _ (Xg _ hi)) b o (g7 q hq b o hh)
      .rcases Xo.1 hi with rfl|hi
       .exact aw
       .rcases Xm.1 hi with hi|hi
        .exact g4 i hi
        .exact g8 i hi
    .cases hf
   .cases hf
  .cases hf
 | .mut _::_,_,_,_,_,_,_,_,h=>by simp only[Wa7]at h;cases h
 | .clos _ _::_,_,_,_,_,_,_,_,h=>by simp only[Wa7]at h;cases h
 | .kv _ _::_,_,_,_,_,_,_,_,h=>by simp only[Wa7]at h;cases h
 | .rp _::_,_,_,_,_,_,_,_,h=>by simp only[Wa7]at h;cases h
 | .vj t::rs,xs,vs,A,hlen,hx,hl,aP,hf=>by
  simp only[Wa7]at hf;split at hf
  .rename_i cs xs;split at hf
   .rename_i hcl;split at hf
    .rename_i d m l A' h1 h2;injection hf with hf;subst hf
     match vs,hlen with
     |v::vs,hlen=>
      obtain⟨k1,k2,k3⟩:=Xak.1 aP;obtain⟨us,rfl,bn⟩:=hx 0 _ v rfl rfl;obtain⟨n1,g1,g2,g3,g4,_⟩:=Wah h hg t (cs.take t.size) (us.take t.size) d m l (bn.take t.size) (hl.mono (λi hi=>Xk _ hi)) k1 h1;obtain⟨n2,g5,g6,g7,g8⟩:=WdH h hg rs xs vs A' (by simpa using hlen) (λj y u hj hu=>hx (j+1) y u (by simpa using hj) (by simpa using hu)) (hl.mono (λi hi=>Xg _ hi)) k2 h2;have cG:us.length=t.size+1:=by rw[bn.1,hcl]
      have hlt:t.size<us.length:=by omega
      have e0:us=us.take t.size++ [us[t.size]]:=by
       rw[←List.take_succ_eq_append_getElem hlt,Xcz (by omega)]
      have ho:=(bn.2 t.size (cs[t.size]'(by omega)) us[t.size] (Xs (by omega)) (Xs hlt)).2;refine⟨n1++n2,⟨us.take t.size,us[t.size],vs,n1,n2,by rw[←e0],ho,rfl,g1,g5⟩,Wcl h g2 g6 g3 g7 (λi hi hj=>k3 i hi i hj rfl),λq hq=>?_,λi hi=>?_⟩
      .rcases Xm.1 hq with hq|hq
       .exactλb o hh=>FromL.mono (λi hi=>Xk _ hi) b o (g3 q hq b o hh)
       .exactλb o hh=>FromL.mono (λi hi=>Xg _ hi) b o (g7 q hq b o hh)
      .rcases Xm.1 hi with hi|hi
       .exact g4 i hi
       .exact g8 i hi
    .cases hf
   .cases hf
  .cases hf
 | .boxal _ _::_,_,_,_,_,_,_,_,h=>by simp only[Wa7]at h;cases h
theorem Wn8{p:PTy}{ps:List PTy}{k:Nat}(h:WjK (p::ps) (k+1)=true):(∃t,p= .box t)/\WjK ps k=true:=by
 cases p with
 |box t=>exact⟨⟨t,rfl⟩,h⟩
 |_=>cases h
theorem Wgm(hr:Rel w0 F nt G0 G ν st a w){i:Nat}{u:Value}(hp:a.tmps[i]?=some u):(look st.env i).getD (.tup [])= .tup []\/AValRel G ν st.nx ((look st.env i).getD (.tup [])) u:=by
 cases he:look st.env i with
 |none=>exact .inl rfl
 |some y=>
  obtain⟨v,hv,hx⟩:=hr.env i y he;rw[hp]at hv;injection hv with hv;subst hv;exact .inr hx
theorem WaF{wb:World}{Gb:GH}(hr:Rel w0 F nt G0 G ν st a w):∀(ps:List PTy) (d:Wfr ps) (vs:List Value) (ns:List Pc) (ks:List Nu) (i k:Nat),Wbp Gb wb ps d vs ns ks->Wcp ps=true->WjK ps k=true->k<=vs.length->
  (∀p∈WE ps i k (vs.drop k),a.tmps[p.1]?=some p.2)->(Ws ps i k st).length+k=vs.length/\
  ∀(j:Nat) (x:AVal) (v:Value),(Ws ps i k st)[j]?=some x->vs[k+j]?=some v->x= .tup []\/AValRel G ν st.nx x v
 | [],d,vs,ns,ks,i,k,⟨h1,_,_⟩,_,_,hk,_=>by
  subst h1;have:k=0:=by simpa using hk
  subst this;exact⟨rfl,λj x v hj=>by simp[Ws]at hj⟩
 |p::ps,d,vs,ns,ks,i,k+1,h,hc,hb,hk,hp=>by
  obtain⟨⟨t,rfl⟩,hb'⟩:=Wn8 hb;obtain⟨b,o,vs',n1,n2,ks',h1,h2,h3,h4,h6⟩:=h;subst h1;have ia:Wcp ps=true:=hc;obtain⟨e1,e2⟩:=WaF hr ps d.2 vs' n2 ks' i k h6 ia hb' (by simpa using hk) (by simpa [WE]using hp);refine⟨by simp only[Ws,Xu];omega,λj x v hj hv=>e2 j x v (by simpa [Ws]using hj) ?_⟩;rw[show k+1+j=(k+j)+1 by omega]at hv;simpa using hv
 | .v t agg::ps,d,vs,ns,ks,i,0,⟨v,vs',n1,n2,h1,h2,h3,h4⟩,hc,_,_,hp=>by
  subst h1;obtain⟨e1,e2⟩:=WaF hr ps d.2 vs' n2 ks (i+1) 0 h4 hc (by cases ps<;>rfl) (Xbk _) (by simpa [WE]using hp);refine⟨by simp only[Ws,Xu];omega,λj x u hj hu=>?_⟩;cases j with
  |zero=>simp[Ws]at hj;exact .inl hj.symm
  |succ j=>exact e2 j x u (by simpa [Ws]using hj) (by simpa using hu)
 | .rp t::ps,d,vs,ns,ks,i,0,⟨b,o,us,vs',h1,h2,h3,h4⟩,hc,_,_,hp=>by
  subst h1;obtain⟨e1,e2⟩:=WaF hr ps d.2 vs' ns ks (i+1) 0 h4 hc (by cases ps<;>rfl) (Xbk _) (by simpa [WE]using hp);refine⟨by simp only[Ws,Xu];omega,λj x u hj hu=>?_⟩;cases j with
  |zero=>simp[Ws]at hj;exact .inl hj.symm
  |succ j=>exact e2 j x u (by simpa [Ws]using hj) (by simpa using hu)
 | .box t::ps,d,vs,ns,ks,i,0,⟨b,o,vs',n1,n2,ks',h1,h2,h3,h4,h6⟩,hc,_,_,hp=>by
  subst h1;simp only[WE,Xcc,Xei]at hp;obtain⟨e1,e2⟩:=WaF hr ps d.2 vs' n2 ks' (i+1) 0 h6 hc (by cases ps<;>rfl) (Xbk _) (λp hZ=>hp p (Xg _ (by simpa using hZ)));refine⟨by simp only[Ws,Xu];omega,λj x u hj hu=>?_⟩;cases j with
  |zero=>
   simp[Ws]at hj hu;subst hj hu;exact Wgm hr (hp (i,_) (Xk _ (Xi ..)))
  |succ j=>exact e2 j x u (by simpa [Ws]using hj) (by simpa using hu)
 | .vj _::_,_,_,_,_,_,_,h,_,_,_,_=>h.elim
 | .boxal t lf::ps,d,vs,ns,ks,i,0,⟨b,o,b',pc,vs',n1,n2,ks',h1,h2,h3,h4,h5,h6,h7,h8⟩,hc,_,_,hp=>by
  subst h1;simp only[WE,Xcc,Xei]at hp;obtain⟨e1,e2⟩:=WaF hr ps d.2.2 vs' n2 ks' (i+2) 0 h8 hc (by cases ps<;>rfl) (Xbk _) (λp hZ=>hp p (Xg _ (by simpa using hZ)));refine⟨by simp only[Ws,Xu];omega,λj x u hj hu=>?_⟩
  match j with
  |0=>
   simp[Ws]at hj hu;subst hj hu;exact Wgm hr (hp (i,_) (Xk _ (Xi ..)))
  |1=>simp[Ws]at hj;exact .inl hj.symm
  |j+2=>exact e2 j x u (by simpa [Ws]using hj) (by simpa using hu)
 | .mut e::ps,d,vs,ns,ks,i,0,⟨pc,vs',n2,ks',h1,h2,h3,h4,h5⟩,hc,_,_,hp=>by
  subst h1;simp only[WE,Xcc,Xei]at hp;obtain⟨e1,e2⟩:=WaF hr ps d.2 vs' n2 ks' (i+1) 0 h5 hc (by cases ps<;>rfl) (Xbk _) (λp hZ=>hp p (Xg _ (by simpa using hZ)));refine⟨by simp only[Ws,Xu];omega,λj x u hj hu=>?_⟩;cases j with
  |zero=>
   simp[Ws]at hj hu;subst hj hu;exact Wgm hr (hp (i,_) (Xk _ (Xi ..)))
  |succ j=>exact e2 j x u (by simpa [Ws]using hj) (by simpa using hu)
 | .clos g n::ps,d,vs,ns,ks,i,0,⟨cvs,vs',h1,h2,h3,h4⟩,hc,_,_,hp=>by
  subst h1;simp only[Wcp,Xh]at hc;simp only[WE,Xcc,Xei]at hp;obtain⟨e1,e2⟩:=WaF hr ps d (cvs++vs') ns ks (i+1) n h4 hc.2 hc.1 (by simp[h2]) (λp hZ=>hp p (Xg _ (by rw[List.drop_left' h2]at hZ;exact hZ)));refine⟨by simp only[Ws,Xu];simp at e1;omega,λj x u hj hu=>?_⟩;cases j with
  |zero=>
   simp[Ws]at hj hu;subst hj hu;exact Wgm hr (hp (i,_) (Xk _ (Xi ..)))
  |succ j=>exact e2 j x u (by simpa [Ws]using hj) (by rw[Xay (by omega),h2,Xbe];simpa using hu)
 | .kv t agg::ps,d,vs,ns,ks,i,0,⟨v,vs',n1,n2,ks',h1,h2,jd,h3,h4⟩,hc,_,_,hp=>by
  subst h1;simp only[WE,Xcc,Xei]at hp;obtain⟨e1,e2⟩:=WaF hr ps d.2 vs' n2 ks' (i+1) 0 h4 hc (by cases ps<;>rfl) (Xbk _) (λp hZ=>hp p (Xg _ (by simpa using hZ)));refine⟨by simp only[Ws,Xu];omega,λj x u hj hu=>?_⟩;cases j with
  |zero=>
   simp[Ws]at hj hu;subst hj hu;exact Wgm hr (hp (i,_) (Xk _ (Xi ..)))
  |succ j=>exact e2 j x u (by simpa [Ws]using hj) (by simpa using hu)
theorem Wo1{G G':GH}{wb w:World}{nu sj:Nu}{e:Ty}{xs ys:List e.den}{S S':CS}(h4:OwnL wb (TyRel G wb e) e.size nu xs S)(hown:OwnL w (TyRel G' w e) e.size sj ys S')(hx:nu.hdr=sj.hdr):OwnL w (TyRel G' w e) e.size nu ys S':=by
 unfold Nu.hdr at hx;cases hb:sj.blk with
 |none=>
  cases hb':nu.blk with
  |some b=>simp[hb,hb']at hx
  |none=>
   have k1:=Wcn h4 hb';have k2:=Wcn hown hb;refine⟨by rw[k2,←h4.1,k1],h4.2.1,?_⟩;simp only[hb'];exact k2
 |some b=>
  cases hb':nu.blk with
  |none=>simp[hb,hb']at hx
  |some b'=>
   simp only[hb,hb']at hx;injection hx with x1 x2 x3;injection x1 with x1;injection x1 with x1 x4 _;have e1:=h4.2.1;have e2:=hown.2.1;have:nu=sj:=by
    obtain⟨a1,a2,a3,a4,a5⟩:=nu;obtain⟨b1,b2,b3,b4,b5⟩:=sj;simp only at hb hb' x1 x2 x3 x4 e1 e2;subst hb hb' x1 x2 x3 x4;rw[e1,e2]
   rw[this];exact hown
theorem We6{G G':GH}{wb w:World}:∀(t:Ty) (d0 d:t.den) (us:List Value) (n1 n2:List Pc),TyRel G wb t d0 us n1->TyRel G' w t d us n2->∃n3,TyRel G' w t d us n3/\nus n3=nus n1/\fps n3=fps n2
 | .own e,d0,d,us,n1,n2,⟨pc,h1,h2,h3⟩,⟨cu,g1,g2,g3⟩=>by
  subst h1 g1;have hx:pc.nu.hdr=cu.nu.hdr:=by rw[h2]at g2;simpa using g2
  exact⟨[⟨pc.nu,cu.fp⟩],⟨_,rfl,h2,Wo1 h3 g3 hx⟩,rfl,rfl⟩
 | .prod a b,d0,d,us,n1,n2,⟨v1,v2,m1,m2,h1,h2,h3,h4⟩,⟨u1,u2,k1,k2,g1,g2,g3,g4⟩=>by
  have l1:=WA a _ _ _ h3;have l2:=WA a _ _ _ g3;obtain⟨q1,q2⟩:=List.append_inj (h1.symm.trans g1) (by rw[l1,l2]);subst q1 q2 h2 g2;obtain⟨a1,a2,a3,a4⟩:=We6 a _ _ _ _ _ h3 g3;obtain⟨b1,b2,b3,b4⟩:=We6 b _ _ _ _ _ h4 g4;exact⟨a1++b1,⟨_,_,a1,b1,h1,rfl,a2,b2⟩,by unfold nus at a3 b3⊢;rw[Xr,Xr,a3,b3],by unfold fps at a4 b4⊢;rw[Xr,Xr,a4,b4]⟩
 | .int _,d0,d,us,n1,n2,h,g=>by obtain⟨h1,_⟩:=h;obtain⟨g1,g2⟩:=g;subst h1 g1;exact⟨[],⟨rfl,g2⟩,rfl,rfl⟩
 | .bool,d0,d,us,n1,n2,h,g=>by obtain⟨h1,_⟩:=h;obtain⟨g1,g2⟩:=g;subst h1 g1;exact⟨[],⟨rfl,g2⟩,rfl,rfl⟩
 | .str,d0,d,us,n1,n2,h,g=>by obtain⟨h1,_⟩:=h;obtain⟨g1,g2⟩:=g;subst h1 g1;exact⟨[],⟨rfl,g2⟩,rfl,rfl⟩
 | .slice _,d0,d,us,n1,n2,h,g=>by obtain⟨h1,_⟩:=h;obtain⟨g1,g2⟩:=g;subst h1 g1;exact⟨[],⟨rfl,g2⟩,rfl,rfl⟩
theorem WsU{G G':GH}{wb w:World}{t:Ty}{agg:Bool}{d0 d:t.den}{v:Value}{n1 n2:List Pc}(h:Wjb G wb t agg d0 v n1)(g:Wjb G' w t agg d v n2):∃us n3,TyRel G' w t d us n3/\nus n3=nus n1/\fps n3=fps n2:=by
 unfold Wjb at h g;split at h
 .rename_i ha;rw[if_pos ha]at g;obtain⟨us,h1,h2⟩:=h;obtain⟨y9,g1,g2⟩:=g;have:us=y9:=by
   rw[h1]at g1;injection g1 with g1;have:=congrArg Array.toList g1;simpa using this
  subst this;exact⟨us,We6 _ _ _ _ _ _ h2 g2⟩
 .rename_i ha;rw[if_neg ha]at g;exact⟨_,We6 _ _ _ _ _ _ h g⟩
structure OOk(G':GH)(φ:Nat->CS)(objs:Waf)(w:World)(ps:List PTy)(B:OutK (WfY ps))(ks:List Nu)(kf:List CS)(ms:List Pc):Prop where
 outs:WbD G' w ps B.d ks kf ms
 sepk:Sep kf
 sepm:Sep (fps ms)
 kf:∀S∈kf,CS.le S (FromL φ objs B.kept)
 ms:∀q∈ms,CS.le q.fp (FromL φ objs B.moved)
theorem Ww6(h:HR w0 F G ν φ objs nx w){k1 k2:List CS}{m l:List Nat}(h1:Sep k1)(h2:Sep k2)(g1:∀S∈k1,CS.le S (FromL φ objs m))(g2:∀S∈k2,CS.le S (FromL φ objs l))(hd:∀i∈m,i∉l):Sep (k1++k2):=
 WnD h1 h2 (A:=FromL φ objs m) (B:=FromL φ objs l) g1 g2 (FromL.disj h hd)
theorem Whv{wb:World}{Gb:GH}(hg:GLe G G')(h:HR w0 F G ν φ objs nx w){t:Ty}{ps:List PTy}{id b o:Nat}{cs:List Cell}{dd:t.den}{m l:List Nat}{A:OutK (WfY ps)}{ks:List Nu}{kf:List CS}{ms:List Pc}
  (hx:CellRel G ν nx (.ptr id 0) (.pointer (some ⟨b,o,none⟩))) (ho:look objs id=some (.box cs)) (g1:Waw t cs objs=some (dd,m,l)) (hl:Lent G' w φ objs l) (hk:(id::A.kept).Nodup) (hm:(m++A.moved).Nodup) (hA:OOk G' φ objs w ps A ks kf ms):
  ∃nn,Wfv G' w t dd b o nn/\Sep (rng b o t.size::kf)/\Sep (fps (nn++ms))/\(∀S∈rng b o t.size::kf,CS.le S (FromL φ objs (id::A.kept)))/\(∀q∈nn++ms,CS.le q.fp (FromL φ objs (m++A.moved))):=by
 obtain⟨_,b',xn,jK⟩:=hx;injection jK with jK;injection jK with jK;injection jK with jK lT _;subst jK lT;have aw:Live objs id:=⟨_,ho,by simp⟩;obtain⟨b'',us,ua,hrow,hmem,bn,eJ⟩:WcE G ν nx w id (φ id) (.box cs):=h.ob _ _ ho;rw[xn]at ua;injection ua with ua;subst ua;obtain⟨k1,k2⟩:=Xai.1 hk;obtain⟨k3,k4,k5⟩:=Xak.1 hm;obtain⟨nn,e1,e2,e3,_⟩:=Wah h hg t cs us dd m l bn hl k3 g1;have cG:cs.length=t.size:=by rw[←bn.1];exact WA _ _ _ _ e1
 rw[cG]at hrow eJ;have gg:CS.le (rng b ((ν id).off+0) t.size) (FromL φ objs [id]):=λb o hh=>⟨id,by simp,aw,eJ b o hh⟩;refine⟨nn,⟨us,hrow,hmem,e1⟩,?_,Wcl h e2 hA.sepm e3 hA.ms (λi hi hj=>k5 i hi i hj rfl),λS hS=>?_,λq hq=>?_⟩
 .exact Ww6 h (k1:=[rng b ((ν id).off+0) t.size]) (m:=[id]) (Xbd _ _) hA.sepk (λS hS=>by rw[Xz.1 hS];exact gg) hA.kf (λi hi hj=>k1 (by rw[←Xz.1 hi];exact hj))
 .rcases Xo.1 hS with rfl|hS
  .exactλb o hh=>FromL.mono (λi hi=>by rw[Xz.1 hi];exact Xi ..) b o (gg b o hh)
  .exactλb o hh=>FromL.mono (λi hi=>Xe _ hi) b o (hA.kf S hS b o hh)
 .rcases Xm.1 hq with hq|hq
  .exactλb o hh=>FromL.mono (λi hi=>Xk _ hi) b o (e3 q hq b o hh)
  .exactλb o hh=>FromL.mono (λi hi=>Xg _ hi) b o (hA.ms q hq b o hh)
theorem WaW{wb:World}{Gb:GH}(hg:GLe G G')(h:HR w0 F G ν φ objs nx w):∀(ps:List PTy) (d:Wfr ps) (vs:List Value) (ns:List Pc) (ks:List Nu) (xs:List AVal) (B:OutK (WfY ps)),Wbp Gb wb ps d vs ns ks->xs.length=vs.length->
  (∀(j:Nat) (x:AVal) (v:Value),xs[j]?=some x->vs[j]?=some v->x= .tup []\/AValRel G ν nx x v)->Lent G' w φ objs B.lent->B.kept.Nodup->B.moved.Nodup->W3 ps xs objs=some B->
  ∃kf ms,OOk G' φ objs w ps B ks kf ms
 | [],d,vs,ns,ks,xs,B,⟨_,_,hk⟩,_,_,_,_,_,hf=>by
  simp only[W3]at hf;injection hf with hf;subst hf;exact⟨[],[],⟨hk,rfl,rfl⟩,List.Pairwise.nil,List.Pairwise.nil,by simp,by simp⟩
 | .v t agg::ps,d,vs,ns,ks,xs,B,⟨v,vs',n1,n2,h1,h2,h3,h4⟩,hlen,hp,hl,hk,hm,hf=>by
  subst h1;simp only[W3]at hf;cases hA:W3 ps xs.tail objs with
  |none=>simp[hA]at hf
  |some A=>
   simp[hA]at hf;subst hf
   match xs,hlen with
   |x::xs,hlen=>
    obtain⟨kf,ms,hO⟩:=WaW hg h ps d.2 vs' n2 ks xs A h4 (by simpa using hlen) (λj y u hj hu=>hp (j+1) y u (by simpa using hj) (by simpa using hu)) hl hk hm hA;exact⟨kf,ms,hO.outs,hO.sepk,hO.sepm,hO.kf,hO.ms⟩
 | .rp t::ps,d,vs,ns,ks,xs,B,⟨b,o,us,vs',h1,h2,h3,h4⟩,hlen,hp,hl,hk,hm,hf=>by
  subst h1;simp only[W3]at hf;cases hA:W3 ps xs.tail objs with
  |none=>simp[hA]at hf
  |some A=>
   simp[hA]at hf;subst hf
   match xs,hlen with
   |x::xs,hlen=>
    obtain⟨kf,ms,hO⟩:=WaW hg h ps d.2 vs' ns ks xs A h4 (by simpa using hlen) (λj y u hj hu=>hp (j+1) y u (by simpa using hj) (by simpa using hu)) hl hk hm hA;exact⟨kf,ms,hO.outs,hO.sepk,hO.sepm,hO.kf,hO.ms⟩
 | .box t::ps,d,vs,ns,ks,xs,B,⟨b,o,vs',n1,n2,ks',h1,h2,h3,h4,h6⟩,hlen,hp,hl,hk,hm,hf=>by
  subst h1;simp only[W3]at hf;split at hf
  .rename_i id xs;split at hf
   .rename_i cs ho;split at hf
    .rename_i dd m l A g1 g2;injection hf with hf;subst hf;have hx:=((hp 0 _ _ rfl rfl).resolve_left (λe=>by cases e)).1;obtain⟨kf,ms,hO⟩:=WaW hg h ps d.2 vs' n2 ks' xs A h6 (by simpa using hlen) (λj y u hj hu=>hp (j+1) y u (by simpa using hj) (by simpa using hu)) (hl.mono λj hj=>Xg _ hj) (Xai.1 hk).2 (Xak.1 hm).2.1 g2;obtain⟨nn,e1,e2,e3,e4,e5⟩:=Whv (wb:=wb) (Gb:=Gb) hg h hx ho g1 (hl.mono λj hj=>Xk _ hj) hk hm hO;exact⟨_,nn++ms,⟨b,o,ks',kf,nn,ms,h3,rfl,rfl,e1,hO.outs⟩,e2,e3,e4,e5⟩
    .cases hf
   .cases hf
  .cases hf
 | .vj _::_,_,_,_,_,_,_,h,_,_,_,_,_,_=>h.elim
 | .boxal t lf::ps,d,vs,ns,ks,xs,B,⟨b,o,b',pc,vs',n1,n2,ks',h1,h2,h3,h4,h5,h6,h7,h8⟩,hlen,hp,hl,hk,hm,hf=>by
  subst h1;simp only[W3]at hf;split at hf
  .rename_i id y xs;split at hf
   .rename_i cs ho;split at hf
    .rename_i dd m l A g1 g2;injection hf with hf;subst hf;have hx:=((hp 0 _ _ rfl rfl).resolve_left (λe=>by cases e)).1;obtain⟨kf,ms,hO⟩:=WaW hg h ps d.2.2 vs' n2 ks' xs A h8 (by simpa using hlen) (λj y u hj hu=>hp (j+2) y u (by simpa using hj) (by simpa using hu)) (hl.mono λj hj=>Xg _ hj) (Xai.1 hk).2 (Xak.1 hm).2.1 g2;obtain⟨nn,e1,e2,e3,e4,e5⟩:=Whv (wb:=wb) (Gb:=Gb) hg h hx ho g1 (hl.mono λj hj=>Xk _ hj) hk hm hO;exact⟨_,nn++ms,⟨b,o,ks',kf,nn,ms,h3,rfl,rfl,e1,hO.outs⟩,e2,e3,e4,e5⟩
    .cases hf
   .cases hf
  .cases hf
 | .mut e::ps,d,vs,ns,ks,xs,B,⟨pc,vs',n2,ks',h1,h2,h3,h4,h5⟩,hlen,hp,hl,hk,hm,hf=>by
  subst h1;simp only[W3]at hf;split at hf
  .rename_i id xs;split at hf
   .rename_i e' ys ho;split at hf
    .rename_i dd A g1 g2;injection hf with hf;subst hf;obtain⟨c7,hd⟩:=Wax g1;subst c7;simp only at hd;subst hd;obtain⟨⟨_,hx⟩,_⟩:=(hp 0 _ _ rfl rfl).resolve_left (λe=>by cases e);have aw:Live objs id:=⟨_,ho,by simp⟩;have hown:OwnL w (TyRel G w e') e'.size (ν id) ys (φ id):=h.ob _ _ ho;have hown':=Wc0 hg (Same.refl _ w) (λ_ _ hh=>hh) hown;obtain⟨k1,k2⟩:=Xai.1 hk;obtain⟨kf,ms,hO⟩:=WaW hg h ps d.2 vs' n2 ks' xs A h5 (by simpa using hlen) (λj y u hj hu=>hp (j+1) y u (by simpa using hj) (by simpa using hu)) hl k2 hm g2;refine⟨φ id::kf,ms,⟨⟨pc.nu,φ id⟩,ks',kf,h3,rfl,Wo1 h4 hown' hx,hO.outs⟩,?_,hO.sepm,λS hS=>?_,hO.ms⟩
     .exact Ww6 h (k1:=[φ id]) (m:=[id]) (Xbd _ _) hO.sepk (λS hS=>by rw[Xz.1 hS];exact FromL.one (by simp) aw) hO.kf (λi hi hj=>k1 (by rw[←Xz.1 hi];exact hj))
     .rcases Xo.1 hS with rfl|hS
      .exact FromL.one (Xi ..) aw
      .exactλb o hh=>FromL.mono (λi hi=>Xe _ hi) b o (hO.kf S hS b o hh)
    .cases hf
   .cases hf
  .cases hf
 | .clos g n::ps,d,vs,ns,ks,xs,B,⟨cvs,vs',h1,h2,h3,h4⟩,hlen,hp,hl,hk,hm,hf=>by
  subst h1;simp only[W3]at hf;split at hf
  .rename_i g' caps xs;split at hf
   .rename_i hc;obtain⟨rfl,hcl⟩:=hc;cases hA:W3 ps (WjD caps++xs) objs with
    |none=>simp[hA]at hf
    |some A=>
     simp[hA]at hf;subst hf;obtain⟨⟨us,qR,ub,xo⟩,_⟩:=(hp 0 _ _ rfl rfl).resolve_left (λe=>by cases e);have jE:us=cvs:=by
      injection qR with _ _ qR;have:=congrArg Array.toList qR;simpa using this.symm
     subst jE;obtain⟨kf,ms,hO⟩:=WaW hg h ps d (us++vs') ns ks (WjD caps++xs) A h4 (by simp[WjD,ub];simpa using hlen) (λj y u hj hu=>by
      rw[Xaz]at hj hu;simp only[WjD,List.length_map]at hj;rw[ub]at hu;split at hj
      .rename_i hlt;rw[if_pos hlt]at hu;rw[Xal]at hj;obtain⟨id,bA,rfl⟩:=Xx.1 hj;obtain⟨q1,q3,q2⟩:=xo _ id u bA hu;exact .inr ⟨⟨q1,q2⟩,q3⟩
      .rename_i hlt;rw[if_neg hlt]at hu;exact hp (j-caps.length+1) y u (by simpa using hj) (by simpa using hu)) hl hk hm hA
     exact⟨kf,ms,hO.outs,hO.sepk,hO.sepm,hO.kf,hO.ms⟩
   .cases hf
  .cases hf
 | .kv t agg::ps,d,vs,ns,ks,xs,B,⟨v,vs',n1,n2,ks',h1,h2,jd,h3,h4⟩,hlen,hp,hl,hk,hm,hf=>by
  subst h1;simp only[W3]at hf;split at hf
  .rename_i x xs;split at hf
   .rename_i dd m l A g1 g2;split at hf
    .rename_i gE;injection hf with hf;subst hf;cases hc:cellsOf agg x with
     |none=>simp[hc]at g1
     |some cs=>
      simp[hc]at g1;obtain⟨k1,k2,k3⟩:=Xak.1 hk;have hx:=(hp 0 _ _ rfl rfl).resolve_left (λe=>by subst e;cases hc);have aT:Lent G' w φ objs l:=hl.mono λj hj=>Xk _ hj;obtain⟨_,_,_,_,q4,_⟩:=Wki h hg hx aT k1 hc g1;obtain⟨v1,_⟩:=WmZ h hg hx aT hc g1 gE;obtain⟨us,n3,r1,r2,r3⟩:=WsU h3 v1;obtain⟨kf,ms,hO⟩:=WaW hg h ps d.2 vs' n2 ks' xs A h4 (by simpa using hlen) (λj y u hj hu=>hp (j+1) y u (by simpa using hj) (by simpa using hu)) (hl.mono λj hj=>Xg _ hj) k2 hm g2;have gp:∀S∈fps n3,CS.le S (FromL φ objs m):=λS hS=>by
       rw[r3,WnI]at hS;obtain⟨i,hi,rfl⟩:=Xv.1 hS;exact FromL.one hi (q4 i hi)
      have gs:Sep (fps n3):=by
       rw[r3,WnI];refine List.pairwise_map.2 (k1.imp_of_mem λ{i j} hi hj hne=>?_)
       exactλb o h1 h2=>hne (h.inj i j b o (q4 i hi) (q4 j hj) h1 h2)
      refine⟨fps n3++kf,ms,⟨n3,ks',kf,us,by rw[jd,r2],rfl,r1,hO.outs⟩,Ww6 h gs hO.sepk gp hO.kf (λi hi hj=>k3 i hi i hj rfl),hO.sepm,λS hS=>?_,hO.ms⟩;rcases Xm.1 hS with hS|hS
      .exactλb o hh=>FromL.mono (λi hi=>Xk _ hi) b o (gp S hS b o hh)
      .exactλb o hh=>FromL.mono (λi hi=>Xg _ hi) b o (hO.kf S hS b o hh)
    .cases hf
   .cases hf
  .cases hf
end
end Go.Sx
namespace Go.Sx
set_option linter.unusedVariables false
set_option linter.unusedSimpArgs false
section
variable{P:Program}{T:Tab}{Γ:Ctx}
theorem WtJ{sg:Sig}{d:Wfr sg.ps}{G:GH}{w:World}{vs:List Value}{ns:List Pc}{ks:List Nu}{n:Nat}(hn:WbW sg.ps<=n)(eK:Wcp sg.ps=true)(hargs:Wbp G w sg.ps d vs ns ks)(hsep:Sep (fps ns))
  (hfree:∀q∈ns,∀b off,q.fp b off->G b off=none/\b<w.heap.size) (hg:∀b o v,G b o=some v->w.cell? ⟨b,o,none⟩=some v):
  ∃ν,Rel w (Of ns) ⟨n,WE sg.ps 0 0 vs⟩ G G ν {env:=WgT 0 (WM sg.ps d [] 0).1,objs:=(WM sg.ps d [] 0).2.1,nx:=(WM sg.ps d [] 0).2.2}
   {tmps:=vs.toArray++Xef (n-vs.toArray.size) undef,defers:=[]} w:=by
 obtain⟨ν,hν⟩:∃ν:Nat->Nu,ν= λi=>((nus ns)[i]?).getD ⟨none,0,0,0,0⟩:=⟨_,rfl⟩;obtain⟨φ,hφ⟩:∃φ:Nat->CS,φ= λi=>((fps ns)[i]?).getD (λ_ _=>False):=⟨_,rfl⟩;have hAt:At ν φ 0 ns:=λj pc hj=>by
  have e1:(nus ns)[j]?=some pc.nu:=by unfold nus;rw[Xal,hj];rfl
  have e2:(fps ns)[j]?=some pc.fp:=by unfold fps;rw[Xal,hj];rfl
  rw[hν,hφ];simp only[Xbc,e1,e2];exact⟨rfl,rfl⟩
 obtain⟨h1,h2,h3,h4⟩:=Wcu (ν:=ν) (φ:=φ) sg.ps d vs ns ks [] 0 (0+ns.length) eK hargs hAt (Xn _);have tO:=Wda _ _ _ _ _ hargs;have cz:∀id,Live (WM sg.ps d [] 0).2.1 id->id<ns.length:=λid ⟨ob,ho,_⟩=>by
  rcases h2 id ob ho with⟨_,h,_⟩|h
  .simpa using h
  .cases h
 have an:∀id b o,φ id b o->∃q,ns[id]?=some q/\(fps ns)[id]?=some q.fp/\q.fp b o:=λid b o hp=>by
  rw[hφ]at hp
  try simp only at hp
  cases hq:ns[id]? with
  |none=>
   have:(fps ns)[id]?=none:=by unfold fps;rw[Xal,hq];rfl
   rw[this]at hp;exact hp.elim
  |some q=>
   have:(fps ns)[id]?=some q.fp:=by unfold fps;rw[Xal,hq];rfl
   rw[this]at hp;exact⟨q,rfl,this,hp⟩
 have xp:∀(i:Nat) (v:Value),vs[i]?=some v->(vs.toArray++Xef (n-vs.toArray.size) undef)[i]?=some v:=λi v hi=>by
  have hlt:=(Xt.1 hi).1;rw[Array.getElem?_append_left (by simpa using hlt)];simpa using hi
 refine⟨ν,rfl,by simp;omega,λp hp=>?_,λi x hx=>?_,⟨φ,?_⟩,λ_ _ _ hh=>hh,λ_ _ _ hh=>.inl hh⟩
 .obtain⟨_,g2⟩:=WJ _ _ _ _ p hp;exact xp _ _ (by simpa using g2)
 .simp only at hx;rw[Whw]at hx;simp only[Xbk,if_true,Xdc]at hx;have hlt:=(Xt.1 hx).1;rw[h3]at hlt;have hv:=Xs hlt;refine⟨_,xp i _ hv,?_⟩;have:=h4 i x _ hx hv;simp only[h1];exact this
 .exact{
   g:=hg
   ob:=λid ob ho=>by
    rcases h2 id ob ho with⟨_,_,h⟩|h
    .simp only[h1];exact h
    .cases h
   gf:=λid b o hl hp=>by
    obtain⟨q,g1,_,g2⟩:=an id b o hp;exact(hfree q (Xax g1) b o g2).1
   inj:=λid bI b o hl bH hp cR=>by
    obtain⟨q,_,g1,g2⟩:=an id b o hp;obtain⟨q',_,za,zb⟩:=an bI b o cR;exact Wk2 hsep g1 za g2 zb
   own:=λid b o hl hp=>by
    obtain⟨q,g1,_,g2⟩:=an id b o hp;exact .inr ⟨q,Xax g1,g2⟩
   lt:=λid hl=>by simp only[h1];have:=cz id hl;omega
   bl:=λid b o hl hp=>by
    obtain⟨q,g1,_,g2⟩:=an id b o hp;exact(hfree q (Xax g1) b o g2).2
   le:=WLe.refl _ w}
theorem Wro(hT:Wan P T){f:Func}{sg:Sig}{d:Wfr sg.ps}{G:GH}{w:World}{vs:List Value}{ns:List Pc}{ks:List Nu}{n:Nat}(eK:Wcp sg.ps=true)(hargs:Wbp G w sg.ps d vs ns ks)
  {st:St} {a:Act} {w':World} {G1:GH} {ν:Nat->Nu} (hr:Rel w (Of ns) ⟨n,WE sg.ps 0 0 vs⟩ G G1 ν st a w') {xs:List AVal} (hx:WeE T st f.results.toList=some xs)
  {A:Outs (WgS sg.rs)} (hA:Wa7 sg.rs xs st.objs=some A) {B:OutK (WfY sg.ps)} (hB:W3 sg.ps (Ws sg.ps 0 0 st) st.objs=some B)
  (aP:Wbz (B.kept++(B.moved++A.moved))=true) (lU:WgY (A.lent++B.lent) (B.kept++(B.moved++A.moved))=true):
  ∃rv kf ms cD G',(results f a.tmps).run P w'= .ok (Wif rv) w'/\After sg (B.d,A.d) G w ns ks rv kf ms cD G' w':=by
 have aP:=(WeV _).1 aP;have lU:=Wl9 lU;obtain⟨φ,hφ⟩:=hr.h;have vr:=hφ.addG_le (A.lent++B.lent);have ud:=hφ.addG_w (A.lent++B.lent);have m7:Lent (WqN G1 w' (FromL φ st.objs (A.lent++B.lent))) w' φ st.objs (A.lent++B.lent):=λid bA hl=>(Wil _).mono (FromL.one bA hl);obtain⟨k1,k2,k3⟩:=Xak.1 aP;obtain⟨k4,k5,k6⟩:=Xak.1 k2;obtain⟨rv,vt,vu,vx⟩:=WkV hT hr _ xs hx;obtain⟨cD,q1,q2,q3,q4⟩:=WdH hφ vr sg.rs xs rv A vu vx (m7.mono λi hi=>Xk _ hi) k5 hA;obtain⟨hsl,cN⟩:=WaF hr sg.ps d vs ns ks 0 0 hargs eK (by cases sg.ps<;>rfl) (Xbk _) (by simpa using hr.par);obtain⟨kf,ms,hO⟩:=WaW vr hφ sg.ps d vs ns ks _ B hargs hsl (λj x v hj hv=>cN j x v hj (by simpa using hv)) (m7.mono λi hi=>Xg _ hi) k1 k4 hB;have fw:∀S∈kf++fps (ms++cD),CS.le S (FromL φ st.objs (B.kept++(B.moved++A.moved))):=λS hS=>by
  rcases Xm.1 hS with hS|hS
  .exactλb o hh=>FromL.mono (λi hi=>Xk _ hi) b o (hO.kf S hS b o hh)
  .obtain⟨q,hq,rfl⟩:=Xv.1 hS;rcases Xm.1 hq with hq|hq
   .exactλb o hh=>FromL.mono (λi hi=>Xg _ (Xk _ hi)) b o (hO.ms q hq b o hh)
   .exactλb o hh=>FromL.mono (λi hi=>Xg _ (Xg _ hi)) b o (q3 q hq b o hh)
 refine⟨rv,kf,ms,cD,WqN G1 w' (FromL φ st.objs (A.lent++B.lent)),?_,?_⟩
 .show(do let vs←f.results.mapM (Wnn a.tmps);pure (if h:vs.size=1 then vs[0]else .tuple vs):Sem Value).run P w'=_;have jj:(f.results.mapM (Wnn a.tmps)).run P w'= .ok rv.toArray w':=by
   rw[Array.mapM_eq_mapM_toList,Sem.run_map,vt];rfl
  rw[Sem.run_bind,jj];simp only[Result.andThen_ok,Sem.run_pure];congr 1;unfold Wif
  match rv with
  | []=>rfl
  | [v]=>rfl
  |u::v::l=>simp
 .exact{
   res:=q1
   outs:=hO.outs
   sep:=by
    refine Ww6 hφ hO.sepk (Wcl hφ hO.sepm q2 hO.ms q3 (λi hi hj=>k6 i hi i hj rfl)) hO.kf (l:=B.moved++A.moved) (λS hS=>?_) (λi hi hj=>k3 i hi i hj rfl);obtain⟨q,hq,rfl⟩:=Xv.1 hS;rcases Xm.1 hq with hq|hq
    .exactλb o hh=>FromL.mono (λi hi=>Xk _ hi) b o (hO.ms q hq b o hh)
    .exactλb o hh=>FromL.mono (λi hi=>Xg _ hi) b o (q3 q hq b o hh)
   own:=λS hS b off hh=>by
    obtain⟨i,hi,h1,h2⟩:=fw S hS b off hh;refine⟨?_,(hφ.own i b off h1 h2).symm,hφ.bl i b off h1 h2⟩;rw[Wdd (λ⟨j,hj,h3,h4⟩=>by
     have:=hφ.inj i j b off h1 h3 h2 h4;subst this;exact lU _ hj hi)]
    exact hφ.gf i b off h1 h2
   gx:=by
    refine⟨λb o v hv=>vr b o v (hr.gx.le b o v hv),λb off v hv=>?_⟩;by_cases hb:FromL φ st.objs (A.lent++B.lent) b off
    .obtain⟨j,hj,h1,h2⟩:=hb;exact .inr (hφ.own j b off h1 h2)
    .rw[Wdd hb]at hv;exact hr.gx.new b off v hv
   g:=ud
   le:=hφ.le}
theorem WvN(hM:P.follows .mixedOrders=true)(hT:Wan P T)(hΓ:Wfg P Γ){f:Func}{k:FuncId}{c:Code}(hf:P.funcs[k]?=some f)(hb:f.body=some c){sg:Sig}(aI:Wdu f.ntmps (Wed sg.ps 0 0) c=true)(eK:Wcp sg.ps=true)
  (hn:WbW sg.ps<=f.ntmps) {ann:Nat->List Ghost} (h:∀d o,sg.run d=some o->∃N,den T Γ ann N sg f d some=some o):Good P k sg:=by
 intro d o hrun G w vs ns ks hargs hsep hfree hg;obtain⟨N,ip⟩:=h d o hrun;unfold den at ip;simp only[hb]at ip;obtain⟨ν,mc⟩:=WtJ hn eK hargs hsep hfree hg;split at ip
 case h_2=>cases ip
 rename_i c' b st0 ia zc;injection ia with ia;subst ia;obtain⟨rfl,ip⟩:=WaO ip;obtain⟨G0',ν0',hr⟩:=Wdv _ _ _ _ _ mc zc;refine calls_of_wp hf hb ?_
 suffices hk:∀e,Wr9 w (Of ns) ⟨f.ntmps,WE sg.ps 0 0 vs⟩ G (Wxp T sg f.results.toList some e) o (bodyPost P f (λe w'=>∃rv kf ms cD G',e= .returned (Wif rv)/\After sg o G w ns ks rv kf ms cD G' w') e.to)from
  Wnv (nt:=⟨f.ntmps,WE sg.ps 0 0 vs⟩) hM hT hΓ (n:=f.ntmps) rfl (WR sg.ps 0 0 vs) c aI hk _ _ _ _ _ hr ip
 intro e st a w' G1 ν1 jJ hk;have fe:(∃xs,WeE T st f.results.toList=some xs/\∃A B,Wa7 sg.rs xs st.objs=some A/\W3 sg.ps (Ws sg.ps 0 0 st) st.objs=some B/\Wbz (B.kept++(B.moved++A.moved))=true/\WgY (A.lent++B.lent) (B.kept++(B.moved++A.moved))=true/\(B.d,A.d)=o)->
   a.defers= []/\∃v,(results f a.tmps).run P w'= .ok v w'/\∃rv kf ms cD G',Ending.returned v= .returned (Wif rv)/\After sg o G w ns ks rv kf ms cD G' w':=by
  rintro⟨xs,hx,A,B,hA,hB,h1,h2,rfl⟩;obtain⟨rv,kf,ms,cD,G',h3,h4⟩:=Wro hT (f:=f) eK hargs jJ hx hA hB h1 h2;exact⟨jJ.defers,_,h3,rv,kf,ms,cD,G',rfl,h4⟩
 have oo:(match WeE T st f.results.toList with
   |some xs=>match Wa7 sg.rs xs st.objs,W3 sg.ps (Ws sg.ps 0 0 st) st.objs with
    |some A,some B=>if Wbz (B.kept++(B.moved++A.moved))&&WgY (A.lent++B.lent) (B.kept++(B.moved++A.moved))then some (B.d,A.d)else none
    |_,_=>none
   |none=>none)=some o->(∃xs,WeE T st f.results.toList=some xs/\∃A B,Wa7 sg.rs xs st.objs=some A/\W3 sg.ps (Ws sg.ps 0 0 st) st.objs=some B/\Wbz (B.kept++(B.moved++A.moved))=true/\WgY (A.lent++B.lent) (B.kept++(B.moved++A.moved))=true/\(B.d,A.d)=o):=λhk=>by
  split at hk
  .rename_i xs hx;split at hk
   .rename_i A B hA hB;obtain⟨hc,hk⟩:=WbQ hk;simp only[Xh]at hc;injection hk with hk;exact⟨xs,hx,A,B,hA,hB,hc.1,hc.2,hk⟩
   .cases hk
  .cases hk
 cases e with
 |normal=>exact fe (oo hk)
 |ret=>exact fe (oo hk)
 |exit id=>cases hk
end
end Go.Sx
namespace Go.Sx
set_option linter.unusedVariables false
set_option linter.unusedSimpArgs false
def zv1:Value->Value->Bool
 | .int k n,.int k' n'=>decide (k=k')&&decide (n=n')
 | .bool b,.bool b'=>b==b'
 | .string s,.string s'=>match s.data.toList,s'.data.toList with
  | [],[]=>true
  |_,_=>false
 | .slice none 0 0,.slice none 0 0=>true
 | .pointer none,.pointer none=>true
 |_,_=>false
theorem WtC(x y:Value)(h:zv1 x y=true):x=y:=by
 unfold zv1 at h;split at h
 .simp only[Xh,decide_eq_true_eq]at h;obtain⟨rfl,rfl⟩:=h;rfl
 .have:=eq_of_beq h;subst this;rfl
 .rename_i s s';split at h
  .rename_i e1 e2;have:s=s':=by
    cases s with|mk a=>cases s' with|mk b=>
    congr 1;apply Array.ext';simp only at e1 e2;rw[e1,e2]
   rw[this]
  .cases h
 .rfl
 .rfl
 .cases h
def Ww1:List Value->List Value->Bool
 | [],[]=>true
 |x::l,y::m=>zv1 x y&&Ww1 l m
 |_,_=>false
theorem WlM:∀(l m:List Value),Ww1 l m=true->l=m
 | [],[],_=>rfl
 | [],_::_,h=>by cases h
 |_::_,[],h=>by cases h
 |x::l,y::m,h=>by
  simp only[Ww1,Xh]at h;rw[WtC x y h.1,WlM l m h.2]
def Wgj:List Field->List (Nat×TypeId)->Bool
 | [],[]=>true
 |f::l,p::m=>Xbt f.offset p.1&&Xbt f.type p.2&&(f.name != "_")&&Wgj l m
 |_,_=>false
def WqS(P:Program)(T:Tab)(t:TypeId)(te:TE):Bool:=match te.shape with
 | .basic=>!te.agg&&(match te.ty with
  | .int k=>match P.underlying t with|some (.int k')=>decide (k'=k)|_=>false
  | .bool=>match P.underlying t with|some .bool=>true|_=>false
  | .str=>match P.underlying t with|some .string=>true|_=>false
  |_=>false)
 | .slice e=>!te.agg&&(match P.underlying t with|some (.slice e')=>Xbt e' e|_=>false)&&(match look T e with|some dw=>decide (te.ty= .slice dw.ty)|none=>false)
 | .struct fs=>te.agg&&(match P.underlying t with|some (.struct fields)=>Wgj fields.toList fs|_=>false)&& !P.stoodInHeld t&& !P.eqGuardType P.depth t
 | .ptr e=>!te.agg&&(match P.underlying t with|some (.pointer e')=>Xbt e' e|_=>false)
 | .arr n e=>te.agg&&(match P.underlying t with|some (.array n' e')=>Xbt n' n&&Xbt e' e|_=>false)&&(match look T e with|some dw=>decide (dw.ty=te.ty)&&dw.plain|none=>false)
def WnM(P:Program)(t:TypeId)(te:TE):Bool:=match P.info? t with
 |some i=>match i.zero with
  |some z=>Xbt i.size te.size&&Ww1 z.cells.toList te.cells&&Nat.ble i.bytes 4096
  |none=>false
 |none=>false
def Wmb(P:Program)(T:Tab):Tab->Bool
 | []=>true
 |(t,te)::l=>WqS P T t te&&WnM P t te&&Wmb P T l
theorem Wfl:∀(l:List Field) (m:List (Nat×TypeId)),Wgj l m=true→l.map (λf=>(f.offset,f.type))=m∧∀f∈l,f.name≠ "_"
 | [],[],_=>⟨rfl,by simp⟩
 | [],_::_,h=>by cases h
 |_::_,[],h=>by cases h
 |f::l,p::m,h=>by
  simp only[Wgj,Xh,bne_iff_ne,ne_eq]at h;obtain⟨⟨⟨h1,h2⟩,h3⟩,h4⟩:=h;obtain⟨h5,h6⟩:=Wfl l m h4;have h1:f.offset=p.1:=by simpa using h1
  have h2:f.type=p.2:=by simpa using h2
  refine⟨by rw[Xaj,h5,h1,h2],λg hg=>?_⟩;rcases Xo.1 hg with hg|hg
  .subst hg;exact h3
  .exact h6 g hg
theorem Wn1{P:Program}{T:Tab}{t:TypeId}{te:TE}(h:WqS P T t te=true)(hi:WnM P t te=true):TEok P T t te:=by
 obtain⟨ty,agg,shape⟩:=te;refine⟨?_,?_⟩
 .unfold WqS at h;cases shape with
  |basic=>
   simp only[Xh,Xaq]at h⊢;refine⟨h.1,?_⟩;have h:=h.2;cases ty with
   |int k=>
    simp only at h⊢;split at h
    .rename_i k' hu;simp only[decide_eq_true_eq]at h;rw[hu,h]
    .cases h
   |bool=>
    simp only at h⊢;split at h
    .assumption
    .cases h
   |str=>
    simp only at h⊢;split at h
    .assumption
    .cases h
   |slice e=>cases h
   |own e=>cases h
   |prod a b=>cases h
  |slice e=>
   simp only[Xh,Xaq]at h⊢;obtain⟨⟨h1,h2⟩,h3⟩:=h;refine⟨h1,?_,?_⟩
   .split at h2
    .rename_i e' hu;rw[hu];have:e'=e:=by simpa using h2
     rw[this]
    .cases h2
   .split at h3
    .rename_i dw hl;exact⟨dw,hl,by simpa using h3⟩
    .cases h3
  |struct fs=>
   simp only[Xh,Xaq]at h⊢;obtain⟨⟨⟨h1,h2⟩,h3⟩,h4⟩:=h;refine⟨h1,?_⟩;split at h2
   .rename_i fields hu;obtain⟨h5,h6⟩:=Wfl _ _ h2;exact⟨fields,hu,h5,λf hf=>h6 f (by simpa using hf),h3,h4⟩
   .cases h2
  |ptr e=>
   simp only[Xh,Xaq]at h⊢;refine⟨h.1,?_⟩;have h:=h.2;split at h
   .rename_i e' hu;rw[hu];have:e'=e:=by simpa using h
    rw[this]
   .cases h
  |arr n e=>
   simp only[Xh]at h⊢;obtain⟨⟨h1,h2⟩,h3⟩:=h;refine⟨h1,?_,?_⟩
   .split at h2
    .rename_i n' e' hu;simp only[Xh]at h2;have e1:n'=n:=by simpa using h2.1
     have e2:e'=e:=by simpa using h2.2
     rw[hu,e1,e2]
    .cases h2
   .split at h3
    .rename_i dw hl;simp only[Xh,decide_eq_true_eq]at h3;refine⟨dw,hl,h3.1,λm f hs=>?_⟩;have:=h3.2;unfold TE.plain at this;rw[hs]at this;cases this
    .cases h3
 .unfold WnM at hi;split at hi
  .rename_i i jL;split at hi
   .rename_i z hz;simp only[Xh]at hi;obtain⟨⟨h1,h2⟩,h3⟩:=hi;exact⟨i,z,jL,by simpa using h1,hz,WlM _ _ h2,Xgd h3⟩
   .cases hi
  .cases hi
theorem WwM{P:Program}{T:Tab}(h:Wmb P T T=true):Wan P T:=by
 have key:∀l,Wmb P T l=true->∀t te,look l t=some te->TEok P T t te:=by
  intro l
  induction l with
  |nil=>intro _ t te hl;cases hl
  |cons p l ih=>
   intro hc t te hl;obtain⟨t',dw⟩:=p;simp only[Wmb,Xh]at hc;rw[WD]at hl;split at hl
   .rename_i e;subst e;injection hl with hl;subst hl;exact Wn1 hc.1.1 hc.1.2
   .exact ih hc.2 t te hl
 exact key T h
theorem Wa{P:Program}:Wfg P []:=λk sg h=>by cases h
theorem WuB{P:Program}{Γ:Ctx}{k:FuncId}{sg:Sig}(hg:Good P k sg)(hc:Wgy P k)(h:Wfg P Γ):Wfg P ((k,sg)::Γ):=λk' zd hl=>by
 simp only[look]at hl;split at hl
 .rename_i e;have:k=k':=by simpa using e
  subst this;injection hl with hl;subst hl;exact⟨hg,hc⟩
 .exact h k' zd hl
def Wqt(f:Func):Bool:=f.body.isSome&& !(f.name== "runtime.NumGoroutine")
theorem WdK{P:Program}{k:FuncId}{f:Func}(hf:P.funcs[k]?=some f)(h:Wqt f=true):Wgy P k:=by
 simp only[Wqt,Xh,Xaq]at h;refine⟨f,hf,?_,h.2⟩;cases hb:f.body with
 |none=>rw[hb]at h;cases h.1
 |some c=>rfl
def Woh(f:Func)(ps:List PTy):Bool:=match f.body with
 |some c=>Wdu f.ntmps (Wed ps 0 0) c&&Nat.ble (WbW ps) f.ntmps&&Wcp ps
 |none=>false
theorem WsM{P:Program}{T:Tab}{Γ:Ctx}(hM:P.follows .mixedOrders=true)(hT:Wan P T)(hΓ:Wfg P Γ){f:Func}{k:FuncId}(hf:P.funcs[k]?=some f){sg:Sig}(aI:Woh f sg.ps=true){ann:Nat->List Ghost}
  (h:∀d o,sg.run d=some o->∃N,den T Γ ann N sg f d some=some o):Good P k sg:=by
 unfold Woh at aI;split at aI
 .rename_i c hb;simp only[Xh]at aI;exact WvN hM hT hΓ hf hb aI.1.1 aI.2 (Xgd aI.1.2) h
 .cases aI
end Go.Sx
namespace Go.Sx
def WfW:Code->List Code
 | .seq a b=>WfW a++WfW b
 | .cond _ a b=>WfW a++WfW b
 | .block _ c=>WfW c
 | .loop c=>c::WfW c
 |_=>[]
def Wrh(f:Func):Code:=match f.body with
 |some c=>c
 |none=>.skip
def WsS(f:Func)(i:Nat):Code:=(WfW (Wrh f)).getD i .skip
noncomputable def Wv4{R:Type}(T:Tab)(Γ:Ctx)(ann:Nat->List Ghost)(N:Nat):Code->List Nat->(Ex->St->Option R)->Ex->St->Option R
 | .seq a b,p,k=>match p with
  |0::p=>Wv4 T Γ ann N a p λe ae=>match e with
   | .normal=>sx T Γ ann N b ae k
   | .exit id=>k (.exit id) ae
   | .ret=>k .ret ae
  |_::p=>Wv4 T Γ ann N b p k
  | []=>k
 | .cond _ x y,p,k=>match p with
  |0::p=>Wv4 T Γ ann N x p k
  |_::p=>Wv4 T Γ ann N y p k
  | []=>k
 | .block id c,p,k=>match p with
  |_::p=>Wv4 T Γ ann N c p λe ae=>match e with
   | .exit bI=>if bI=id then k .normal ae else k (.exit bI) ae
   | .normal=>k .normal ae
   | .ret=>k .ret ae
  | []=>k
 |_,_,k=>k
def Wxo{R:Type}(gs:List Ghost)(L:St->(Ex->St->Option R)->Option R)(K:Ex->St->Option R):Ex->St->Option R:=λe st=>match e with
 | .normal=>match Weh gs st with
  |some (c,ae)=>bif c then L ae K else none
  |none=>none
 | .exit id=>K (.exit id) st
 | .ret=>K .ret st
abbrev vI(x:Int):AVal:=.s (.one (.val (.int .i64) x))
abbrev vB(x:Bool):AVal:=.s (.one (.val .bool x))
abbrev vV(t:Ty)(x:t.den):AVal:=.s (.one (.val t x))
abbrev vO(i:Nat):AVal:=.s (.one (.own i))
abbrev vP(i o:Nat):AVal:=.s (.one (.ptr i o))
abbrev Qs(s:Sig):=WfY s.ps×WgS s.rs
structure Fn where
 F:Func
 a:Nat->List Ghost
 s:Nat->Sig
 c:Nat->Ctx
def WF:Nat->List Ghost:=λ_=>[]
def Wbh:Nat->Ctx:=λ_=>[]
noncomputable def lpM{R:Type}(T:Tab)(Γ:Ctx)(ann:Nat->List Ghost)(N:Nat)(F:Func)(i k n:Nat)(st:St)(K:Ex->St->Option R):Option R:=Wnx (Wka (ann k) λst k=>sx T Γ ann N (WsS F i) st k) n st K
noncomputable def cxF(T:Tab)(Γ:Ctx)(ann:Nat->List Ghost)(N:Nat)(sg:Sig)(F:Func)(p:List Nat):Ex->St->Option (Qs sg):=Wv4 (R:=Qs sg) T Γ ann N (Wrh F) p (Wxp T sg F.results.toList some)
noncomputable def cxL{R:Type}(T:Tab)(Γ:Ctx)(ann:Nat->List Ghost)(N:Nat)(F:Func)(i k:Nat)(p:List Nat)(n:Nat)(K:Ex->St->Option R):Ex->St->Option R:=Wv4 T Γ ann N (WsS F i) p (Wxo (ann k) (lpM T Γ ann N F i k n) K)
end Go.Sx
namespace Go.Sx
open Go.ChangeShapes Go.WideShapes Go.ChangeAt Go.RowKit
set_option linter.unusedVariables false
set_option linter.unusedSimpArgs false
def Wfd:(t:Ty)->t.den->Prop
 | .int k,n=>(Lit.int k n).wf=true
 | .bool,_=>True
 | .str,s=>Xa s<=maxLen
 | .slice e,l=>Xa l<=maxLen/\∀x,List.Mem x l->Wfd e x
 | .own _,_=>False
 | .prod a b,d=>Wfd a d.1/\Wfd b d.2
def Wgv:(t:Ty)->t.den->Nat
 | .int _,_=>1
 | .bool,_=>1
 | .str,s=>Xa s+1
 | .slice e,l=>(List.map (Wgv e) l).sum+1
 | .own _,_=>0
 | .prod a b,d=>Wgv a d.1+Wgv b d.2
structure Bulk{H:Type}(β:DataW H->Nat):Prop where
 lit:∀l,1<=β (.lit l)
 str:∀s,s.length+1<=β (.lit (.string s))
 nil:1<=β .nil
 slice:∀es sp,(es.map β).sum+1<=β (.slice es sp)
 agg:∀ps,(ps.map β).sum<=β (.agg ps)
def Wjo(T:Tab):List (Nat×TypeId)->Nat->Option (List Ty)
 | [],_=>some []
 |(o,ft)::fs,off=>match look T ft with
  |some te=>bif Xbt o off&&te.plain then(Wjo T fs (off+te.ty.size)).map (te.ty:: ·)else none
  |none=>none
def Wec:List Ty->Ty
 | []=>.bool
 | [t]=>t
 |t::ts=>.prod t (Wec ts)
def Wnz(T:Tab):Nat->TypeId->Bool
 |0,_=>false
 |n+1,t=>match look T t with
  |some te=>match te.shape with
   | .basic=>match te.ty with
    | .int _=>true
    | .bool=>true
    | .str=>true
    | .slice _=>false
    | .own _=>false
    | .prod _ _=>false
   | .slice e=>Wnz T n e&&(match look T e with|some dw=>dw.plain|none=>false)
   | .struct fs=>fs.all (λf=>Wnz T n f.2)&&(match Wjo T fs 0 with
    |some (t::ts)=>decide (te.ty=Wec (t::ts))
    |_=>false)
   | .ptr _=>false
   | .arr _ _=>false
  |none=>false
section
variable{P:Program}{T:Tab}{H:Type}{enc:TypeId×Value->H}{β:DataW H->Nat}{w:World}
theorem Wg1{t:TypeId}{te:TE}(h:TEok P T t te):P.cellsOf t=te.size:=by
 obtain⟨i,z,hi,hs,_⟩:=h.info;unfold Program.cellsOf;rw[hi];exact hs
def WiG(w:World):GH:=λb o=>w.cell? ⟨b,o,none⟩
theorem WqP{b:Nat}{a:Addr}{n:Nat}{cs:List Value}(h:w.cells? b a n=some cs):cs.length=n/\∀(j:Nat) (v:Value),cs[j]?=some v->w.cell? (a.add j)=some v:=by
 unfold World.cells? at h;split at h
 .refine⟨by simpa using mapM_some_length h,λj v hj=>?_⟩;have hlt:j<n:=by
   have:=mapM_some_length h;have h2:=(Xt.1 hj).1;simp at this;omega
  have:=mapM_some_get h j j (by simp[hlt]);rw[this];exact hj
 .cases h
theorem Wpy{e:Ty}{a:Addr}(n:Nat)(hn:0<n):∀(k:Nat) (i0:Nat) (el:Nat->Option (DataW H×List MemPlace)) (f:List Value->Option (DataW H×List MemPlace)),
  (∀cs y,f cs=some y->∃d:e.den,Enc (WiG w) e d cs/\Wfd e d/\Wgv e d<=β y.1)->
  (∀i,i0<=i->i<i0+k->∃y cs,w.cells? 0 (a.add (i*n)) n=some cs/\f cs=some y/\el i=some y)->
  ∃(l:List e.den) (cs:List Value),l.length=k/\EncL (Enc (WiG w) e) l cs/\(∀x∈l,Wfd e x)/\(∀(j:Nat) (v:Value),cs[j]?=some v->w.cell? (a.add (i0*n+j))=some v)/\
   cs.length=k*n/\(l.map (Wgv e)).sum<=((Xdi k).map λi=>match el (i0+i)with|some y=>β y.1|none=>0).sum
 |0,i0,el,f,hf,he=>⟨[],[],rfl,rfl,by simp,by simp,by simp,by simp⟩
 |k+1,i0,el,f,hf,he=>by
  obtain⟨y,c1,h1,h2,h3⟩:=he i0 (Xn _) (by omega);obtain⟨d,ze,lW,hd3⟩:=hf _ _ h2;obtain⟨l,cs,g1,g2,g3,g4,g5,g6⟩:=Wpy n hn k (i0+1) el f hf (λi md me=>he i (by omega) (by omega));obtain⟨hl,hg⟩:=WqP h1;refine⟨d::l,c1++cs,by simp[g1],⟨c1,cs,rfl,ze,g2⟩,λx hx=>?_,λj v hj=>?_,?_,?_⟩
  .rcases Xo.1 hx with rfl|hx
   .exact lW
   .exact g3 x hx
  .rw[Xaz]at hj;split at hj
   .have:=hg j v hj;rw[Addr.add_add]at this;exact this
   .rename_i hlt;have:=g4 _ v hj;rw[hl]at this hlt;have e:(i0+1)*n+(j-n)=i0*n+j:=by rw[Xcx];omega
    rw[e]at this;exact this
  .rw[Xaa,hl,g5,Xcx];omega
  .rw[List.range_succ_eq_map,Xaj,Xaj,Xca,Xca,Xeh];simp only[Xau,h3];have:((λi=>match el (i0+i)with|some y=>β y.1|none=>0)∘Nat.succ)= λi=>match el (i0+1+i)with|some y=>β y.1|none=>0:=by
    funext i;simp only[Function.comp,Nat.succ_eq_add_one];rw[show i0+(i+1)=i0+1+i by omega]
   rw[this];omega
theorem Wvl{β':DataW H×List MemPlace->Nat}(xs:List (DataW H×List MemPlace)):((Xdi xs.length).map λi=>match xs[0+i]? with|some y=>β' y|none=>0).sum=(xs.map β').sum:=by
 congr 1;apply List.ext_getElem
 .simp
 .intro i h1 h2;simp at h1;simp[h1]
theorem Woe{t:Ty}{ts:List Ty}(h:ts≠ []):Wec (t::ts)= .prod t (Wec ts):=by
 cases ts with
 |nil=>exact absurd rfl h
 |cons _ _=>rfl
theorem WjU(hT:Wan P T)(hβ:Bulk β)(f:TypeId->List Value->Option (DataW H×List MemPlace)){cs:List Value}:∀(fs:List (Nat×TypeId)) (off:Nat) (ts:List Ty) (ys:List (DataW H×List MemPlace)),ts≠ []->Wjo T fs off=some ts->
  (∀fd∈fs,∀te cs y,look T fd.2=some te->f fd.2 cs=some y->∃d:te.ty.den,Enc (WiG w) te.ty d cs/\Wfd te.ty d/\Wgv te.ty d<=β y.1)->
  ys.length=fs.length->(∀(i:Nat) (fd:Nat×TypeId),fs[i]?=some fd->f fd.2 ((cs.drop fd.1).take (P.cellsOf fd.2))=ys[i]?)->cs.length=off+(Wec ts).size->
  ∃d:(Wec ts).den,Enc (WiG w) (Wec ts) d (cs.drop off)/\Wfd (Wec ts) d/\Wgv (Wec ts) d<=(ys.map λy=>β y.1).sum
 | [],off,ts,ys,hne,iN,_,_,_,_=>by injection iN with iN;exact absurd iN.symm hne
 |(o,ft)::fs,off,ts,ys,hne,iN,hf,hlen,xq,bn=>by
  cases ys with
  |nil=>simp at hlen
  |cons y ys=>
   simp only[Wjo]at iN;split at iN
   .rename_i te hl;obtain⟨hc,iN⟩:=WaO iN;simp only[Xh]at hc;have ho:o=off:=by simpa using hc.1
    obtain⟨xr,dU,rfl⟩:=Xx.1 iN;have hsz:P.cellsOf ft=te.ty.size:=by rw[Wg1 (hT _ _ hl),W1 hc.2]
    have h0:=xq 0 (o,ft) rfl;simp only[Xdq,hsz,ho]at h0;obtain⟨d1,e1,e2,e3⟩:=hf (o,ft) (Xi ..) te _ y hl h0;cases di:fs with
    |nil=>
     subst di;simp only[Wjo]at dU;injection dU with dU;subst dU;have vy:ys= []:=by cases ys with
      |nil=>rfl
      |cons _ _=>simp at hlen
     subst vy;have kG:(cs.drop off).take te.ty.size=cs.drop off:=Xcz (by rw[List.length_drop,bn];simp[Wec]);rw[kG]at e1;exact⟨d1,e1,e2,by rw[Xaj,Xck,Xca,List.sum_nil,Xau];exact e3⟩
    |cons g gs=>
     have sm:xr≠ []:=by
      rw[di]at dU;obtain⟨o2,ft2⟩:=g;simp only[Wjo]at dU;split at dU
      .obtain⟨_,dU⟩:=WaO dU;obtain⟨x,_,rfl⟩:=Xx.1 dU;simp
      .cases dU
     have xt:=Woe (t:=te.ty) sm;obtain⟨d2,f1,f2,f3⟩:=WjU hT hβ f (cs:=cs) fs (off+te.ty.size) xr ys sm dU (λfd fG=>hf fd (Xe _ fG)) (by simpa using hlen)
      (λi fd hi=>by have:=xq (i+1) fd (by simpa using hi);simpa using this) (by rw[bn,xt,Ty.size];omega)
     rw[xt];refine⟨(d1,d2),⟨_,_,?_,e1,f1⟩,⟨e2,f2⟩,?_⟩
     .rw[←List.drop_drop];exact(List.take_append_drop _ _).symm
     .simp only[Wgv,Xaj,Xca];omega
   .cases iN
theorem Wk9(hT:Wan P T)(hβ:Bulk β):∀(n fuel:Nat) (t:TypeId) (te:TE) (cs:List Value) (x:DataW H×List MemPlace),Wnz T n t=true->look T t=some te->
  DataW.trod enc P w 0 (λ_=>true) true fuel t cs=some x->∃d:te.ty.den,Enc (WiG w) te.ty d cs/\Wfd te.ty d/\Wgv te.ty d<=β x.1
 |0,_,_,_,_,_,h,_,_=>by cases h
 |n+1,fuel,t,te,cs,x,h,hl,hx=>by
  have bC:=hT _ _ hl;simp only[Wnz,hl]at h;obtain⟨ty,agg,shape⟩:=te;cases shape with
  |basic=>
   have hu:=bC.und.2;cases ty with
   |int k=>
    obtain⟨m,rfl,rfl,hw⟩:=DataW.trod_int hu hx;exact⟨m,rfl,hw,hβ.lit _⟩
   |bool=>
    obtain⟨b,rfl,rfl⟩:=DataW.trod_bool hu hx;exact⟨b,rfl,trivial,hβ.lit _⟩
   |str=>
    obtain⟨s,rfl,rfl,hs⟩:=DataW.trod_string hu hx;refine⟨s.data.toList,by simp[Enc],?_,hβ.str _⟩;show s.data.toList.length<=maxLen;rw[Array.length_toList];exact hs
   |slice e=>cases h
   |own e=>cases h
   |prod a b=>cases h
  |slice e=>
   simp only[Xh]at h;obtain⟨ha,hu,dw,hle,gP⟩:=bC.und;simp only at gP;subst gP;have hp:dw.plain=true:=by have:=h.2;rw[hle]at this;exact this
   have hsz:P.cellsOf e=dw.ty.size:=by rw[Wg1 (hT _ _ hle),W1 hp]
   rcases DataW.trod_slice hu hx with⟨rfl,rfl⟩|⟨a,len,cap,elems,rest,m,rfl,rfl,rfl,hb,zf,ie,vz,hel,jD,_⟩
   .exact⟨([]:List dw.ty.den),⟨_,rfl,.inl ⟨rfl,rfl⟩⟩,⟨by simp,λx hx=>by cases hx⟩,by simpa [Wgv]using hβ.nil⟩
   .have key:=Wpy (w:=w) (β:=β) (e:=dw.ty) (a:=a) dw.ty.size (WbA _) len 0 (λi=>elems[i]?) (λcs=>DataW.trod enc P w 0 (λ_=>true) true m e cs)
     (λcs y hy=>Wk9 hT hβ n m e dw cs y h.1 hle hy) (λi _ hi=>by
      rw[Xbc]at hi;have:=hel i hi;rw[hsz]at this;have hlt:i<elems.length:=by omega
      rw[Xs hlt]at this;obtain⟨cs,h1,h2⟩:=Xbv.1 this;exact⟨elems[i],cs,h1,h2,Xs hlt⟩)
    obtain⟨l,cs,g1,g2,g3,g4,g5,g6⟩:=key;refine⟨l,⟨_,rfl,?_⟩,⟨by rw[g1];omega,g3⟩,?_⟩
    .by_cases h0:len=0
     .subst h0;exact .inr (.inr ⟨a,cap,rfl,Xy g1⟩)
     .have nX:0<cs.length:=by rw[g5];exact Nat.mul_pos (by omega) (WbA _)
      have sn:=g4 0 _ (Xs nX);have so:a.spot=none:=by
       rw[Xew,Xau]at sn;have:=World.cell?_spot sn;simpa [Addr.add]using this
      obtain⟨b,off,spot⟩:=a;subst so;refine .inr (.inl ⟨b,off,cap,cs,by rw[g1],by rw[g1];exact zf,ie,g2,λj v hj=>?_⟩);have:=g4 j v hj;rw[Xew,Xbc,Wa0]at this;exact this
    .have h1:=hβ.slice (elems.map (·.1)) (rest.map (·.1));have h2:((Xdi len).map λi=>match elems[0+i]? with|some y=>β y.1|none=>0).sum=(elems.map λy=>β y.1).sum:=by
      rw[←vz];exact Wvl elems
     rw[h2]at g6;rw[Xeh]at h1;simp only[Wgv];have h3:(List.map (β∘λx=>x.1) elems)=elems.map λy=>β y.1:=rfl;rw[h3]at h1;show(List.map (Wgv dw.ty) l).sum+1<=_;omega
  |struct fs=>
   simp only[Xh]at h;obtain⟨ha,fields,hu,di,xu,_⟩:=bC.und;have h2:=h.2;split at h2
   .rename_i t1 ts mf;have gP:ty=Wec (t1::ts):=of_decide_eq_true h2;subst gP;obtain⟨xs,m,rfl,rfl,hcl,je,oi⟩:=DataW.trod_struct hu hx;have hsz:P.cellsOf t=(Wec (t1::ts)).size:=by rw[Wg1 bC];rfl
    have key:=WjU (w:=w) (P:=P) hT hβ (λt cs=>DataW.trod enc P w 0 (λ_=>true) true m t cs) (cs:=cs) fs 0 (t1::ts) xs (by simp) mf
     (λfd fG te cs y xm hy=>Wk9 hT hβ n m fd.2 te cs y (Xae.1 h.1 fd fG) xm hy) (by rw[je,←di];simp)
     (λi fd hi=>by
      rw[←di]at hi;rw[Xal]at hi;obtain⟨fl,gh,he⟩:=Xx.1 hi;subst he;exact oi i fl (by simpa using gh)) (by rw[hcl,hsz,Xbc])
    obtain⟨d,g1,g2,g3⟩:=key;rw[Xcc]at g1;refine⟨d,g1,g2,Xcq g3 ?_⟩;have:=hβ.agg (xs.map (·.1));rw[Xeh]at this;exact this
   .cases h2
  |ptr e=>cases h
  |arr m e=>cases h
theorem Wep{G:GH}{w:World}:∀(t:Ty) (d:t.den) (vs:List Value),Enc G t d vs->TyRel G w t d vs []
 | .int _,_,_,h=>⟨rfl,h⟩
 | .bool,_,_,h=>⟨rfl,h⟩
 | .str,_,_,h=>⟨rfl,h⟩
 | .slice _,_,_,h=>⟨rfl,h⟩
 | .own _,_,_,h=>h.elim
 | .prod a b,d,vs,⟨c1,c2,he,h1,h2⟩=>⟨c1,c2,[],[],he,rfl,Wep a _ _ h1,Wep b _ _ h2⟩
def WoV:(ps:List PTy)->Wfr ps->Prop
 | [],_=>True
 | .v t _::ps,d=>Wfd t d.1/\WoV ps d.2
 | .box _::_,_=>False
 | .mut _::_,_=>False
 | .clos _ _::_,_=>False
 | .kv _ _::_,_=>False
 | .rp _::_,_=>False
 | .vj _::_,_=>False
 | .boxal _ _::_,_=>False
def WfZ:(ps:List PTy)->Wfr ps->Nat
 | [],_=>0
 | .v t _::ps,d=>Wgv t d.1+WfZ ps d.2
 | .box _::_,_=>0
 | .mut _::_,_=>0
 | .clos _ _::_,_=>0
 | .kv _ _::_,_=>0
 | .rp _::_,_=>0
 | .vj _::_,_=>0
 | .boxal _ _::_,_=>0
def Wwa(P:Program)(T:Tab):List TypeId->List PTy->Bool
 | [],[]=>true
 |t::ts,p::ps=>(match p with
  | .v ty agg=>(match look T t with|some te=>decide (te.ty=ty)&&(te.agg==agg)|none=>false)&&Wnz T 20 t&&P.readableRec t&&Nat.blt t P.types.size&&Wwa P T ts ps
  | .box _=>false
  | .mut _=>false
  | .clos _ _=>false
  | .kv _ _=>false
  | .rp _=>false
  | .vj _=>false
  | .boxal _ _=>false)
 |_,_=>false
theorem WmE(hT:Wan P T)(hβ:Bulk β):∀(ts:List TypeId) (ps:List PTy) (vs:List Value) (ds:List (DataW H)) (pl:List MemPlace),Wwa P T ts ps=true->DataW.TrodAll enc P w 0 (λ_=>true) true ts vs ds pl->
  (∀(j:Nat) (t:TypeId) (v:Value),ts[j]?=some t->vs[j]?=some v->∃base,Value.okWide P w .any base t v)->
  ∃d:Wfr ps,Wbp (WiG w) w ps d vs [] []/\WoV ps d/\WfZ ps d<=(ds.map β).sum
 | [],[],vs,ds,pl,_,h,_=>by
  obtain⟨rfl,rfl,_⟩:=trodAll_nil h;exact⟨(),⟨rfl,rfl,rfl⟩,trivial,by simp[WfZ]⟩
 | [],_::_,_,_,_,h,_,_=>by cases h
 |_::_,[],_,_,_,h,_,_=>by cases h
 |t::ts,.box _::ps,_,_,_,h,_,_=>by cases h
 |t::ts,.mut _::ps,_,_,_,h,_,_=>by cases h
 |t::ts,.clos _ _::ps,_,_,_,h,_,_=>by cases h
 |t::ts,.kv _ _::ps,_,_,_,h,_,_=>by cases h
 |t::ts,.rp _::ps,_,_,_,h,_,_=>by cases h
 |t::ts,.vj _::ps,_,_,_,h,_,_=>by cases h
 |t::ts,.boxal _ _::ps,_,_,_,h,_,_=>by cases h
 |t::ts,.v ty agg::ps,vs,ds,pl,hp,h,gt=>by
  obtain⟨v,vs',d,sq,p,q,rfl,rfl,rfl,h0,hr⟩:=trodAll_cons h;simp only[Wwa,Xh]at hp;obtain⟨⟨⟨⟨h1,h2⟩,h3⟩,h4⟩,h5⟩:=hp;split at h1
  .rename_i te hl;simp only[Xh]at h1;have e1:te.ty=ty:=of_decide_eq_true h1.1;have e2:te.agg=agg:=eq_of_beq h1.2;subst e1 e2;obtain⟨fuel,hx⟩:=h0;obtain⟨x,cA,xw,dV⟩:=Wk9 hT hβ 20 fuel t te _ (d,p) h2 hl hx;obtain⟨base,aI⟩:=gt 0 t v rfl rfl;obtain⟨dd,g1,g2,g3⟩:=WmE hT hβ ts ps vs' sq q h5 hr (λj t v hj hv=>gt (j+1) t v (by simpa using hj) (by simpa using hv));refine⟨(x,dd),⟨v,vs',[],[],rfl,rfl,?_,g1⟩,⟨xw,g2⟩,?_⟩
   .have hu:=(hT _ _ hl).und;unfold Wjb;obtain⟨ty,ag,shape⟩:=te;simp only at cA xw dV⊢;have dS:∀u:Value,u.cells= #[u]->u=v->v.cells.toList= [v]:=λu h e=>by rw[←e,h]
    cases shape with
    |basic=>
     obtain⟨ha,hu⟩:=hu;simp only at ha;subst ha;simp only[Xbi,if_false];have:v.cells.toList= [v]:=by
      cases ty with
      |int k=>obtain⟨n,rfl⟩:=okWide_int hu aI;rfl
      |bool=>obtain⟨n,rfl⟩:=okWide_bool hu aI;rfl
      |str=>obtain⟨n,rfl⟩:=okWide_string hu aI;rfl
      |slice e=>cases hu
      |own e=>cases hu
      |prod a b=>cases hu
     rw[this]at cA;exact Wep _ _ _ cA
    |slice e=>
     obtain⟨ha,hu,_⟩:=hu;simp only at ha;subst ha;simp only[Xbi,if_false];obtain⟨a,l,c,rfl⟩:=okWide_slice hu aI;exact Wep _ _ _ cA
    |struct fs=>
     obtain⟨ha,fields,hu,_⟩:=hu;simp only at ha;subst ha;simp only[if_true];obtain⟨cs,rfl,_⟩:=okWide_struct hu aI;exact⟨cs.toList,by simp,Wep _ _ _ cA⟩
    |ptr e=>simp only[Wnz,hl]at h2;cases h2
    |arr m e=>simp only[Wnz,hl]at h2;cases h2
   .have dV:Wgv te.ty x<=β d:=dV;simp only[WfZ,Xaj,Xca];omega
  .cases h1
theorem Wm2:∀(ts:List TypeId) (vs:List Value) (ds:List (DataW H)) (pl:List MemPlace),DataW.TrodAll enc P w 0 (λ_=>true) true ts vs ds pl->ds.length=ts.length
 | [],vs,ds,pl,h=>by obtain⟨_,rfl,_⟩:=trodAll_nil h;rfl
 |t::ts,vs,ds,pl,h=>by
  obtain⟨v,vs',d,sq,p,q,rfl,rfl,rfl,h0,hr⟩:=trodAll_cons h;simp[Wm2 ts vs' sq q hr]
theorem WlR(iS:laidOutB P=true){W W':World}(hb:Below W.heap.size W W'){sp:Nat->Bool}:∀(ts:List TypeId) (ps:List PTy) (vs:List Value) (ds:List (DataW H)) (pl:List MemPlace),Wwa P T ts ps=true->
  DataW.TrodAll enc P W 0 (λ_=>true) true ts vs ds pl->(∀p∈pl,p.block<W.heap.size)->(∀p∈pl,sp p.block=true)->DataW.TrodAll enc P W' 0 sp true ts vs ds pl
 | [],ps,vs,ds,pl,_,h,_,_=>by
  obtain⟨rfl,rfl,rfl⟩:=trodAll_nil h;exact trodAll_mk0
 |t::ts,[],_,_,_,h,_,_,_=>by cases h
 |t::ts,.box _::ps,_,_,_,h,_,_,_=>by cases h
 |t::ts,.mut _::ps,_,_,_,h,_,_,_=>by cases h
 |t::ts,.clos _ _::ps,_,_,_,h,_,_,_=>by cases h
 |t::ts,.kv _ _::ps,_,_,_,h,_,_,_=>by cases h
 |t::ts,.rp _::ps,_,_,_,h,_,_,_=>by cases h
 |t::ts,.vj _::ps,_,_,_,h,_,_,_=>by cases h
 |t::ts,.boxal _ _::ps,_,_,_,h,_,_,_=>by cases h
 |t::ts,.v ty agg::ps,vs,ds,pl,hp,h,hlt,jD=>by
  obtain⟨v,vs',d,sq,p,q,rfl,rfl,rfl,h0,hr⟩:=trodAll_cons h;simp only[Wwa,Xh]at hp;obtain⟨⟨⟨⟨h1,h2⟩,h3⟩,h4⟩,h5⟩:=hp;have hrow:t<P.types.size:=by rw[Xhd]at h4;exact h4
  exact⟨p,q,WideElems.Trod_stays iS h3 hrow h0 (λx hx=>hb.same (hlt x (Xk _ hx))) (λx hx=>jD x (Xk _ hx)),
   WlR iS hb ts ps vs' sq q h5 hr (λx hx=>hlt x (Xg _ hx)) (λx hx=>jD x (Xg _ hx)),rfl⟩
theorem Wur{f:Func}{s:ChangeSpec}{apart fresh fL again:Bool}{W W':World}{args:Array Value}{v:Value}{ds gs:List (DataW H)}{before pa pv:List MemPlace}
  (hW:DataW.Whole enc P f.params.toList s.vars apart W args.toList ds gs before)
  (ij:∀(b:Nat) (sp:Nat->Bool) (hd:Bool),DataW.TrodAll enc P W' b sp hd f.resultTypes.toList (v.resultList f.resultTypes.size) (s.fn H (ds++gs)).results [])
  (hargs:∀sp:Nat->Bool,(∀p∈before,sp p.block=true)->DataW.TrodAll enc P W' 0 sp true f.params.toList args.toList (s.fn H (ds++gs)).args pa)
  (m9:∀sp:Nat->Bool,(∀p∈before,sp p.block=true)->DataW.TrodVars enc P W' sp s.vars (s.fn H (ds++gs)).vars pv)
  (bK:before=pa++pv) (hk:W.keptBut W' (· ∈before)) (xx:∀a,a.block<W.heap.size->W'.frozen? a=W.frozen? a)
  (aI:∀(j:Nat) (t:TypeId) (r:Value),f.resultTypes[j]?=some t->(v.resultList f.resultTypes.size)[j]?=some r->Value.okWide P W' .any 0 t r):
  s.post enc P f apart fresh fL again W args v W':=by
 have gB:∀p∈before,(λb=>decide (b<W.heap.size)) p.block=true:=λp hp=>by simpa using hW.lt p hp
 refine⟨ds,gs,before,[],pa,pv,hW,ij _ _ _,hargs _ gB,m9 _ gB,World.keptBut_mono (λp hp=>⟨hp,?_⟩) hk,λ_=>?_⟩
 .rw[bK,Xm]at hp;exact Or.inr hp
 .have hlt:=hW.lt;obtain⟨_,_,_,_,_,hz,hn⟩:=hW;refine⟨aI,_,_,([]++pa)++pv,⟨[]++pa,pv,trodAll_append (hargs _ (λ_ _=>rfl)) (ij _ _ _),m9 _ (λ_ _=>rfl),rfl,?_,?_⟩,?_⟩
  .intro b off hp;have cR:MemPlace.cell b off∈before:=by rw[bK];simpa using hp
   rw[xx ⟨b,off,none⟩ (hlt _ cR)];exact hz b off cR
  .intro ha;have:=hn ha;rw[bK]at this;simpa using this
  .intro p hp _;rw[bK];simpa using hp
theorem law_row(hT:Wan P T)(iS:laidOutB P=true){f:Func}{k:FuncId}{s:ChangeSpec}(cN:s.vars= [])(hs:∀ds:List (DataW H),ds.length=f.params.toList.length->s.fn H ds={results:=[.lit (.bool true)],args:=ds})
  {ps:List PTy} (bK:Wwa P T f.params.toList ps=true) {tb:TypeId} (ij:f.resultTypes= #[tb]) (xy:P.underlying tb=some .bool) {run:Nat->Wfr ps->Option (WfY ps×WgS [.v .bool false])}
  (kB:∀N,Good P k (Sig.of ps [.v .bool false] (run N))) (hβ:Bulk β) {ok:List (DataW H)->Prop} {M:Nat->Prop} (sr:∀ds m,ok ds->m<=(ds.map β).sum->M m)
  (vA:∀d:Wfr ps,WoV ps d->M (WfZ ps d)->∃N o,run N d=some (o,(true,()))) {apart fresh fL again:Bool}
  (W:World) (base:Nat) (args:Array Value) (ds gs:List (DataW H)) (before:List MemPlace)
  (gt:∀(j:Nat) t v,f.params[j]?=some t->args[j]?=some v->Value.okWide P W .any base t v)
  (hW:DataW.Whole enc P f.params.toList s.vars apart W args.toList ds gs before) (hk:ok ds):
  Calls P k args W λe W'=>∃v,e= .returned v/\s.post enc P f apart fresh fL again W args v W':=by
 have hW':=hW;have hlt:=hW.lt;obtain⟨p,q,hA,hV,xz,xx,aP⟩:=hW;rw[cN]at hV;obtain⟨vC,hq⟩:=trodVars_none hV;subst vC hq;rw[Xcy]at xz;subst xz;obtain⟨d,h1,h2,h3⟩:=WmE (w:=W) hT hβ f.params.toList ps args.toList ds before bK hA (λj t v hj hv=>⟨base,gt j t v (by simpa using hj) (by simpa using hv)⟩);obtain⟨N,o,ho⟩:=vA d h2 (sr ds _ hk h3);have hc:=kB N d (o,(true,())) ho (WiG W) W args.toList [] [] h1 List.Pairwise.nil (by simp) (λb o v hv=>hv);have hargs:args.toList.toArray=args:=by simp
 rw[hargs]at hc;refine hc.mono λe W' ⟨rv,kf,ms,cD,G',he,ha⟩=>?_;have hb:Below W.heap.size W W':=⟨ha.le.os,ha.le.tape,ha.le.output,ha.le.size,λb hb=>ha.le.whole b hb (λo ⟨q,hq,_⟩=>by simp at hq)⟩;obtain⟨v,vs',n1,n2,e1,e2,e3,e4⟩:=ha.res;obtain⟨e5,_⟩:=e4;subst e5;have hv:v= .bool true:=by
  unfold Wjb at e3;simp only[Xbi,if_false]at e3;have:=e3.2;simpa [Enc]using this
 subst hv;have jM:Wif rv= .bool true:=by rw[e1];rfl
 rw[jM]at he;refine⟨.bool true,he,?_⟩;have hlen:=Wm2 _ _ _ _ hA;have vD:=hs (ds++ []) (by rw[Xcy];exact hlen);refine Wur (pa:=before) (pv:=[]) hW' ?_ ?_ ?_ (by simp) (hb.frame _) (λa ha=>hb.frozen ha) (ok_one ij rfl (okWide_bool_mk xy _))
 .intro b sp hd;rw[vD,ij];exact trodAll_cons_mk (shut_bool xy _) trodAll_mk0
 .intro sp jD;rw[vD,Xcy];exact WlR iS hb _ _ _ _ _ bK hA hlt jD
 .intro sp jD;rw[vD,cN];rfl
end
end Go.Sx
namespace Go.Sx
set_option linter.unusedVariables false
def sortInts(xs:List Int):List Int:=xs.mergeSort λx y=>decide (x<=y)
def Zo7(N:Nat)(xs:List Int):Option ((List Int×Unit)×Unit):=bif decide (xs.length<4611686018427387904)then some ((sortInts xs,()),())else none
theorem sortInt_some{N:Nat}{xs:List Int}{o:(List Int×Unit)×Unit}(h:Zo7 N xs=some o):xs.length<4611686018427387904/\o=((sortInts xs,()),()):=by
 unfold Zo7 at h;by_cases h':xs.length<4611686018427387904
 .rw[show decide (xs.length<4611686018427387904)=true by simpa using h']at h;simp only[cond_true]at h;injection h with h;exact⟨h',h.symm⟩
 .rw[show decide (xs.length<4611686018427387904)=false by simpa using h']at h;cases h
end Go.Sx
namespace Go.Sx
set_option linter.unusedVariables false
def WkF{α:Type}(r:α->α->Bool):List α->Bool
 | []=>true
 |x::l=>l.all (r x)&&WkF r l
def lessBy{α:Type}(cf:α->α->Int)(x y:α):Bool:=decide (cf x y<0)
def apart{α:Type}(cf:α->α->Int)(x y:α):Bool:=lessBy cf x y||lessBy cf y x
def sortBy{α:Type}(cf:α->α->Int)(xs:List α):List α:=xs.mergeSort λx y=>!lessBy cf y x
def Zl9{α:Type}(rng:α->Bool)(cf:α->α->Int)(N:Nat)(xs:List α):Option ((List α×Unit)×Unit):=
 bif xs.all rng&&(WkF (apart cf) xs&&decide (xs.length<4611686018427387904))then some ((sortBy cf xs,()),())else none
structure SwoOn{α:Type}(rng:α->Bool)(cf:α->α->Int):Prop where
 irr:∀x,rng x=true->¬cf x x<0
 tr:∀x y z,rng x=true->rng y=true->rng z=true->cf x y<0->cf y z<0->cf x z<0
 nt:∀x y z,rng x=true->rng y=true->rng z=true->¬cf x y<0->¬cf y z<0->¬cf x z<0
theorem sortBy_some{α:Type}{rng:α->Bool}{cf:α->α->Int}{N:Nat}{xs:List α}{o:(List α×Unit)×Unit}(h:Zl9 rng cf N xs=some o):
  (∀x∈xs,rng x=true)/\WkF (apart cf) xs=true/\xs.length<4611686018427387904/\o=((sortBy cf xs,()),()):=by
 unfold Zl9 at h;cases hb:xs.all rng&&(WkF (apart cf) xs&&decide (xs.length<4611686018427387904))
 .rw[hb]at h;cases h
 .rw[hb]at h;simp only[cond_true]at h;injection h with h;simp only[Xh,decide_eq_true_eq]at hb;exact⟨Xae.1 hb.1,hb.2.1,hb.2.2,h.symm⟩
theorem pairs_get{α:Type}{r:α->α->Bool}:∀{l:List α},WkF r l=true->∀(i j:Nat) (hi:i<l.length) (hj:j<l.length),i<j->r l[i] l[j]=true
 | [],_,i,_,hi,_,_=>by simp at hi
 |x::l,h,0,j+1,hi,hj,hij=>by
  simp only[WkF,Xh]at h;exact Xae.1 h.1 _ (List.getElem_mem _)
 |x::l,h,i+1,j+1,hi,hj,hij=>by
  simp only[WkF,Xh]at h;simpa using pairs_get h.2 i j (by simpa using hi) (by simpa using hj) (by omega)
def WuZ(k:Int):Bool:=decide (-1000000000<=k)&&decide (k<=1000000000)
def Wwe(a:Int×Int×Int):Bool:=WuZ a.1
def cfE(a b:Int×Int×Int):Int:=a.1-b.1
def WvU(a:Int×Int×Int):Bool:=WuZ a.1&&WuZ a.2.1
def cfH(a b:Int×Int×Int):Int:=bif a.2.1==b.2.1 then a.1-b.1 else a.2.1-b.2.1
theorem WgL{k:Int}(h:WuZ k=true):-1000000000<=k/\k<=1000000000:=by unfold WuZ at h;simpa using h
theorem Wxz:SwoOn Wwe cfE:=⟨λx _=>by unfold cfE;omega,λx y z _ _ _=>by unfold cfE;omega,λx y z _ _ _=>by unfold cfE;omega⟩
theorem WbJ{a b:Int×Int×Int}:cfH a b<0↔(a.2.1<b.2.1\/(a.2.1=b.2.1/\a.1<b.1)):=by
 unfold cfH;by_cases h:a.2.1=b.2.1
 .have:(a.2.1==b.2.1)=true:=by simpa using h
  rw[this];simp only[cond_true];omega
 .have:(a.2.1==b.2.1)=false:=by simpa using h
  rw[this];simp only[cond_false];omega
theorem Wwj{a b:Int×Int×Int}(h:(a.2.1 !=b.2.1)=false):a.1-b.1=cfH a b:=by
 have h:a.2.1=b.2.1:=bne_eq_false_iff_eq.1 h;unfold cfH;rw[beq_iff_eq.2 h];rfl
theorem WwF{a b:Int×Int×Int}(h:(a.2.1 !=b.2.1)=true):a.2.1-b.2.1=cfH a b:=by
 have h:a.2.1≠b.2.1:=bne_iff_ne.1 h;unfold cfH;rw[beq_eq_false_iff_ne.2 h];rfl
theorem Wxu:SwoOn WvU cfH:=⟨λx _=>by rw[WbJ];omega,λx y z _ _ _=>by rw[WbJ,WbJ,WbJ];omega,λx y z _ _ _=>by rw[WbJ,WbJ,WbJ];omega⟩
end Go.Sx
