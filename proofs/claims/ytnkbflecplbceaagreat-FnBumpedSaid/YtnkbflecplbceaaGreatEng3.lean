/- The abstract machine, part 3: a reflective interpreter of the program's code over data, with its soundness over the model. -/
import Derived.Test.YtnkbflecplbceaaGreatEng2
open Option renaming bind_assoc→Xgv,map→Xfl,bind_some→Xc,getD_some→Xdz,bind_eq_some_iff→Xbz,map_eq_some_iff→Xy
open Bool renaming not_true→Xab,and_eq_true→Xh,not_eq_true'→Xao,false_eq_true→Xbm,or_eq_true→Xbs
open List renaming mem_map→Xu,mem_cons_of_mem→Xf,mem_append_left→Xk,mem_append_right→Xg,mem_cons→Xo,mem_cons_self→Xi,length_append→Xz,getD_eq_getElem?_getD→Xbc,getElem?_append→Xba,getElem?_cons_zero→Xdr,getElem?_eq_none→Xbl,all_eq_true→Xae,append_of_mem→Xei,mem_append→Xm,range→Xbt,mem_filter→Xar,mem_range→Xej,filter_cons→Xbi,eq_nil_of_length_eq_zero→Xw,eq_nil_iff_forall_not_mem→Xes,nodup_nil→Xdl,mem_of_getElem?→Xay,nodup_cons→Xah,nil_append→Xca,cons_append→Xbf,length_filter_le→Xep,length_range→Xfj,mem_flatMap→Xfo,map_cons→Xai,map_map→Xdu,map_id→Xgw,map_congr_left→Xez,append_nil→Xcy,nodup_append→Xak,filter_append→Xct,prefix_append→Xgn,map_append→Xp,map_nil→Xck,mem_erase_of_ne→Xge,length_erase_of_mem→Xfq,length_pos_of_mem→Xfy,length_cons→Xr,getElem?_cons_succ→Xds,getElem?_eq_some_iff→Xs,getElem?_append_right→Xaz,getElem?_tail→Xci,mapM_cons→Xfb,pairwise_singleton→Xbj,mem_singleton→Xac,take_of_length_le→Xdb,getElem?_eq_getElem→Xq,drop_zero→Xce,tail_cons→Xek,getElem?_map→Xan,length→Xa,sum_cons→Xcd
open Nat renaming sub_self→Xcz,blt_eq→Xhc,le_refl→Xn,zero_add→Xaw,zero_le→Xbk,sub_zero→Xdc,beq→Xbw,le_trans→Xcr,add_zero→Xat,add_sub_cancel_left→Xbd,le_of_ble_eq_true→Xga,add_mul→Xcx,zero_mul→Xex
open Array renaming getD_eq_getD_getElem?→Xcp,getElem?_setIfInBounds→Xfd,getElem?_eq_getElem→Xdj,getElem?_eq_some_iff→Xdi,replicate→Xeg
namespace Go.Sx
set_option linter.unusedVariables false
set_option linter.unusedSimpArgs false
abbrev Out:=AVal×Waa×Nat
def WcQ(x:AVal)(objs:Waa)(nx:Nat):Option Out:=some (x,objs,nx)
section
variable{T:Tab}{Γ:Ctx}{A:List (Nat×An)}
theorem WaV{α β:Type}{c:Prop}[Decidable c]{x:Option α}{f:α->Option β}:(if c then x else none).bind f=if c then x.bind f else none:=by split<;>rfl
theorem Wch{α β:Type}{c:Bool}{x:Option α}{f:α->Option β}:(bif c then x else none).bind f=bif c then x.bind f else none:=by cases c<;>rfl
theorem WfN{R:Type}(sg:Sig)(st:St)(xs:List AVal)(k:KV R):Wfq sg st xs k=(Wfq sg st xs WcQ).bind λp=>k p.1 p.2.1 p.2.2:=by
 unfold Wfq;split
 .split
  .rw[sg.law,sg.law,Xgv];rfl
  .rfl
 .rfl
theorem WpG{R:Type}(sg:Sig)(st:St)(xs:List AVal)(k:KV R):WlG sg st xs k=(WlG sg st xs WcQ).bind λp=>k p.1 p.2.1 p.2.2:=by
 unfold WlG;cases sg.fresh with
 |true=>exact WfN _ _ _ _
 |false=>
  simp only[cond_false];split
  .split
   .exact WfN _ _ _ _
   .exact WfN _ _ _ _
  .rfl
theorem WmX{R:Type}(st:St)(te:Ty)(s x:AVal)(k:KV R):WeI st te s x k=(WeI st te s x WcQ).bind λp=>k p.1 p.2.1 p.2.2:=by
 unfold WeI;split
 .split
  .split
   .split
    .rw[Wch];rfl
    .rfl
   .rfl
  .rfl
 .split
  .split
   .split
    .rw[WaV,Wch];rfl
    .rfl
   .rfl
  .rfl
 .rfl
theorem WmH{R:Type}(st:St)(e:Ty)(ps:List (Nat×AVal))(k:KV R):Wdj st e ps k=(Wdj st e ps WcQ).bind λp=>k p.1 p.2.1 p.2.2:=by
 unfold Wdj;split
 .rw[WaV];split
  .split
   .split
    .rw[WaV];rfl
    .rfl
   .rfl
  .rfl
 .rfl
theorem Wnz{R:Type}(st:St)(te:Ty)(id:Nat)(l h:Option Int)(k:KV R):Wfr st te id l h k=(Wfr st te id l h WcQ).bind λp=>k p.1 p.2.1 p.2.2:=by
 unfold Wfr;split
 .rw[WaV,Wch];rfl
 .rfl
theorem WkX{R:Type}(st:St)(t t2:TypeId)(s x:AVal)(k:KV R):WdQ T st t t2 s x k=(WdQ T st t t2 s x WcQ).bind λp=>k p.1 p.2.1 p.2.2:=by
 unfold WdQ;split
 .split
  .split
   .cases Ws4 st s x with
    |false=>exact WmX _ _ _ _ _
    |true=>
    simp only[Xab,cond_false];split
    .rw[Wch];rfl
    .split
     .split
      .rw[Wch];rfl
      .rfl
     .rfl
    .split
     .split
      .rw[Wch];rfl
      .rfl
     .rfl
    .rfl
   .rfl
  .rfl
 .rfl
theorem Wvv{R:Type}(p:Option (Bool×AVal))(objs:Waa)(nx:Nat)(k:KV R):(match p with|some (c,v)=>bif c then k v objs nx else none|none=>none)=(match p with|some (c,v)=>bif c then WcQ v objs nx else none|none=>none).bind λp=>k p.1 p.2.1 p.2.2:=by
 rcases p with _|⟨c,v⟩
 .rfl
 .cases c<;>rfl
theorem Wgu{R:Type}(o:Oper)(st:St)(k:KV R):rxe T Γ A o st k=(rxe T Γ A o st WcQ).bind λp=>k p.1 p.2.1 p.2.2:=by
 unfold rxe;split
 .split
  .rw[WaV];rfl
  .rw[WaV];rfl
  .rfl
 .split<;>rfl
 .split
  .split
   .split<;>rfl
   .rfl
  .rfl
 .split
  .split
   .split
    .rw[WaV];split
     .exact WmH _ _ _ _
     .rfl
    .split
     .rw[WaV];rfl
     .rfl
   .rfl
  .rfl
 .split
  .split
   .split
    .rw[WaV,Wch];rfl
    .rw[WaV,Wch];rfl
   .rfl
  .rfl
 .split
  .split
   .split<;>rfl
   .rfl
  .rfl
 .split
  .split
   .split
    .split
     .rw[WaV];split
      .exact Wnz _ _ _ _ _ _
      .rfl
     .split
      .rw[WaV,Wch];rfl
      .rw[WaV,Wch];rfl
      .rfl
    .rfl
   .rfl
  .exact Wvv _ _ _ _
 .split
  .split
   .exact WkX _ _ _ _ _ _
   .rfl
  .split
   .split
    .split
     .rw[WaV];rfl
     .rfl
    .rfl
   .rfl
  .exact Wvv _ _ _ _
  .split
   .split
    .exact WpG _ _ _ _
    .rfl
   .rfl
  .rfl
 .exact Wvv _ _ _ _
end
section
variable{T:Tab}{Γ:Ctx}{A:List (Nat×An)}
theorem Wnk{st:St}{env:List (Nat×AVal)}{t:TypeId}{x v:AVal}:WcV T {env:=env,objs:=st.objs,nx:=st.nx} t x v=(WcV T st t x v).map λs=>{env:=env,objs:=s.objs,nx:=s.nx}:=by
 unfold WcV;generalize look T t=q;generalize WgW v=z;rcases q with _|te
 .rfl
 rcases z with _|ds
 .rcases x with(c|cs)|xs
  .cases c<;>rfl
  .rfl
  .rfl
 rcases x with(c|cs)|xs
 .cases c with
  |ptr id off=>
   show(match look st.objs id with|some (.box cs)=>_|_=>_)=Xfl _ (match look st.objs id with|some (.box cs)=>_|_=>_);generalize look st.objs id=ob;rcases ob with _|ob
   .rfl
   cases ob with
   |box cs=>
    show(if _ then _ else _)=Xfl _ (if _ then _ else _);split<;>rfl
   |arr e xs=>rfl
   |hole e xs i p=>rfl
   |dead=>rfl
  |eptr id i off=>
   show(match look st.objs id with|some (.arr e xs)=>_|_=>_)=Xfl _ (match look st.objs id with|some (.arr e xs)=>_|_=>_);generalize look st.objs id=ob;rcases ob with _|ob
   .rfl
   cases ob with
   |box cs=>rfl
   |hole e xs i p=>rfl
   |dead=>rfl
   |arr e xs=>
    show(if _ then _ else _)=Xfl _ (if _ then _ else _);by_cases hc:(decide (te.ty.size=ds.length)&&te.plain&&decide (off+ds.length<=e.size)&&e.data)=true
    .rw[if_pos hc,if_pos hc];generalize Wau e (Wd5 (split e (List.getD xs i e.dflt)) off ds) st.objs=r;rcases r with _|⟨d,m,l⟩
     .rfl
     .cases m<;>cases l<;>rfl
    .rw[if_neg hc,if_neg hc];by_cases gu:(decide (te.ty.size=ds.length)&&te.plain&&decide (off=0)&&decide (ds.length=e.size))=true
     .rw[if_pos gu,if_pos gu];generalize Wau e ds st.objs=r;rcases r with _|⟨d,m,l⟩
      .rfl
      .cases l with
       |nil=>
        show(if _ then _ else _)=Xfl _ (if _ then _ else _);split<;>rfl
       |cons _ _=>rfl
     .rw[if_neg gu,if_neg gu];rfl
  |_=>rfl
 .rfl
 .rfl
theorem WsA{R:Type}(o:Oper){st:St}{env:List (Nat×AVal)}(k:KV R)(he:∀x∈Wad o.op,ev {env:=env,objs:=st.objs,nx:=st.nx} x=ev st x):
  rxe T Γ A o {env:=env,objs:=st.objs,nx:=st.nx} k=rxe T Γ A o st k:=by
 have bu:(∀t x l h m,o.op≠ .slice t x l h m)->Wac T {env:=env,objs:=st.objs,nx:=st.nx} o.op=Wac T st o.op:=λhm=>Whc o.op hm he (λ_ _ _ _ _ _ _=>rfl);obtain⟨dst,op,type,pos,after,guard⟩:=o;simp only at he bu;cases op with
 |alloc t=>rfl
 |box t x=>simp only[rxe,he x (by simp[Wad])]
 |build t parts=>simp only[rxe,WcJ (st:=st) parts.toList λp hp=>he p.2 (by simp only[Wad];exact Xu.2 ⟨p,hp,rfl⟩)]
 |buildSlice t n parts=>
  have e1:∀e ps,Wdj {env:=env,objs:=st.objs,nx:=st.nx} e ps k=Wdj st e ps k:=λ_ _=>rfl;simp only[rxe,e1,WcJ (st:=st) parts.toList λp hp=>he p.2 (by simp only[Wad];exact Xu.2 ⟨p,hp,rfl⟩)]
 |makeSlice t n c=>simp only[rxe,he n (by simp[Wad]),he c (by simp[Wad])]
 |store t a x=>
  simp only[rxe,he a (by simp[Wad]),he x (by simp[Wad])];split
  .rename_i p v _ _;have e:=Wnk (T:=T) (st:={env:=st.env,objs:=WdF st.objs (WfW st.objs p v),nx:=st.nx}) (env:=env) (t:=t) (x:=p) (v:=Whj st.objs (WfW st.objs p v) v);simp only at e;rw[e];cases WcV T {env:=st.env,objs:=WdF st.objs (WfW st.objs p v),nx:=st.nx} t p (Whj st.objs (WfW st.objs p v) v)<;>rfl
  .rfl
 |slice t x lo hi m=>
  have hx:=he x (by simp[Wad]);have bc:=Wjs (st:=st) (ak:={env:=env,objs:=st.objs,nx:=st.nx}) lo λy hy=>he y (by simp only[Wad];exact Xf _ (Xk _ hy));have qj:=Wjs (st:=st) (ak:={env:=env,objs:=st.objs,nx:=st.nx}) hi λy hy=>he y (by simp only[Wad];exact Xf _ (Xg _ (Xk _ hy)));cases m with
  |none=>
   have hp:Wac T {env:=env,objs:=st.objs,nx:=st.nx} (.slice t x lo hi none)=Wac T st (.slice t x lo hi none):=by
    simp only[Wac,hx];refine Wb8 λv _=>?_;simp only[Wkl,bc,qj]
   have e1:∀te id l h,Wfr {env:=env,objs:=st.objs,nx:=st.nx} te id l h k=Wfr st te id l h k:=λ_ _ _ _=>rfl;simp only[rxe,hx,bc,qj,hp,e1]
  |some y=>rfl
 |call c=>
  have hargs:=Wl5 (st:=st) (ak:={env:=env,objs:=st.objs,nx:=st.nx}) c.args.toList λx hx=>he x (by simp only[Wad];exact Xg _ hx);have hp:=bu (λ_ _ _ _ _ h=>by cases h);simp only[rxe];split
  .rename_i s x t t2 hc ha dn;have h1:ev {env:=env,objs:=st.objs,nx:=st.nx} s=ev st s:=he s (by simp only[Wad];rw[ha];exact Xg _ (by simp));have h2:ev {env:=env,objs:=st.objs,nx:=st.nx} x=ev st x:=he x (by simp only[Wad];rw[ha];exact Xg _ (by simp));rw[h1,h2];rfl
  .rename_i x t hc ha dn;have h1:ev {env:=env,objs:=st.objs,nx:=st.nx} x=ev st x:=he x (by simp only[Wad];rw[ha];exact Xg _ (by simp));rw[h1]
  .rw[hp]
  .rename_i f hc;have h1:ev {env:=env,objs:=st.objs,nx:=st.nx} f=ev st f:=he f (by simp only[Wad];rw[hc];exact Xk _ (by simp));rw[h1,hargs];rfl
  .rfl
 |move x=>simp only[rxe,bu (λ_ _ _ _ _ h=>by cases h)]
 |assign x=>simp only[rxe,bu (λ_ _ _ _ _ h=>by cases h)]
 |pick c a b=>simp only[rxe,bu (λ_ _ _ _ _ h=>by cases h)]
 |load t a=>simp only[rxe,bu (λ_ _ _ _ _ h=>by cases h)]
 |nilCheck x=>simp only[rxe,bu (λ_ _ _ _ _ h=>by cases h)]
 |binOp op t x y z=>simp only[rxe,bu (λ_ _ _ _ _ h=>by cases h)]
 |unOp op t x=>simp only[rxe,bu (λ_ _ _ _ _ h=>by cases h)]
 |convert s d x=>simp only[rxe,bu (λ_ _ _ _ _ h=>by cases h)]
 |fieldAddr s x f=>simp only[rxe,bu (λ_ _ _ _ _ h=>by cases h)]
 |field t x f=>simp only[rxe,bu (λ_ _ _ _ _ h=>by cases h)]
 |indexAddr t x i=>simp only[rxe,bu (λ_ _ _ _ _ h=>by cases h)]
 |index t x i=>simp only[rxe,bu (λ_ _ _ _ _ h=>by cases h)]
 |extract t ix=>simp only[rxe,bu (λ_ _ _ _ _ h=>by cases h)]
 |makeFunc f first captured=>simp only[rxe,bu (λ_ _ _ _ _ h=>by cases h)]
 |_=>rfl
def WuL(T:Tab)(o:Oper)(st:St):Option AVal:=match o.op with
 | .build t parts=>match look T t,Wcv st parts.toList with
  |some ⟨ty,true,.struct fs⟩,some ps=>
   if fs.all (λf=>match look T f.2 with|some te=>te.plain|none=>false)then
    match Wm0 T fs ps (WeP ty)with
    |some cs=>some (.s (.agg cs))
    |none=>none
   else none
  |_,_=>none
 |op=>match Wac T st op with
  |some (c,v)=>bif c then some v else none
  |none=>none
theorem Www(p:Option (Bool×AVal))(objs:Waa)(nx:Nat):(match p with|some (c,v)=>bif c then WcQ v objs nx else none|none=>none)=(match p with|some (c,v)=>bif c then some v else none|none=>none).bind λv=>WcQ v objs nx:=by
 rcases p with _|⟨c,v⟩
 .rfl
 .cases c<;>rfl
theorem Wnd{o:Oper}(hm:WaP o=false)(st:St):rxe T Γ A o st WcQ=(WuL T o st).bind λv=>WcQ v st.objs st.nx:=by
 obtain⟨dst,op,type,pos,after,guard⟩:=o;cases op with
 |alloc t=>cases hm
 |box t x=>cases hm
 |buildSlice t n parts=>cases hm
 |makeSlice t n c=>cases hm
 |store t a x=>cases hm
 |slice t x lo hi m=>cases hm
 |build t parts=>
  simp only[rxe,WuL];generalize look T t=q;generalize Wcv st parts.toList=z;rcases q with _|⟨ty,agg,shape⟩
  .rfl
  rcases z with _|ps
  .cases agg<;>cases shape<;>rfl
  cases agg with
  |false=>rfl
  |true=>
   cases shape with
   |struct fs=>
    show(if _ then _ else _)=Option.bind (if _ then _ else _) _;rw[WaV];cases Wm0 T fs ps (WeP ty)<;>rfl
   |_=>rfl
 |call c=>
  simp only[rxe,WuL];split
  .rename_i hc _ _;simp only[WaP,hc]at hm;cases hm
  .rename_i hc _ _;simp only[WaP,hc]at hm;cases hm
  .exact Www _ _ _
  .rename_i hc;simp only[WaP,hc]at hm;cases hm
  .rename_i h0 h1 h2 h3;have:Wac T st (.call c)=none:=by
    simp only[Wac];split
    .rename_i hc _ _;first|exact absurd hc (h0 _)|exact absurd hc (h1 _)|exact absurd hc (h2 _)|exact absurd hc (h3 _)
    .rename_i hc _ _;first|exact absurd hc (h0 _)|exact absurd hc (h1 _)|exact absurd hc (h2 _)|exact absurd hc (h3 _)
    .rename_i hc _ _;first|exact absurd hc (h0 _)|exact absurd hc (h1 _)|exact absurd hc (h2 _)|exact absurd hc (h3 _)
    .rfl
   rw[this];rfl
 |_=>first|rfl|exact Www (Wac T st _) st.objs st.nx
theorem WpL{o:Oper}(hm:WaP o=false){st ak:St}(he:∀x∈Wad o.op,ev ak x=ev st x)(hl:Wu3 o.op=true->∀x∈Wad o.op,∀v,ev st x=some v->Weh st ak v):WuL T o ak=WuL T o st:=by
 have bu:(∀t x l h m,o.op≠ .slice t x l h m)->Wac T ak o.op=Wac T st o.op:=λhm=>Whc o.op hm he hl;obtain⟨dst,op,type,pos,after,guard⟩:=o;simp only at he bu;cases op with
 |slice t x lo hi m=>cases hm
 |build t parts=>simp only[WuL,WcJ (st:=st) parts.toList λp hp=>he p.2 (by simp only[Wad];exact Xu.2 ⟨p,hp,rfl⟩)]
 |_=>simp only[WuL,bu (λ_ _ _ _ _ h=>by cases h)]
theorem WcW(objs:Waa):∀l,∃pre,kill objs l=pre++objs
 | []=>⟨[],rfl⟩
 |i::l=>by
  obtain⟨pre,h⟩:=WcW objs l;exact⟨(i,.dead)::pre,by simp only[kill,h];rfl⟩
theorem W9:∀(ps:List PTy) (o:WfZ ps) (ids:List Kp) (objs:Waa) (nx:Nat),∃pre,(Wae ps o ids objs nx).1=pre++objs
 | [],_,_,objs,_=>⟨[],rfl⟩
 | .v _ _::ps,o,ids,objs,nx=>W9 ps o ids objs nx
 | .rp _::ps,o,ids,objs,nx=>W9 ps o ids objs nx
 | .box t::ps,o,ids,objs,nx=>by
  cases ids with
  |nil=>exact⟨[],rfl⟩
  |cons k ids=>
   obtain⟨pre,h⟩:=W9 ps o.2 ids ((k.id,Whu (look objs k.id) k.off (unfold t o.1 nx).1)::((unfold t o.1 nx).2.1++objs)) (unfold t o.1 nx).2.2;exact⟨pre++(k.id,Whu (look objs k.id) k.off (unfold t o.1 nx).1)::(unfold t o.1 nx).2.1,by simp only[Wae,h];simp⟩
 | .vj _::ps,o,ids,objs,nx=>W9 ps o ids objs nx
 | .boxal t _::ps,o,ids,objs,nx=>by
  cases ids with
  |nil=>exact⟨[],rfl⟩
  |cons k ids=>
   obtain⟨pre,h⟩:=W9 ps o.2 ids ((k.id,Whu (look objs k.id) k.off (unfold t o.1 nx).1)::((unfold t o.1 nx).2.1++objs)) (unfold t o.1 nx).2.2;exact⟨pre++(k.id,Whu (look objs k.id) k.off (unfold t o.1 nx).1)::(unfold t o.1 nx).2.1,by simp only[Wae,h];simp⟩
 | .mut e::ps,o,ids,objs,nx=>by
  cases ids with
  |nil=>exact⟨[],rfl⟩
  |cons k ids=>
   obtain⟨pre,h⟩:=W9 ps o.2 ids ((k.id,.arr e o.1)::objs) nx;exact⟨pre++ [(k.id,.arr e o.1)],by simp only[Wae,h];simp⟩
 | .clos _ _::ps,o,ids,objs,nx=>W9 ps o ids objs nx
 | .kv t _::ps,o,ids,objs,nx=>by
  obtain⟨pre,h⟩:=W9 ps o.2 (ids.drop t.owns) (Wcj t o.1 ((ids.take t.owns).map Kp.id)++objs) nx;exact⟨pre++Wcj t o.1 ((ids.take t.owns).map Kp.id),by simp only[Wae,h];simp⟩
theorem Wam:∀(rs:List PTy) (d:WgZ rs) (objs:Waa) (nx:Nat),∃pre,(Wbt rs d objs nx).2.1=pre++objs
 | [],_,objs,_=>⟨[],rfl⟩
 | .v t agg::rs,d,objs,nx=>by
  obtain⟨pre,h⟩:=Wam rs d.2 ((unfold t d.1 nx).2.1++objs) (unfold t d.1 nx).2.2;exact⟨pre++(unfold t d.1 nx).2.1,by simp only[Wbt,h];simp⟩
 | .box t::rs,d,objs,nx=>by
  obtain⟨pre,h⟩:=Wam rs d.2 ((nx,.box (unfold t d.1 (nx+1)).1)::((unfold t d.1 (nx+1)).2.1++objs)) (unfold t d.1 (nx+1)).2.2;exact⟨pre++(nx,.box (unfold t d.1 (nx+1)).1)::(unfold t d.1 (nx+1)).2.1,by simp only[Wbt,h];simp⟩
 | .mut _::rs,d,objs,nx=>Wam rs d objs nx
 | .clos _ _::rs,d,objs,nx=>Wam rs d objs nx
 | .kv _ _::rs,d,objs,nx=>Wam rs d objs nx
 | .rp _::rs,d,objs,nx=>Wam rs d objs nx
 | .vj t::rs,d,objs,nx=>by
  obtain⟨pre,h⟩:=Wam rs d.2 ((unfold t d.1 nx).2.1++objs) (unfold t d.1 nx).2.2;exact⟨pre++(unfold t d.1 nx).2.1,by simp only[Wbt,h];simp⟩
 | .boxal _ _::rs,d,objs,nx=>Wam rs d objs nx
def Suf(objs:Waa)(r:Option Out):Prop:=∀x objs' nx,r=some (x,objs',nx)->∃pre,objs'=pre++objs
theorem Suf.none{objs:Waa}:Suf objs none:=λ_ _ _ h=>by cases h
theorem Suf.out{objs pre:Waa}{x:AVal}{nx:Nat}:Suf objs (WcQ x (pre++objs) nx):=λ_ _ _ h=>by
 injection h with h;have:=congrArg (λp:Out=>p.2.1) h;exact⟨pre,this.symm⟩
theorem Suf.ite{objs:Waa}{c:Prop}[Decidable c]{r:Option Out}(h:Suf objs r):Suf objs (if c then r else Option.none):=by split;exact h;exact .none
theorem Suf.bif{objs:Waa}{c:Bool}{r:Option Out}(h:Suf objs r):Suf objs (bif c then r else Option.none):=by cases c;exact .none;exact h
theorem Wi4{st af:St}{t:TypeId}{x v:AVal}(h:WcV T st t x v=some af):∃pre,af.objs=pre++st.objs:=by
 unfold WcV at h;split at h
 .split at h
  .split at h
   .injection h with h;subst h;exact⟨[_],rfl⟩
   .cases h
  .cases h
 .split at h
  .split at h
   .split at h
    .injection h with h;subst h;exact⟨[_],rfl⟩
    .cases h
   .split at h
    .split at h
     .rename_i m _;split at h
      .injection h with h;subst h;obtain⟨pre,hp⟩:=WcW st.objs m;exact⟨_::pre,by simp only[hp];rfl⟩
      .cases h
     .cases h
    .cases h
  .cases h
 .cases h
theorem Wnp(p:Option (Bool×AVal))(objs:Waa)(nx:Nat):Suf objs (match p with|some (c,v)=>bif c then WcQ v objs nx else none|none=>none):=by
 rcases p with _|⟨c,v⟩
 .exact .none
 .exact Suf.bif (Suf.out (pre:=[]))
theorem WdL(sg:Sig)(st:St)(xs:List AVal):Suf st.objs (Wfq sg st xs WcQ):=by
 unfold Wfq;split
 .rename_i A _;split
  .intro x objs' nx h;rw[sg.law]at h;cases hr:sg.run A.d with
   |none=>rw[hr]at h;cases h
   |some out=>
    rw[hr]at h;simp only[Xc]at h;injection h with h;have h2:=congrArg (λp:Out=>p.2.1) h;simp only at h2;obtain⟨p1,e1⟩:=WcW st.objs A.moved;obtain⟨p2,e2⟩:=W9 sg.ps out.1 A.kept (kill st.objs A.moved) st.nx;obtain⟨p3,e3⟩:=Wam sg.rs out.2 (Wae sg.ps out.1 A.kept (kill st.objs A.moved) st.nx).1 (Wae sg.ps out.1 A.kept (kill st.objs A.moved) st.nx).2;refine⟨p3++(p2++p1),?_⟩;rw[←h2,e3,e2,e1];simp
  .exact .none
 .exact .none
theorem Suf.over{objs:Waa}{l:List Nat}{r:Option Out}(h:Suf (kill objs l) r):Suf objs r:=λx objs' nx hr=>by
 obtain⟨p1,e1⟩:=h x objs' nx hr;obtain⟨p2,e2⟩:=WcW objs l;exact⟨p1++p2,by rw[e1,e2];simp⟩
theorem WlL(sg:Sig)(st:St)(xs:List AVal):Suf st.objs (WlG sg st xs WcQ):=by
 unfold WlG;cases sg.fresh with
 |true=>exact WdL _ _ _
 |false=>
  simp only[cond_false];split
  .split
   .exact WdL _ _ _
   .exact Suf.over (WdL sg {env:=st.env,objs:=kill st.objs _,nx:=st.nx} _)
  .exact .none
theorem WnS{objs:Waa}{x:AVal}{p:Nat×Ob}{l:List Nat}{nx:Nat}:Suf objs (WcQ x (p::kill objs l) nx):=by
 obtain⟨pre,h⟩:=WcW objs l;rw[h];exact Suf.out (pre:=p::pre)
theorem Wjk(st:St)(te:Ty)(s x:AVal):Suf st.objs (WeI st te s x WcQ):=by
 unfold WeI;split
 .split
  .split
   .split
    .exact Suf.bif WnS
    .exact .none
   .exact .none
  .exact .none
 .split
  .split
   .split
    .exact Suf.ite (Suf.bif WnS)
    .exact .none
   .exact .none
  .exact .none
 .exact .none
theorem Wjd(st:St)(e:Ty)(ps:List (Nat×AVal)):Suf st.objs (Wdj st e ps WcQ):=by
 unfold Wdj;split
 .refine Suf.ite ?_;split
  .split
   .exact Suf.ite (Suf.over WnS)
   .exact .none
  .exact .none
 .exact .none
theorem WkB(st:St)(te:Ty)(id:Nat)(l h:Option Int):Suf st.objs (Wfr st te id l h WcQ):=by
 unfold Wfr;split
 .exact Suf.ite (Suf.bif (Suf.out (pre:=[])))
 .exact .none
theorem Wp6(o:Oper)(st:St):Suf st.objs (rxe T Γ A o st WcQ):=by
 unfold rxe;split
 .split
  .exact Suf.ite (Suf.out (pre:=[_]))
  .exact Suf.ite (Suf.out (pre:=[_]))
  .exact .none
 .split
  .exact Suf.out (pre:=[_])
  .exact .none
 .split
  .split
   .split
    .exact Suf.out (pre:=[])
    .exact .none
   .exact .none
  .exact .none
 .split
  .split
   .split
    .exact Suf.ite (Wjd _ _ _)
    .split
     .exact Suf.ite (Suf.over (Suf.out (pre:=[_])))
     .exact .none
   .exact .none
  .exact .none
 .split
  .split
   .split
    .exact Suf.ite (Suf.bif (Suf.out (pre:=[_])))
    .exact Suf.ite (Suf.bif (Suf.out (pre:=[_])))
   .exact .none
  .exact .none
 .split
  .split
   .rename_i af hs;split
    .obtain⟨pre,h⟩:=Wi4 hs;rw[h];exact Suf.over Suf.out
    .exact .none
   .exact .none
  .exact .none
 .split
  .split
   .split
    .split
     .exact Suf.ite (WkB _ _ _ _ _)
     .split
      .exact Suf.ite (Suf.bif (Suf.out (pre:=[_,_])))
      .exact Suf.ite (Suf.bif (Suf.out (pre:=[_,_,_])))
      .exact .none
    .exact .none
   .exact .none
  .exact Wnp _ _ _
 .split
  .split
   .unfold WdQ;split
    .split
     .split
      .cases Ws4 st _ _ with
       |false=>exact Wjk _ _ _ _
       |true=>
       simp only[Xab,cond_false];split
       .exact Suf.bif (Suf.out (pre:=[_]))
       .split
        .split
         .exact Suf.bif (Suf.out (pre:=[_,_]))
         .exact .none
        .exact .none
       .split
        .split
         .exact Suf.bif (Suf.out (pre:=[_,_]))
         .exact .none
        .exact .none
       .exact .none
      .exact .none
     .exact .none
    .exact .none
   .exact .none
  .split
   .split
    .split
     .exact Suf.ite (Suf.out (pre:=[_]))
     .exact .none
    .exact .none
   .exact .none
  .exact Wnp _ _ _
  .split
   .split
    .exact WlL _ _ _
    .exact .none
   .exact .none
  .exact .none
 .exact Wnp _ _ _
end
end Go.Sx
namespace Go.Sx
set_option linter.unusedVariables false
set_option linter.unusedSimpArgs false
theorem WoL{x y:Nat}{l:List Nat}:y∈WwF x l↔y=x\/y∈l:=by
 unfold WwF;cases h:WbX x l with
 |true=>
  have:=(WaO x l).1 h;simp only[cond_true];exact⟨.inr,λh=>h.elim (λe=>e▸this) id⟩
 |false=>simp
theorem WjG{y:Nat}:∀(m l:List Nat),y∈WmB m l↔y∈m\/y∈l
 | [],l=>by simp[WmB]
 |x::m,l=>by
  rw[WmB,WjG m,WoL,Xo];constructor
  .rintro(h|h|h)
   .exact .inl (.inr h)
   .exact .inl (.inl h)
   .exact .inr h
  .rintro((h|h)|h)
   .exact .inr (.inl h)
   .exact .inl h
   .exact .inr (.inr h)
theorem WiP{acc:List (List Nat)}{y:Nat}:∀(ds l:List Nat),y∈Wkc acc ds l↔(∃j∈ds,y=j\/y∈acc.getD j [])\/y∈l
 | [],l=>by simp[Wkc]
 |j::ds,l=>by
  rw[Wkc,WiP ds,WjG,WoL];constructor
  .rintro(⟨k,hk,h⟩|h|h|h)
   .exact .inl ⟨k,Xf _ hk,h⟩
   .exact .inl ⟨j,Xi ..,.inr h⟩
   .exact .inl ⟨j,Xi ..,.inl h⟩
   .exact .inr h
  .rintro(⟨k,hk,h⟩|h)
   .rcases Xo.1 hk with rfl|hk
    .exact .inr (h.elim (λh=>.inr (.inl h)) .inl)
    .exact .inl ⟨k,hk,h⟩
   .exact .inr (.inr (.inr h))
def Wmf(ops:Array Oper)(S:Nat->Prop):Prop:=∀i o,ops[i]?=some o->S i->∀d∈Wna o,S d
theorem WjU{ops:Array Oper}{S:Nat->Prop}(hS:Wmf ops S):∀(l:List Oper) (acc:List (List Nat)),(∀(k:Nat) (o:Oper),l[k]?=some o->ops[acc.length+k]?=some o)->
  (∀i,S i->∀j∈acc.getD i [],S j)->∀i,S i->∀j∈(Wet l acc).getD i [],S j
 | [],acc,_,h=>h
 |o::l,acc,hl,h=>by
  refine WjU hS l _ (λk o' hk=>?_) (λi hi j hj=>?_)
  .have:=hl (k+1) o' (by simpa using hk);rw[Xz];have e:acc.length+(k+1)=acc.length+ [Wkc acc (Wna o) []].length+k:=by simp;omega
   rw[←e];exact this
  .rw[Xbc,Xba]at hj;split at hj
   .exact h i hi j (by rw[Xbc];exact hj)
   .rename_i hlt;by_cases he:i=acc.length
    .subst he;simp only[Xcz,Xdr,Xdz]at hj;rcases(WiP _ _).1 hj with⟨k,hk,dp⟩|hj
     .have hSk:=hS _ o (hl 0 o (by simp)) hi k hk;rcases dp with rfl|dp
      .exact hSk
      .exact h k hSk j dp
     .cases hj
    .have:[Wkc acc (Wna o) []][i-acc.length]?=none:=Xbl (by simp;omega);rw[this]at hj;cases hj
theorem WpI{ops:Array Oper}{S:Nat->Prop}(hS:Wmf ops S){i j:Nat}(h:Wc4 (Wet ops.toList []) j i=true)(hi:S i):S j:=
 WjU hS ops.toList [] (λk o hk=>by simpa using hk) (λi _ j hj=>by simp at hj) i hi j ((WaO _ _).1 h)
theorem Wjr{ops:Array Oper}:∀(l:List Oper) (n:Nat),Wt4 l n=true->∀(k:Nat) (o:Oper),l[k]?=some o->∀d∈Wna o,d<n+k
 | [],_,_,k,o,hk=>by simp at hk
 |o'::l,n,h,k,o,hk=>by
  simp only[Wt4,Xh,Xae]at h;cases k with
  |zero=>
   simp at hk;subst hk;intro e he;have:=h.1 e he;rw[Xhc]at this;omega
  |succ k=>
   have:=Wjr (ops:=ops) l (n+1) h.2 k o (by simpa using hk);intro e he;have:=this e he;omega
structure Order(ops:Array Oper)(l:List Nat):Prop where
 nodup:l.Nodup
 all:∀i,i<ops.size↔i∈l
 dep:∀p i s,l=p++i::s->∀o,ops[i]?=some o->∀d∈Wna o,d∈p
theorem Order.closed{ops:Array Oper}{l:List Nat}(h:Order ops l){p s:List Nat}(e:l=p++s):Wmf ops (· ∈p):=λi o ho hi d hd=>by
 obtain⟨a,b,rfl⟩:=Xei hi;have:=h.dep a i (b++s) (by rw[e];simp) o ho d hd;simp[this]
theorem Order.bef{ops:Array Oper}{l:List Nat}(h:Order ops l){p s:List Nat}{i j:Nat}(e:l=p++s)(hb:Wc4 (Wet ops.toList []) j i=true)(hi:i∈p):j∈p:=
 WpI (h.closed e) hb hi
theorem Order.bef'{ops:Array Oper}{l:List Nat}(h:Order ops l){p s:List Nat}{i j:Nat}(e:l=p++i::s)(hb:Wc4 (Wet ops.toList []) j i=true)(hne:j≠i):j∈p:=by
 have:=h.bef (p:=p++ [i]) (s:=s) (by rw[e];simp) hb (by simp);rcases Xm.1 this with h|h
 .exact h
 .simp at h;exact absurd h hne
def unl(ops:Array Oper)(listed:Array Bool):List Nat:=(Xbt ops.size).filter λi=>!listed.getD i true
theorem WfE{ops:Array Oper}{listed:Array Bool}{i:Nat}:i∈unl ops listed↔i<ops.size/\listed.getD i true=false:=by
 unfold unl;rw[Xar,Xej];simp
theorem Wgf{α:Type}{p q:α->Bool}:∀(l:List α),(∀x∈l,q x=true->p x=true)->(∃x∈l,p x=true/\q x=false)->(l.filter q).length<(l.filter p).length
 | [],_,⟨x,hx,_⟩=>by cases hx
 |x::l,h,⟨y,hy,hp,hq⟩=>by
  have hle:∀(l:List α),(∀x∈l,q x=true->p x=true)->(l.filter q).length<=(l.filter p).length:=by
   intro l
   induction l with
   |nil=>intro _;simp
   |cons x l ih=>
    intro h;have:=ih λx hx=>h x (Xf _ hx);have hx:=h x (Xi ..);rw[Xbi,Xbi];cases hqx:q x with
    |true=>rw[hx hqx];simpa using this
    |false=>cases p x<;>simp<;>omega
  rw[Xbi,Xbi];rcases Xo.1 hy with rfl|hy
  .rw[hp,hq];have:=hle l λx hx=>h x (Xf _ hx);simp;omega
  .have:=Wgf l (λx hx=>h x (Xf _ hx)) ⟨y,hy,hp,hq⟩;have hx:=h x (Xi ..);cases hqx:q x with
   |true=>rw[hx hqx];simpa using this
   |false=>cases p x<;>simp<;>omega
theorem Wlf{listed:Array Bool}{i j:Nat}:(listed.setIfInBounds i true).getD j true=(if i=j then true else listed.getD j true):=by
 simp only[Xcp,Xfd];split
 .split<;>rfl
 .rfl
theorem WsW{listed:Array Bool}{i j:Nat}(hi:i<listed.size):(listed.setIfInBounds i true).getD j false=(if i=j then true else listed.getD j false):=by
 simp only[Xcp,Xfd];split
 .simp[hi]
 .rfl
theorem WvT{listed:Array Bool}{i:Nat}(hi:i<listed.size):listed.getD i true=listed.getD i false:=by
 simp[hi]
theorem Wpv{o:Oper}{e:Edge}(he:e∈o.after)(hb:Region.binds .any e=true):e.on∈Wna o:=
 Xu.2 ⟨e,Xar.2 ⟨by simpa using he,hb⟩,rfl⟩
theorem Woz{ops:Array Oper}(hb:∀(k:Nat) (o:Oper),ops[k]?=some o->∀d∈Wna o,d<k):∀(fuel t:Nat) (listed:Array Bool),listed.size=ops.size->(unl ops listed).length<=fuel->
  (Region.linearise.go .any ops fuel t listed []).Nodup/\
  (∀i,i∈Region.linearise.go .any ops fuel t listed []↔i∈unl ops listed)/\
  (∀p i s,Region.linearise.go .any ops fuel t listed []=p++i::s->∀o,ops[i]?=some o->∀e∈o.after,Region.binds .any e=true->listed.getD e.on false=true\/e.on∈p)
 |0,t,listed,hs,hlen=>by
  have:unl ops listed= []:=Xw (by omega);simp only[Region.linearise.go,List.reverse_nil,this];exact⟨by simp,by simp,λp i s h=>by simp at h⟩
 |fuel+1,t,listed,hs,hlen=>by
  have nP:Region.linearise.go .any ops (fuel+1) t listed []=match(Region.ready .any ops listed)[t%(Region.ready .any ops listed).length]? with
   |some i=>Region.linearise.go .any ops fuel (t/(Region.ready .any ops listed).length) (listed.setIfInBounds i true) [i]
   |none=>[]:=rfl
  rw[nP];cases hi:(Region.ready .any ops listed)[t%(Region.ready .any ops listed).length]? with
  |none=>
   have bB:Region.ready .any ops listed= []:=by
    cases hr:Region.ready .any ops listed with
    |nil=>rfl
    |cons x xs=>
     rw[hr]at hi;have hlt:t%(x::xs).length<(x::xs).length:=Nat.mod_lt _ (by simp);simp at hi;simp at hlt;omega
   have hu:unl ops listed= []:=by
    have key:∀n i,i<=n->i∉unl ops listed:=by
     intro n
     induction n with
     |zero=>
      intro i ib hm;obtain⟨h1,h2⟩:=WfE.1 hm;have:i∈Region.ready .any ops listed:=by
       rw[mem_ready];refine⟨h2,ops[i],Xdj h1,λe he lD=>?_⟩;have:=hb i _ (Xdj h1) e.on (Wpv he lD);omega
      rw[bB]at this;cases this
     |succ n ih=>
      intro i ib hm;obtain⟨h1,h2⟩:=WfE.1 hm;have:i∈Region.ready .any ops listed:=by
       rw[mem_ready];refine⟨h2,ops[i],Xdj h1,λe he lD=>?_⟩;have hlt:=hb i _ (Xdj h1) e.on (Wpv he lD);have dQ:=ih e.on (by omega);have h3:e.on<ops.size:=by omega
       cases h4:listed.getD e.on true with
       |false=>exact absurd (WfE.2 ⟨h3,h4⟩) dQ
       |true=>rw[←WvT (by omega)];exact h4
      rw[bB]at this;cases this
    exact Xes.2 λi=>key i i (Xn _)
   rw[hu];exact⟨Xdl,λ_=>Iff.rfl,λp i s h=>by simp at h⟩
  |some i=>
   have yF:=Xay hi;obtain⟨h1,o,ho,h3⟩:=mem_ready.1 yF;have rJ:i<ops.size:=(Xdi.1 ho).1;have yG:i∈unl ops listed:=WfE.2 ⟨rJ,h1⟩;simp only[];rw[linearise_go_acc,List.reverse_singleton,List.singleton_append];have iK:(unl ops (listed.setIfInBounds i true)).length<=fuel:=by
    have:(unl ops (listed.setIfInBounds i true)).length<(unl ops listed).length:=by
     refine Wgf _ (λx _ hx=>?_) ⟨i,Xej.2 rJ,by simpa using h1,by rw[Wlf];simp⟩;rw[Wlf]at hx;split at hx
     .simp at hx
     .exact hx
    omega
   obtain⟨g1,g2,g3⟩:=Woz hb fuel (t/(Region.ready .any ops listed).length) (listed.setIfInBounds i true) (by simp[hs]) iK;have hmem:∀j,j∈unl ops (listed.setIfInBounds i true)↔j∈unl ops listed/\j≠i:=λj=>by
    rw[WfE,WfE,Wlf];constructor
    .rintro⟨q1,q2⟩;split at q2
     .cases q2
     .rename_i hne;exact⟨⟨q1,q2⟩,λe=>hne e.symm⟩
    .rintro⟨⟨q1,q2⟩,hne⟩;exact⟨q1,by rw[if_neg (λe=>hne e.symm)];exact q2⟩
   refine⟨Xah.2 ⟨λhm=>?_,g1⟩,λj=>?_,λp j s e o' gM ed ql lD=>?_⟩
   .exact((hmem i).1 ((g2 i).1 hm)).2 rfl
   .rw[Xo,g2,hmem];constructor
    .rintro(rfl|h)
     .exact yG
     .exact h.1
    .intro h;by_cases he:j=i
     .exact .inl he
     .exact .inr ⟨h,he⟩
   .cases p with
    |nil=>
     simp only[Xca,List.cons.injEq]at e;obtain⟨rfl,_⟩:=e;rw[ho]at gM;injection gM with gM;subst gM;exact .inl (h3 ed ql lD)
    |cons x p=>
     simp only[Xbf,List.cons.injEq]at e;obtain⟨rfl,e⟩:=e;rcases g3 p j s e o' gM ed ql lD with h|h
     .rw[WsW (by omega)]at h;split at h
      .rename_i he;exact .inr (by rw[he];simp)
      .exact .inl h
     .exact .inr (Xf _ h)
theorem Wh8{ops:Array Oper}{t:Nat}(hb:∀(k:Nat) (o:Oper),ops[k]?=some o->∀d∈Wna o,d<k):Order ops (Region.linearise .any ops t):=by
 have hu:∀i,i∈unl ops (Xeg ops.size false)↔i<ops.size:=λi=>by
  rw[WfE];constructor
  .exactλh=>h.1
  .exactλh=>⟨h,by simp[h]⟩
 obtain⟨h1,h2,h3⟩:=Woz hb ops.size t (Xeg ops.size false) (by simp) (by
  have:=Xep (λi=>!(Xeg ops.size false).getD i true) (Xbt ops.size);rw[Xfj]at this;exact this)
 refine⟨h1,λi=>by unfold Region.linearise;rw[h2,hu],λp i s e o ho d hd=>?_⟩;unfold Wna at hd;obtain⟨ed,ql,rfl⟩:=Xu.1 hd;obtain⟨ql,lD⟩:=Xar.1 ql;rcases h3 p i s e o ho ed (by simpa using ql) lD with h|h
 .exfalso;rw[Xcp,Array.getElem?_replicate]at h;split at h<;>simp at h
 .exact h
theorem WiZ{ops:Array Oper}{t:Nat}(hb:∀(k:Nat) (o:Oper),ops[k]?=some o->∀d∈Wna o,d<k):Order ops (Region.schedule true ops t):=by
 unfold Region.schedule;rw[if_pos (by simp)];exact Wh8 hb
end Go.Sx
namespace Go.Sx
set_option linter.unusedVariables false
set_option linter.unusedSimpArgs false
def WrM(n:Nat)(kept:List Nat)(o:Oper):Bool:=match o.dst with
 |some d=>Nat.blt d n&& !WbX d kept
 |none=>true
def Wdx(n:Nat)(kept:List Nat):Code->Bool
 | .region _ ops _=>ops.toList.all (WrM n kept)
 | .seq a b=>Wdx n kept a&&Wdx n kept b
 | .cond _ x y=>Wdx n kept x&&Wdx n kept y
 | .block _ c=>Wdx n kept c
 | .loop c=>Wdx n kept c
 |_=>true
theorem WnR{nt:Slots}{n:Nat}{kept:List Nat}(hn:nt.n=n)(hk:∀p∈nt.kept,p.1∈kept){o:Oper}(h:WrM n kept o=true):∀d,o.dst=some d->nt.Ok d:=λd hd=>by
 unfold WrM at h;rw[hd]at h;simp only[Xh,Xao]at h;refine⟨by have h1:=h.1;rw[Xhc]at h1;rw[hn];exact h1,λp hp e=>?_⟩;have:=hk p hp;rw[e]at this;rw[(WaO d kept).2 this]at h;exact absurd h.2 (by simp)
def Ex.to:Ex->Exit
 | .normal=>.normal
 | .exit id=>.exit id
 | .ret=>.ret
section
variable{w0:World}{F:CS}{nt:Slots}{G0:GH}{P:Program}{T:Tab}{Γ:Ctx}{A:List (Nat×An)}{R:Type}{r:R}
def Wsa(w0:World)(F:CS)(nt:Slots)(G0:GH)(k:St->Option R)(r:R)(K:Act->World->Prop):Prop:=
 ∀st a w G ν,Rel w0 F nt G0 G ν st a w->k st=some r->K a w
theorem Woe{G:GH}{ν:Nat->Nu}{st:St}{a:Act}{w:World}(hr:Rel w0 F nt G0 G ν st a w){ops:Array Oper}{j:Nat}{t:Tmp}(ht:(ops[j]?).bind (·.dst)=some t){b:Bool}(hb:(look st.env t).bind asB=some b):
  a.tmps[t]?=some (.bool b)/\yielded ops a.tmps j=some b:=by
 cases hl:look st.env t with
 |none=>simp[hl]at hb
 |some x=>
  simp only[hl,Xc]at hb;obtain⟨v,hv,hx⟩:=hr.env t x hl;have:=Wnr x v b hx hb;subst this;refine⟨hv,?_⟩;unfold yielded;rw[ht];simp[hv]
theorem Wut(hT:Wah P T)(hΓ:Wff P Γ){ops:Array Oper}{o:Oper}(hd:∀d,o.dst=some d->nt.Ok d){k:St->Option R}{K:Act->World->Prop}{Q:Exit->Act->World->Prop}(hK:Wsa w0 F nt G0 k r K)
  {st:St} {a:Act} {w:World} {G:GH} {ν:Nat->Nu} (hr:Rel w0 F nt G0 G ν st a w) (h:rxg T Γ A ops o st k=some r):
  if Region.wanted o (yielded ops a.tmps)then o.wp P a w K Q else K (a.put o.dst undef) w:=by
 unfold rxg at h;have ic:∀af,Rel w0 F nt G0 G ν af a w->Rel w0 F nt G0 G ν (af.put o.dst (.tup [])) (a.put o.dst undef) w:=λaf bO=>
  bO.put hd ⟨[],rfl,rfl,λj x v hj=>by simp at hj⟩
 have dY:∀b:Bool,AValRel G ν st.nx (one .bool b) (.bool b):=λb=>WJ (t:=.bool) (d:=b) (v:=.bool b) rfl;split at h
 .rename_i hg;simp only[Region.wanted,hg,if_true];exact WrI hT hΓ hr hd h (λaf a' w' G' ν' bO hk=>hK _ _ _ _ _ bO hk)
 .rename_i j want hg;split at h
  .rename_i t ht;split at h
   .rename_i hl;obtain⟨v,hv,hx⟩:=hr.env t _ hl;have gO:v=undef:=by
     obtain⟨vs,h1,h2,_⟩:=hx;rw[h1,Xw h2];rfl
    subst gO;have hy:yielded ops a.tmps j=none:=by
     unfold yielded;rw[ht];simp only[Xc,hv];rfl
    simp only[Region.wanted,hg,hy];rw[if_neg (by simp)];exact hK _ _ _ _ _ (ic _ hr) h
   .rename_i x _ hl;split at h
    .rename_i b hb;obtain⟨hv,hy⟩:=Woe hr ht (b:=b) (by rw[hl];exact hb);simp only[Region.wanted,hg,hy];have mH:=hr.rebind hv (dY b);cases b with
     |true=>
      simp only[cond_true]at h;cases want with
      |true=>
       simp only[if_true]at h;simp only[beq_self_eq_true,if_true];exact WrI hT hΓ mH hd h (λaf a' w' G' ν' bO hk=>hK _ _ _ _ _ bO hk)
      |false=>
       simp only[Xbm,if_false]at h;rw[if_neg (by simp)];exact hK _ _ _ _ _ (ic _ mH) h
     |false=>
      simp only[cond_false]at h;cases want with
      |true=>
       simp only[if_true]at h;rw[if_neg (by simp)];exact hK _ _ _ _ _ (ic _ mH) h
      |false=>
       simp only[Xbm,if_false]at h;simp only[beq_self_eq_true,if_true];exact WrI hT hΓ mH hd h (λaf a' w' G' ν' bO hk=>hK _ _ _ _ _ bO hk)
    .cases h
   .cases h
  .cases h
theorem WuK(hT:Wah P T)(hΓ:Wff P Γ){ops:Array Oper}:∀(l:List Oper),(∀o∈l,∀d,o.dst=some d->nt.Ok d)->∀{k:St->Option R} {Q:Exit->Act->World->Prop},Wsa w0 F nt G0 k r (Q .normal)->
  Wsa w0 F nt G0 (λst=>rxs T Γ A ops l st k) r (wpList P ops Q l)
 | [],_,k,Q,hK=>λst a w G ν hr h=>hK st a w G ν hr h
 |o::l,hd,k,Q,hK=>λst a w G ν hr h=>by
  have ih:=WuK (ops:=ops) hT hΓ l (λo ho=>hd o (Xf _ ho)) hK;have h:rxg T Γ A ops o st (λaf=>match opG A o af with
   |some (c,cg)=>bif c then rxs T Γ A ops l cg k else none
   |none=>none)=some r:=h
  have yH:Wsa w0 F nt G0 (λaf=>match opG A o af with
   |some (c,cg)=>bif c then rxs T Γ A ops l cg k else none
   |none=>none) r (wpList P ops Q l):=λdD a1 w1 G1 ν1 lE h1=>by
   have h1:(match opG A o dD with
    |some (c,cg)=>bif c then rxs T Γ A ops l cg k else none
    |none=>none)=some r:=h1
   split at h1
   .rename_i c ak hg;obtain⟨rfl,h1⟩:=WaK h1;have:∃G' ν',Rel w0 F nt G0 G' ν' ak a1 w1:=by
     unfold opG at hg;split at hg
     .split at hg
      .injection hg with hg;injection hg with _ hg;subst hg;exact⟨G1,ν1,lE⟩
      .exact WlV lE hg
     .injection hg with hg;injection hg with _ hg;subst hg;exact⟨G1,ν1,lE⟩
     .injection hg with hg;injection hg with _ hg;subst hg;exact⟨G1,ν1,lE⟩
     .injection hg with hg;injection hg with _ hg;subst hg;exact⟨G1,ν1,lE⟩
     .injection hg with hg;injection hg with _ hg;subst hg;exact⟨G1,ν1,lE⟩
    obtain⟨G2,ν2,ie⟩:=this;exact ih ak a1 w1 G2 ν2 ie h1
   .cases h1
  have:=Wut hT hΓ (hd o (Xi ..)) (Q:=Q) yH hr h;unfold wpList;split
  .rename_i hw;rw[if_pos hw]at this;exact .inl this
  .rename_i hw;rw[if_neg hw]at this;exact this
end
end Go.Sx
namespace Go.Sx
set_option linter.unusedVariables false
set_option linter.unusedSimpArgs false
section
variable{T:Tab}{Γ:Ctx}{A:List (Nat×An)}{ops:Array Oper}
theorem Wli{R:Type}(o:Oper)(st:St)(k:St->Option R):rx1 T Γ A o st k=(rx1 T Γ A o st some).bind k:=by
 unfold rx1;rw[Wgu,Wgu o st (λx objs nx=>some _),Xgv];rfl
theorem Wtx{R:Type}(o:Oper)(st:St)(k:St->Option R):rxg T Γ A ops o st k=(rxg T Γ A ops o st some).bind k:=by
 unfold rxg;cases o.guard with
 |none=>exact Wli o st k
 |some g=>
  obtain⟨j,want⟩:=g;simp only;cases(ops[j]?).bind (·.dst)with
  |none=>rfl
  |some t=>
   simp only;cases look st.env t with
   |none=>rfl
   |some x=>
    have main:(match asB x with
      |some b=>bif b
       then(if want then rx1 T Γ A o (st.put (some t) (one .bool true)) k else k ((st.put (some t) (one .bool true)).put o.dst (.tup [])))
       else(if want then k ((st.put (some t) (one .bool false)).put o.dst (.tup []))else rx1 T Γ A o (st.put (some t) (one .bool false)) k)
      |none=>none)=(match asB x with
      |some b=>bif b
       then(if want then rx1 T Γ A o (st.put (some t) (one .bool true)) some else some ((st.put (some t) (one .bool true)).put o.dst (.tup [])))
       else(if want then some ((st.put (some t) (one .bool false)).put o.dst (.tup []))else rx1 T Γ A o (st.put (some t) (one .bool false)) some)
      |none=>none).bind k:=by
     cases asB x with
     |none=>rfl
     |some b=>
      cases b<;>cases want
      .exact Wli _ _ _
      .rfl
      .rfl
      .exact Wli _ _ _
    cases x with
    |s y=>exact main
    |tup l=>
     cases l with
     |nil=>rfl
     |cons y l=>exact main
theorem Wot{R:Type}{o:Oper}{st:St}{k:St->Option R}{r:R}(h:rxg T Γ A ops o st k=some r):∃af,rxg T Γ A ops o st some=some af/\k af=some r:=by
 rw[Wtx]at h;exact Xbz.1 h
structure Eff(o:Oper)(v:AVal)(pre:Waa)(ai:Nat)(st af:St):Prop where
 env:∀t,look af.env t=if o.dst=some t then some v else look st.env t
 objs:af.objs=pre++st.objs
 nx:af.nx=ai
theorem Wde(st:St)(dst:Option Tmp)(x:AVal)(t:Nat):look (st.put dst x).env t=if dst=some t then some x else look st.env t:=by
 cases dst with
 |none=>simp[St.put]
 |some d=>
  simp only[St.put];rw[Ww];by_cases h:d=t
  .subst h;simp
  .rw[if_neg h,if_neg (by simpa using h)]
theorem WeT{st ak:St}{x:Operand}(h:∀t∈WsQ x,look ak.env t=look st.env t):ev ak x=ev st x:=by
 cases x with
 |tmp t=>exact h t (by simp[WsQ])
 |_=>rfl
theorem Wg8{st:St}{x:Operand}{v:AVal}:∀(l:List Operand),x∈l->ev st x=some v->∀id∈Wa3 v,id∈WeJ st l
 | [],h,_,_,_=>by cases h
 |y::l,h,hv,id,bA=>by
  simp only[WeJ];rcases Xo.1 h with rfl|h
  .rw[hv];exact Xk _ bA
  .split
   .exact Xg _ (Wg8 l h hv id bA)
   .exact Wg8 l h hv id bA
theorem Wf3{st ak:St}:∀(l:List Operand),(∀x∈l,ev ak x=ev st x)->WeJ ak l=WeJ st l
 | [],_=>rfl
 |x::l,h=>by simp only[WeJ,h x (Xi ..),Wf3 l λy hy=>h y (Xf _ hy)]
theorem Wst{o:Oper}{st af ak:St}(h:rx1 T Γ A o st some=some af)(he:∀x∈Wad o.op,ev ak x=ev st x)
  (hm:WaP o=true->ak.objs=st.objs/\ak.nx=st.nx) (hf:WaP o=false->∀id∈WcZ o st,look ak.objs id=look st.objs id):
  ∃v pre ai,Eff o v pre ai st af/\(WaP o=false->pre= []/\ai=st.nx)/\
   ∃bJ,rx1 T Γ A o ak some=some bJ/\(WaP o=true->Eff o v pre ai ak bJ)/\(WaP o=false->Eff o v [] ak.nx ak bJ):=by
 unfold rx1 at*;rw[Wgu]at h;obtain⟨⟨v,objs',ai⟩,h1,h2⟩:=Xbz.1 h;injection h2 with h2;subst h2;cases dR:WaP o with
 |true=>
  obtain⟨e1,e2⟩:=hm dR;obtain⟨pre,rfl⟩:=Wp6 o st v objs' ai h1;refine⟨v,pre,ai,⟨λt=>Wde _ _ _ _,by cases o.dst<;>rfl,by cases o.dst<;>rfl⟩,by simp,?_⟩;have h3:rxe T Γ A o ak WcQ=some (v,pre++st.objs,ai):=by
   obtain⟨uH,wL,nx2⟩:=ak;simp only at e1 e2;subst e1 e2;rw[WsA o (env:=uH) (st:=st) WcQ he];exact h1
  refine⟨_,?_,λ_=>⟨λt=>Wde (⟨ak.env,pre++st.objs,ai⟩) o.dst v t,?_,?_⟩,by simp⟩
  .rw[Wgu,h3];rfl
  .rw[e1];cases o.dst<;>rfl
  .cases o.dst<;>rfl
 |false=>
  rw[Wnd dR]at h1;obtain⟨u,h3,h4⟩:=Xbz.1 h1;injection h4 with h4;have e1:u=v:=congrArg (λp:Out=>p.1) h4;have e2:st.objs=objs':=congrArg (λp:Out=>p.2.1) h4;have e3:st.nx=ai:=congrArg (λp:Out=>p.2.2) h4;subst e1 e2 e3;refine⟨u,[],st.nx,⟨λt=>Wde _ _ _ _,by cases o.dst<;>rfl,by cases o.dst<;>rfl⟩,by simp,?_⟩;have h5:WuL T o ak=some u:=by
   rw[←h3];refine WpL dR he λyI x hx v hv id bA=>hf dR id ?_;unfold WcZ;rw[yI];exact Wg8 _ hx hv id bA
  refine⟨_,?_,by simp,λ_=>⟨λt=>Wde (⟨ak.env,ak.objs,ak.nx⟩) o.dst u t,?_,?_⟩⟩
  .rw[Wgu,Wnd dR,h5];rfl
  .cases o.dst<;>rfl
  .cases o.dst<;>rfl
theorem WvK{x:AVal}{b:Bool}(h:asB x=some b):x=one .bool b:=by
 unfold asB at h;split at h
 .injection h with h;subst h;rfl
 .cases h
theorem WdR{st:St}{t:Nat}{x:AVal}(h:look st.env t=some x)(t':Nat):look (st.put (some t) x).env t'=look st.env t':=by
 rw[Wde];split
 .rename_i e;injection e with e;subst e;exact h.symm
 .rfl
theorem WdU(st:St)(d:Option Tmp)(x:AVal):(st.put d x).objs=st.objs:=by cases d<;>rfl
theorem Wh3(st:St)(d:Option Tmp)(x:AVal):(st.put d x).nx=st.nx:=by cases d<;>rfl
theorem Wf6{o:Oper}{st ak:St}(h:∀x∈Wad o.op,ev ak x=ev st x):WcZ o ak=WcZ o st:=by
 unfold WcZ;rw[Wf3 _ h]
theorem Wrt{o:Oper}{st af ak:St}(h:rxg T Γ A ops o st some=some af)(he:∀t∈Wdn ops o,look ak.env t=look st.env t)
  (hm:WaP o=true->ak.objs=st.objs/\ak.nx=st.nx) (hf:WaP o=false->∀id∈WcZ o st,look ak.objs id=look st.objs id):
  ∃v pre ai,Eff o v pre ai st af/\(WaP o=false->pre= []/\ai=st.nx)/\
   ∃bJ,rxg T Γ A ops o ak some=some bJ/\(WaP o=true->Eff o v pre ai ak bJ)/\(WaP o=false->Eff o v [] ak.nx ak bJ):=by
 have wM:∀x∈Wad o.op,ev ak x=ev st x:=λx hx=>WeT λt ht=>he t (by
  unfold Wdn;exact Xk _ (Xfo.2 ⟨x,hx,ht⟩))
 unfold rxg at h⊢;cases hg:o.guard with
 |none=>
  rw[hg]at h;exact Wst h wM hm hf
 |some g=>
  obtain⟨j,want⟩:=g;rw[hg]at h;simp only at h⊢;cases ht:(ops[j]?).bind (·.dst)with
  |none=>rw[ht]at h;cases h
  |some t=>
   rw[ht]at h;simp only at h⊢;have iM:look ak.env t=look st.env t:=he t (by
    unfold Wdn;refine Xg _ ?_;rw[hg];simp only;rw[ht];simp)
   rw[iM];cases hx:look st.env t with
   |none=>rw[hx]at h;cases h
   |some x=>
    rw[hx]at h;have skip:∀(s s2:St) (s':St),some (s.put o.dst (.tup []))=some s'->(∀t,look s.env t=look st.env t)->s.objs=st.objs->s.nx=st.nx->(∀t,look s2.env t=look ak.env t)->s2.objs=ak.objs->s2.nx=ak.nx->
      ∃v pre ai,Eff o v pre ai st s'/\(WaP o=false->pre= []/\ai=st.nx)/\
       ∃bJ,some (s2.put o.dst (.tup []))=some bJ/\(WaP o=true->Eff o v pre ai ak bJ)/\(WaP o=false->Eff o v [] ak.nx ak bJ):=by
     intro s s2 s' hs a1 a2 a3 b1 b2 b3;injection hs with hs;subst hs;refine⟨.tup [],[],st.nx,⟨λt=>?_,by rw[WdU,a2];rfl,by rw[Wh3,a3]⟩,λ_=>⟨rfl,rfl⟩,_,rfl,λdR=>⟨λt=>?_,by rw[WdU,b2];rfl,by rw[Wh3,b3];exact(hm dR).2⟩,λ_=>⟨λt=>?_,by rw[WdU,b2];rfl,by rw[Wh3,b3]⟩⟩
     .rw[Wde,a1]
     .rw[Wde,b1]
     .rw[Wde,b1]
    have doit:∀b:Bool,x=one .bool b->rx1 T Γ A o (st.put (some t) (one .bool b)) some=some af->
      ∃v pre ai,Eff o v pre ai st af/\(WaP o=false->pre= []/\ai=st.nx)/\
       ∃bJ,rx1 T Γ A o (ak.put (some t) (one .bool b)) some=some bJ/\(WaP o=true->Eff o v pre ai ak bJ)/\(WaP o=false->Eff o v [] ak.nx ak bJ):=by
     intro b hb h1;subst hb;have l1:=WdR hx;have l2:=WdR (st:=ak) (t:=t) (x:=one .bool b) (by rw[iM];exact hx);have rK:∀x∈Wad o.op,ev (st.put (some t) (one .bool b)) x=ev st x:=λx hx=>WeT λt' _=>l1 t';have uI:∀x∈Wad o.op,ev (ak.put (some t) (one .bool b)) x=ev ak x:=λx hx=>WeT λt' _=>l2 t';obtain⟨v,pre,ai,e1,e2,bJ,e3,e4,e5⟩:=Wst (ak:=ak.put (some t) (one .bool b)) h1 (λx hx=>by rw[uI x hx,rK x hx,wM x hx])
      (λdR=>hm dR) (λgi id bA=>hf gi id (by rw[←Wf6 rK];exact bA))
     refine⟨v,pre,ai,⟨λt'=>by rw[e1.env,l1],e1.objs,e1.nx⟩,e2,bJ,e3,λdR=>⟨λt'=>by rw[(e4 dR).env,l2],(e4 dR).objs,(e4 dR).nx⟩,λdR=>⟨λt'=>by rw[(e5 dR).env,l2],(e5 dR).objs,(e5 dR).nx⟩⟩
    have main:(match asB x with
      |some b=>bif b
       then(if want then rx1 T Γ A o (st.put (some t) (one .bool true)) some else some ((st.put (some t) (one .bool true)).put o.dst (.tup [])))
       else(if want then some ((st.put (some t) (one .bool false)).put o.dst (.tup []))else rx1 T Γ A o (st.put (some t) (one .bool false)) some)
      |none=>none)=some af->∃v pre ai,Eff o v pre ai st af/\(WaP o=false->pre= []/\ai=st.nx)/\
       ∃bJ,(match asB x with
      |some b=>bif b
       then(if want then rx1 T Γ A o (ak.put (some t) (one .bool true)) some else some ((ak.put (some t) (one .bool true)).put o.dst (.tup [])))
       else(if want then some ((ak.put (some t) (one .bool false)).put o.dst (.tup []))else rx1 T Γ A o (ak.put (some t) (one .bool false)) some)
      |none=>none)=some bJ/\(WaP o=true->Eff o v pre ai ak bJ)/\(WaP o=false->Eff o v [] ak.nx ak bJ):=by
     intro h;cases hb:asB x with
     |none=>rw[hb]at h;cases h
     |some b=>
      rw[hb]at h;have dY:=WvK hb;have r1:∀b',b'=b->∀t',look (st.put (some t) (one .bool b')).env t'=look st.env t':=λb' e=>by subst e;exact WdR (by rw[hx,dY])
      have r2:∀b',b'=b->∀t',look (ak.put (some t) (one .bool b')).env t'=look ak.env t':=λb' e=>by subst e;exact WdR (by rw[iM,hx,dY])
      cases b<;>cases want
      .exact doit false dY h
      .exact skip _ _ _ h (r1 _ rfl) (WdU _ _ _) (Wh3 _ _ _) (r2 _ rfl) (WdU _ _ _) (Wh3 _ _ _)
      .exact skip _ _ _ h (r1 _ rfl) (WdU _ _ _) (Wh3 _ _ _) (r2 _ rfl) (WdU _ _ _) (Wh3 _ _ _)
      .exact doit true dY h
    cases x with
    |s y=>exact main h
    |tup l=>
     cases l with
     |nil=>exact skip st ak af h (λ_=>rfl) rfl rfl (λ_=>rfl) rfl rfl
     |cons y l=>exact main h
end
end Go.Sx
namespace Go.Sx
set_option linter.unusedVariables false
set_option linter.unusedSimpArgs false
structure Rc where
 i:Nat
 v:AVal
 pre:Waa
 nx:Nat
 ids:List Nat
 mv:Bool
section
variable{T:Tab}{Γ:Ctx}{A:List (Nat×An)}{ops:Array Oper}
structure StepTo(T:Tab)(Γ:Ctx)(A:List (Nat×An))(ops:Array Oper)(ρ:Rc)(o:Oper)(st af:St):Prop where
 at_:ops[ρ.i]?=some o
 isM:ρ.mv=WaP o
 lk:ρ.mv=false->ρ.ids=WcZ o st
 run:rxg T Γ A ops o st some=some af
 env:∀t,look af.env t=if o.dst=some t then some ρ.v else look st.env t
 objs:af.objs=if ρ.mv then ρ.pre++st.objs else st.objs
 nx:af.nx=if ρ.mv then ρ.nx else st.nx
def WvB(T:Tab)(Γ:Ctx)(A:List (Nat×An))(ops:Array Oper):List Rc->St->St->Prop
 | [],st,af=>st=af
 |ρ::l,st,af=>∃o dD,StepTo T Γ A ops ρ o st dD/\WvB T Γ A ops l dD af
theorem WsX{i:Nat}{o:Oper}{st af:St}(hi:ops[i]?=some o)(h:rxg T Γ A ops o st some=some af):
  ∃ρ:Rc,ρ.i=i/\StepTo T Γ A ops ρ o st af:=by
 obtain⟨v,pre,ai,e1,e2,_⟩:=Wrt (ak:=st) h (λ_ _=>rfl) (λ_=>⟨rfl,rfl⟩) (λ_ _ _=>rfl);refine⟨⟨i,v,pre,ai,WcZ o st,WaP o⟩,rfl,hi,rfl,λ_=>rfl,h,e1.env,?_,?_⟩
 .simp only;cases hm:WaP o with
  |true=>simpa using e1.objs
  |false=>rw[e1.objs,(e2 hm).1];rfl
 .simp only;cases hm:WaP o with
  |true=>simpa using e1.nx
  |false=>rw[e1.nx,(e2 hm).2];rfl
theorem StepTo.move{ρ:Rc}{o:Oper}{st af ak:St}(h:StepTo T Γ A ops ρ o st af)(he:∀t∈Wdn ops o,look ak.env t=look st.env t)
  (hm:ρ.mv=true->ak.objs=st.objs/\ak.nx=st.nx) (hf:ρ.mv=false->∀id∈ρ.ids,look ak.objs id=look st.objs id):
  ∃bJ,StepTo T Γ A ops ρ o ak bJ:=by
 obtain⟨v,pre,ai,e1,e2,bJ,e3,e4,e5⟩:=Wrt (ak:=ak) h.run he (λdR=>hm (by rw[h.isM];exact dR)) (λgi id bA=>hf (by rw[h.isM];exact gi) id (by rw[h.lk (by rw[h.isM];exact gi)];exact bA));have hv:∀t,o.dst=some t->v=ρ.v:=λt ht=>by
  have a:=e1.env t;have b:=h.env t;rw[if_pos ht]at a b;rw[a]at b;injection b
 have ub:ρ.mv=false->WcZ o ak=WcZ o st:=λ_=>Wf6 λx hx=>WeT λt ht=>he t (by
  unfold Wdn;exact Xk _ (Xfo.2 ⟨x,hx,ht⟩))
 cases dR:WaP o with
 |true=>
  have hρ:ρ.mv=true:=by rw[h.isM];exact dR
  have e4:=e4 dR;obtain⟨q1,q2⟩:=hm hρ;refine⟨bJ,h.at_,h.isM,λhf=>(by rw[hρ]at hf;cases hf),e3,λt=>?_,?_,?_⟩
  .rw[e4.env];split
   .rename_i ht;rw[hv t ht]
   .rfl
  .rw[e4.objs,hρ];simp only[if_true];have a:=e1.objs;have b:=h.objs;rw[hρ]at b;simp only[if_true]at b;rw[a]at b;rw[List.append_cancel_right b]
  .rw[e4.nx,hρ];simp only[if_true];have a:=e1.nx;have b:=h.nx;rw[hρ]at b;simp only[if_true]at b;rw[←a,b]
 |false=>
  have hρ:ρ.mv=false:=by rw[h.isM];exact dR
  have e5:=e5 dR;refine⟨bJ,h.at_,h.isM,λhf=>by rw[ub hρ];exact h.lk hρ,e3,λt=>?_,?_,?_⟩
  .rw[e5.env];split
   .rename_i ht;rw[hv t ht]
   .rfl
  .rw[e5.objs,hρ];rfl
  .rw[e5.nx,hρ];rfl
def Wt7(ids:List Nat)(pre:Waa):Prop:=∀id∈ids,id∉Whk pre
def WwZ(B:List (List Nat))(x y:Rc):Prop:=
 (x.mv=false->y.mv=true->Wc4 B x.i y.i=true\/Wt7 x.ids y.pre)/\
 (x.mv=true->y.mv=false->Wc4 B x.i y.i=true\/Wt7 y.ids x.pre)
theorem WeM{α:Type}:∀(l:List Nat) (k:List Nat->α),Wf0 l k=k l
 | [],_=>rfl
 |x::l,k=>by rw[Wf0,WeM l]
theorem WmR{α:Type}:∀(l:List (List Nat)) (k:List (List Nat)->α),WoP l k=k l
 | [],_=>rfl
 |x::l,k=>by rw[WoP,WeM,WmR l]
theorem Wjw{ids:List Nat}{pre:Waa}(h:WgP ids (Whk pre)=true):Wt7 ids pre:=λid bA hk=>by
 unfold WgP at h;have:=Xae.1 h id bA;rw[(WaO id _).2 hk]at this;cases this
theorem Wqq(pre objs:Waa):Wrj objs (pre++objs)=Whk pre:=by
 unfold Wrj;simp
theorem Wlc{B:List (List Nat)}{R:Type}{k:St->Option R}{r:R}:∀(l:List Nat) (fl mu:List (Nat×List Nat)) (st:St),rdx T Γ A ops B l fl mu st k=some r->
  ∃(rs:List Rc) (af:St),rs.map (·.i)=l/\WvB T Γ A ops rs st af/\k af=some r/\rs.Pairwise (WwZ B)/\
   (∀p∈fl,∀ρ∈rs,ρ.mv=true->Wc4 B p.1 ρ.i=true\/Wt7 p.2 ρ.pre)/\
   (∀p∈mu,∀ρ∈rs,ρ.mv=false->Wc4 B p.1 ρ.i=true\/WgP ρ.ids p.2=true)
 | [],fl,mu,st,h=>⟨[],st,rfl,rfl,h,List.Pairwise.nil,by simp,by simp⟩
 |i::l,fl,mu,st,h=>by
  simp only[rdx]at h;cases ho:ops[i]? with
  |none=>rw[ho]at h;cases h
  |some o=>
   rw[ho]at h;simp only at h;cases hm:WaP o with
   |true=>
    simp only[hm,cond_true]at h;obtain⟨dD,h1,h2⟩:=Wot h;rw[WeM]at h2;obtain⟨kj,h2⟩:=WaK h2;obtain⟨ρ,hi,hs⟩:=WsX ho h1;have hρ:ρ.mv=true:=by rw[hs.isM];exact hm
    have ar:=hs.objs;rw[hρ]at ar;simp only[if_true]at ar;rw[ar,Wqq]at kj h2;obtain⟨rs,af,q1,q2,q3,q4,q5,q6⟩:=Wlc l _ _ _ h2;refine⟨ρ::rs,af,by simp[hi,q1],⟨o,dD,hs,q2⟩,q3,List.Pairwise.cons (λy hy=>⟨λhf=>(by rw[hρ]at hf;cases hf),λ_ nQ=>?_⟩) q4,λp hp y hy nR=>?_,λp hp y hy nQ=>?_⟩
    .rcases q6 (i,Whk ρ.pre) (Xi ..) y hy nQ with h|h
     .rw[hi];exact .inl h
     .exact .inr (Wjw h)
    .rcases Xo.1 hy with rfl|hy
     .have:=Xae.1 kj p hp;rw[Xbs]at this;rw[hi];exact this.imp id Wjw
     .exact q5 p hp y hy nR
    .rcases Xo.1 hy with rfl|hy
     .rw[hρ]at nQ;cases nQ
     .exact q6 p (Xf _ hp) y hy nQ
   |false=>
    simp only[hm,cond_false]at h;rw[WeM]at h;obtain⟨kj,h⟩:=WaK h;obtain⟨dD,h1,h2⟩:=Wot h;obtain⟨ρ,hi,hs⟩:=WsX ho h1;have hρ:ρ.mv=false:=by rw[hs.isM];exact hm
    have uJ:=hs.lk hρ;rw[←uJ]at kj h2;obtain⟨rs,af,q1,q2,q3,q4,q5,q6⟩:=Wlc l _ _ _ h2;refine⟨ρ::rs,af,by simp[hi,q1],⟨o,dD,hs,q2⟩,q3,List.Pairwise.cons (λy hy=>⟨λ_ nR=>?_,λhf=>(by rw[hρ]at hf;cases hf)⟩) q4,λp hp y hy nR=>?_,λp hp y hy nQ=>?_⟩
    .rw[hi];exact q5 (i,ρ.ids) (Xi ..) y hy nR
    .rcases Xo.1 hy with rfl|hy
     .rw[hρ]at nR;cases nR
     .exact q5 p (Xf _ hp) y hy nR
    .rcases Xo.1 hy with rfl|hy
     .have:=Xae.1 kj p hp;rw[Xbs]at this;rw[hi];exact this
     .exact q6 p hp y hy nQ
def Wee(ops:Array Oper)(i:Nat):Option Tmp:=(ops[i]?).bind (·.dst)
def Wpm(ops:Array Oper):List Rc->(Nat->Option AVal)->Nat->Option AVal
 | [],e,t=>e t
 |ρ::a,e,t=>Wpm ops a (λt'=>if Wee ops ρ.i=some t' then some ρ.v else e t') t
def WhD:List Rc->Waa×Nat->Waa×Nat
 | [],m=>m
 |ρ::a,m=>WhD a (if ρ.mv then(ρ.pre++m.1,ρ.nx)else m)
theorem Wg3:∀(rs:List Rc) (st af:St),WvB T Γ A ops rs st af->(∀t,look af.env t=Wpm ops rs (look st.env) t)/\(af.objs,af.nx)=WhD rs (st.objs,st.nx)
 | [],st,af,h=>by cases h;exact⟨λ_=>rfl,rfl⟩
 |ρ::rs,st,af,⟨o,dD,hs,h⟩=>by
  obtain⟨h1,h2⟩:=Wg3 rs dD af h;have e:(look dD.env)= λt'=>if Wee ops ρ.i=some t' then some ρ.v else look st.env t':=funext λt=>by
   rw[hs.env];unfold Wee;rw[hs.at_];rfl
  refine⟨λt=>by rw[h1,e];rfl,?_⟩;rw[h2,WhD];congr 1;rw[hs.objs,hs.nx];split<;>rfl
theorem WjM:∀(a:List Rc) (ρ:Rc) (b:List Rc) (st af:St),WvB T Γ A ops (a++ρ::b) st af->∃o dD ak,WvB T Γ A ops a st dD/\StepTo T Γ A ops ρ o dD ak
 | [],ρ,b,st,af,⟨o,dD,hs,h⟩=>⟨o,st,dD,rfl,hs⟩
 |x::a,ρ,b,st,af,⟨o,dD,hs,h⟩=>by
  obtain⟨o',s1,s2,h1,h2⟩:=WjM a ρ b dD af h;exact⟨o',s1,s2,⟨o,dD,hs,h1⟩,h2⟩
theorem WbB:∀(a:List Rc) (m:Waa×Nat),WhD a m=WhD (a.filter (·.mv)) m
 | [],_=>rfl
 |ρ::a,m=>by
  rw[WhD,WbB a,Xbi];cases h:ρ.mv with
  |true=>simp only[if_true,WhD,h]
  |false=>simp only[Xbm,if_false]
theorem WdJ:∀(a b:List Rc) (m:Waa×Nat),WhD (a++b) m=WhD b (WhD a m)
 | [],_,_=>rfl
 |ρ::a,b,m=>by rw[Xbf,WhD,WdJ a b];rfl
theorem Wio{pre objs:Waa}{id:Nat}(h:id∉Whk pre):look (pre++objs) id=look objs id:=by
 induction pre with
 |nil=>rfl
 |cons p pre ih=>
  obtain⟨j,ob⟩:=p;simp only[Whk,Xai,Xo,not_or]at h;rw[Xbf,Ww,if_neg (λe=>h.1 e.symm)];exact ih h.2
theorem Wiv{id:Nat}:∀(a:List Rc) (m:Waa×Nat),(∀ρ∈a,ρ.mv=true->id∉Whk ρ.pre)->look (WhD a m).1 id=look m.1 id
 | [],_,_=>rfl
 |ρ::a,m,h=>by
  rw[WhD,Wiv a _ λx hx=>h x (Xf _ hx)];split
  .rename_i hm;exact Wio (h ρ (Xi ..) hm)
  .rfl
def Wlu(ops:Array Oper):Prop:=∀i j t,Wee ops i=some t->Wee ops j=some t->i=j
theorem Wgg{t:Nat}:∀(a:List Rc) (e:Nat->Option AVal),(∀ρ∈a,Wee ops ρ.i≠some t)->Wpm ops a e t=e t
 | [],_,_=>rfl
 |ρ::a,e,h=>by
  rw[Wpm,Wgg a _ λx hx=>h x (Xf _ hx),if_neg (h ρ (Xi ..))]
theorem Wic{t:Nat}(h1:Wlu ops):∀(a:List Rc) (e:Nat->Option AVal),(a.map (·.i)).Nodup->∀ρ∈a,Wee ops ρ.i=some t->Wpm ops a e t=some ρ.v
 | [],_,_,_,h,_=>by cases h
 |x::a,e,hn,ρ,hρ,ht=>by
  rw[Xai,Xah]at hn;rw[Wpm];rcases Xo.1 hρ with rfl|hρ
  .rw[Wgg a _ λy hy yJ=>hn.1 (by rw[h1 _ _ _ ht yJ];exact Xu.2 ⟨y,hy,rfl⟩),if_pos ht]
  .exact Wic h1 a _ hn.2 ρ hρ ht
theorem WjW{t:Nat}(h1:Wlu ops){a b:List Rc}{e:Nat->Option AVal}(ha:(a.map (·.i)).Nodup)(hb:(b.map (·.i)).Nodup)
  (h:∀ρ,Wee ops ρ.i=some t->(ρ∈a↔ρ∈b)):Wpm ops a e t=Wpm ops b e t:=by
 by_cases hx:∃ρ∈a,Wee ops ρ.i=some t
 .obtain⟨ρ,hρ,ht⟩:=hx;rw[Wic h1 a e ha ρ hρ ht,Wic h1 b e hb ρ ((h ρ ht).1 hρ) ht]
 .rw[Wgg a e λρ hρ ht=>hx ⟨ρ,hρ,ht⟩,Wgg b e λρ hρ ht=>hx ⟨ρ,(h ρ ht).2 hρ,ht⟩]
end
end Go.Sx
namespace Go.Sx
set_option linter.unusedVariables false
set_option linter.unusedSimpArgs false
theorem Wfy{α:Type}{x:α}:∀{a c b d:List α},(a++x::b).Nodup->a++x::b=c++x::d->a=c
 | [],[],_,_,_,_=>rfl
 | [],y::c,b,d,hn,h=>by
  simp only[Xca,Xbf,List.cons.injEq]at h;obtain⟨rfl,h⟩:=h;rw[Xca,Xah]at hn;exact absurd (by rw[h];simp) hn.1
 |y::a,[],b,d,hn,h=>by
  simp only[Xca,Xbf,List.cons.injEq]at h;obtain⟨rfl,h⟩:=h;rw[Xbf,Xah]at hn;exact absurd (by simp) hn.1
 |y::a,z::c,b,d,hn,h=>by
  simp only[Xbf,List.cons.injEq]at h;obtain⟨rfl,h⟩:=h;rw[Xbf,Xah]at hn;rw[Wfy hn.2 h]
def WaJ(ops:Array Oper)(i:Nat):Bool:=match ops[i]? with
 |some o=>WaP o
 |none=>false
theorem Rel.same{w0:World}{F:CS}{nt:Slots}{G0 G:GH}{ν:Nat->Nu}{st ak:St}{a:Act}{w:World}(h:Rel w0 F nt G0 G ν st a w)
  (he:∀t,look ak.env t=look st.env t) (ho:ak.objs=st.objs) (hn:ak.nx=st.nx):Rel w0 F nt G0 G ν ak a w:=
 ⟨h.defers,h.ntm,h.par,λi x hx=>by rw[he]at hx;rw[hn];exact h.env i x hx,by rw[ho,hn];exact h.h,h.gx⟩
theorem WuO:∀(rs:List Rc),(rs.map (·.i)).Nodup->∃rec:Nat->Rc,∀ρ∈rs,rec ρ.i=ρ
 | [],_=>⟨λi=>⟨i,.tup [],[],0,[],false⟩,by simp⟩
 |ρ::rs,h=>by
  rw[Xai,Xah]at h;obtain⟨rec,hr⟩:=WuO rs h.2;refine⟨λi=>if i=ρ.i then ρ else rec i,λx hx=>?_⟩;rcases Xo.1 hx with rfl|hx
  .simp
  .simp only;rw[if_neg (λe=>h.1 (by rw[←e];exact Xu.2 ⟨x,hx,rfl⟩))];exact hr x hx
section
variable{w0:World}{F:CS}{nt:Slots}{G0:GH}{P:Program}{T:Tab}{Γ:Ctx}{A:List (Nat×An)}{ops:Array Oper}{Q:Exit->Act->World->Prop}
theorem WsE(hT:Wah P T)(hΓ:Wff P Γ)(hd:∀o∈ops,∀d,o.dst=some d->nt.Ok d){l L:List Nat}(hl:Order ops l)(hL:Order ops L)(dY:Wlu ops)
  (hsl:∀(i:Nat) (o:Oper) (t:Nat),ops[i]?=some o->t∈Wdn ops o->∀j,Wee ops j=some t->j=i\/Wc4 (Wet ops.toList []) j i=true\/Wc4 (Wet ops.toList []) i j=true)
  (hσ:l.filter (WaJ ops)=L.filter (WaJ ops)) {rs:List Rc} {st af:St} (jg:rs.map (·.i)=L) (km:WvB T Γ A ops rs st af) (bR:rs.Pairwise (WwZ (Wet ops.toList [])))
  (hK:∀a w G ν,Rel w0 F nt G0 G ν af a w->Q .normal a w) {a:Act} {w:World} {G:GH} {ν:Nat->Nu} (hr:Rel w0 F nt G0 G ν st a w):wpOps P ops Q l a w:=by
 have aT:(rs.map (·.i)).Nodup:=by rw[jg];exact hL.nodup
 obtain⟨rec,aW⟩:=WuO rs aT;have hLr:L.map rec=rs:=by
  rw[←jg,Xdu]
  conv=>rhs;rw[←Xgw rs]
  exact Xez λρ hρ=>aW ρ hρ
 have iN:∀i,i∈l↔i∈L:=λi=>by rw[←hl.all,hL.all]
 have jh:∀i∈L,(rec i).i=i/\rec i∈rs:=λi hi=>by
  rw[←jg]at hi;obtain⟨ρ,hρ,rfl⟩:=Xu.1 hi;rw[aW ρ hρ];exact⟨rfl,hρ⟩
 have iO:∀i∈L,∃pre post o dD ak,L=pre++i::post/\WvB T Γ A ops (pre.map rec) st dD/\StepTo T Γ A ops (rec i) o dD ak:=λi hi=>by
  obtain⟨pre,post,e⟩:=Xei hi;have:rs=pre.map rec++rec i::post.map rec:=by rw[←hLr,e];simp
  rw[this]at km;obtain⟨o,dD,ak,h1,h2⟩:=WjM _ _ _ _ _ km;exact⟨pre,post,o,dD,ak,e,h1,h2⟩
 have gy:∀i∈L,(rec i).mv=WaJ ops i:=λi hi=>by
  obtain⟨pre,post,o,dD,ak,e,h1,h2⟩:=iO i hi;rw[h2.isM];have:=h2.at_;rw[(jh i hi).1]at this;unfold WaJ;rw[this]
 have fC:∀(p:List Nat),(∀i∈p,i∈L)->(p.map rec).filter (·.mv)=(p.filter (WaJ ops)).map rec:=by
  intro p
  induction p with
  |nil=>intro _;rfl
  |cons i p ih=>
   intro h;have:=ih λj hj=>h j (Xf _ hj);rw[Xai,Xbi,Xbi,gy i (h i (Xi ..))];split
   .rw[Xai,this]
   .exact this
 have nS:∀(p:List Nat),(∀i∈p,i∈L)->(p.map rec).map (·.i)=p:=by
  intro p h;rw[Xdu]
  conv=>rhs;rw[←Xgw p]
  exact Xez λi hi=>(jh i (h i hi)).1
 have ib:∀(p:List Nat),(∀i∈p,i∈L)->∀i∈L,(rec i∈p.map rec↔i∈p):=λp hp i hi=>by
  constructor
  .intro h;obtain⟨j,hj,e⟩:=Xu.1 h;have:j=i:=by rw[←(jh j (hp j hj)).1,←(jh i hi).1,e]
   rw[←this];exact hj
  .exactλh=>Xu.2 ⟨i,h,rfl⟩
 have mI:∀i j pre post,L=pre++i::post->j∈post->WwZ (Wet ops.toList []) (rec i) (rec j):=λi j pre post e hj=>by
  have:rs=pre.map rec++rec i::post.map rec:=by rw[←hLr,e];simp
  rw[this,List.pairwise_append]at bR;exact(List.pairwise_cons.1 bR.2.1).1 _ (Xu.2 ⟨j,hj,rfl⟩)
 suffices main:∀(s p:List Nat),l=p++s->∀(ak:St) (a:Act) (w:World) (G:GH) (ν:Nat->Nu),Rel w0 F nt G0 G ν ak a w->
   (∀t,look ak.env t=Wpm ops (p.map rec) (look st.env) t)->(ak.objs,ak.nx)=WhD (p.map rec) (st.objs,st.nx)->wpOps P ops Q s a w from
  main l [] rfl st a w G ν hr (λ_=>rfl) rfl
 intro s
 induction s with
 |nil=>
  intro p e ak a w G ν ie he hm;rw[Xcy]at e;subst e;obtain⟨f1,f2⟩:=Wg3 _ _ _ km;have rL:∀i∈l,i∈L:=λi hi=>(iN i).1 hi;refine hK a w G ν (ie.same (λt=>?_) ?_ ?_)
  .rw[f1,he];refine WjW dY aT (by rw[nS l rL];exact hl.nodup) λρ _=>?_;constructor
   .intro hρ;have hi:ρ.i∈L:=by rw[←jg];exact Xu.2 ⟨ρ,hρ,rfl⟩
    rw[←aW ρ hρ];exact(ib l rL ρ.i hi).2 ((iN _).2 hi)
   .intro hρ;obtain⟨i,hi,rfl⟩:=Xu.1 hρ;exact(jh i (rL i hi)).2
  .have:WhD (l.map rec) (st.objs,st.nx)=WhD rs (st.objs,st.nx):=by
    rw[WbB,fC l rL,hσ,←fC L (λi hi=>hi),←WbB,hLr]
   rw[this,←f2]at hm;exact(congrArg (·.1) hm).symm
  .have:WhD (l.map rec) (st.objs,st.nx)=WhD rs (st.objs,st.nx):=by
    rw[WbB,fC l rL,hσ,←fC L (λi hi=>hi),←WbB,hLr]
   rw[this,←f2]at hm;exact(congrArg (·.2) hm).symm
 |cons i s ih=>
  intro p e ak a w G ν ie he hm;have qm:i∈L:=(iN i).1 (by rw[e];simp);have rM:∀j∈p,j∈L:=λj hj=>(iN j).1 (by rw[e];exact Xk _ hj);obtain⟨pre,post,o,dD,yK,eL,h1,h2⟩:=iO i qm;have iP:∀j∈pre,j∈L:=λj hj=>by rw[eL];exact Xk _ hj
  have nT:ops[i]?=some o:=by have:=h2.at_;rw[(jh i qm).1]at this;exact this
  obtain⟨g1,g2⟩:=Wg3 _ _ _ h1;have lF:=hl.nodup;have lG:=hL.nodup;rw[e]at lF;rw[eL]at lG;have rN:i∉p:=λh=>(Xak.1 lF).2.2 i h i (Xi ..) rfl;have iQ:i∉pre:=λh=>(Xak.1 lG).2.2 i h i (Xi ..) rfl;have nU:∀t∈Wdn ops o,look ak.env t=look dD.env t:=λt ht=>by
   rw[he,g1];refine WjW dY (by rw[nS p rM];exact(Xak.1 lF).1) (by rw[nS pre iP];exact(Xak.1 lG).1) λρ hρt=>?_;have key:∀j∈L,Wee ops j=some t->(j∈p↔j∈pre):=λj hj uv=>by
    rcases hsl i o t nT ht j uv with rfl|hb|hb
    .exact⟨λh=>absurd h rN,λh=>absurd h iQ⟩
    .by_cases lH:j=i
     .subst lH;exact⟨λh=>absurd h rN,λh=>absurd h iQ⟩
     .exact⟨λ_=>hL.bef' eL hb lH,λ_=>hl.bef' e hb lH⟩
    .exact⟨λh=>absurd (hl.bef e hb h) rN,λh=>absurd (hL.bef eL hb h) iQ⟩
   constructor
   .intro hρ;obtain⟨j,hj,rfl⟩:=Xu.1 hρ;have rO:=rM j hj;rw[(jh j rO).1]at hρt;exact Xu.2 ⟨j,(key j rO hρt).1 hj,rfl⟩
   .intro hρ;obtain⟨j,hj,rfl⟩:=Xu.1 hρ;have rO:=iP j hj;rw[(jh j rO).1]at hρt;exact Xu.2 ⟨j,(key j rO hρt).2 hj,rfl⟩
  have wN:WhD (p.map rec) (st.objs,st.nx)=WhD ((p.filter (WaJ ops)).map rec) (st.objs,st.nx):=by rw[WbB,fC p rM]
  have mJ:WhD (pre.map rec) (st.objs,st.nx)=WhD ((pre.filter (WaJ ops)).map rec) (st.objs,st.nx):=by rw[WbB,fC pre iP]
  obtain⟨yL,h3⟩:=h2.move (ak:=ak) nU (λdR=>by
   have uK:WaJ ops i=true:=by rw[←gy i qm];exact dR
   have:p.filter (WaJ ops)=pre.filter (WaJ ops):=by
    have q:=hσ;rw[e,eL,Xct,Xct,Xbi,Xbi,if_pos uK,if_pos uK]at q;refine Wfy ?_ q;have:=hl.nodup.filter (WaJ ops);rw[e,Xct,Xbi,if_pos uK]at this;exact this
   rw[wN,this,←mJ,←g2]at hm;exact⟨congrArg (·.1) hm,congrArg (·.2) hm⟩) (λgi id bA=>by
   have q:(p.filter (WaJ ops))<+:l.filter (WaJ ops):=by rw[e,Xct];exact Xgn _ _
   have q2:(pre.filter (WaJ ops))<+:l.filter (WaJ ops):=by rw[hσ,eL,Xct];exact Xgn _ _
   have uq:ak.objs=(WhD ((p.filter (WaJ ops)).map rec) (st.objs,st.nx)).1:=by rw[←wN,←hm]
   have qh:dD.objs=(WhD ((pre.filter (WaJ ops)).map rec) (st.objs,st.nx)).1:=by rw[←mJ,←g2]
   rw[uq,qh];rcases List.prefix_or_prefix_of_prefix q q2 with⟨X,hX⟩|⟨X,hX⟩
   .
    rw[←hX,Xp,WdJ];refine(Wiv _ _ λρ hρ hρm=>?_).symm;obtain⟨m,qn,rfl⟩:=Xu.1 hρ;have ig:m∈pre:=(Xar.1 (by rw[←hX];exact Xg _ qn:m∈pre.filter (WaJ ops))).1;have nV:m∉p:=λhmem=>by
     have uL:WaJ ops m=true:=(Xar.1 (by rw[←hX];exact Xg _ qn:m∈pre.filter (WaJ ops))).2;have kn:(pre.filter (WaJ ops)).Nodup:=(Xak.1 lG).1.filter _;rw[←hX]at kn;exact(Xak.1 kn).2.2 m (Xar.2 ⟨hmem,uL⟩) m qn rfl
    obtain⟨u,v,eu⟩:=Xei ig;have hf:=mI m i u (v++i::post) (by rw[eL,eu];simp) (by simp);rcases hf.2 hρm gi with hb|hb
    .rw[(jh m (iP m ig)).1,(jh i qm).1]at hb;exact absurd (hl.bef' e hb (λhc=>iQ (hc▸ig))) nV
    .exact hb id bA
   .rw[←hX,Xp,WdJ];refine Wiv _ _ λρ hρ hρm=>?_;obtain⟨m,qn,rfl⟩:=Xu.1 hρ;have wO:m∈p.filter (WaJ ops):=by rw[←hX];exact Xg _ qn
    have lI:m∈p:=(Xar.1 wO).1;have nV:m∉pre:=λhmem=>by
     have uL:WaJ ops m=true:=(Xar.1 wO).2;have kn:(p.filter (WaJ ops)).Nodup:=(Xak.1 lF).1.filter _;rw[←hX]at kn;exact(Xak.1 kn).2.2 m (Xar.2 ⟨hmem,uL⟩) m qn rfl
    have wP:=rM m lI;have nW:m∈post:=by
     rw[eL]at wP;rcases Xm.1 wP with h|h
     .exact absurd h nV
     .rcases Xo.1 h with h|h
      .exact absurd (h▸lI) rN
      .exact h
    have hf:=mI i m pre post eL nW;rcases hf.1 gi hρm with hb|hb
    .rw[(jh m (rM m lI)).1,(jh i qm).1]at hb;exact absurd (hl.bef e hb lI) rN
    .exact hb id bA)
  have yM:∀d,o.dst=some d->nt.Ok d:=hd o (Array.mem_of_getElem? nT);have tG:=Wut (F:=F) (G0:=G0) (w0:=w0) hT hΓ yM (Q:=Q) (k:=some) (r:=yL) (K:=wpOps P ops Q s) (λyN a' w' G' ν' hr4 h4=>by
   injection h4 with h4;subst h4;refine ih (p++ [i]) (by rw[e];simp) yN a' w' G' ν' hr4 (λt=>?_) ?_
   .rw[h3.env];have hv:Wpm ops ((p++ [i]).map rec) (look st.env) t=if Wee ops i=some t then some (rec i).v else Wpm ops (p.map rec) (look st.env) t:=by
     rw[Xp];have gen:∀(x:List Rc) (y:Rc) (e:Nat->Option AVal),Wpm ops (x++ [y]) e t=if Wee ops y.i=some t then some y.v else Wpm ops x e t:=by
      intro x
      induction x with
      |nil=>intro y e;rfl
      |cons z x ih=>intro y e;rw[Xbf,Wpm,ih];rfl
     rw[List.map_singleton,gen,(jh i qm).1]
    rw[hv,he];have:Wee ops i=o.dst:=by unfold Wee;rw[nT];rfl
    rw[this]
   .rw[Xp,WdJ,←hm];simp only[Xai,Xck,WhD];rw[h3.objs,h3.nx];split<;>rfl) ie h3.run
  rw[wpOps_cons];unfold wpOp;rw[nT];simp only;split
  .rename_i hw;rw[if_pos hw]at tG;exact .inl tG
  .rename_i hw;rw[if_neg hw]at tG;exact tG
end
end Go.Sx
namespace Go.Sx
set_option linter.unusedVariables false
set_option linter.unusedSimpArgs false
theorem WjZ:∀{l:List (Nat×Nat)},Wbq (l.map (·.1))=true->∀p∈l,∀q∈l,p.1=q.1->p=q
 | [],_,p,hp,_,_,_=>by cases hp
 |x::l,h,p,hp,q,hq,e=>by
  have hn:=(Wfe _).1 h;simp only[Xai,Wbq,Xh]at h;rw[Xai,Xah]at hn;rcases Xo.1 hp with h1|h1
  .rcases Xo.1 hq with h2|h2
   .rw[h1,h2]
   .exact absurd (Xu.2 ⟨q,h2,by rw[←e,h1]⟩) hn.1
  .rcases Xo.1 hq with h2|h2
   .exact absurd (Xu.2 ⟨p,h1,by rw[e,h2]⟩) hn.1
   .exact WjZ h.2 p h1 q h2 e
theorem WjE:∀(l:List Oper) (n k:Nat) (o:Oper) (d:Nat),l[k]?=some o->o.dst=some d->(d,n+k)∈Whd l n
 | [],_,k,o,d,h,_=>by simp at h
 |x::l,n,k,o,d,h,hd=>by
  cases k with
  |zero=>
   simp at h;subst h;simp only[Whd,hd];exact Xi ..
  |succ k=>
   have:=WjE l (n+1) k o d (by simpa using h) hd;have e:n+(k+1)=n+1+k:=by omega
   rw[e];simp only[Whd];split
   .exact Xf _ this
   .exact this
theorem Whm{ops:Array Oper}{B:List (List Nat)}{D:List (Nat×Nat)}:∀(l:List Oper) (n:Nat),Wkh ops B D l n=true->∀(k:Nat) (o:Oper),l[k]?=some o->∀t∈Wdn ops o,∀p∈D,p.1=t->
  p.2=n+k\/Wc4 B p.2 (n+k)=true\/Wc4 B (n+k) p.2=true
 | [],_,_,k,o,h=>by simp at h
 |x::l,n,h,k,o,hk=>by
  simp only[Wkh,Xh]at h;cases k with
  |zero=>
   simp at hk;subst hk;intro t ht p hp e;have:=Xae.1 (Xae.1 h.1 t ht) p hp;simp only[Xbs,Xao]at this;rcases this with((h1|h1)|h1)|h1
   .rw[e]at h1;simp at h1
   .exact .inl (by simpa using h1)
   .exact .inr (.inl h1)
   .exact .inr (.inr h1)
  |succ k=>
   have:=Whm l (n+1) h.2 k o (by simpa using hk);have e:n+(k+1)=n+1+k:=by omega
   rw[e];exact this
structure RegOk(ops:Array Oper):Prop where
 back:∀(k:Nat) (o:Oper),ops[k]?=some o->∀d∈Wna o,d<k
 one:Wlu ops
 slots:∀(i:Nat) (o:Oper) (t:Nat),ops[i]?=some o->t∈Wdn ops o->∀j,Wee ops j=some t->j=i\/Wc4 (Wet ops.toList []) j i=true\/Wc4 (Wet ops.toList []) i j=true
theorem Win{ops:Array Oper}{j t:Nat}(h:Wee ops j=some t):(t,j)∈Whd ops.toList 0:=by
 unfold Wee at h;obtain⟨o,ho,hd⟩:=Xbz.1 h;have:=WjE ops.toList 0 j o t (by simpa using ho) hd;rw[Xaw]at this;exact this
theorem WpQ{ops:Array Oper}(h:Wvm ops (Wet ops.toList [])=true):RegOk ops:=by
 simp only[Wvm,Xh]at h;obtain⟨⟨h1,h2⟩,h3⟩:=h;refine⟨λk o ho e he=>?_,λi j t hi hj=>?_,λi o t ho ht j hj=>?_⟩
 .have:=Wjr (ops:=ops) ops.toList 0 h1 k o (by simpa using ho) e he;omega
 .have:=WjZ h2 _ (Win hi) _ (Win hj) rfl;exact congrArg (·.2) this
 .have:=Whm ops.toList 0 h3 i o (by simpa using ho) t ht _ (Win hj) rfl;simpa using this
theorem Wju{ops:Array Oper}:∀(l done:List Nat),Wi6 ops l done=true->done.Nodup->(∀i∈done,i<ops.size)->
  (done++l).Nodup/\(∀i∈done++l,i<ops.size)/\(done++l).length=ops.size/\(∀p i s,l=p++i::s->∀o,ops[i]?=some o->∀d∈Wna o,d∈done++p)
 | [],done,h,hn,hlt=>by
  simp only[Wi6]at h;exact⟨by simpa using hn,by simpa using hlt,by simpa using h,λp i s e=>by simp at e⟩
 |x::l,done,h,hn,hlt=>by
  simp only[Wi6,Xh,Xao]at h;obtain⟨⟨h1,h2⟩,h3⟩:=h;have hx:x∉done:=λhm=>by rw[(WaO x done).2 hm]at h1;cases h1
  cases ho:ops[x]? with
  |none=>rw[ho]at h2;cases h2
  |some o=>
   rw[ho]at h2;have nK:x<ops.size:=(Xdi.1 ho).1;obtain⟨g1,g2,g3,g4⟩:=Wju l (x::done) h3 (Xah.2 ⟨hx,hn⟩) (λi hi=>by
    rcases Xo.1 hi with rfl|hi
    .exact nK
    .exact hlt i hi)
   have ko:List.Perm (x::done++l) (done++x::l):=by simpa using(List.perm_middle (a:=x) (l₁:=done) (l₂:=l)).symm
   refine⟨ko.nodup_iff.1 g1,λi hi=>g2 i (ko.mem_iff.2 hi),by rw[←ko.length_eq];exact g3,λp i s e o' gM d hd=>?_⟩;cases p with
   |nil=>
    simp only[Xca,List.cons.injEq]at e;obtain⟨rfl,_⟩:=e;rw[ho]at gM;injection gM with gM;subst gM;have:=Xae.1 h2 d hd;simpa using(WaO d done).1 this
   |cons y p=>
    simp only[Xbf,List.cons.injEq]at e;obtain⟨rfl,e⟩:=e;have:=g4 p i s e o' gM d hd;simp only[Xbf,Xo,Xm]at this⊢;rcases this with h|h|h
    .exact .inr (.inl h)
    .exact .inl h
    .exact .inr (.inr h)
theorem Wno{l:List Nat}{n:Nat}(hn:l.Nodup)(hlt:∀i∈l,i<n)(hlen:l.length=n):∀i,i<n->i∈l:=by
 intro i hi;refine Classical.byContradiction λh=>?_;have h1:(i::l).Nodup:=Xah.2 ⟨h,hn⟩;have h2:∀j∈i::l,j∈Xbt n:=λj hj=>by
  rw[Xej];rcases Xo.1 hj with rfl|hj
  .exact hi
  .exact hlt j hj
 have key:∀(a b:List Nat),a.Nodup->(∀x∈a,x∈b)->a.length<=b.length:=by
  intro a
  induction a with
  |nil=>intro b _ _;simp
  |cons x a ih=>
   intro b nX cu;rw[Xah]at nX;have rP:x∈b:=cu x (Xi ..);have:=ih (b.erase x) nX.2 λy hy=>(Xge (λe=>nX.1 (by rw[←e];exact hy))).2 (cu y (Xf _ hy));rw[Xfq rP]at this;have hpos:=Xfy rP;simp;omega
 have:=key _ _ h1 h2;rw[Xfj,Xr]at this;omega
theorem Wnw{ops:Array Oper}{l:List Nat}(h:Wi6 ops l []=true):Order ops l:=by
 obtain⟨h1,h2,h3,h4⟩:=Wju l [] h Xdl (by simp);rw[Xca]at h1 h2 h3;exact⟨h1,λi=>⟨Wno h1 h2 h3 i,h2 i⟩,λp i s e o ho d hd=>by simpa using h4 p i s e o ho d hd⟩
theorem WjK:∀(l:List Oper) (n i:Nat),i∈Whx l n↔n<=i/\∃o,l[i-n]?=some o/\WaP o=true
 | [],n,i=>by simp[Whx]
 |o::l,n,i=>by
  have ih:=WjK l (n+1) i;have rQ:(n<=i/\∃o',(o::l)[i-n]?=some o'/\WaP o'=true)↔(i=n/\WaP o=true)\/(n+1<=i/\∃o',l[i-(n+1)]?=some o'/\WaP o'=true):=by
   by_cases hi:i=n
   .subst hi;constructor
    .rintro⟨_,o',h1,h2⟩;rw[Xcz]at h1;injection h1 with h1;subst h1;exact .inl ⟨rfl,h2⟩
    .rintro(⟨_,h⟩|⟨h,_⟩)
     .exact⟨Xn _,o,by rw[Xcz];rfl,h⟩
     .omega
   .constructor
    .rintro⟨h0,o',h1,h2⟩;have e:i-n=(i-(n+1))+1:=by omega
     rw[e,Xds]at h1;exact .inr ⟨by omega,o',h1,h2⟩
    .rintro(⟨h,_⟩|⟨h0,o',h1,h2⟩)
     .exact absurd h hi
     .have e:i-n=(i-(n+1))+1:=by omega
      exact⟨by omega,o',by rw[e,Xds];exact h1,h2⟩
  rw[rQ,←ih];simp only[Whx];cases hm:WaP o with
  |true=>simp
  |false=>simp
theorem Wma{ops:Array Oper}{i:Nat}:i∈Whx ops.toList 0↔WaJ ops i=true:=by
 rw[WjK];unfold WaJ;simp only[Xbk,true_and,Xdc,Array.getElem?_toList];cases ops[i]? with
 |none=>simp
 |some o=>simp
theorem Wpe{B:List (List Nat)}:∀(σ rem:List Nat) (n:Nat),σ.length<=n->σ.Nodup->(∀i,i∈rem↔i∈σ)->(∀p m s,σ=p++m::s->∀m'∈m::s,Wc4 B m' m=false)->σ∈Wvf B n rem
 | [],rem,n,hn,aT,hmem,hb=>by
  have:rem= []:=Xes.2 λi hi=>by have:=(hmem i).1 hi;cases this
  subst this;cases n<;>simp[Wvf]
 |m::s,rem,0,hn,_,_,_=>by simp at hn
 |m::s,rem,n+1,hn,aT,hmem,hb=>by
  have hm:m∈rem:=(hmem m).2 (Xi ..);rw[Xah]at aT;cases ji:rem with
  |nil=>rw[ji]at hm;cases hm
  |cons x xs=>
   rw[←ji];have jj:Wvf B (n+1) rem=(rem.filter λm=>rem.all λm'=>!Wc4 B m' m).flatMap λm=>(Wvf B n (rem.filter λx=>!Xbw x m)).map (m:: ·):=by rw[ji];rfl
   rw[jj];refine Xfo.2 ⟨m,Xar.2 ⟨hm,Xae.2 λm' hY=>?_⟩,Xu.2 ⟨s,?_,rfl⟩⟩
   .rw[hb [] m s rfl m' ((hmem m').1 hY)];rfl
   .refine Wpe s _ n (by simpa using hn) aT.2 (λi=>?_) (λp q s' e=>hb (m::p) q s' (by rw[e];rfl));rw[Xar,hmem,Xo];constructor
    .rintro⟨h1,h2⟩;rcases h1 with rfl|h1
     .simp at h2
     .exact h1
    .intro h;refine⟨.inr h,?_⟩;have hne:i≠m:=λe=>aT.1 (e▸h);cases hb':Xbw i m with
     |false=>rfl
     |true=>exact absurd (Nat.eq_of_beq_eq_true hb') hne
theorem Wun:∀(l m:List Nat),eqN l m=true->l=m
 | [],[],_=>rfl
 | [],_::_,h=>by cases h
 |_::_,[],h=>by cases h
 |i::l,j::m,h=>by
  simp only[eqN,Xh]at h;have:i=j:=by simpa using h.1
  rw[this,Wun l m h.2]
theorem Wsd{α:Type}{a b:Option α}{r:α}(h:WhE a b=some r):a=some r/\b=some r:=by
 unfold WhE at h;split at h
 .rename_i e;exact⟨h,e▸h⟩
 .cases h
section
variable{w0:World}{F:CS}{nt:Slots}{G0:GH}{P:Program}{T:Tab}{Γ:Ctx}{A:List (Nat×An)}{R:Type}{r:R}
theorem WoM{ops:Array Oper}{B:List (List Nat)}{st:St}{k:St->Option R}:∀(l:List (List Nat)),Wv7 T Γ A ops B st k l=some r->∀σ∈l,∃L,Wi6 ops L []=true/\L.filter (λi=>WbX i σ)=σ/\rdx T Γ A ops B L [] [] st k=some r
 | [],_,σ,hσ=>by cases hσ
 |τ::l,h,σ,hσ=>by
  have one:Wf0 (Wlr ops.toList B ops.size [] τ) (λL=>bif Wi6 ops L []&&eqN (L.filter λi=>WbX i τ) τ then rdx T Γ A ops B L [] [] st k else none)=some r->∃L,Wi6 ops L []=true/\L.filter (λi=>WbX i τ)=τ/\rdx T Γ A ops B L [] [] st k=some r:=λh=>by
   rw[WeM]at h;obtain⟨hc,h⟩:=WaK h;simp only[Xh]at hc;exact⟨_,hc.1,Wun _ _ hc.2,h⟩
  cases l with
  |nil=>
   simp only[Wv7]at h;rcases Xo.1 hσ with rfl|hσ
   .exact one h
   .cases hσ
  |cons x l=>
   have h:WhE (Wf0 (Wlr ops.toList B ops.size [] τ) (λL=>bif Wi6 ops L []&&eqN (L.filter λi=>WbX i τ) τ then rdx T Γ A ops B L [] [] st k else none)) (Wv7 T Γ A ops B st k (x::l))=some r:=h;obtain⟨h1,h2⟩:=Wsd h;rcases Xo.1 hσ with rfl|hσ
   .exact one h1
   .exact WoM (x::l) h2 σ hσ
theorem Wub(hM:P.follows .mixedOrders=true)(hT:Wah P T)(hΓ:Wff P Γ){id:Nat}{ops:Array Oper}(hd:∀o∈ops,∀d,o.dst=some d->nt.Ok d){k:St->Option R}{Q:Exit->Act->World->Prop}(hK:Wsa w0 F nt G0 k r (Q .normal)):
  Wsa w0 F nt G0 (λst=>WvL T Γ A ops st k) r ((Code.region id ops true).wp P Q):=λst a w G ν hr h=>by
 simp only[WvL,WmR]at h;obtain⟨uM,h⟩:=WaK h;have hR:=WpQ uM;refine wp_region_draw λt=>?_;rw[hM];have hl:Order ops (Region.schedule true ops t):=WiZ hR.back;generalize Region.schedule true ops t=l at hl;have hσ:l.filter (WaJ ops)∈Wvf (Wet ops.toList []) ops.size (Whx ops.toList 0):=by
  refine Wpe _ _ _ ?_ (hl.nodup.filter _) (λi=>?_) (λp m s e m' hY=>?_)
  .refine Xcr (Xep _ _) ?_;have dW:l.length<=(Xbt ops.size).length:=by
    have key:∀(a b:List Nat),a.Nodup->(∀x∈a,x∈b)->a.length<=b.length:=by
     intro a
     induction a with
     |nil=>intro b _ _;simp
     |cons x a ih=>
      intro b nX cu;rw[Xah]at nX;have rP:x∈b:=cu x (Xi ..);have:=ih (b.erase x) nX.2 λy hy=>(Xge (λe=>nX.1 (by rw[←e];exact hy))).2 (cu y (Xf _ hy));rw[Xfq rP]at this;have hpos:=Xfy rP;simp;omega
    exact key _ _ hl.nodup λx hx=>Xej.2 ((hl.all x).2 hx)
   rw[Xfj]at dW;exact dW
  .rw[Wma,Xar];constructor
   .intro h;refine⟨(hl.all i).1 ?_,h⟩;unfold WaJ at h;split at h
    .rename_i o ho;exact(Xdi.1 ho).1
    .cases h
   .exactλh=>h.2
  .cases hb:Wc4 (Wet ops.toList []) m' m with
   |false=>rfl
   |true=>
    exfalso;have qo:m∈l:=(Xar.1 (by rw[e];simp:m∈l.filter (WaJ ops))).1;obtain⟨u,v,eu⟩:=Xei qo;have hm'u:m'∈u++ [m]:=hl.bef (p:=u++ [m]) (s:=v) (by rw[eu];simp) hb (by simp);have uN:WaJ ops m=true:=(Xar.1 (by rw[e];simp:m∈l.filter (WaJ ops))).2;have rR:=hl.nodup.filter (WaJ ops);have e2:l.filter (WaJ ops)=u.filter (WaJ ops)++m::v.filter (WaJ ops):=by rw[eu,Xct,Xbi,if_pos uN]
    have yO:p=u.filter (WaJ ops):=by
     refine Wfy (b:=s) (d:=v.filter (WaJ ops)) (x:=m) ?_ ?_
     .rw[←e];exact rR
     .rw[←e,e2]
    rcases Xo.1 hY with rfl|hm's
    .
     have:=hl.bef (p:=u++ [m']) (s:=v) (by rw[eu];simp) hb (by simp);have hcl:Wmf ops (λj=>j∈u\/(j=m'/\False)):=λi o ho hi d hd=>by
      rcases hi with hi|⟨_,hf⟩
      .exact .inl (hl.closed (p:=u) (s:=m'::v) eu i o ho hi d hd)
      .exact hf.elim
     have back:∀(j i:Nat),Wc4 (Wet ops.toList []) j i=true->j<i:=λj i lH=>by
      have hcl2:Wmf ops (λx=>x<i\/(x=i)):=λx o ho hx d hd=>by
       have:d<x:=hR.back x o ho d hd;omega
      refine Classical.byContradiction λhn=>?_;have hlt:∀(l:List Oper) (acc:List (List Nat)),(∀(k:Nat) (o:Oper),l[k]?=some o->ops[acc.length+k]?=some o)->(∀i,∀j∈acc.getD i [],j<i)->∀i,∀j∈(Wet l acc).getD i [],j<i:=by
       intro l
       induction l with
       |nil=>intro acc _ h;exact h
       |cons o l ih=>
        intro acc hl h;refine ih _ (λk o' hk=>?_) (λi j hj=>?_)
        .have:=hl (k+1) o' (by simpa using hk);rw[Xz];have e:acc.length+(k+1)=acc.length+ [Wkc acc (Wna o) []].length+k:=by simp;omega
         rw[←e];exact this
        .rw[Xbc,Xba]at hj;split at hj
         .exact h i j (by rw[Xbc];exact hj)
         .by_cases he:i=acc.length
          .subst he;simp only[Xcz,Xdr,Xdz]at hj;rcases(WiP _ _).1 hj with⟨k,hk,dp⟩|hj
           .have iJ:k<acc.length:=hR.back acc.length o (hl 0 o (by simp)) k hk;rcases dp with rfl|dp
            .exact iJ
            .have:=h k j dp;omega
           .cases hj
          .have:[Wkc acc (Wna o) []][i-acc.length]?=none:=Xbl (by simp;omega);rw[this]at hj;cases hj
      exact hn (hlt ops.toList [] (λk o hk=>by simpa using hk) (λi j hj=>by simp at hj) i j ((WaO _ _).1 lH))
     have:=back m' m' hb;omega
    .
     have hm'l:m'∈p:=by
      rw[yO];rcases Xm.1 hm'u with h|h
      .refine Xar.2 ⟨h,?_⟩;exact(Xar.1 (by rw[e];simp[hm's]:m'∈l.filter (WaJ ops))).2
      .simp at h;subst h;rw[e]at rR;have:=(Xah.1 (Xak.1 rR).2.1).1;exact absurd hm's this
     rw[e]at rR;exact(Xak.1 rR).2.2 m' hm'l m' (Xf _ hm's) rfl
 obtain⟨L,g1,g2,g3⟩:=WoM _ h _ hσ;have hL:=Wnw g1;obtain⟨rs,af,q1,q2,q3,q4,_,_⟩:=Wlc _ _ _ _ g3;have hf:l.filter (WaJ ops)=L.filter (WaJ ops):=by
  rw[←g2];refine List.filter_congr λi hi=>?_;cases hm:WaJ ops i with
  |true=>exact(WaO _ _).2 (Xar.2 ⟨(hl.all i).1 ((hL.all i).2 hi),hm⟩)
  |false=>
   cases he:WbX i (l.filter (WaJ ops))with
   |false=>rfl
   |true=>
    have:=(Xar.1 ((WaO _ _).1 he)).2;rw[hm]at this;cases this
 have bO:Rel w0 F nt G0 G ν st a {w with drawn:=w.drawn+1}:=⟨hr.defers,hr.ntm,hr.par,hr.env,?_,hr.gx⟩
 .exact WsE hT hΓ hd hl hL hR.one hR.slots hf q1 q2 q4 (λa w G ν hr=>hK af a w G ν hr q3) bO
 .exact hr.h.drew
end
end Go.Sx
namespace Go.Sx
set_option linter.unusedVariables false
set_option linter.unusedSimpArgs false
section
variable{w0:World}{F:CS}{nt:Slots}{G0:GH}{P:Program}{T:Tab}{Γ:Ctx}{A:List (Nat×An)}{R:Type}{r:R}
theorem WnI(hM:P.follows .mixedOrders=true)(hT:Wah P T)(hΓ:Wff P Γ){n:Nat}{kept:List Nat}(hn:nt.n=n)(nY:∀p∈nt.kept,p.1∈kept){ann:Nat->List Ghost}{N:Nat}:∀(c:Code),Wdx n kept c=true->∀{k:Ex->St->Option R} {Q:Exit->Act->World->Prop},
  (∀e,Wsa w0 F nt G0 (k e) r (Q e.to))->Wsa w0 F nt G0 (λst=>sx T Γ ann N c st k) r (c.wp P Q)
 | .skip,_,k,Q,hK=>λst a w G ν hr h=>wp_skip (hK .normal st a w G ν hr h)
 | .exit id,_,k,Q,hK=>λst a w G ν hr h=>wp_exit (hK (.exit id) st a w G ν hr h)
 | .ret,_,k,Q,hK=>λst a w G ν hr h=>wp_ret (hK .ret st a w G ν hr h)
 | .region id ops draw,aH,k,Q,hK=>λst a w G ν hr h=>by
  have fA:Wsa w0 F nt G0 (λaf=>match Wd9 (ann id) af with|some (c,cg)=>bif c then k .normal cg else none|none=>none) r (Q .normal):=λaf a' w' G' ν' bO h'=>by
   simp only at h';split at h'
   .rename_i c cg hg;obtain⟨rfl,h'⟩:=WaK h';obtain⟨G2,ν2,ie⟩:=Wdo _ _ _ _ _ bO hg;exact hK .normal _ _ _ _ _ ie h'
   .cases h'
  have rS:∀o∈ops,∀d,o.dst=some d->nt.Ok d:=λo ho=>WnR hn nY (Xae.1 aH o (by simpa using ho));cases draw with
  |true=>exact Wub hM hT hΓ rS fA st a w G ν hr h
  |false=>exact wp_region_list (WuK hT hΓ ops.toList (λo ho=>rS o (by simpa using ho)) fA st a w G ν hr h)
 | .seq x y,aH,k,Q,hK=>λst a w G ν hr h=>by
  simp only[Wdx,Xh]at aH;refine wp_seq (WnI hM hT hΓ hn nY x aH.1 (Q:=Exit.then (y.wp P Q) Q) (λe=>?_) st a w G ν hr h);cases e with
  |normal=>exact WnI hM hT hΓ hn nY y aH.2 hK
  |exit id=>exact hK (.exit id)
  |ret=>exact hK .ret
 | .cond c x y,aH,k,Q,hK=>λst a w G ν hr h=>by
  simp only[Wdx,Xh]at aH;simp only[sx]at h;split at h
  .rename_i b hb;cases hv:ev st c with
   |none=>simp[hv]at hb
   |some v=>
    simp only[hv,Xc]at hb;have hc:=Wnr v _ b (WF hr c v hv) hb;refine wp_cond hc ?_;cases b with
    |true=>exact WnI hM hT hΓ hn nY x aH.1 hK st a w G ν hr h
    |false=>exact WnI hM hT hΓ hn nY y aH.2 hK st a w G ν hr h
  .cases h
 | .block id c,aH,k,Q,hK=>λst a w G ν hr h=>by
  simp only[Wdx]at aH;refine wp_block (WnI hM hT hΓ hn nY c aH (Q:=Exit.inBlock id Q) (λe=>?_) st a w G ν hr h);cases e with
  |normal=>exact hK .normal
  |exit bI=>
   intro af a' w' G' ν' bO h';simp only[Ex.to,Exit.inBlock];split
   .rename_i he;simp only[he,if_true]at h';exact hK .normal _ _ _ _ _ bO h'
   .rename_i he;simp only[he,if_false]at h';exact hK (.exit bI) _ _ _ _ _ bO h'
  |ret=>exact hK .ret
 | .loop c,aH,k,Q,hK=>λst a w G ν hr h=>by
  simp only[Wdx]at aH;refine wp_loop_rounds N ?_;have key:∀(m:Nat),Wsa w0 F nt G0 (λst=>Wn1 (Wj2 (ann (WfI c)) λst k=>sx T Γ ann N c st k) m st k) r (Code.rounds P c Q m):=by
   intro m
   induction m with
   |zero=>intro st a w G ν hr h;cases h
   |succ m ih=>
    intro st a w G ν hr h;rw[rounds_succ];have h:sx T Γ ann N c st (λe af=>match e with
     | .normal=>match Wd9 (ann (WfI c)) af with
      |some (b,cg)=>bif b then Wn1 (Wj2 (ann (WfI c)) λst k=>sx T Γ ann N c st k) m cg k else none
      |none=>none
     | .exit id=>k (.exit id) af
     | .ret=>k .ret af)=some r:=by
     rw[←h];simp only[Wn1,Wj2];congr 1
    refine WnI hM hT hΓ hn nY c aH (Q:=Exit.then (Code.rounds P c Q m) Q) (λe=>?_) st a w G ν hr h;cases e with
    |normal=>
     intro af a' w' G' ν' bO h';simp only at h';split at h'
     .rename_i b cg hg;obtain⟨rfl,h'⟩:=WaK h';obtain⟨G2,ν2,ie⟩:=Wdo _ _ _ _ _ bO hg;exact ih _ _ _ _ _ ie h'
     .cases h'
    |exit id=>exact hK (.exit id)
    |ret=>exact hK .ret
  have h:(match Wd9 (ann (WfI c)) st with
   |some (b,af)=>bif b then Wn1 (Wj2 (ann (WfI c)) λst k=>sx T Γ ann N c st k) N af k else none
   |none=>none)=some r:=h
  split at h
  .rename_i b af hg;obtain⟨rfl,h⟩:=WaK h;obtain⟨G2,ν2,ie⟩:=Wdo _ _ _ _ _ hr hg;exact key N _ _ _ _ _ ie h
  .cases h
 | .scope ..,_,k,Q,hK=>λst a w G ν hr h=>by cases h
 | .label ..,_,k,Q,hK=>λst a w G ν hr h=>by cases h
 | .goto ..,_,k,Q,hK=>λst a w G ν hr h=>by cases h
 | .rangeFunc ..,_,k,Q,hK=>λst a w G ν hr h=>by cases h
 | .refuse ..,_,k,Q,hK=>λst a w G ν hr h=>by cases h
end
end Go.Sx
namespace Go.Sx
set_option linter.unusedVariables false
set_option linter.unusedSimpArgs false
section
variable{w0:World}{F:CS}{nt:Slots}{G0 G G':GH}{ν:Nat->Nu}{φ:Nat->CS}{objs:Waa}{nx ai:Nat}{st af:St}{a:Act}{w w':World}{P:Program}{T:Tab}{Γ:Ctx}
theorem WhA:∀(xs:List AVal) (j i:Nat),look (Wg9 j xs) i=if j<=i then xs[i-j]? else none
 | [],j,i=>by simp[Wg9,look]
 |x::xs,j,i=>by
  simp only[Wg9];rw[Ww,WhA xs (j+1) i];by_cases h:j=i
  .subst h;simp
  .by_cases h2:j<=i
   .have h3:j+1<=i:=by omega
    rw[if_neg h,if_pos h3,if_pos h2,show i-j=(i-(j+1))+1 by omega];rfl
   .rw[if_neg h,if_neg h2,if_neg (by omega)]
theorem WjI:∀(l:List Nat),WrT (Wjm l)=l
 | []=>rfl
 |i::l=>by
  show i::WrT (Wjm l)=i::l;rw[WjI l]
theorem Wjn:∀(ps:List PTy) (d:Wfk ps) (objs:Waa) (nx n:Nat),Wj1 ps n=true->∃ids,ids.length=n/\(WH ps d objs nx).1.take n=Wjm ids
 |_,_,_,_,0,_=>⟨[],rfl,rfl⟩
 | [],_,_,_,_+1,h=>by cases h
 | .v _ _::_,_,_,_,_+1,h=>by cases h
 | .mut _::_,_,_,_,_+1,h=>by cases h
 | .clos _ _::_,_,_,_,_+1,h=>by cases h
 | .kv _ _::_,_,_,_,_+1,h=>by cases h
 | .rp _::_,_,_,_,_+1,h=>by cases h
 | .vj _::_,_,_,_,_+1,h=>by cases h
 | .boxal _ _::_,_,_,_,_+1,h=>by cases h
 | .box t::ps,d,objs,nx,n+1,h=>by
  obtain⟨ids,h1,h2⟩:=Wjn ps d.2 ((nx,.box (unfold t d.1 (nx+1)).1)::((unfold t d.1 (nx+1)).2.1++objs)) (unfold t d.1 (nx+1)).2.2 n h;refine⟨nx::ids,by simp[h1],?_⟩;simp only[WH,List.take_succ_cons,h2];rfl
theorem Wcq:∀(ps:List PTy) (d:Wfk ps) (vs:List Value) (ns:List Pc) (ks:List Nu) (objs:Waa) (nx ai:Nat),Wco ps=true->Wbj G w ps d vs ns ks->At ν φ nx ns->nx+ns.length<=ai->
  (WH ps d objs nx).2.2=nx+ns.length/\
  (∀id ob,look (WH ps d objs nx).2.1 id=some ob->(nx<=id/\id<nx+ns.length/\Wcw G ν ai w id (φ id) ob)\/look objs id=some ob)/\
  (WH ps d objs nx).1.length=vs.length/\∀(j:Nat) (x:AVal) (v:Value),(WH ps d objs nx).1[j]?=some x->vs[j]?=some v->AValRel G ν ai x v
 | [],d,vs,ns,ks,objs,nx,ai,_,⟨h1,h2,h3⟩,_,_=>by
  subst h1 h2;exact⟨rfl,λid ob h=>.inr h,rfl,λj x v h=>by simp[WH]at h⟩
 | .v t agg::ps,d,vs,ns,ks,objs,nx,ai,eX,⟨v,vs',n1,n2,h1,h2,h3,h4⟩,hν,hx=>by
  subst h2;obtain⟨us,jz⟩:=WnF h3;have aY:=W3 _ _ _ _ jz;have hlen:(n1++n2).length=t.owns+n2.length:=by rw[Xz,aY]
  obtain⟨_,o1⟩:=Wat t d.1 nx us n1 jz hν.left;obtain⟨e1,e2,e3,e4⟩:=Wcq ps d.2 vs' n2 ks ((unfold t d.1 nx).2.1++objs) (nx+t.owns) ai eX h4 (hν.right aY) (by omega);simp only[WH,WaM];refine⟨by rw[e1,hlen];omega,λid ob hl=>?_,by rw[h1];simp[e3],λj x u hj hu=>?_⟩
  .rcases e2 id ob hl with⟨g1,g2,g3⟩|g
   .exact .inl ⟨by omega,by omega,g3⟩
   .rcases WC g with g|g
    .obtain⟨g1,g2,e,xs,rfl,g3⟩:=o1 id ob g;exact .inl ⟨g1,by omega,g3⟩
    .exact .inr g
  .rw[h1]at hu;cases j with
   |zero=>simp at hj hu;subst hj hu;exact WkP h3 hν.left (by omega)
   |succ j=>exact e4 j x u (by simpa using hj) (by simpa using hu)
 | .kv t agg::ps,d,vs,ns,ks,objs,nx,ai,eX,⟨v,vs',n1,n2,ks',h1,h2,_,h3,h4⟩,hν,hx=>by
  subst h2;obtain⟨us,jz⟩:=WnF h3;have aY:=W3 _ _ _ _ jz;have hlen:(n1++n2).length=t.owns+n2.length:=by rw[Xz,aY]
  obtain⟨_,o1⟩:=Wat t d.1 nx us n1 jz hν.left;obtain⟨e1,e2,e3,e4⟩:=Wcq ps d.2 vs' n2 ks' ((unfold t d.1 nx).2.1++objs) (nx+t.owns) ai eX h4 (hν.right aY) (by omega);simp only[WH,WaM];refine⟨by rw[e1,hlen];omega,λid ob hl=>?_,by rw[h1];simp[e3],λj x u hj hu=>?_⟩
  .rcases e2 id ob hl with⟨g1,g2,g3⟩|g
   .exact .inl ⟨by omega,by omega,g3⟩
   .rcases WC g with g|g
    .obtain⟨g1,g2,e,xs,rfl,g3⟩:=o1 id ob g;exact .inl ⟨g1,by omega,g3⟩
    .exact .inr g
  .rw[h1]at hu;cases j with
   |zero=>simp at hj hu;subst hj hu;exact WkP h3 hν.left (by omega)
   |succ j=>exact e4 j x u (by simpa using hj) (by simpa using hu)
 | .box t::ps,d,vs,ns,ks,objs,nx,ai,eX,⟨b,o,vs',n1,n2,ks',h1,h2,h3,⟨us,hrow,hmem,gN⟩,h6⟩,hν,hx=>by
  subst h2;have aY:=W3 _ _ _ _ gN;have hlen:((⟨Wb3 b o,rng b o t.size⟩:Pc)::(n1++n2)).length=1+t.owns+n2.length:=by rw[Xr,Xz,aY];omega
  obtain⟨hν0,hφ0⟩:ν nx=Wb3 b o/\φ nx=rng b o t.size:=by have:=hν 0 _ rfl;simpa using this
  have hν1:At ν φ (nx+1) (n1++n2):=hν.right (n1:=[⟨Wb3 b o,rng b o t.size⟩]) rfl;obtain⟨c1,o1⟩:=Wat t d.1 (nx+1) us n1 gN hν1.left;have cJ:=Wb1 t d.1 (nx+1);obtain⟨e1,e2,e3,e4⟩:=Wcq ps d.2 vs' n2 ks' ((nx,.box (unfold t d.1 (nx+1)).1)::((unfold t d.1 (nx+1)).2.1++objs)) (nx+1+t.owns) ai eX h6 (hν1.right aY) (by omega);simp only[WH,WaM];refine⟨by rw[e1,hlen];omega,λid ob hl=>?_,by rw[h1];simp[e3],λj x u hj hu=>?_⟩
  .rcases e2 id ob hl with⟨g1,g2,g3⟩|g
   .exact .inl ⟨by omega,by omega,g3⟩
   .rw[Ww]at g;split at g
    .rename_i e;subst e;injection g with g;subst g;exact .inl ⟨Xn _,by omega,b,us,by rw[hν0];rfl,by rw[hν0,cJ];exact hrow,by rw[hν0];exact hmem,c1 ai (by omega),by rw[hν0,cJ,hφ0];exactλ_ _ hh=>hh⟩
    .rcases WC g with g|g
     .obtain⟨g1,g2,e,xs,rfl,g3⟩:=o1 id ob g;exact .inl ⟨by omega,by omega,g3⟩
     .exact .inr g
  .rw[h1]at hu;cases j with
   |zero=>
    simp at hj hu;subst hj hu;exact⟨⟨by omega,b,by rw[hν0];rfl,by rw[hν0];rfl⟩,rfl⟩
   |succ j=>exact e4 j x u (by simpa using hj) (by simpa using hu)
 | .vj _::_,_,_,_,_,_,_,_,_,h,_,_=>h.elim
 | .boxal t lf::ps,d,vs,ns,ks,objs,nx,ai,eX,⟨b,o,b',pc,vs',n1,n2,ks',h1,h2,h3,⟨us,hrow,hmem,gN⟩,h4,h5,h7,h6⟩,hν,hx=>by
  subst h2;have aY:=W3 _ _ _ _ gN;have hlen:((⟨Wb3 b o,rng b o t.size⟩:Pc)::(n1++n2)).length=1+t.owns+n2.length:=by rw[Xr,Xz,aY];omega
  obtain⟨hν0,hφ0⟩:ν nx=Wb3 b o/\φ nx=rng b o t.size:=by have:=hν 0 _ rfl;simpa using this
  have hν1:At ν φ (nx+1) (n1++n2):=hν.right (n1:=[⟨Wb3 b o,rng b o t.size⟩]) rfl;obtain⟨c1,o1⟩:=Wat t d.1 (nx+1) us n1 gN hν1.left;have cJ:=Wb1 t d.1 (nx+1);have wQ:lf<n1.length:=(Xs.1 h4).1;have hνl:ν (nx+1+lf)=pc.nu:=(hν1.left lf pc h4).1;obtain⟨e1,e2,e3,e4⟩:=Wcq ps d.2.2 vs' n2 ks' ((nx,.box (unfold t d.1 (nx+1)).1)::((unfold t d.1 (nx+1)).2.1++objs)) (nx+1+t.owns) ai eX h6 (hν1.right aY) (by omega);simp only[WH,WaM];refine⟨by rw[e1,hlen];omega,λid ob hl=>?_,by rw[h1];simp[e3],λj x u hj hu=>?_⟩
  .rcases e2 id ob hl with⟨g1,g2,g3⟩|g
   .exact .inl ⟨by omega,by omega,g3⟩
   .rw[Ww]at g;split at g
    .rename_i e;subst e;injection g with g;subst g;exact .inl ⟨Xn _,by omega,b,us,by rw[hν0];rfl,by rw[hν0,cJ];exact hrow,by rw[hν0];exact hmem,c1 ai (by omega),by rw[hν0,cJ,hφ0];exactλ_ _ hh=>hh⟩
    .rcases WC g with g|g
     .obtain⟨g1,g2,e,xs,rfl,g3⟩:=o1 id ob g;exact .inl ⟨by omega,by omega,g3⟩
     .exact .inr g
  .rw[h1]at hu
   match j with
   |0=>
    simp at hj hu;subst hj hu;exact⟨⟨by omega,b,by rw[hν0];rfl,by rw[hν0];rfl⟩,rfl⟩
   |1=>
    simp at hj hu;subst hj hu;exact⟨⟨by omega,by rw[hνl];exact h7,b',by rw[hνl];exact h5,by rw[hνl];rfl⟩,rfl⟩
   |j+2=>exact e4 j x u (by simpa using hj) (by simpa using hu)
 | .rp t::ps,d,vs,ns,ks,objs,nx,ai,eX,⟨b,o,us,vs',h1,h2,h3,h4⟩,hν,hx=>by
  obtain⟨e1,e2,e3,e4⟩:=Wcq ps d.2 vs' ns ks objs nx ai eX h4 hν hx;simp only[WH];refine⟨e1,e2,by rw[h1];simp[e3],λj x u hj hu=>?_⟩;rw[h1]at hu;cases j with
  |zero=>
   simp at hj hu;subst hj hu;exact⟨⟨b,o,us,by rw[Xat],h2,h3⟩,rfl⟩
  |succ j=>exact e4 j x u (by simpa using hj) (by simpa using hu)
 | .mut e::ps,d,vs,ns,ks,objs,nx,ai,eX,⟨pc,vs',n2,ks',h1,h2,h3,h4,h5⟩,hν,hx=>by
  subst h2;have hlen:(pc::n2).length=1+n2.length:=by rw[Xr];omega
  obtain⟨hν0,hφ0⟩:ν nx=pc.nu/\φ nx=pc.fp:=by have:=hν 0 _ rfl;simpa using this
  obtain⟨e1,e2,e3,e4⟩:=Wcq ps d.2 vs' n2 ks' ((nx,.arr e d.1)::objs) (nx+1) ai eX h5 (hν.right (n1:=[pc]) rfl) (by omega);simp only[WH];refine⟨by rw[e1,hlen];omega,λid ob hl=>?_,by rw[h1];simp[e3],λj x u hj hu=>?_⟩
  .rcases e2 id ob hl with⟨g1,g2,g3⟩|g
   .exact .inl ⟨by omega,by omega,g3⟩
   .rw[Ww]at g;split at g
    .rename_i e;subst e;injection g with g;subst g;refine .inl ⟨Xn _,by omega,?_⟩;show OwnL w (TyRel G w _) _ (ν nx) d.1 (φ nx);rw[hν0,hφ0];exact h4
    .exact .inr g
  .rw[h1]at hu;cases j with
   |zero=>
    simp at hj hu;subst hj hu;exact⟨⟨by omega,by rw[hν0]⟩,Wik _⟩
   |succ j=>exact e4 j x u (by simpa using hj) (by simpa using hu)
 | .clos g n::ps,d,vs,ns,ks,objs,nx,ai,eX,⟨cvs,vs',h1,h2,h3,h4⟩,hν,hx=>by
  simp only[Wco,Xh]at eX;obtain⟨e1,e2,e3,e4⟩:=Wcq ps d (cvs++vs') ns ks objs nx ai eX.2 h4 hν hx;obtain⟨ids,g1,g2⟩:=Wjn ps d objs nx n eX.1;simp only[WH];rw[g2,WjI];have hlen:(WH ps d objs nx).1.length=n+vs'.length:=by rw[e3,Xz,h2]
  have kp:∀(j id:Nat),ids[j]?=some id->(WH ps d objs nx).1[j]?=some (AVal.s (.one (.ptr id 0))):=λj id hj=>by
   have hlt:j<n:=by rw[←g1];exact(Xs.1 hj).1
   have:((WH ps d objs nx).1.take n)[j]?=some (.s (.one (.ptr id 0))):=by rw[g2];simp[Wjm,hj]
   rw[List.getElem?_take,if_pos hlt]at this;exact this
  refine⟨e1,e2,by rw[h1];simp[hlen],λj x u hj hu=>?_⟩;rw[h1]at hu;cases j with
  |zero=>
   simp at hj hu;subst hj hu;refine⟨⟨cvs,rfl,by rw[h2,g1],λj id u hj hu=>?_⟩,rfl⟩;have hlt:j<cvs.length:=(Xs.1 hu).1;obtain⟨⟨q1,q2⟩,q3⟩:=e4 j _ u (kp j id hj) (by rw[List.getElem?_append_left hlt];exact hu);exact⟨q1,q3,q2⟩
  |succ j=>
   have hj':(WH ps d objs nx).1[n+j]?=some x:=by
    rw[←List.getElem?_drop];simpa using hj
   exact e4 (n+j) x u hj' (by rw[Xaz (by omega),h2,Xbd];simpa using hu)
theorem Wdg:∀(ps:List PTy) (d:Wfk ps) (vs:List Value) (ns:List Pc) (ks:List Nu),Wbj G w ps d vs ns ks->vs.length<=WbR ps
 | [],d,vs,ns,ks,⟨h1,_,_⟩=>by rw[h1];exact Xn _
 | .v t agg::ps,d,vs,ns,ks,⟨v,vs',n1,n2,h1,h2,h3,h4⟩=>by rw[h1,Xr];have:=Wdg ps _ _ _ _ h4;simp only[WbR];omega
 | .box t::ps,d,vs,ns,ks,⟨b,o,vs',n1,n2,ks',h1,h2,h3,h4,h6⟩=>by rw[h1,Xr];have:=Wdg ps _ _ _ _ h6;simp only[WbR];omega
 | .mut e::ps,d,vs,ns,ks,⟨pc,vs',n2,ks',h1,h2,h3,h4,h5⟩=>by rw[h1,Xr];have:=Wdg ps _ _ _ _ h5;simp only[WbR];omega
 | .clos g n::ps,d,vs,ns,ks,⟨cvs,vs',h1,h2,h3,h4⟩=>by rw[h1,Xr];have:=Wdg ps _ _ _ _ h4;simp at this;simp only[WbR];omega
 | .kv t agg::ps,d,vs,ns,ks,⟨v,vs',n1,n2,ks',h1,h2,gK,h3,h4⟩=>by rw[h1,Xr];have:=Wdg ps _ _ _ _ h4;simp only[WbR];omega
 | .rp t::ps,d,vs,ns,ks,⟨b,o,us,vs',h1,h2,h3,h4⟩=>by rw[h1,Xr];have:=Wdg ps _ _ _ _ h4;simp only[WbR];omega
 | .vj _::_,_,_,_,_,h=>h.elim
 | .boxal t lf::ps,d,vs,ns,ks,⟨b,o,b',pc,vs',n1,n2,ks',h1,h2,h3,h4,h5,h6,h7,h8⟩=>by rw[h1,Xr,Xr];have:=Wdg ps _ _ _ _ h8;simp only[WbR];omega
def Wnq(i:Nat)(vs:List Value):List (Nat×Value):=match vs with
 |v::_=>[(i,v)]
 | []=>[]
def Wx:List PTy->Nat->Nat->List Value->List (Nat×Value)
 | [],_,_,_=>[]
 |_::ps,i,k+1,vs=>Wx ps i k vs
 | .v _ _::ps,i,0,vs=>Wx ps (i+1) 0 vs.tail
 | .box _::ps,i,0,vs=>Wnq i vs++Wx ps (i+1) 0 vs.tail
 | .mut _::ps,i,0,vs=>Wnq i vs++Wx ps (i+1) 0 vs.tail
 | .clos _ n::ps,i,0,vs=>Wnq i vs++Wx ps (i+1) n vs.tail
 | .kv _ _::ps,i,0,vs=>Wnq i vs++Wx ps (i+1) 0 vs.tail
 | .rp _::ps,i,0,vs=>Wx ps (i+1) 0 vs.tail
 | .vj _::ps,i,0,vs=>Wx ps (i+1) 0 vs.tail
 | .boxal _ _::ps,i,0,vs=>Wnq i vs++Wx ps (i+2) 0 vs.tail.tail
theorem Wbp{i:Nat}{vs:List Value}{p:Nat×Value}(h:p∈Wnq i vs):p.1=i/\vs[0]?=some p.2:=by
 unfold Wnq at h;split at h
 .simp at h;subst h;exact⟨rfl,rfl⟩
 .cases h
theorem WO:∀(ps:List PTy) (i k:Nat) (vs:List Value),∀p∈Wx ps i k vs,p.1∈Wd6 ps i k
 | [],_,_,_,p,h=>by simp[Wx]at h
 | .v _ _::ps,i,k+1,vs,p,h=>WO ps i k vs p h
 | .box _::ps,i,k+1,vs,p,h=>WO ps i k vs p h
 | .mut _::ps,i,k+1,vs,p,h=>WO ps i k vs p h
 | .clos _ _::ps,i,k+1,vs,p,h=>WO ps i k vs p h
 | .v _ _::ps,i,0,vs,p,h=>WO ps (i+1) 0 vs.tail p h
 | .box _::ps,i,0,vs,p,h=>by
  simp only[Wx]at h;rcases Xm.1 h with h|h
  .rw[(Wbp h).1];exact Xi ..
  .exact Xf _ (WO ps (i+1) 0 vs.tail p h)
 | .mut _::ps,i,0,vs,p,h=>by
  simp only[Wx]at h;rcases Xm.1 h with h|h
  .rw[(Wbp h).1];exact Xi ..
  .exact Xf _ (WO ps (i+1) 0 vs.tail p h)
 | .clos _ n::ps,i,0,vs,p,h=>by
  simp only[Wx]at h;rcases Xm.1 h with h|h
  .rw[(Wbp h).1];exact Xi ..
  .exact Xf _ (WO ps (i+1) n vs.tail p h)
 | .kv _ _::ps,i,k+1,vs,p,h=>WO ps i k vs p h
 | .kv _ _::ps,i,0,vs,p,h=>by
  simp only[Wx]at h;rcases Xm.1 h with h|h
  .rw[(Wbp h).1];exact Xi ..
  .exact Xf _ (WO ps (i+1) 0 vs.tail p h)
 | .rp _::ps,i,k+1,vs,p,h=>WO ps i k vs p h
 | .rp _::ps,i,0,vs,p,h=>WO ps (i+1) 0 vs.tail p h
 | .vj _::ps,i,k+1,vs,p,h=>WO ps i k vs p h
 | .vj _::ps,i,0,vs,p,h=>WO ps (i+1) 0 vs.tail p h
 | .boxal _ _::ps,i,k+1,vs,p,h=>WO ps i k vs p h
 | .boxal _ _::ps,i,0,vs,p,h=>by
  simp only[Wx]at h;rcases Xm.1 h with h|h
  .rw[(Wbp h).1];exact Xi ..
  .exact Xf _ (WO ps (i+2) 0 vs.tail.tail p h)
theorem WG:∀(ps:List PTy) (i k:Nat) (vs:List Value),∀p∈Wx ps i k vs,i<=p.1/\vs[p.1-i]?=some p.2
 | [],_,_,_,p,h=>by simp[Wx]at h
 | .v _ _::ps,i,k+1,vs,p,h=>WG ps i k vs p h
 | .box _::ps,i,k+1,vs,p,h=>WG ps i k vs p h
 | .mut _::ps,i,k+1,vs,p,h=>WG ps i k vs p h
 | .clos _ _::ps,i,k+1,vs,p,h=>WG ps i k vs p h
 | .v _ _::ps,i,0,vs,p,h=>by
  obtain⟨h1,h2⟩:=WG ps (i+1) 0 vs.tail p h;refine⟨by omega,?_⟩;rw[show p.1-i=(p.1-(i+1))+1 by omega,←Xci];exact h2
 | .box _::ps,i,0,vs,p,h=>by
  simp only[Wx]at h;rcases Xm.1 h with h|h
  .obtain⟨h1,h2⟩:=Wbp h;rw[h1];exact⟨Xn _,by rw[Xcz];exact h2⟩
  .obtain⟨h1,h2⟩:=WG ps (i+1) 0 vs.tail p h;refine⟨by omega,?_⟩;rw[show p.1-i=(p.1-(i+1))+1 by omega,←Xci];exact h2
 | .mut _::ps,i,0,vs,p,h=>by
  simp only[Wx]at h;rcases Xm.1 h with h|h
  .obtain⟨h1,h2⟩:=Wbp h;rw[h1];exact⟨Xn _,by rw[Xcz];exact h2⟩
  .obtain⟨h1,h2⟩:=WG ps (i+1) 0 vs.tail p h;refine⟨by omega,?_⟩;rw[show p.1-i=(p.1-(i+1))+1 by omega,←Xci];exact h2
 | .clos _ n::ps,i,0,vs,p,h=>by
  simp only[Wx]at h;rcases Xm.1 h with h|h
  .obtain⟨h1,h2⟩:=Wbp h;rw[h1];exact⟨Xn _,by rw[Xcz];exact h2⟩
  .obtain⟨h1,h2⟩:=WG ps (i+1) n vs.tail p h;refine⟨by omega,?_⟩;rw[show p.1-i=(p.1-(i+1))+1 by omega,←Xci];exact h2
 | .kv _ _::ps,i,k+1,vs,p,h=>WG ps i k vs p h
 | .kv _ _::ps,i,0,vs,p,h=>by
  simp only[Wx]at h;rcases Xm.1 h with h|h
  .obtain⟨h1,h2⟩:=Wbp h;rw[h1];exact⟨Xn _,by rw[Xcz];exact h2⟩
  .obtain⟨h1,h2⟩:=WG ps (i+1) 0 vs.tail p h;refine⟨by omega,?_⟩;rw[show p.1-i=(p.1-(i+1))+1 by omega,←Xci];exact h2
 | .rp _::ps,i,k+1,vs,p,h=>WG ps i k vs p h
 | .rp _::ps,i,0,vs,p,h=>by
  obtain⟨h1,h2⟩:=WG ps (i+1) 0 vs.tail p h;refine⟨by omega,?_⟩;rw[show p.1-i=(p.1-(i+1))+1 by omega,←Xci];exact h2
 | .vj _::ps,i,k+1,vs,p,h=>WG ps i k vs p h
 | .vj _::ps,i,0,vs,p,h=>by
  obtain⟨h1,h2⟩:=WG ps (i+1) 0 vs.tail p h;refine⟨by omega,?_⟩;rw[show p.1-i=(p.1-(i+1))+1 by omega,←Xci];exact h2
 | .boxal _ _::ps,i,k+1,vs,p,h=>WG ps i k vs p h
 | .boxal _ _::ps,i,0,vs,p,h=>by
  simp only[Wx]at h;rcases Xm.1 h with h|h
  .obtain⟨h1,h2⟩:=Wbp h;rw[h1];exact⟨Xn _,by rw[Xcz];exact h2⟩
  .obtain⟨h1,h2⟩:=WG ps (i+2) 0 vs.tail.tail p h;refine⟨by omega,?_⟩;rw[show p.1-i=(p.1-(i+2))+1+1 by omega,←Xci,←Xci];exact h2
def Wml(tmps:Array Value):ResultVar->Sem Value
 | .tmp t=>pure (tmps.getD t undef)
 | .cell b t=>do loadVar t (←asAddr (tmps.getD b undef))
theorem Wle(hT:Wah P T)(hr:Rel w0 F nt G0 G ν st a w):∀(l:List ResultVar) (xs:List AVal),WeH T st l=some xs->
  ∃vs:List Value,(l.mapM (Wml a.tmps)).run P w= .ok vs w/\vs.length=xs.length/\
   ∀(j:Nat) (x:AVal) (v:Value),xs[j]?=some x->vs[j]?=some v->AValRel G ν st.nx x v
 | [],xs,h=>by
  simp only[WeH]at h;injection h with h;subst h;exact⟨[],by simp,rfl,λj x v hj=>by simp at hj⟩
 | .tmp t::l,xs,h=>by
  simp only[WeH]at h;split at h
  .rename_i x tD h1 h2;injection h with h;subst h;obtain⟨vs,h3,h4,h5⟩:=Wle hT hr l tD h2;obtain⟨v,hv,hx⟩:=hr.env t x h1;refine⟨v::vs,?_,by simp[h4],λj y u hj hu=>?_⟩
   .have bZ:a.tmps.getD t undef=v:=by simp[Xcp,hv]
    simp only[Xfb,Sem.run_bind,Wml,Sem.run_pure,Result.andThen_ok,h3,bZ]
   .cases j with
    |zero=>simp at hj hu;subst hj hu;exact hx
    |succ j=>exact h5 j y u (by simpa using hj) (by simpa using hu)
  .cases h
 | .cell b t::l,xs,h=>by
  simp only[WeH]at h;split at h
  .rename_i x tD h1 h2;injection h with h;subst h;obtain⟨vs,h3,h4,h5⟩:=Wle hT hr l tD h2;cases hb:look st.env b with
   |none=>simp[hb]at h1
   |some y=>
    simp only[hb,Xc]at h1;obtain⟨v,hv,hx⟩:=hr.env b y hb;obtain⟨u,hu,tH⟩:=Whi hT hr.h hx h1;refine⟨u::vs,?_,by simp[h4],λj z q hj hq=>?_⟩
    .have bZ:a.tmps.getD b undef=v:=by simp[Xcp,hv]
     unfold Instr.loadAt at hu;rw[Sem.run_bind]at hu;obtain⟨p,rfl⟩:∃p,v= .pointer (some p):=by
      unfold Instr.sureAddr at hu;split at hu
      .exact⟨_,rfl⟩
      .simp[stuck]at hu
     simp only[Instr.sureAddr,Sem.run_pure,Result.andThen_ok]at hu;have ha:(asAddr (.pointer (some p))).run P w= .ok p w:=rfl;simp only[Xfb,Sem.run_bind,Wml,Sem.run_pure,Result.andThen_ok,bZ,ha,hu,h3]
    .cases j with
     |zero=>simp at hj hq;subst hj hq;exact tH
     |succ j=>exact h5 j z q (by simpa using hj) (by simpa using hq)
  .cases h
theorem WdH(h:HR w0 F G ν φ objs nx w)(hg:GLe G G'):∀(rs:List PTy) (xs:List AVal) (vs:List Value) (A:Outs (WgZ rs)),vs.length=xs.length->
  (∀(j:Nat) (x:AVal) (v:Value),xs[j]?=some x->vs[j]?=some v->AValRel G ν nx x v)->Lent G' w φ objs A.lent->A.moved.Nodup->Wa2 rs xs objs=some A->
  ∃ns,Wf5 G' w rs A.d vs ns/\Sep (fps ns)/\(∀q∈ns,CS.le q.fp (FromL φ objs A.moved))/\(∀i∈A.moved,Live objs i)
 | [],xs,vs,A,hlen,hx,hl,aT,hf=>by
  simp only[Wa2]at hf;split at hf
  .injection hf with hf;subst hf;have eV:vs= []:=Xw (by simpa using hlen);exact⟨[],⟨eV,rfl⟩,List.Pairwise.nil,by simp,by simp⟩
  .cases hf
 | .v t agg::rs,xs,vs,A,hlen,hx,hl,aT,hf=>by
  simp only[Wa2]at hf;split at hf
  .rename_i x xs;split at hf
   .rename_i d m l A' h1 h2;injection hf with hf;subst hf
    match vs,hlen with
    |v::vs,hlen=>
     cases hc:cellsOf agg x with
     |none=>simp[hc]at h1
     |some cs=>
      simp[hc]at h1;obtain⟨k1,k2,k3⟩:=Xak.1 aT;obtain⟨n1,g1,g2,g3,g4,_⟩:=Wk3 h hg (hx 0 x v rfl rfl) (hl.mono (λi hi=>Xk _ hi)) k1 hc h1;obtain⟨n2,g5,g6,g7,g8⟩:=WdH h hg rs xs vs A' (by simpa using hlen) (λj y u hj hu=>hx (j+1) y u (by simpa using hj) (by simpa using hu)) (hl.mono (λi hi=>Xg _ hi)) k2 h2;refine⟨n1++n2,⟨v,vs,n1,n2,rfl,rfl,g1,g5⟩,Wcf h g2 g6 g3 g7 (λi hi hj=>k3 i hi i hj rfl),λq hq=>?_,λi hi=>?_⟩
      .rcases Xm.1 hq with hq|hq
       .exactλb o hh=>FromL.mono (λi hi=>Xk _ hi) b o (g3 q hq b o hh)
       .exactλb o hh=>FromL.mono (λi hi=>Xg _ hi) b o (g7 q hq b o hh)
      .rcases Xm.1 hi with hi|hi
       .exact g4 i hi
       .exact g8 i hi
   .cases hf
  .cases hf
 | .box t::rs,xs,vs,A,hlen,hx,hl,aT,hf=>by
  simp only[Wa2]at hf;split at hf
  .rename_i id xs;split at hf
   .rename_i cs bc;split at hf
    .rename_i d m l A' h1 h2;injection hf with hf;subst hf
     match vs,hlen with
     |v::vs,hlen=>
      obtain⟨k0,k1⟩:=Xah.1 aT;obtain⟨k2,k3,k4⟩:=Xak.1 k1;obtain⟨⟨_,b,hνb,rfl⟩,_⟩:=hx 0 _ v rfl rfl;have aw:Live objs id:=⟨_,bc,by simp⟩;obtain⟨b'',us,lJ,hrow,hmem,br,eW⟩:Wcw G ν nx w id (φ id) (.box cs):=h.ob _ _ bc;rw[hνb]at lJ;injection lJ with lJ;subst lJ;obtain⟨n1,g1,g2,g3,g4,_⟩:=Wab h hg t cs us d m l br (hl.mono (λi hi=>Xk _ hi)) k2 h1;have cJ:cs.length=t.size:=by rw[←br.1];exact Wv _ _ _ _ g1
      obtain⟨n2,g5,g6,g7,g8⟩:=WdH h hg rs xs vs A' (by simpa using hlen) (λj y u hj hu=>hx (j+1) y u (by simpa using hj) (by simpa using hu)) (hl.mono (λi hi=>Xg _ hi)) k3 h2;rw[cJ]at hrow eW;refine⟨⟨Wb3 b ((ν id).off+0),rng b ((ν id).off+0) t.size⟩::(n1++n2),⟨b,(ν id).off+0,vs,n1,n2,rfl,rfl,⟨us,hrow,hmem,g1⟩,g5⟩,?_,λq hq=>?_,λi hi=>?_⟩
      .refine Wcf h (n1:=[⟨Wb3 b ((ν id).off+0),rng b ((ν id).off+0) t.size⟩]) (m:=[id]) (l:=m++A'.moved) (Xbj _ _) (Wcf h g2 g6 g3 g7 (λi hi hj=>k4 i hi i hj rfl)) (λq hq=>?_) (λq hq=>?_) (λi hi hj=>k0 (by rw[←Xac.1 hi];exact hj))
       .rw[Xac.1 hq];exactλb o hh=>⟨id,by simp,aw,eW b o hh⟩
       .rcases Xm.1 hq with hq|hq
        .exactλb o hh=>FromL.mono (λi hi=>Xk _ hi) b o (g3 q hq b o hh)
        .exactλb o hh=>FromL.mono (λi hi=>Xg _ hi) b o (g7 q hq b o hh)
      .rcases Xo.1 hq with rfl|hq
       .exactλb o hh=>⟨id,by simp,aw,eW b o hh⟩
       .rcases Xm.1 hq with hq|hq
        .exactλb o hh=>FromL.mono (λi hi=>Xf _ (Xk _ hi)) b o (g3 q hq b o hh)
        .exactλb o hh=>FromL.mono (λi hi=>Xf _ (Xg _ hi)) b o (g7 q hq b o hh)
      .rcases Xo.1 hi with rfl|hi
       .exact aw
       .rcases Xm.1 hi with hi|hi
        .exact g4 i hi
        .exact g8 i hi
    .cases hf
   .cases hf
  .cases hf
 | .mut _::_,_,_,_,_,_,_,_,h=>by simp only[Wa2]at h;cases h
 | .clos _ _::_,_,_,_,_,_,_,_,h=>by simp only[Wa2]at h;cases h
 | .kv _ _::_,_,_,_,_,_,_,_,h=>by simp only[Wa2]at h;cases h
 | .rp _::_,_,_,_,_,_,_,_,h=>by simp only[Wa2]at h;cases h
 | .vj t::rs,xs,vs,A,hlen,hx,hl,aT,hf=>by
  simp only[Wa2]at hf;split at hf
  .rename_i cs xs;split at hf
   .rename_i hcl;split at hf
    .rename_i d m l A' h1 h2;injection hf with hf;subst hf
     match vs,hlen with
     |v::vs,hlen=>
      obtain⟨k1,k2,k3⟩:=Xak.1 aT;obtain⟨us,rfl,br⟩:=hx 0 _ v rfl rfl;obtain⟨n1,g1,g2,g3,g4,_⟩:=Wab h hg t (cs.take t.size) (us.take t.size) d m l (br.take t.size) (hl.mono (λi hi=>Xk _ hi)) k1 h1;obtain⟨n2,g5,g6,g7,g8⟩:=WdH h hg rs xs vs A' (by simpa using hlen) (λj y u hj hu=>hx (j+1) y u (by simpa using hj) (by simpa using hu)) (hl.mono (λi hi=>Xg _ hi)) k2 h2;have cJ:us.length=t.size+1:=by rw[br.1,hcl]
      have hlt:t.size<us.length:=by omega
      have e0:us=us.take t.size++ [us[t.size]]:=by
       rw[←List.take_succ_eq_append_getElem hlt,Xdb (by omega)]
      have ho:=(br.2 t.size (cs[t.size]'(by omega)) us[t.size] (Xq (by omega)) (Xq hlt)).2;refine⟨n1++n2,⟨us.take t.size,us[t.size],vs,n1,n2,by rw[←e0],ho,rfl,g1,g5⟩,Wcf h g2 g6 g3 g7 (λi hi hj=>k3 i hi i hj rfl),λq hq=>?_,λi hi=>?_⟩
      .rcases Xm.1 hq with hq|hq
       .exactλb o hh=>FromL.mono (λi hi=>Xk _ hi) b o (g3 q hq b o hh)
       .exactλb o hh=>FromL.mono (λi hi=>Xg _ hi) b o (g7 q hq b o hh)
      .rcases Xm.1 hi with hi|hi
       .exact g4 i hi
       .exact g8 i hi
    .cases hf
   .cases hf
  .cases hf
 | .boxal _ _::_,_,_,_,_,_,_,_,h=>by simp only[Wa2]at h;cases h
theorem WnX{p:PTy}{ps:List PTy}{k:Nat}(h:Wj1 (p::ps) (k+1)=true):(∃t,p= .box t)/\Wj1 ps k=true:=by
 cases p with
 |box t=>exact⟨⟨t,rfl⟩,h⟩
 |_=>cases h
theorem Wgj(hr:Rel w0 F nt G0 G ν st a w){i:Nat}{u:Value}(hp:a.tmps[i]?=some u):(look st.env i).getD (.tup [])= .tup []\/AValRel G ν st.nx ((look st.env i).getD (.tup [])) u:=by
 cases he:look st.env i with
 |none=>exact .inl rfl
 |some y=>
  obtain⟨v,hv,hx⟩:=hr.env i y he;rw[hp]at hv;injection hv with hv;subst hv;exact .inr hx
theorem WaC{wb:World}{Gb:GH}(hr:Rel w0 F nt G0 G ν st a w):∀(ps:List PTy) (d:Wfk ps) (vs:List Value) (ns:List Pc) (ks:List Nu) (i k:Nat),Wbj Gb wb ps d vs ns ks->Wco ps=true->Wj1 ps k=true->k<=vs.length->
  (∀p∈Wx ps i k (vs.drop k),a.tmps[p.1]?=some p.2)->(Wm ps i k st).length+k=vs.length/\
  ∀(j:Nat) (x:AVal) (v:Value),(Wm ps i k st)[j]?=some x->vs[k+j]?=some v->x= .tup []\/AValRel G ν st.nx x v
 | [],d,vs,ns,ks,i,k,⟨h1,_,_⟩,_,_,hk,_=>by
  subst h1;have:k=0:=by simpa using hk
  subst this;exact⟨rfl,λj x v hj=>by simp[Wm]at hj⟩
 |p::ps,d,vs,ns,ks,i,k+1,h,hc,hb,hk,hp=>by
  obtain⟨⟨t,rfl⟩,hb'⟩:=WnX hb;obtain⟨b,o,vs',n1,n2,ks',h1,h2,h3,h4,h6⟩:=h;subst h1;have gY:Wco ps=true:=hc;obtain⟨e1,e2⟩:=WaC hr ps d.2 vs' n2 ks' i k h6 gY hb' (by simpa using hk) (by simpa [Wx]using hp);refine⟨by simp only[Wm,Xr];omega,λj x v hj hv=>e2 j x v (by simpa [Wm]using hj) ?_⟩;rw[show k+1+j=(k+j)+1 by omega]at hv;simpa using hv
 | .v t agg::ps,d,vs,ns,ks,i,0,⟨v,vs',n1,n2,h1,h2,h3,h4⟩,hc,_,_,hp=>by
  subst h1;obtain⟨e1,e2⟩:=WaC hr ps d.2 vs' n2 ks (i+1) 0 h4 hc (by cases ps<;>rfl) (Xbk _) (by simpa [Wx]using hp);refine⟨by simp only[Wm,Xr];omega,λj x u hj hu=>?_⟩;cases j with
  |zero=>simp[Wm]at hj;exact .inl hj.symm
  |succ j=>exact e2 j x u (by simpa [Wm]using hj) (by simpa using hu)
 | .rp t::ps,d,vs,ns,ks,i,0,⟨b,o,us,vs',h1,h2,h3,h4⟩,hc,_,_,hp=>by
  subst h1;obtain⟨e1,e2⟩:=WaC hr ps d.2 vs' ns ks (i+1) 0 h4 hc (by cases ps<;>rfl) (Xbk _) (by simpa [Wx]using hp);refine⟨by simp only[Wm,Xr];omega,λj x u hj hu=>?_⟩;cases j with
  |zero=>simp[Wm]at hj;exact .inl hj.symm
  |succ j=>exact e2 j x u (by simpa [Wm]using hj) (by simpa using hu)
 | .box t::ps,d,vs,ns,ks,i,0,⟨b,o,vs',n1,n2,ks',h1,h2,h3,h4,h6⟩,hc,_,_,hp=>by
  subst h1;simp only[Wx,Xce,Xek]at hp;obtain⟨e1,e2⟩:=WaC hr ps d.2 vs' n2 ks' (i+1) 0 h6 hc (by cases ps<;>rfl) (Xbk _) (λp gX=>hp p (Xg _ (by simpa using gX)));refine⟨by simp only[Wm,Xr];omega,λj x u hj hu=>?_⟩;cases j with
  |zero=>
   simp[Wm]at hj hu;subst hj hu;exact Wgj hr (hp (i,_) (Xk _ (Xi ..)))
  |succ j=>exact e2 j x u (by simpa [Wm]using hj) (by simpa using hu)
 | .vj _::_,_,_,_,_,_,_,h,_,_,_,_=>h.elim
 | .boxal t lf::ps,d,vs,ns,ks,i,0,⟨b,o,b',pc,vs',n1,n2,ks',h1,h2,h3,h4,h5,h6,h7,h8⟩,hc,_,_,hp=>by
  subst h1;simp only[Wx,Xce,Xek]at hp;obtain⟨e1,e2⟩:=WaC hr ps d.2.2 vs' n2 ks' (i+2) 0 h8 hc (by cases ps<;>rfl) (Xbk _) (λp gX=>hp p (Xg _ (by simpa using gX)));refine⟨by simp only[Wm,Xr];omega,λj x u hj hu=>?_⟩
  match j with
  |0=>
   simp[Wm]at hj hu;subst hj hu;exact Wgj hr (hp (i,_) (Xk _ (Xi ..)))
  |1=>simp[Wm]at hj;exact .inl hj.symm
  |j+2=>exact e2 j x u (by simpa [Wm]using hj) (by simpa using hu)
 | .mut e::ps,d,vs,ns,ks,i,0,⟨pc,vs',n2,ks',h1,h2,h3,h4,h5⟩,hc,_,_,hp=>by
  subst h1;simp only[Wx,Xce,Xek]at hp;obtain⟨e1,e2⟩:=WaC hr ps d.2 vs' n2 ks' (i+1) 0 h5 hc (by cases ps<;>rfl) (Xbk _) (λp gX=>hp p (Xg _ (by simpa using gX)));refine⟨by simp only[Wm,Xr];omega,λj x u hj hu=>?_⟩;cases j with
  |zero=>
   simp[Wm]at hj hu;subst hj hu;exact Wgj hr (hp (i,_) (Xk _ (Xi ..)))
  |succ j=>exact e2 j x u (by simpa [Wm]using hj) (by simpa using hu)
 | .clos g n::ps,d,vs,ns,ks,i,0,⟨cvs,vs',h1,h2,h3,h4⟩,hc,_,_,hp=>by
  subst h1;simp only[Wco,Xh]at hc;simp only[Wx,Xce,Xek]at hp;obtain⟨e1,e2⟩:=WaC hr ps d (cvs++vs') ns ks (i+1) n h4 hc.2 hc.1 (by simp[h2]) (λp gX=>hp p (Xg _ (by rw[List.drop_left' h2]at gX;exact gX)));refine⟨by simp only[Wm,Xr];simp at e1;omega,λj x u hj hu=>?_⟩;cases j with
  |zero=>
   simp[Wm]at hj hu;subst hj hu;exact Wgj hr (hp (i,_) (Xk _ (Xi ..)))
  |succ j=>exact e2 j x u (by simpa [Wm]using hj) (by rw[Xaz (by omega),h2,Xbd];simpa using hu)
 | .kv t agg::ps,d,vs,ns,ks,i,0,⟨v,vs',n1,n2,ks',h1,h2,gK,h3,h4⟩,hc,_,_,hp=>by
  subst h1;simp only[Wx,Xce,Xek]at hp;obtain⟨e1,e2⟩:=WaC hr ps d.2 vs' n2 ks' (i+1) 0 h4 hc (by cases ps<;>rfl) (Xbk _) (λp gX=>hp p (Xg _ (by simpa using gX)));refine⟨by simp only[Wm,Xr];omega,λj x u hj hu=>?_⟩;cases j with
  |zero=>
   simp[Wm]at hj hu;subst hj hu;exact Wgj hr (hp (i,_) (Xk _ (Xi ..)))
  |succ j=>exact e2 j x u (by simpa [Wm]using hj) (by simpa using hu)
theorem Wou{G G':GH}{wb w:World}{nu rT:Nu}{e:Ty}{xs ys:List e.den}{S S':CS}(h4:OwnL wb (TyRel G wb e) e.size nu xs S)(hown:OwnL w (TyRel G' w e) e.size rT ys S')(hx:nu.hdr=rT.hdr):OwnL w (TyRel G' w e) e.size nu ys S':=by
 unfold Nu.hdr at hx;cases hb:rT.blk with
 |none=>
  cases hb':nu.blk with
  |some b=>simp[hb,hb']at hx
  |none=>
   have k1:=Wcr h4 hb';have k2:=Wcr hown hb;refine⟨by rw[k2,←h4.1,k1],h4.2.1,?_⟩;simp only[hb'];exact k2
 |some b=>
  cases hb':nu.blk with
  |none=>simp[hb,hb']at hx
  |some b'=>
   simp only[hb,hb']at hx;injection hx with x1 x2 x3;injection x1 with x1;injection x1 with x1 x4 _;have e1:=h4.2.1;have e2:=hown.2.1;have:nu=rT:=by
    obtain⟨a1,a2,a3,a4,a5⟩:=nu;obtain⟨b1,b2,b3,b4,b5⟩:=rT;simp only at hb hb' x1 x2 x3 x4 e1 e2;subst hb hb' x1 x2 x3 x4;rw[e1,e2]
   rw[this];exact hown
theorem We9{G G':GH}{wb w:World}:∀(t:Ty) (d0 d:t.den) (us:List Value) (n1 n2:List Pc),TyRel G wb t d0 us n1->TyRel G' w t d us n2->∃n3,TyRel G' w t d us n3/\nus n3=nus n1/\fps n3=fps n2
 | .own e,d0,d,us,n1,n2,⟨pc,h1,h2,h3⟩,⟨cF,g1,g2,g3⟩=>by
  subst h1 g1;have hx:pc.nu.hdr=cF.nu.hdr:=by rw[h2]at g2;simpa using g2
  exact⟨[⟨pc.nu,cF.fp⟩],⟨_,rfl,h2,Wou h3 g3 hx⟩,rfl,rfl⟩
 | .prod a b,d0,d,us,n1,n2,⟨v1,v2,m1,m2,h1,h2,h3,h4⟩,⟨u1,u2,k1,k2,g1,g2,g3,g4⟩=>by
  have l1:=Wv a _ _ _ h3;have l2:=Wv a _ _ _ g3;obtain⟨q1,q2⟩:=List.append_inj (h1.symm.trans g1) (by rw[l1,l2]);subst q1 q2 h2 g2;obtain⟨a1,a2,a3,a4⟩:=We9 a _ _ _ _ _ h3 g3;obtain⟨b1,b2,b3,b4⟩:=We9 b _ _ _ _ _ h4 g4;exact⟨a1++b1,⟨_,_,a1,b1,h1,rfl,a2,b2⟩,by unfold nus at a3 b3⊢;rw[Xp,Xp,a3,b3],by unfold fps at a4 b4⊢;rw[Xp,Xp,a4,b4]⟩
 | .int _,d0,d,us,n1,n2,h,g=>by obtain⟨h1,_⟩:=h;obtain⟨g1,g2⟩:=g;subst h1 g1;exact⟨[],⟨rfl,g2⟩,rfl,rfl⟩
 | .bool,d0,d,us,n1,n2,h,g=>by obtain⟨h1,_⟩:=h;obtain⟨g1,g2⟩:=g;subst h1 g1;exact⟨[],⟨rfl,g2⟩,rfl,rfl⟩
 | .str,d0,d,us,n1,n2,h,g=>by obtain⟨h1,_⟩:=h;obtain⟨g1,g2⟩:=g;subst h1 g1;exact⟨[],⟨rfl,g2⟩,rfl,rfl⟩
 | .slice _,d0,d,us,n1,n2,h,g=>by obtain⟨h1,_⟩:=h;obtain⟨g1,g2⟩:=g;subst h1 g1;exact⟨[],⟨rfl,g2⟩,rfl,rfl⟩
theorem Wr8{G G':GH}{wb w:World}{t:Ty}{agg:Bool}{d0 d:t.den}{v:Value}{n1 n2:List Pc}(h:Wi1 G wb t agg d0 v n1)(g:Wi1 G' w t agg d v n2):∃us n3,TyRel G' w t d us n3/\nus n3=nus n1/\fps n3=fps n2:=by
 unfold Wi1 at h g;split at h
 .rename_i ha;rw[if_pos ha]at g;obtain⟨us,h1,h2⟩:=h;obtain⟨yP,g1,g2⟩:=g;have:us=yP:=by
   rw[h1]at g1;injection g1 with g1;have:=congrArg Array.toList g1;simpa using this
  subst this;exact⟨us,We9 _ _ _ _ _ _ h2 g2⟩
 .rename_i ha;rw[if_neg ha]at g;exact⟨_,We9 _ _ _ _ _ _ h g⟩
structure OOk(G':GH)(φ:Nat->CS)(objs:Waa)(w:World)(ps:List PTy)(B:OutK (WfZ ps))(ks:List Nu)(kf:List CS)(ms:List Pc):Prop where
 outs:WbE G' w ps B.d ks kf ms
 sepk:Sep kf
 sepm:Sep (fps ms)
 kf:∀S∈kf,CS.le S (FromL φ objs B.kept)
 ms:∀q∈ms,CS.le q.fp (FromL φ objs B.moved)
theorem WwI(h:HR w0 F G ν φ objs nx w){k1 k2:List CS}{m l:List Nat}(h1:Sep k1)(h2:Sep k2)(g1:∀S∈k1,CS.le S (FromL φ objs m))(g2:∀S∈k2,CS.le S (FromL φ objs l))(hd:∀i∈m,i∉l):Sep (k1++k2):=
 Wny h1 h2 (A:=FromL φ objs m) (B:=FromL φ objs l) g1 g2 (FromL.disj h hd)
theorem Whw{wb:World}{Gb:GH}(hg:GLe G G')(h:HR w0 F G ν φ objs nx w){t:Ty}{ps:List PTy}{id b o:Nat}{cs:List Cell}{dd:t.den}{m l:List Nat}{A:OutK (WfZ ps)}{ks:List Nu}{kf:List CS}{ms:List Pc}
  (hx:CellRel G ν nx (.ptr id 0) (.pointer (some ⟨b,o,none⟩))) (ho:look objs id=some (.box cs)) (g1:Wau t cs objs=some (dd,m,l)) (hl:Lent G' w φ objs l) (hk:(id::A.kept).Nodup) (hm:(m++A.moved).Nodup) (hA:OOk G' φ objs w ps A ks kf ms):
  ∃nn,Wfw G' w t dd b o nn/\Sep (rng b o t.size::kf)/\Sep (fps (nn++ms))/\(∀S∈rng b o t.size::kf,CS.le S (FromL φ objs (id::A.kept)))/\(∀q∈nn++ms,CS.le q.fp (FromL φ objs (m++A.moved))):=by
 obtain⟨_,b',yQ,jB⟩:=hx;injection jB with jB;injection jB with jB;injection jB with jB lz _;subst jB lz;have aw:Live objs id:=⟨_,ho,by simp⟩;obtain⟨b'',us,tI,hrow,hmem,br,eW⟩:Wcw G ν nx w id (φ id) (.box cs):=h.ob _ _ ho;rw[yQ]at tI;injection tI with tI;subst tI;obtain⟨k1,k2⟩:=Xah.1 hk;obtain⟨k3,k4,k5⟩:=Xak.1 hm;obtain⟨nn,e1,e2,e3,_⟩:=Wab h hg t cs us dd m l br hl k3 g1;have cJ:cs.length=t.size:=by rw[←br.1];exact Wv _ _ _ _ e1
 rw[cJ]at hrow eW;have gh:CS.le (rng b ((ν id).off+0) t.size) (FromL φ objs [id]):=λb o hh=>⟨id,by simp,aw,eW b o hh⟩;refine⟨nn,⟨us,hrow,hmem,e1⟩,?_,Wcf h e2 hA.sepm e3 hA.ms (λi hi hj=>k5 i hi i hj rfl),λS hS=>?_,λq hq=>?_⟩
 .exact WwI h (k1:=[rng b ((ν id).off+0) t.size]) (m:=[id]) (Xbj _ _) hA.sepk (λS hS=>by rw[Xac.1 hS];exact gh) hA.kf (λi hi hj=>k1 (by rw[←Xac.1 hi];exact hj))
 .rcases Xo.1 hS with rfl|hS
  .exactλb o hh=>FromL.mono (λi hi=>by rw[Xac.1 hi];exact Xi ..) b o (gh b o hh)
  .exactλb o hh=>FromL.mono (λi hi=>Xf _ hi) b o (hA.kf S hS b o hh)
 .rcases Xm.1 hq with hq|hq
  .exactλb o hh=>FromL.mono (λi hi=>Xk _ hi) b o (e3 q hq b o hh)
  .exactλb o hh=>FromL.mono (λi hi=>Xg _ hi) b o (hA.ms q hq b o hh)
theorem WaR{wb:World}{Gb:GH}(hg:GLe G G')(h:HR w0 F G ν φ objs nx w):∀(ps:List PTy) (d:Wfk ps) (vs:List Value) (ns:List Pc) (ks:List Nu) (xs:List AVal) (B:OutK (WfZ ps)),Wbj Gb wb ps d vs ns ks->xs.length=vs.length->
  (∀(j:Nat) (x:AVal) (v:Value),xs[j]?=some x->vs[j]?=some v->x= .tup []\/AValRel G ν nx x v)->Lent G' w φ objs B.lent->B.kept.Nodup->B.moved.Nodup->WY ps xs objs=some B->
  ∃kf ms,OOk G' φ objs w ps B ks kf ms
 | [],d,vs,ns,ks,xs,B,⟨_,_,hk⟩,_,_,_,_,_,hf=>by
  simp only[WY]at hf;injection hf with hf;subst hf;exact⟨[],[],⟨hk,rfl,rfl⟩,List.Pairwise.nil,List.Pairwise.nil,by simp,by simp⟩
 | .v t agg::ps,d,vs,ns,ks,xs,B,⟨v,vs',n1,n2,h1,h2,h3,h4⟩,hlen,hp,hl,hk,hm,hf=>by
  subst h1;simp only[WY]at hf;cases hA:WY ps xs.tail objs with
  |none=>simp[hA]at hf
  |some A=>
   simp[hA]at hf;subst hf
   match xs,hlen with
   |x::xs,hlen=>
    obtain⟨kf,ms,hO⟩:=WaR hg h ps d.2 vs' n2 ks xs A h4 (by simpa using hlen) (λj y u hj hu=>hp (j+1) y u (by simpa using hj) (by simpa using hu)) hl hk hm hA;exact⟨kf,ms,hO.outs,hO.sepk,hO.sepm,hO.kf,hO.ms⟩
 | .rp t::ps,d,vs,ns,ks,xs,B,⟨b,o,us,vs',h1,h2,h3,h4⟩,hlen,hp,hl,hk,hm,hf=>by
  subst h1;simp only[WY]at hf;cases hA:WY ps xs.tail objs with
  |none=>simp[hA]at hf
  |some A=>
   simp[hA]at hf;subst hf
   match xs,hlen with
   |x::xs,hlen=>
    obtain⟨kf,ms,hO⟩:=WaR hg h ps d.2 vs' ns ks xs A h4 (by simpa using hlen) (λj y u hj hu=>hp (j+1) y u (by simpa using hj) (by simpa using hu)) hl hk hm hA;exact⟨kf,ms,hO.outs,hO.sepk,hO.sepm,hO.kf,hO.ms⟩
 | .box t::ps,d,vs,ns,ks,xs,B,⟨b,o,vs',n1,n2,ks',h1,h2,h3,h4,h6⟩,hlen,hp,hl,hk,hm,hf=>by
  subst h1;simp only[WY]at hf;split at hf
  .rename_i id xs;split at hf
   .rename_i cs ho;split at hf
    .rename_i dd m l A g1 g2;injection hf with hf;subst hf;have hx:=((hp 0 _ _ rfl rfl).resolve_left (λe=>by cases e)).1;obtain⟨kf,ms,hO⟩:=WaR hg h ps d.2 vs' n2 ks' xs A h6 (by simpa using hlen) (λj y u hj hu=>hp (j+1) y u (by simpa using hj) (by simpa using hu)) (hl.mono λj hj=>Xg _ hj) (Xah.1 hk).2 (Xak.1 hm).2.1 g2;obtain⟨nn,e1,e2,e3,e4,e5⟩:=Whw (wb:=wb) (Gb:=Gb) hg h hx ho g1 (hl.mono λj hj=>Xk _ hj) hk hm hO;exact⟨_,nn++ms,⟨b,o,ks',kf,nn,ms,h3,rfl,rfl,e1,hO.outs⟩,e2,e3,e4,e5⟩
    .cases hf
   .cases hf
  .cases hf
 | .vj _::_,_,_,_,_,_,_,h,_,_,_,_,_,_=>h.elim
 | .boxal t lf::ps,d,vs,ns,ks,xs,B,⟨b,o,b',pc,vs',n1,n2,ks',h1,h2,h3,h4,h5,h6,h7,h8⟩,hlen,hp,hl,hk,hm,hf=>by
  subst h1;simp only[WY]at hf;split at hf
  .rename_i id y xs;split at hf
   .rename_i cs ho;split at hf
    .rename_i dd m l A g1 g2;injection hf with hf;subst hf;have hx:=((hp 0 _ _ rfl rfl).resolve_left (λe=>by cases e)).1;obtain⟨kf,ms,hO⟩:=WaR hg h ps d.2.2 vs' n2 ks' xs A h8 (by simpa using hlen) (λj y u hj hu=>hp (j+2) y u (by simpa using hj) (by simpa using hu)) (hl.mono λj hj=>Xg _ hj) (Xah.1 hk).2 (Xak.1 hm).2.1 g2;obtain⟨nn,e1,e2,e3,e4,e5⟩:=Whw (wb:=wb) (Gb:=Gb) hg h hx ho g1 (hl.mono λj hj=>Xk _ hj) hk hm hO;exact⟨_,nn++ms,⟨b,o,ks',kf,nn,ms,h3,rfl,rfl,e1,hO.outs⟩,e2,e3,e4,e5⟩
    .cases hf
   .cases hf
  .cases hf
 | .mut e::ps,d,vs,ns,ks,xs,B,⟨pc,vs',n2,ks',h1,h2,h3,h4,h5⟩,hlen,hp,hl,hk,hm,hf=>by
  subst h1;simp only[WY]at hf;split at hf
  .rename_i id xs;split at hf
   .rename_i e' ys ho;split at hf
    .rename_i dd A g1 g2;injection hf with hf;subst hf;obtain⟨c9,hd⟩:=Was g1;subst c9;simp only at hd;subst hd;obtain⟨⟨_,hx⟩,_⟩:=(hp 0 _ _ rfl rfl).resolve_left (λe=>by cases e);have aw:Live objs id:=⟨_,ho,by simp⟩;have hown:OwnL w (TyRel G w e') e'.size (ν id) ys (φ id):=h.ob _ _ ho;have hown':=WcT hg (Same.refl _ w) (λ_ _ hh=>hh) hown;obtain⟨k1,k2⟩:=Xah.1 hk;obtain⟨kf,ms,hO⟩:=WaR hg h ps d.2 vs' n2 ks' xs A h5 (by simpa using hlen) (λj y u hj hu=>hp (j+1) y u (by simpa using hj) (by simpa using hu)) hl k2 hm g2;refine⟨φ id::kf,ms,⟨⟨pc.nu,φ id⟩,ks',kf,h3,rfl,Wou h4 hown' hx,hO.outs⟩,?_,hO.sepm,λS hS=>?_,hO.ms⟩
     .exact WwI h (k1:=[φ id]) (m:=[id]) (Xbj _ _) hO.sepk (λS hS=>by rw[Xac.1 hS];exact FromL.one (by simp) aw) hO.kf (λi hi hj=>k1 (by rw[←Xac.1 hi];exact hj))
     .rcases Xo.1 hS with rfl|hS
      .exact FromL.one (Xi ..) aw
      .exactλb o hh=>FromL.mono (λi hi=>Xf _ hi) b o (hO.kf S hS b o hh)
    .cases hf
   .cases hf
  .cases hf
 | .clos g n::ps,d,vs,ns,ks,xs,B,⟨cvs,vs',h1,h2,h3,h4⟩,hlen,hp,hl,hk,hm,hf=>by
  subst h1;simp only[WY]at hf;split at hf
  .rename_i g' caps xs;split at hf
   .rename_i hc;obtain⟨rfl,hcl⟩:=hc;cases hA:WY ps (Wjm caps++xs) objs with
    |none=>simp[hA]at hf
    |some A=>
     simp[hA]at hf;subst hf;obtain⟨⟨us,qp,tJ,wR⟩,_⟩:=(hp 0 _ _ rfl rfl).resolve_left (λe=>by cases e);have jz:us=cvs:=by
      injection qp with _ _ qp;have:=congrArg Array.toList qp;simpa using this.symm
     subst jz;obtain⟨kf,ms,hO⟩:=WaR hg h ps d (us++vs') ns ks (Wjm caps++xs) A h4 (by simp[Wjm,tJ];simpa using hlen) (λj y u hj hu=>by
      rw[Xba]at hj hu;simp only[Wjm,List.length_map]at hj;rw[tJ]at hu;split at hj
      .rename_i hlt;rw[if_pos hlt]at hu;rw[Xan]at hj;obtain⟨id,bA,rfl⟩:=Xy.1 hj;obtain⟨q1,q3,q2⟩:=wR _ id u bA hu;exact .inr ⟨⟨q1,q2⟩,q3⟩
      .rename_i hlt;rw[if_neg hlt]at hu;exact hp (j-caps.length+1) y u (by simpa using hj) (by simpa using hu)) hl hk hm hA
     exact⟨kf,ms,hO.outs,hO.sepk,hO.sepm,hO.kf,hO.ms⟩
   .cases hf
  .cases hf
 | .kv t agg::ps,d,vs,ns,ks,xs,B,⟨v,vs',n1,n2,ks',h1,h2,gK,h3,h4⟩,hlen,hp,hl,hk,hm,hf=>by
  subst h1;simp only[WY]at hf;split at hf
  .rename_i x xs;split at hf
   .rename_i dd m l A g1 g2;split at hf
    .rename_i gz;injection hf with hf;subst hf;cases hc:cellsOf agg x with
     |none=>simp[hc]at g1
     |some cs=>
      simp[hc]at g1;obtain⟨k1,k2,k3⟩:=Xak.1 hk;have hx:=(hp 0 _ _ rfl rfl).resolve_left (λe=>by subst e;cases hc);have aY:Lent G' w φ objs l:=hl.mono λj hj=>Xk _ hj;obtain⟨_,_,_,_,q4,_⟩:=Wk3 h hg hx aY k1 hc g1;obtain⟨v1,_⟩:=Wmg h hg hx aY hc g1 gz;obtain⟨us,n3,r1,r2,r3⟩:=Wr8 h3 v1;obtain⟨kf,ms,hO⟩:=WaR hg h ps d.2 vs' n2 ks' xs A h4 (by simpa using hlen) (λj y u hj hu=>hp (j+1) y u (by simpa using hj) (by simpa using hu)) (hl.mono λj hj=>Xg _ hj) k2 hm g2;have gp:∀S∈fps n3,CS.le S (FromL φ objs m):=λS hS=>by
       rw[r3,Wol]at hS;obtain⟨i,hi,rfl⟩:=Xu.1 hS;exact FromL.one hi (q4 i hi)
      have gs:Sep (fps n3):=by
       rw[r3,Wol];refine List.pairwise_map.2 (k1.imp_of_mem λ{i j} hi hj hne=>?_)
       exactλb o h1 h2=>hne (h.inj i j b o (q4 i hi) (q4 j hj) h1 h2)
      refine⟨fps n3++kf,ms,⟨n3,ks',kf,us,by rw[gK,r2],rfl,r1,hO.outs⟩,WwI h gs hO.sepk gp hO.kf (λi hi hj=>k3 i hi i hj rfl),hO.sepm,λS hS=>?_,hO.ms⟩;rcases Xm.1 hS with hS|hS
      .exactλb o hh=>FromL.mono (λi hi=>Xk _ hi) b o (gp S hS b o hh)
      .exactλb o hh=>FromL.mono (λi hi=>Xg _ hi) b o (hO.kf S hS b o hh)
    .cases hf
   .cases hf
  .cases hf
end
end Go.Sx
namespace Go.Sx
set_option linter.unusedVariables false
set_option linter.unusedSimpArgs false
section
variable{P:Program}{T:Tab}{Γ:Ctx}
theorem Wt2{sg:Sig}{d:Wfk sg.ps}{G:GH}{w:World}{vs:List Value}{ns:List Pc}{ks:List Nu}{n:Nat}(hn:WbR sg.ps<=n)(eX:Wco sg.ps=true)(hargs:Wbj G w sg.ps d vs ns ks)(hsep:Sep (fps ns))
  (hfree:∀q∈ns,∀b off,q.fp b off->G b off=none/\b<w.heap.size) (hg:∀b o v,G b o=some v->w.cell? ⟨b,o,none⟩=some v):
  ∃ν,Rel w (Of ns) ⟨n,Wx sg.ps 0 0 vs⟩ G G ν {env:=Wg9 0 (WH sg.ps d [] 0).1,objs:=(WH sg.ps d [] 0).2.1,nx:=(WH sg.ps d [] 0).2.2}
   {tmps:=vs.toArray++Xeg (n-vs.toArray.size) undef,defers:=[]} w:=by
 obtain⟨ν,hν⟩:∃ν:Nat->Nu,ν= λi=>((nus ns)[i]?).getD ⟨none,0,0,0,0⟩:=⟨_,rfl⟩;obtain⟨φ,hφ⟩:∃φ:Nat->CS,φ= λi=>((fps ns)[i]?).getD (λ_ _=>False):=⟨_,rfl⟩;have hAt:At ν φ 0 ns:=λj pc hj=>by
  have e1:(nus ns)[j]?=some pc.nu:=by unfold nus;rw[Xan,hj];rfl
  have e2:(fps ns)[j]?=some pc.fp:=by unfold fps;rw[Xan,hj];rfl
  rw[hν,hφ];simp only[Xaw,e1,e2];exact⟨rfl,rfl⟩
 obtain⟨h1,h2,h3,h4⟩:=Wcq (ν:=ν) (φ:=φ) sg.ps d vs ns ks [] 0 (0+ns.length) eX hargs hAt (Xn _);have tw:=Wdg _ _ _ _ _ hargs;have cA:∀id,Live (WH sg.ps d [] 0).2.1 id->id<ns.length:=λid ⟨ob,ho,_⟩=>by
  rcases h2 id ob ho with⟨_,h,_⟩|h
  .simpa using h
  .cases h
 have aP:∀id b o,φ id b o->∃q,ns[id]?=some q/\(fps ns)[id]?=some q.fp/\q.fp b o:=λid b o hp=>by
  rw[hφ]at hp
  try simp only at hp
  cases hq:ns[id]? with
  |none=>
   have:(fps ns)[id]?=none:=by unfold fps;rw[Xan,hq];rfl
   rw[this]at hp;exact hp.elim
  |some q=>
   have:(fps ns)[id]?=some q.fp:=by unfold fps;rw[Xan,hq];rfl
   rw[this]at hp;exact⟨q,rfl,this,hp⟩
 have wS:∀(i:Nat) (v:Value),vs[i]?=some v->(vs.toArray++Xeg (n-vs.toArray.size) undef)[i]?=some v:=λi v hi=>by
  have hlt:=(Xs.1 hi).1;rw[Array.getElem?_append_left (by simpa using hlt)];simpa using hi
 refine⟨ν,rfl,by simp;omega,λp hp=>?_,λi x hx=>?_,⟨φ,?_⟩,λ_ _ _ hh=>hh,λ_ _ _ hh=>.inl hh⟩
 .obtain⟨_,g2⟩:=WG _ _ _ _ p hp;exact wS _ _ (by simpa using g2)
 .simp only at hx;rw[WhA]at hx;simp only[Xbk,if_true,Xdc]at hx;have hlt:=(Xs.1 hx).1;rw[h3]at hlt;have hv:=Xq hlt;refine⟨_,wS i _ hv,?_⟩;have:=h4 i x _ hx hv;simp only[h1];exact this
 .exact{
   g:=hg
   ob:=λid ob ho=>by
    rcases h2 id ob ho with⟨_,_,h⟩|h
    .simp only[h1];exact h
    .cases h
   gf:=λid b o hl hp=>by
    obtain⟨q,g1,_,g2⟩:=aP id b o hp;exact(hfree q (Xay g1) b o g2).1
   inj:=λid bI b o hl cP hp cQ=>by
    obtain⟨q,_,g1,g2⟩:=aP id b o hp;obtain⟨q',_,yR,yS⟩:=aP bI b o cQ;exact Wkf hsep g1 yR g2 yS
   own:=λid b o hl hp=>by
    obtain⟨q,g1,_,g2⟩:=aP id b o hp;exact .inr ⟨q,Xay g1,g2⟩
   lt:=λid hl=>by simp only[h1];have:=cA id hl;omega
   bl:=λid b o hl hp=>by
    obtain⟨q,g1,_,g2⟩:=aP id b o hp;exact(hfree q (Xay g1) b o g2).2
   le:=WLe.refl _ w}
theorem Wrk(hT:Wah P T){f:Func}{sg:Sig}{d:Wfk sg.ps}{G:GH}{w:World}{vs:List Value}{ns:List Pc}{ks:List Nu}{n:Nat}(eX:Wco sg.ps=true)(hargs:Wbj G w sg.ps d vs ns ks)
  {st:St} {a:Act} {w':World} {G1:GH} {ν:Nat->Nu} (hr:Rel w (Of ns) ⟨n,Wx sg.ps 0 0 vs⟩ G G1 ν st a w') {xs:List AVal} (hx:WeH T st f.results.toList=some xs)
  {A:Outs (WgZ sg.rs)} (hA:Wa2 sg.rs xs st.objs=some A) {B:OutK (WfZ sg.ps)} (hB:WY sg.ps (Wm sg.ps 0 0 st) st.objs=some B)
  (aT:Wbq (B.kept++(B.moved++A.moved))=true) (lA:WgP (A.lent++B.lent) (B.kept++(B.moved++A.moved))=true):
  ∃rv kf ms cE G',(results f a.tmps).run P w'= .ok (Wia rv) w'/\After sg (B.d,A.d) G w ns ks rv kf ms cE G' w':=by
 have aT:=(Wfe _).1 aT;have lA:=WmO lA;obtain⟨φ,hφ⟩:=hr.h;have uO:=hφ.addG_le (A.lent++B.lent);have tK:=hφ.addG_w (A.lent++B.lent);have mK:Lent (WqH G1 w' (FromL φ st.objs (A.lent++B.lent))) w' φ st.objs (A.lent++B.lent):=λid bA hl=>(Wim _).mono (FromL.one bA hl);obtain⟨k1,k2,k3⟩:=Xak.1 aT;obtain⟨k4,k5,k6⟩:=Xak.1 k2;obtain⟨rv,uP,uQ,uR⟩:=Wle hT hr _ xs hx;obtain⟨cE,q1,q2,q3,q4⟩:=WdH hφ uO sg.rs xs rv A uQ uR (mK.mono λi hi=>Xk _ hi) k5 hA;obtain⟨hsl,cR⟩:=WaC hr sg.ps d vs ns ks 0 0 hargs eX (by cases sg.ps<;>rfl) (Xbk _) (by simpa using hr.par);obtain⟨kf,ms,hO⟩:=WaR uO hφ sg.ps d vs ns ks _ B hargs hsl (λj x v hj hv=>cR j x v hj (by simpa using hv)) (mK.mono λi hi=>Xg _ hi) k1 k4 hB;have fB:∀S∈kf++fps (ms++cE),CS.le S (FromL φ st.objs (B.kept++(B.moved++A.moved))):=λS hS=>by
  rcases Xm.1 hS with hS|hS
  .exactλb o hh=>FromL.mono (λi hi=>Xk _ hi) b o (hO.kf S hS b o hh)
  .obtain⟨q,hq,rfl⟩:=Xu.1 hS;rcases Xm.1 hq with hq|hq
   .exactλb o hh=>FromL.mono (λi hi=>Xg _ (Xk _ hi)) b o (hO.ms q hq b o hh)
   .exactλb o hh=>FromL.mono (λi hi=>Xg _ (Xg _ hi)) b o (q3 q hq b o hh)
 refine⟨rv,kf,ms,cE,WqH G1 w' (FromL φ st.objs (A.lent++B.lent)),?_,?_⟩
 .show(do let vs←f.results.mapM (Wml a.tmps);pure (if h:vs.size=1 then vs[0]else .tuple vs):Sem Value).run P w'=_;have jg:(f.results.mapM (Wml a.tmps)).run P w'= .ok rv.toArray w':=by
   rw[Array.mapM_eq_mapM_toList,Sem.run_map,uP];rfl
  rw[Sem.run_bind,jg];simp only[Result.andThen_ok,Sem.run_pure];congr 1;unfold Wia
  match rv with
  | []=>rfl
  | [v]=>rfl
  |u::v::l=>simp
 .exact{
   res:=q1
   outs:=hO.outs
   sep:=by
    refine WwI hφ hO.sepk (Wcf hφ hO.sepm q2 hO.ms q3 (λi hi hj=>k6 i hi i hj rfl)) hO.kf (l:=B.moved++A.moved) (λS hS=>?_) (λi hi hj=>k3 i hi i hj rfl);obtain⟨q,hq,rfl⟩:=Xu.1 hS;rcases Xm.1 hq with hq|hq
    .exactλb o hh=>FromL.mono (λi hi=>Xk _ hi) b o (hO.ms q hq b o hh)
    .exactλb o hh=>FromL.mono (λi hi=>Xg _ hi) b o (q3 q hq b o hh)
   own:=λS hS b off hh=>by
    obtain⟨i,hi,h1,h2⟩:=fB S hS b off hh;refine⟨?_,(hφ.own i b off h1 h2).symm,hφ.bl i b off h1 h2⟩;rw[Wdb (λ⟨j,hj,h3,h4⟩=>by
     have:=hφ.inj i j b off h1 h3 h2 h4;subst this;exact lA _ hj hi)]
    exact hφ.gf i b off h1 h2
   gx:=by
    refine⟨λb o v hv=>uO b o v (hr.gx.le b o v hv),λb off v hv=>?_⟩;by_cases hb:FromL φ st.objs (A.lent++B.lent) b off
    .obtain⟨j,hj,h1,h2⟩:=hb;exact .inr (hφ.own j b off h1 h2)
    .rw[Wdb hb]at hv;exact hr.gx.new b off v hv
   g:=tK
   le:=hφ.le}
theorem Wvx(hM:P.follows .mixedOrders=true)(hT:Wah P T)(hΓ:Wff P Γ){f:Func}{k:FuncId}{c:Code}(hf:P.funcs[k]?=some f)(hb:f.body=some c){sg:Sig}(aH:Wdx f.ntmps (Wd6 sg.ps 0 0) c=true)(eX:Wco sg.ps=true)
  (hn:WbR sg.ps<=f.ntmps) {ann:Nat->List Ghost} (h:∀d o,sg.run d=some o->∃N,den T Γ ann N sg f d some=some o):Good P k sg:=by
 intro d o hrun G w vs ns ks hargs hsep hfree hg;obtain⟨N,ii⟩:=h d o hrun;unfold den at ii;simp only[hb]at ii;obtain⟨ν,uS⟩:=Wt2 hn eX hargs hsep hfree hg;split at ii
 case h_2=>cases ii
 rename_i c' b st0 gY yT;injection gY with gY;subst gY;obtain⟨rfl,ii⟩:=WaK ii;obtain⟨G0',ν0',hr⟩:=Wdo _ _ _ _ _ uS yT;refine calls_of_wp hf hb ?_
 suffices hk:∀e,Wsa w (Of ns) ⟨f.ntmps,Wx sg.ps 0 0 vs⟩ G (WwY T sg f.results.toList some e) o (bodyPost P f (λe w'=>∃rv kf ms cE G',e= .returned (Wia rv)/\After sg o G w ns ks rv kf ms cE G' w') e.to)from
  WnI (nt:=⟨f.ntmps,Wx sg.ps 0 0 vs⟩) hM hT hΓ (n:=f.ntmps) rfl (WO sg.ps 0 0 vs) c aH hk _ _ _ _ _ hr ii
 intro e st a w' G1 ν1 lE hk;have gE:(∃xs,WeH T st f.results.toList=some xs/\∃A B,Wa2 sg.rs xs st.objs=some A/\WY sg.ps (Wm sg.ps 0 0 st) st.objs=some B/\Wbq (B.kept++(B.moved++A.moved))=true/\WgP (A.lent++B.lent) (B.kept++(B.moved++A.moved))=true/\(B.d,A.d)=o)->
   a.defers= []/\∃v,(results f a.tmps).run P w'= .ok v w'/\∃rv kf ms cE G',Ending.returned v= .returned (Wia rv)/\After sg o G w ns ks rv kf ms cE G' w':=by
  rintro⟨xs,hx,A,B,hA,hB,h1,h2,rfl⟩;obtain⟨rv,kf,ms,cE,G',h3,h4⟩:=Wrk hT (f:=f) eX hargs lE hx hA hB h1 h2;exact⟨lE.defers,_,h3,rv,kf,ms,cE,G',rfl,h4⟩
 have nP:(match WeH T st f.results.toList with
   |some xs=>match Wa2 sg.rs xs st.objs,WY sg.ps (Wm sg.ps 0 0 st) st.objs with
    |some A,some B=>if Wbq (B.kept++(B.moved++A.moved))&&WgP (A.lent++B.lent) (B.kept++(B.moved++A.moved))then some (B.d,A.d)else none
    |_,_=>none
   |none=>none)=some o->(∃xs,WeH T st f.results.toList=some xs/\∃A B,Wa2 sg.rs xs st.objs=some A/\WY sg.ps (Wm sg.ps 0 0 st) st.objs=some B/\Wbq (B.kept++(B.moved++A.moved))=true/\WgP (A.lent++B.lent) (B.kept++(B.moved++A.moved))=true/\(B.d,A.d)=o):=λhk=>by
  split at hk
  .rename_i xs hx;split at hk
   .rename_i A B hA hB;obtain⟨hc,hk⟩:=WbQ hk;simp only[Xh]at hc;injection hk with hk;exact⟨xs,hx,A,B,hA,hB,hc.1,hc.2,hk⟩
   .cases hk
  .cases hk
 cases e with
 |normal=>exact gE (nP hk)
 |ret=>exact gE (nP hk)
 |exit id=>cases hk
end
end Go.Sx
namespace Go.Sx
set_option linter.unusedVariables false
set_option linter.unusedSimpArgs false
def zv1:Value->Value->Bool
 | .int k n,.int k' n'=>decide (k=k')&&decide (n=n')
 | .bool b,.bool b'=>b==b'
 | .string s,.string s'=>match s.data.toList,s'.data.toList with
  | [],[]=>true
  |_,_=>false
 | .slice none 0 0,.slice none 0 0=>true
 | .pointer none,.pointer none=>true
 |_,_=>false
theorem Wuk(x y:Value)(h:zv1 x y=true):x=y:=by
 unfold zv1 at h;split at h
 .simp only[Xh,decide_eq_true_eq]at h;obtain⟨rfl,rfl⟩:=h;rfl
 .have:=eq_of_beq h;subst this;rfl
 .rename_i s s';split at h
  .rename_i e1 e2;have:s=s':=by
    cases s with|mk a=>cases s' with|mk b=>
    congr 1;apply Array.ext';simp only at e1 e2;rw[e1,e2]
   rw[this]
  .cases h
 .rfl
 .rfl
 .cases h
def WwG:List Value->List Value->Bool
 | [],[]=>true
 |x::l,y::m=>zv1 x y&&WwG l m
 |_,_=>false
theorem Wm8:∀(l m:List Value),WwG l m=true->l=m
 | [],[],_=>rfl
 | [],_::_,h=>by cases h
 |_::_,[],h=>by cases h
 |x::l,y::m,h=>by
  simp only[WwG,Xh]at h;rw[Wuk x y h.1,Wm8 l m h.2]
def WgF:List Field->List (Nat×TypeId)->Bool
 | [],[]=>true
 |f::l,p::m=>Xbw f.offset p.1&&Xbw f.type p.2&&(f.name != "_")&&WgF l m
 |_,_=>false
def WsP(P:Program)(T:Tab)(t:TypeId)(te:TE):Bool:=match te.shape with
 | .basic=>!te.agg&&(match te.ty with
  | .int k=>match P.underlying t with|some (.int k')=>decide (k'=k)|_=>false
  | .bool=>match P.underlying t with|some .bool=>true|_=>false
  | .str=>match P.underlying t with|some .string=>true|_=>false
  |_=>false)
 | .slice e=>!te.agg&&(match P.underlying t with|some (.slice e')=>Xbw e' e|_=>false)&&(match look T e with|some dC=>decide (te.ty= .slice dC.ty)|none=>false)
 | .struct fs=>te.agg&&(match P.underlying t with|some (.struct fields)=>WgF fields.toList fs|_=>false)&& !P.stoodInHeld t&& !P.eqGuardType P.depth t
 | .ptr e=>!te.agg&&(match P.underlying t with|some (.pointer e')=>Xbw e' e|_=>false)
 | .arr n e=>te.agg&&(match P.underlying t with|some (.array n' e')=>Xbw n' n&&Xbw e' e|_=>false)&&(match look T e with|some dC=>decide (dC.ty=te.ty)&&dC.plain|none=>false)
def Wn2(P:Program)(t:TypeId)(te:TE):Bool:=match P.info? t with
 |some i=>match i.zero with
  |some z=>Xbw i.size te.size&&WwG z.cells.toList te.cells&&Nat.ble i.bytes 4096
  |none=>false
 |none=>false
def WlQ(P:Program)(T:Tab):Tab->Bool
 | []=>true
 |(t,te)::l=>WsP P T t te&&Wn2 P t te&&WlQ P T l
theorem Wfl:∀(l:List Field) (m:List (Nat×TypeId)),WgF l m=true→l.map (λf=>(f.offset,f.type))=m∧∀f∈l,f.name≠ "_"
 | [],[],_=>⟨rfl,by simp⟩
 | [],_::_,h=>by cases h
 |_::_,[],h=>by cases h
 |f::l,p::m,h=>by
  simp only[WgF,Xh,bne_iff_ne,ne_eq]at h;obtain⟨⟨⟨h1,h2⟩,h3⟩,h4⟩:=h;obtain⟨h5,h6⟩:=Wfl l m h4;have h1:f.offset=p.1:=by simpa using h1
  have h2:f.type=p.2:=by simpa using h2
  refine⟨by rw[Xai,h5,h1,h2],λg hg=>?_⟩;rcases Xo.1 hg with hg|hg
  .subst hg;exact h3
  .exact h6 g hg
theorem Woj{P:Program}{T:Tab}{t:TypeId}{te:TE}(h:WsP P T t te=true)(hi:Wn2 P t te=true):TEok P T t te:=by
 obtain⟨ty,agg,shape⟩:=te;refine⟨?_,?_⟩
 .unfold WsP at h;cases shape with
  |basic=>
   simp only[Xh,Xao]at h⊢;refine⟨h.1,?_⟩;have h:=h.2;cases ty with
   |int k=>
    simp only at h⊢;split at h
    .rename_i k' hu;simp only[decide_eq_true_eq]at h;rw[hu,h]
    .cases h
   |bool=>
    simp only at h⊢;split at h
    .assumption
    .cases h
   |str=>
    simp only at h⊢;split at h
    .assumption
    .cases h
   |slice e=>cases h
   |own e=>cases h
   |prod a b=>cases h
  |slice e=>
   simp only[Xh,Xao]at h⊢;obtain⟨⟨h1,h2⟩,h3⟩:=h;refine⟨h1,?_,?_⟩
   .split at h2
    .rename_i e' hu;rw[hu];have:e'=e:=by simpa using h2
     rw[this]
    .cases h2
   .split at h3
    .rename_i dC hl;exact⟨dC,hl,by simpa using h3⟩
    .cases h3
  |struct fs=>
   simp only[Xh,Xao]at h⊢;obtain⟨⟨⟨h1,h2⟩,h3⟩,h4⟩:=h;refine⟨h1,?_⟩;split at h2
   .rename_i fields hu;obtain⟨h5,h6⟩:=Wfl _ _ h2;exact⟨fields,hu,h5,λf hf=>h6 f (by simpa using hf),h3,h4⟩
   .cases h2
  |ptr e=>
   simp only[Xh,Xao]at h⊢;refine⟨h.1,?_⟩;have h:=h.2;split at h
   .rename_i e' hu;rw[hu];have:e'=e:=by simpa using h
    rw[this]
   .cases h
  |arr n e=>
   simp only[Xh]at h⊢;obtain⟨⟨h1,h2⟩,h3⟩:=h;refine⟨h1,?_,?_⟩
   .split at h2
    .rename_i n' e' hu;simp only[Xh]at h2;have e1:n'=n:=by simpa using h2.1
     have e2:e'=e:=by simpa using h2.2
     rw[hu,e1,e2]
    .cases h2
   .split at h3
    .rename_i dC hl;simp only[Xh,decide_eq_true_eq]at h3;refine⟨dC,hl,h3.1,λm f hs=>?_⟩;have:=h3.2;unfold TE.plain at this;rw[hs]at this;cases this
    .cases h3
 .unfold Wn2 at hi;split at hi
  .rename_i i jk;split at hi
   .rename_i z hz;simp only[Xh]at hi;obtain⟨⟨h1,h2⟩,h3⟩:=hi;exact⟨i,z,jk,by simpa using h1,hz,Wm8 _ _ h2,Xga h3⟩
   .cases hi
  .cases hi
theorem Wwz{P:Program}{T:Tab}(h:WlQ P T T=true):Wah P T:=by
 have key:∀l,WlQ P T l=true->∀t te,look l t=some te->TEok P T t te:=by
  intro l
  induction l with
  |nil=>intro _ t te hl;cases hl
  |cons p l ih=>
   intro hc t te hl;obtain⟨t',dC⟩:=p;simp only[WlQ,Xh]at hc;rw[Ww]at hl;split at hl
   .rename_i e;subst e;injection hl with hl;subst hl;exact Woj hc.1.1 hc.1.2
   .exact ih hc.2 t te hl
 exact key T h
theorem Wa{P:Program}:Wff P []:=λk sg h=>by cases h
theorem Ws9{P:Program}{Γ:Ctx}{k:FuncId}{sg:Sig}(hg:Good P k sg)(hc:WgG P k)(h:Wff P Γ):Wff P ((k,sg)::Γ):=λk' yU hl=>by
 simp only[look]at hl;split at hl
 .rename_i e;have:k=k':=by simpa using e
  subst this;injection hl with hl;subst hl;exact⟨hg,hc⟩
 .exact h k' yU hl
def WpH(f:Func):Bool:=f.body.isSome&& !(f.name== "runtime.NumGoroutine")
theorem Wd2{P:Program}{k:FuncId}{f:Func}(hf:P.funcs[k]?=some f)(h:WpH f=true):WgG P k:=by
 simp only[WpH,Xh,Xao]at h;refine⟨f,hf,?_,h.2⟩;cases hb:f.body with
 |none=>rw[hb]at h;cases h.1
 |some c=>rfl
def Wn3(f:Func)(ps:List PTy):Bool:=match f.body with
 |some c=>Wdx f.ntmps (Wd6 ps 0 0) c&&Nat.ble (WbR ps) f.ntmps&&Wco ps
 |none=>false
theorem WqX{P:Program}{T:Tab}{Γ:Ctx}(hM:P.follows .mixedOrders=true)(hT:Wah P T)(hΓ:Wff P Γ){f:Func}{k:FuncId}(hf:P.funcs[k]?=some f){sg:Sig}(aH:Wn3 f sg.ps=true){ann:Nat->List Ghost}
  (h:∀d o,sg.run d=some o->∃N,den T Γ ann N sg f d some=some o):Good P k sg:=by
 unfold Wn3 at aH;split at aH
 .rename_i c hb;simp only[Xh]at aH;exact Wvx hM hT hΓ hf hb aH.1.1 aH.2 (Xga aH.1.2) h
 .cases aH
end Go.Sx
namespace Go.Sx
def WfT:Code->List Code
 | .seq a b=>WfT a++WfT b
 | .cond _ a b=>WfT a++WfT b
 | .block _ c=>WfT c
 | .loop c=>c::WfT c
 |_=>[]
def Wry(f:Func):Code:=match f.body with
 |some c=>c
 |none=>.skip
def Wsz(f:Func)(i:Nat):Code:=(WfT (Wry f)).getD i .skip
noncomputable def WvS{R:Type}(T:Tab)(Γ:Ctx)(ann:Nat->List Ghost)(N:Nat):Code->List Nat->(Ex->St->Option R)->Ex->St->Option R
 | .seq a b,p,k=>match p with
  |0::p=>WvS T Γ ann N a p λe af=>match e with
   | .normal=>sx T Γ ann N b af k
   | .exit id=>k (.exit id) af
   | .ret=>k .ret af
  |_::p=>WvS T Γ ann N b p k
  | []=>k
 | .cond _ x y,p,k=>match p with
  |0::p=>WvS T Γ ann N x p k
  |_::p=>WvS T Γ ann N y p k
  | []=>k
 | .block id c,p,k=>match p with
  |_::p=>WvS T Γ ann N c p λe af=>match e with
   | .exit bI=>if bI=id then k .normal af else k (.exit bI) af
   | .normal=>k .normal af
   | .ret=>k .ret af
  | []=>k
 |_,_,k=>k
def WwS{R:Type}(gs:List Ghost)(L:St->(Ex->St->Option R)->Option R)(K:Ex->St->Option R):Ex->St->Option R:=λe st=>match e with
 | .normal=>match Wd9 gs st with
  |some (c,af)=>bif c then L af K else none
  |none=>none
 | .exit id=>K (.exit id) st
 | .ret=>K .ret st
abbrev vI(x:Int):AVal:=.s (.one (.val (.int .i64) x))
abbrev vB(x:Bool):AVal:=.s (.one (.val .bool x))
abbrev vV(t:Ty)(x:t.den):AVal:=.s (.one (.val t x))
abbrev vO(i:Nat):AVal:=.s (.one (.own i))
abbrev vP(i o:Nat):AVal:=.s (.one (.ptr i o))
abbrev Qs(s:Sig):=WfZ s.ps×WgZ s.rs
structure Fn where
 F:Func
 a:Nat->List Ghost
 s:Nat->Sig
 c:Nat->Ctx
def Wz:Nat->List Ghost:=λ_=>[]
def Wbd:Nat->Ctx:=λ_=>[]
noncomputable def lpM{R:Type}(T:Tab)(Γ:Ctx)(ann:Nat->List Ghost)(N:Nat)(F:Func)(i k n:Nat)(st:St)(K:Ex->St->Option R):Option R:=Wn1 (Wj2 (ann k) λst k=>sx T Γ ann N (Wsz F i) st k) n st K
noncomputable def cxF(T:Tab)(Γ:Ctx)(ann:Nat->List Ghost)(N:Nat)(sg:Sig)(F:Func)(p:List Nat):Ex->St->Option (Qs sg):=WvS (R:=Qs sg) T Γ ann N (Wry F) p (WwY T sg F.results.toList some)
noncomputable def cxL{R:Type}(T:Tab)(Γ:Ctx)(ann:Nat->List Ghost)(N:Nat)(F:Func)(i k:Nat)(p:List Nat)(n:Nat)(K:Ex->St->Option R):Ex->St->Option R:=WvS T Γ ann N (Wsz F i) p (WwS (ann k) (lpM T Γ ann N F i k n) K)
end Go.Sx
namespace Go.Sx
open Go.ChangeShapes Go.WideShapes Go.ChangeAt Go.RowKit
set_option linter.unusedVariables false
set_option linter.unusedSimpArgs false
def Wfd:(t:Ty)->t.den->Prop
 | .int k,n=>(Lit.int k n).wf=true
 | .bool,_=>True
 | .str,s=>Xa s<=maxLen
 | .slice e,l=>Xa l<=maxLen/\∀x,List.Mem x l->Wfd e x
 | .own _,_=>False
 | .prod a b,d=>Wfd a d.1/\Wfd b d.2
def Wgl:(t:Ty)->t.den->Nat
 | .int _,_=>1
 | .bool,_=>1
 | .str,s=>Xa s+1
 | .slice e,l=>(List.map (Wgl e) l).sum+1
 | .own _,_=>0
 | .prod a b,d=>Wgl a d.1+Wgl b d.2
structure Bulk{H:Type}(β:DataW H->Nat):Prop where
 lit:∀l,1<=β (.lit l)
 str:∀s,s.length+1<=β (.lit (.string s))
 nil:1<=β .nil
 slice:∀es sp,(es.map β).sum+1<=β (.slice es sp)
 agg:∀ps,(ps.map β).sum<=β (.agg ps)
def Wjl(T:Tab):List (Nat×TypeId)->Nat->Option (List Ty)
 | [],_=>some []
 |(o,ft)::fs,off=>match look T ft with
  |some te=>bif Xbw o off&&te.plain then(Wjl T fs (off+te.ty.size)).map (te.ty:: ·)else none
  |none=>none
def Wd7:List Ty->Ty
 | []=>.bool
 | [t]=>t
 |t::ts=>.prod t (Wd7 ts)
def WnO(T:Tab):Nat->TypeId->Bool
 |0,_=>false
 |n+1,t=>match look T t with
  |some te=>match te.shape with
   | .basic=>match te.ty with
    | .int _=>true
    | .bool=>true
    | .str=>true
    | .slice _=>false
    | .own _=>false
    | .prod _ _=>false
   | .slice e=>WnO T n e&&(match look T e with|some dC=>dC.plain|none=>false)
   | .struct fs=>fs.all (λf=>WnO T n f.2)&&(match Wjl T fs 0 with
    |some (t::ts)=>decide (te.ty=Wd7 (t::ts))
    |_=>false)
   | .ptr _=>false
   | .arr _ _=>false
  |none=>false
section
variable{P:Program}{T:Tab}{H:Type}{enc:TypeId×Value->H}{β:DataW H->Nat}{w:World}
theorem WgN{t:TypeId}{te:TE}(h:TEok P T t te):P.cellsOf t=te.size:=by
 obtain⟨i,z,hi,hs,_⟩:=h.info;unfold Program.cellsOf;rw[hi];exact hs
def Wig(w:World):GH:=λb o=>w.cell? ⟨b,o,none⟩
theorem Wsj{b:Nat}{a:Addr}{n:Nat}{cs:List Value}(h:w.cells? b a n=some cs):cs.length=n/\∀(j:Nat) (v:Value),cs[j]?=some v->w.cell? (a.add j)=some v:=by
 unfold World.cells? at h;split at h
 .refine⟨by simpa using mapM_some_length h,λj v hj=>?_⟩;have hlt:j<n:=by
   have:=mapM_some_length h;have h2:=(Xs.1 hj).1;simp at this;omega
  have:=mapM_some_get h j j (by simp[hlt]);rw[this];exact hj
 .cases h
theorem Wpw{e:Ty}{a:Addr}(n:Nat)(hn:0<n):∀(k:Nat) (i0:Nat) (el:Nat->Option (DataW H×List MemPlace)) (f:List Value->Option (DataW H×List MemPlace)),
  (∀cs y,f cs=some y->∃d:e.den,Enc (Wig w) e d cs/\Wfd e d/\Wgl e d<=β y.1)->
  (∀i,i0<=i->i<i0+k->∃y cs,w.cells? 0 (a.add (i*n)) n=some cs/\f cs=some y/\el i=some y)->
  ∃(l:List e.den) (cs:List Value),l.length=k/\EncL (Enc (Wig w) e) l cs/\(∀x∈l,Wfd e x)/\(∀(j:Nat) (v:Value),cs[j]?=some v->w.cell? (a.add (i0*n+j))=some v)/\
   cs.length=k*n/\(l.map (Wgl e)).sum<=((Xbt k).map λi=>match el (i0+i)with|some y=>β y.1|none=>0).sum
 |0,i0,el,f,hf,he=>⟨[],[],rfl,rfl,by simp,by simp,by simp,by simp⟩
 |k+1,i0,el,f,hf,he=>by
  obtain⟨y,c1,h1,h2,h3⟩:=he i0 (Xn _) (by omega);obtain⟨d,yV,lC,hd3⟩:=hf _ _ h2;obtain⟨l,cs,g1,g2,g3,g4,g5,g6⟩:=Wpw n hn k (i0+1) el f hf (λi lK lL=>he i (by omega) (by omega));obtain⟨hl,hg⟩:=Wsj h1;refine⟨d::l,c1++cs,by simp[g1],⟨c1,cs,rfl,yV,g2⟩,λx hx=>?_,λj v hj=>?_,?_,?_⟩
  .rcases Xo.1 hx with rfl|hx
   .exact lC
   .exact g3 x hx
  .rw[Xba]at hj;split at hj
   .have:=hg j v hj;rw[Addr.add_add]at this;exact this
   .rename_i hlt;have:=g4 _ v hj;rw[hl]at this hlt;have e:(i0+1)*n+(j-n)=i0*n+j:=by rw[Xcx];omega
    rw[e]at this;exact this
  .rw[Xz,hl,g5,Xcx];omega
  .rw[List.range_succ_eq_map,Xai,Xai,Xcd,Xcd,Xdu];simp only[Xat,h3];have:((λi=>match el (i0+i)with|some y=>β y.1|none=>0)∘Nat.succ)= λi=>match el (i0+1+i)with|some y=>β y.1|none=>0:=by
    funext i;simp only[Function.comp,Nat.succ_eq_add_one];rw[show i0+(i+1)=i0+1+i by omega]
   rw[this];omega
theorem Wvl{β':DataW H×List MemPlace->Nat}(xs:List (DataW H×List MemPlace)):((Xbt xs.length).map λi=>match xs[0+i]? with|some y=>β' y|none=>0).sum=(xs.map β').sum:=by
 congr 1;apply List.ext_getElem
 .simp
 .intro i h1 h2;simp at h1;simp[h1]
theorem WnJ{t:Ty}{ts:List Ty}(h:ts≠ []):Wd7 (t::ts)= .prod t (Wd7 ts):=by
 cases ts with
 |nil=>exact absurd rfl h
 |cons _ _=>rfl
theorem WjR(hT:Wah P T)(hβ:Bulk β)(f:TypeId->List Value->Option (DataW H×List MemPlace)){cs:List Value}:∀(fs:List (Nat×TypeId)) (off:Nat) (ts:List Ty) (ys:List (DataW H×List MemPlace)),ts≠ []->Wjl T fs off=some ts->
  (∀fd∈fs,∀te cs y,look T fd.2=some te->f fd.2 cs=some y->∃d:te.ty.den,Enc (Wig w) te.ty d cs/\Wfd te.ty d/\Wgl te.ty d<=β y.1)->
  ys.length=fs.length->(∀(i:Nat) (fd:Nat×TypeId),fs[i]?=some fd->f fd.2 ((cs.drop fd.1).take (P.cellsOf fd.2))=ys[i]?)->cs.length=off+(Wd7 ts).size->
  ∃d:(Wd7 ts).den,Enc (Wig w) (Wd7 ts) d (cs.drop off)/\Wfd (Wd7 ts) d/\Wgl (Wd7 ts) d<=(ys.map λy=>β y.1).sum
 | [],off,ts,ys,hne,iM,_,_,_,_=>by injection iM with iM;exact absurd iM.symm hne
 |(o,ft)::fs,off,ts,ys,hne,iM,hf,hlen,wT,br=>by
  cases ys with
  |nil=>simp at hlen
  |cons y ys=>
   simp only[Wjl]at iM;split at iM
   .rename_i te hl;obtain⟨hc,iM⟩:=WaK iM;simp only[Xh]at hc;have ho:o=off:=by simpa using hc.1
    obtain⟨wU,d6,rfl⟩:=Xy.1 iM;have hsz:P.cellsOf ft=te.ty.size:=by rw[WgN (hT _ _ hl),WW hc.2]
    have h0:=wT 0 (o,ft) rfl;simp only[Xdr,hsz,ho]at h0;obtain⟨d1,e1,e2,e3⟩:=hf (o,ft) (Xi ..) te _ y hl h0;cases dq:fs with
    |nil=>
     subst dq;simp only[Wjl]at d6;injection d6 with d6;subst d6;have uT:ys= []:=by cases ys with
      |nil=>rfl
      |cons _ _=>simp at hlen
     subst uT;have kp:(cs.drop off).take te.ty.size=cs.drop off:=Xdb (by rw[List.length_drop,br];simp[Wd7]);rw[kp]at e1;exact⟨d1,e1,e2,by rw[Xai,Xck,Xcd,List.sum_nil,Xat];exact e3⟩
    |cons g gs=>
     have rU:wU≠ []:=by
      rw[dq]at d6;obtain⟨o2,ft2⟩:=g;simp only[Wjl]at d6;split at d6
      .obtain⟨_,d6⟩:=WaK d6;obtain⟨x,_,rfl⟩:=Xy.1 d6;simp
      .cases d6
     have wV:=WnJ (t:=te.ty) rU;obtain⟨d2,f1,f2,f3⟩:=WjR hT hβ f (cs:=cs) fs (off+te.ty.size) wU ys rU d6 (λfd fK=>hf fd (Xf _ fK)) (by simpa using hlen)
      (λi fd hi=>by have:=wT (i+1) fd (by simpa using hi);simpa using this) (by rw[br,wV,Ty.size];omega)
     rw[wV];refine⟨(d1,d2),⟨_,_,?_,e1,f1⟩,⟨e2,f2⟩,?_⟩
     .rw[←List.drop_drop];exact(List.take_append_drop _ _).symm
     .simp only[Wgl,Xai,Xcd];omega
   .cases iM
theorem Wkx(hT:Wah P T)(hβ:Bulk β):∀(n fuel:Nat) (t:TypeId) (te:TE) (cs:List Value) (x:DataW H×List MemPlace),WnO T n t=true->look T t=some te->
  DataW.trod enc P w 0 (λ_=>true) true fuel t cs=some x->∃d:te.ty.den,Enc (Wig w) te.ty d cs/\Wfd te.ty d/\Wgl te.ty d<=β x.1
 |0,_,_,_,_,_,h,_,_=>by cases h
 |n+1,fuel,t,te,cs,x,h,hl,hx=>by
  have bD:=hT _ _ hl;simp only[WnO,hl]at h;obtain⟨ty,agg,shape⟩:=te;cases shape with
  |basic=>
   have hu:=bD.und.2;cases ty with
   |int k=>
    obtain⟨m,rfl,rfl,hw⟩:=DataW.trod_int hu hx;exact⟨m,rfl,hw,hβ.lit _⟩
   |bool=>
    obtain⟨b,rfl,rfl⟩:=DataW.trod_bool hu hx;exact⟨b,rfl,trivial,hβ.lit _⟩
   |str=>
    obtain⟨s,rfl,rfl,hs⟩:=DataW.trod_string hu hx;refine⟨s.data.toList,by simp[Enc],?_,hβ.str _⟩;show s.data.toList.length<=maxLen;rw[Array.length_toList];exact hs
   |slice e=>cases h
   |own e=>cases h
   |prod a b=>cases h
  |slice e=>
   simp only[Xh]at h;obtain⟨ha,hu,dC,hle,gN⟩:=bD.und;simp only at gN;subst gN;have hp:dC.plain=true:=by have:=h.2;rw[hle]at this;exact this
   have hsz:P.cellsOf e=dC.ty.size:=by rw[WgN (hT _ _ hle),WW hp]
   rcases DataW.trod_slice hu hx with⟨rfl,rfl⟩|⟨a,len,cap,elems,rest,m,rfl,rfl,rfl,hb,yW,iG,uU,hel,jy,_⟩
   .exact⟨([]:List dC.ty.den),⟨_,rfl,.inl ⟨rfl,rfl⟩⟩,⟨by simp,λx hx=>by cases hx⟩,by simpa [Wgl]using hβ.nil⟩
   .have key:=Wpw (w:=w) (β:=β) (e:=dC.ty) (a:=a) dC.ty.size (Wby _) len 0 (λi=>elems[i]?) (λcs=>DataW.trod enc P w 0 (λ_=>true) true m e cs)
     (λcs y hy=>Wkx hT hβ n m e dC cs y h.1 hle hy) (λi _ hi=>by
      rw[Xaw]at hi;have:=hel i hi;rw[hsz]at this;have hlt:i<elems.length:=by omega
      rw[Xq hlt]at this;obtain⟨cs,h1,h2⟩:=Xbz.1 this;exact⟨elems[i],cs,h1,h2,Xq hlt⟩)
    obtain⟨l,cs,g1,g2,g3,g4,g5,g6⟩:=key;refine⟨l,⟨_,rfl,?_⟩,⟨by rw[g1];omega,g3⟩,?_⟩
    .by_cases h0:len=0
     .subst h0;exact .inr (.inr ⟨a,cap,rfl,Xw g1⟩)
     .have nC:0<cs.length:=by rw[g5];exact Nat.mul_pos (by omega) (Wby _)
      have rV:=g4 0 _ (Xq nC);have rW:a.spot=none:=by
       rw[Xex,Xat]at rV;have:=World.cell?_spot rV;simpa [Addr.add]using this
      obtain⟨b,off,spot⟩:=a;subst rW;refine .inr (.inl ⟨b,off,cap,cs,by rw[g1],by rw[g1];exact yW,iG,g2,λj v hj=>?_⟩);have:=g4 j v hj;rw[Xex,Xaw,WaU]at this;exact this
    .have h1:=hβ.slice (elems.map (·.1)) (rest.map (·.1));have h2:((Xbt len).map λi=>match elems[0+i]? with|some y=>β y.1|none=>0).sum=(elems.map λy=>β y.1).sum:=by
      rw[←uU];exact Wvl elems
     rw[h2]at g6;rw[Xdu]at h1;simp only[Wgl];have h3:(List.map (β∘λx=>x.1) elems)=elems.map λy=>β y.1:=rfl;rw[h3]at h1;show(List.map (Wgl dC.ty) l).sum+1<=_;omega
  |struct fs=>
   simp only[Xh]at h;obtain⟨ha,fields,hu,dq,wW,_⟩:=bD.und;have h2:=h.2;split at h2
   .rename_i t1 ts lM;have gN:ty=Wd7 (t1::ts):=of_decide_eq_true h2;subst gN;obtain⟨xs,m,rfl,rfl,hcl,jc,nK⟩:=DataW.trod_struct hu hx;have hsz:P.cellsOf t=(Wd7 (t1::ts)).size:=by rw[WgN bD];rfl
    have key:=WjR (w:=w) (P:=P) hT hβ (λt cs=>DataW.trod enc P w 0 (λ_=>true) true m t cs) (cs:=cs) fs 0 (t1::ts) xs (by simp) lM
     (λfd fK te cs y wQ hy=>Wkx hT hβ n m fd.2 te cs y (Xae.1 h.1 fd fK) wQ hy) (by rw[jc,←dq];simp)
     (λi fd hi=>by
      rw[←dq]at hi;rw[Xan]at hi;obtain⟨fl,gi,he⟩:=Xy.1 hi;subst he;exact nK i fl (by simpa using gi)) (by rw[hcl,hsz,Xaw])
    obtain⟨d,g1,g2,g3⟩:=key;rw[Xce]at g1;refine⟨d,g1,g2,Xcr g3 ?_⟩;have:=hβ.agg (xs.map (·.1));rw[Xdu]at this;exact this
   .cases h2
  |ptr e=>cases h
  |arr m e=>cases h
theorem WeL{G:GH}{w:World}:∀(t:Ty) (d:t.den) (vs:List Value),Enc G t d vs->TyRel G w t d vs []
 | .int _,_,_,h=>⟨rfl,h⟩
 | .bool,_,_,h=>⟨rfl,h⟩
 | .str,_,_,h=>⟨rfl,h⟩
 | .slice _,_,_,h=>⟨rfl,h⟩
 | .own _,_,_,h=>h.elim
 | .prod a b,d,vs,⟨c1,c2,he,h1,h2⟩=>⟨c1,c2,[],[],he,rfl,WeL a _ _ h1,WeL b _ _ h2⟩
def Wo4:(ps:List PTy)->Wfk ps->Prop
 | [],_=>True
 | .v t _::ps,d=>Wfd t d.1/\Wo4 ps d.2
 | .box _::_,_=>False
 | .mut _::_,_=>False
 | .clos _ _::_,_=>False
 | .kv _ _::_,_=>False
 | .rp _::_,_=>False
 | .vj _::_,_=>False
 | .boxal _ _::_,_=>False
def Wgd:(ps:List PTy)->Wfk ps->Nat
 | [],_=>0
 | .v t _::ps,d=>Wgl t d.1+Wgd ps d.2
 | .box _::_,_=>0
 | .mut _::_,_=>0
 | .clos _ _::_,_=>0
 | .kv _ _::_,_=>0
 | .rp _::_,_=>0
 | .vj _::_,_=>0
 | .boxal _ _::_,_=>0
def WvU(P:Program)(T:Tab):List TypeId->List PTy->Bool
 | [],[]=>true
 |t::ts,p::ps=>(match p with
  | .v ty agg=>(match look T t with|some te=>decide (te.ty=ty)&&(te.agg==agg)|none=>false)&&WnO T 20 t&&P.readableRec t&&Nat.blt t P.types.size&&WvU P T ts ps
  | .box _=>false
  | .mut _=>false
  | .clos _ _=>false
  | .kv _ _=>false
  | .rp _=>false
  | .vj _=>false
  | .boxal _ _=>false)
 |_,_=>false
theorem Wl0(hT:Wah P T)(hβ:Bulk β):∀(ts:List TypeId) (ps:List PTy) (vs:List Value) (ds:List (DataW H)) (pl:List MemPlace),WvU P T ts ps=true->DataW.TrodAll enc P w 0 (λ_=>true) true ts vs ds pl->
  (∀(j:Nat) (t:TypeId) (v:Value),ts[j]?=some t->vs[j]?=some v->∃base,Value.okWide P w .any base t v)->
  ∃d:Wfk ps,Wbj (Wig w) w ps d vs [] []/\Wo4 ps d/\Wgd ps d<=(ds.map β).sum
 | [],[],vs,ds,pl,_,h,_=>by
  obtain⟨rfl,rfl,_⟩:=trodAll_nil h;exact⟨(),⟨rfl,rfl,rfl⟩,trivial,by simp[Wgd]⟩
 | [],_::_,_,_,_,h,_,_=>by cases h
 |_::_,[],_,_,_,h,_,_=>by cases h
 |t::ts,.box _::ps,_,_,_,h,_,_=>by cases h
 |t::ts,.mut _::ps,_,_,_,h,_,_=>by cases h
 |t::ts,.clos _ _::ps,_,_,_,h,_,_=>by cases h
 |t::ts,.kv _ _::ps,_,_,_,h,_,_=>by cases h
 |t::ts,.rp _::ps,_,_,_,h,_,_=>by cases h
 |t::ts,.vj _::ps,_,_,_,h,_,_=>by cases h
 |t::ts,.boxal _ _::ps,_,_,_,h,_,_=>by cases h
 |t::ts,.v ty agg::ps,vs,ds,pl,hp,h,gr=>by
  obtain⟨v,vs',d,rX,p,q,rfl,rfl,rfl,h0,hr⟩:=trodAll_cons h;simp only[WvU,Xh]at hp;obtain⟨⟨⟨⟨h1,h2⟩,h3⟩,h4⟩,h5⟩:=hp;split at h1
  .rename_i te hl;simp only[Xh]at h1;have e1:te.ty=ty:=of_decide_eq_true h1.1;have e2:te.agg=agg:=eq_of_beq h1.2;subst e1 e2;obtain⟨fuel,hx⟩:=h0;obtain⟨x,cC,wX,d9⟩:=Wkx hT hβ 20 fuel t te _ (d,p) h2 hl hx;obtain⟨base,aH⟩:=gr 0 t v rfl rfl;obtain⟨dd,g1,g2,g3⟩:=Wl0 hT hβ ts ps vs' rX q h5 hr (λj t v hj hv=>gr (j+1) t v (by simpa using hj) (by simpa using hv));refine⟨(x,dd),⟨v,vs',[],[],rfl,rfl,?_,g1⟩,⟨wX,g2⟩,?_⟩
   .have hu:=(hT _ _ hl).und;unfold Wi1;obtain⟨ty,ag,shape⟩:=te;simp only at cC wX d9⊢;have dY:∀u:Value,u.cells= #[u]->u=v->v.cells.toList= [v]:=λu h e=>by rw[←e,h]
    cases shape with
    |basic=>
     obtain⟨ha,hu⟩:=hu;simp only at ha;subst ha;simp only[Xbm,if_false];have:v.cells.toList= [v]:=by
      cases ty with
      |int k=>obtain⟨n,rfl⟩:=okWide_int hu aH;rfl
      |bool=>obtain⟨n,rfl⟩:=okWide_bool hu aH;rfl
      |str=>obtain⟨n,rfl⟩:=okWide_string hu aH;rfl
      |slice e=>cases hu
      |own e=>cases hu
      |prod a b=>cases hu
     rw[this]at cC;exact WeL _ _ _ cC
    |slice e=>
     obtain⟨ha,hu,_⟩:=hu;simp only at ha;subst ha;simp only[Xbm,if_false];obtain⟨a,l,c,rfl⟩:=okWide_slice hu aH;exact WeL _ _ _ cC
    |struct fs=>
     obtain⟨ha,fields,hu,_⟩:=hu;simp only at ha;subst ha;simp only[if_true];obtain⟨cs,rfl,_⟩:=okWide_struct hu aH;exact⟨cs.toList,by simp,WeL _ _ _ cC⟩
    |ptr e=>simp only[WnO,hl]at h2;cases h2
    |arr m e=>simp only[WnO,hl]at h2;cases h2
   .have d9:Wgl te.ty x<=β d:=d9;simp only[Wgd,Xai,Xcd];omega
  .cases h1
theorem WlT:∀(ts:List TypeId) (vs:List Value) (ds:List (DataW H)) (pl:List MemPlace),DataW.TrodAll enc P w 0 (λ_=>true) true ts vs ds pl->ds.length=ts.length
 | [],vs,ds,pl,h=>by obtain⟨_,rfl,_⟩:=trodAll_nil h;rfl
 |t::ts,vs,ds,pl,h=>by
  obtain⟨v,vs',d,rX,p,q,rfl,rfl,rfl,h0,hr⟩:=trodAll_cons h;simp[WlT ts vs' rX q hr]
theorem Wm6(iR:laidOutB P=true){W W':World}(hb:Below W.heap.size W W'){sp:Nat->Bool}:∀(ts:List TypeId) (ps:List PTy) (vs:List Value) (ds:List (DataW H)) (pl:List MemPlace),WvU P T ts ps=true->
  DataW.TrodAll enc P W 0 (λ_=>true) true ts vs ds pl->(∀p∈pl,p.block<W.heap.size)->(∀p∈pl,sp p.block=true)->DataW.TrodAll enc P W' 0 sp true ts vs ds pl
 | [],ps,vs,ds,pl,_,h,_,_=>by
  obtain⟨rfl,rfl,rfl⟩:=trodAll_nil h;exact trodAll_mk0
 |t::ts,[],_,_,_,h,_,_,_=>by cases h
 |t::ts,.box _::ps,_,_,_,h,_,_,_=>by cases h
 |t::ts,.mut _::ps,_,_,_,h,_,_,_=>by cases h
 |t::ts,.clos _ _::ps,_,_,_,h,_,_,_=>by cases h
 |t::ts,.kv _ _::ps,_,_,_,h,_,_,_=>by cases h
 |t::ts,.rp _::ps,_,_,_,h,_,_,_=>by cases h
 |t::ts,.vj _::ps,_,_,_,h,_,_,_=>by cases h
 |t::ts,.boxal _ _::ps,_,_,_,h,_,_,_=>by cases h
 |t::ts,.v ty agg::ps,vs,ds,pl,hp,h,hlt,jy=>by
  obtain⟨v,vs',d,rX,p,q,rfl,rfl,rfl,h0,hr⟩:=trodAll_cons h;simp only[WvU,Xh]at hp;obtain⟨⟨⟨⟨h1,h2⟩,h3⟩,h4⟩,h5⟩:=hp;have hrow:t<P.types.size:=by rw[Xhc]at h4;exact h4
  exact⟨p,q,WideElems.Trod_stays iR h3 hrow h0 (λx hx=>hb.same (hlt x (Xk _ hx))) (λx hx=>jy x (Xk _ hx)),
   Wm6 iR hb ts ps vs' rX q h5 hr (λx hx=>hlt x (Xg _ hx)) (λx hx=>jy x (Xg _ hx)),rfl⟩
theorem Wtz{f:Func}{s:ChangeSpec}{apart fresh fO again:Bool}{W W':World}{args:Array Value}{v:Value}{ds gs:List (DataW H)}{before pa pv:List MemPlace}
  (hW:DataW.Whole enc P f.params.toList s.vars apart W args.toList ds gs before)
  (hZ:∀(b:Nat) (sp:Nat->Bool) (hd:Bool),DataW.TrodAll enc P W' b sp hd f.resultTypes.toList (v.resultList f.resultTypes.size) (s.fn H (ds++gs)).results [])
  (hargs:∀sp:Nat->Bool,(∀p∈before,sp p.block=true)->DataW.TrodAll enc P W' 0 sp true f.params.toList args.toList (s.fn H (ds++gs)).args pa)
  (mL:∀sp:Nat->Bool,(∀p∈before,sp p.block=true)->DataW.TrodVars enc P W' sp s.vars (s.fn H (ds++gs)).vars pv)
  (bQ:before=pa++pv) (hk:W.keptBut W' (· ∈before)) (wY:∀a,a.block<W.heap.size->W'.frozen? a=W.frozen? a)
  (aH:∀(j:Nat) (t:TypeId) (r:Value),f.resultTypes[j]?=some t->(v.resultList f.resultTypes.size)[j]?=some r->Value.okWide P W' .any 0 t r):
  s.post enc P f apart fresh fO again W args v W':=by
 have gw:∀p∈before,(λb=>decide (b<W.heap.size)) p.block=true:=λp hp=>by simpa using hW.lt p hp
 refine⟨ds,gs,before,[],pa,pv,hW,hZ _ _ _,hargs _ gw,mL _ gw,World.keptBut_mono (λp hp=>⟨hp,?_⟩) hk,λ_=>?_⟩
 .rw[bQ,Xm]at hp;exact Or.inr hp
 .have hlt:=hW.lt;obtain⟨_,_,_,_,_,hz,hn⟩:=hW;refine⟨aH,_,_,([]++pa)++pv,⟨[]++pa,pv,trodAll_append (hargs _ (λ_ _=>rfl)) (hZ _ _ _),mL _ (λ_ _=>rfl),rfl,?_,?_⟩,?_⟩
  .intro b off hp;have cQ:MemPlace.cell b off∈before:=by rw[bQ];simpa using hp
   rw[wY ⟨b,off,none⟩ (hlt _ cQ)];exact hz b off cQ
  .intro ha;have:=hn ha;rw[bQ]at this;simpa using this
  .intro p hp _;rw[bQ];simpa using hp
theorem law_row(hT:Wah P T)(iR:laidOutB P=true){f:Func}{k:FuncId}{s:ChangeSpec}(cR:s.vars= [])(hs:∀ds:List (DataW H),ds.length=f.params.toList.length->s.fn H ds={results:=[.lit (.bool true)],args:=ds})
  {ps:List PTy} (bQ:WvU P T f.params.toList ps=true) {tb:TypeId} (hZ:f.resultTypes= #[tb]) (wZ:P.underlying tb=some .bool) {run:Nat->Wfk ps->Option (WfZ ps×WgZ [.v .bool false])}
  (gB:∀N,Good P k (Sig.of ps [.v .bool false] (run N))) (hβ:Bulk β) {ok:List (DataW H)->Prop} {M:Nat->Prop} (rY:∀ds m,ok ds->m<=(ds.map β).sum->M m)
  (uV:∀d:Wfk ps,Wo4 ps d->M (Wgd ps d)->∃N o,run N d=some (o,(true,()))) {apart fresh fO again:Bool}
  (W:World) (base:Nat) (args:Array Value) (ds gs:List (DataW H)) (before:List MemPlace)
  (gr:∀(j:Nat) t v,f.params[j]?=some t->args[j]?=some v->Value.okWide P W .any base t v)
  (hW:DataW.Whole enc P f.params.toList s.vars apart W args.toList ds gs before) (hk:ok ds):
  Calls P k args W λe W'=>∃v,e= .returned v/\s.post enc P f apart fresh fO again W args v W':=by
 have hW':=hW;have hlt:=hW.lt;obtain⟨p,q,hA,hV,w5,wY,aT⟩:=hW;rw[cR]at hV;obtain⟨uW,hq⟩:=trodVars_none hV;subst uW hq;rw[Xcy]at w5;subst w5;obtain⟨d,h1,h2,h3⟩:=Wl0 (w:=W) hT hβ f.params.toList ps args.toList ds before bQ hA (λj t v hj hv=>⟨base,gr j t v (by simpa using hj) (by simpa using hv)⟩);obtain⟨N,o,ho⟩:=uV d h2 (rY ds _ hk h3);have hc:=gB N d (o,(true,())) ho (Wig W) W args.toList [] [] h1 List.Pairwise.nil (by simp) (λb o v hv=>hv);have hargs:args.toList.toArray=args:=by simp
 rw[hargs]at hc;refine hc.mono λe W' ⟨rv,kf,ms,cE,G',he,ha⟩=>?_;have hb:Below W.heap.size W W':=⟨ha.le.os,ha.le.tape,ha.le.output,ha.le.size,λb hb=>ha.le.whole b hb (λo ⟨q,hq,_⟩=>by simp at hq)⟩;obtain⟨v,vs',n1,n2,e1,e2,e3,e4⟩:=ha.res;obtain⟨e5,_⟩:=e4;subst e5;have hv:v= .bool true:=by
  unfold Wi1 at e3;simp only[Xbm,if_false]at e3;have:=e3.2;simpa [Enc]using this
 subst hv;have kY:Wia rv= .bool true:=by rw[e1];rfl
 rw[kY]at he;refine⟨.bool true,he,?_⟩;have hlen:=WlT _ _ _ _ hA;have uX:=hs (ds++ []) (by rw[Xcy];exact hlen);refine Wtz (pa:=before) (pv:=[]) hW' ?_ ?_ ?_ (by simp) (hb.frame _) (λa ha=>hb.frozen ha) (ok_one hZ rfl (okWide_bool_mk wZ _))
 .intro b sp hd;rw[uX,hZ];exact trodAll_cons_mk (shut_bool wZ _) trodAll_mk0
 .intro sp jy;rw[uX,Xcy];exact Wm6 iR hb _ _ _ _ _ bQ hA hlt jy
 .intro sp jy;rw[uX,cR];rfl
end
end Go.Sx
namespace Go.Sx
set_option linter.unusedVariables false
def sortInts(xs:List Int):List Int:=xs.mergeSort λx y=>decide (x<=y)
def Zpi(N:Nat)(xs:List Int):Option ((List Int×Unit)×Unit):=bif decide (xs.length<4611686018427387904)then some ((sortInts xs,()),())else none
theorem sortInt_some{N:Nat}{xs:List Int}{o:(List Int×Unit)×Unit}(h:Zpi N xs=some o):xs.length<4611686018427387904/\o=((sortInts xs,()),()):=by
 unfold Zpi at h;by_cases h':xs.length<4611686018427387904
 .rw[show decide (xs.length<4611686018427387904)=true by simpa using h']at h;simp only[cond_true]at h;injection h with h;exact⟨h',h.symm⟩
 .rw[show decide (xs.length<4611686018427387904)=false by simpa using h']at h;cases h
end Go.Sx
namespace Go.Sx
set_option linter.unusedVariables false
def Wls{α:Type}(r:α->α->Bool):List α->Bool
 | []=>true
 |x::l=>l.all (r x)&&Wls r l
def lessBy{α:Type}(cf:α->α->Int)(x y:α):Bool:=decide (cf x y<0)
def apart{α:Type}(cf:α->α->Int)(x y:α):Bool:=lessBy cf x y||lessBy cf y x
def sortBy{α:Type}(cf:α->α->Int)(xs:List α):List α:=xs.mergeSort λx y=>!lessBy cf y x
def Zmj{α:Type}(rng:α->Bool)(cf:α->α->Int)(N:Nat)(xs:List α):Option ((List α×Unit)×Unit):=
 bif xs.all rng&&(Wls (apart cf) xs&&decide (xs.length<4611686018427387904))then some ((sortBy cf xs,()),())else none
structure SwoOn{α:Type}(rng:α->Bool)(cf:α->α->Int):Prop where
 irr:∀x,rng x=true->¬cf x x<0
 tr:∀x y z,rng x=true->rng y=true->rng z=true->cf x y<0->cf y z<0->cf x z<0
 nt:∀x y z,rng x=true->rng y=true->rng z=true->¬cf x y<0->¬cf y z<0->¬cf x z<0
theorem sortBy_some{α:Type}{rng:α->Bool}{cf:α->α->Int}{N:Nat}{xs:List α}{o:(List α×Unit)×Unit}(h:Zmj rng cf N xs=some o):
  (∀x∈xs,rng x=true)/\Wls (apart cf) xs=true/\xs.length<4611686018427387904/\o=((sortBy cf xs,()),()):=by
 unfold Zmj at h;cases hb:xs.all rng&&(Wls (apart cf) xs&&decide (xs.length<4611686018427387904))
 .rw[hb]at h;cases h
 .rw[hb]at h;simp only[cond_true]at h;injection h with h;simp only[Xh,decide_eq_true_eq]at hb;exact⟨Xae.1 hb.1,hb.2.1,hb.2.2,h.symm⟩
theorem pairs_get{α:Type}{r:α->α->Bool}:∀{l:List α},Wls r l=true->∀(i j:Nat) (hi:i<l.length) (hj:j<l.length),i<j->r l[i] l[j]=true
 | [],_,i,_,hi,_,_=>by simp at hi
 |x::l,h,0,j+1,hi,hj,hij=>by
  simp only[Wls,Xh]at h;exact Xae.1 h.1 _ (List.getElem_mem _)
 |x::l,h,i+1,j+1,hi,hj,hij=>by
  simp only[Wls,Xh]at h;simpa using pairs_get h.2 i j (by simpa using hi) (by simpa using hj) (by omega)
def WuE(k:Int):Bool:=decide (-1000000000<=k)&&decide (k<=1000000000)
def Wv2(a:Int×Int×Int):Bool:=WuE a.1
def cfE(a b:Int×Int×Int):Int:=a.1-b.1
def WvI(a:Int×Int×Int):Bool:=WuE a.1&&WuE a.2.1
def cfH(a b:Int×Int×Int):Int:=bif a.2.1==b.2.1 then a.1-b.1 else a.2.1-b.2.1
theorem WgM{k:Int}(h:WuE k=true):-1000000000<=k/\k<=1000000000:=by unfold WuE at h;simpa using h
theorem Wxc:SwoOn Wv2 cfE:=⟨λx _=>by unfold cfE;omega,λx y z _ _ _=>by unfold cfE;omega,λx y z _ _ _=>by unfold cfE;omega⟩
theorem WbG{a b:Int×Int×Int}:cfH a b<0↔(a.2.1<b.2.1\/(a.2.1=b.2.1/\a.1<b.1)):=by
 unfold cfH;by_cases h:a.2.1=b.2.1
 .have:(a.2.1==b.2.1)=true:=by simpa using h
  rw[this];simp only[cond_true];omega
 .have:(a.2.1==b.2.1)=false:=by simpa using h
  rw[this];simp only[cond_false];omega
theorem WvY{a b:Int×Int×Int}(h:(a.2.1 !=b.2.1)=false):a.1-b.1=cfH a b:=by
 have h:a.2.1=b.2.1:=bne_eq_false_iff_eq.1 h;unfold cfH;rw[beq_iff_eq.2 h];rfl
theorem Wwa{a b:Int×Int×Int}(h:(a.2.1 !=b.2.1)=true):a.2.1-b.2.1=cfH a b:=by
 have h:a.2.1≠b.2.1:=bne_iff_ne.1 h;unfold cfH;rw[beq_eq_false_iff_ne.2 h];rfl
theorem Wxf:SwoOn WvI cfH:=⟨λx _=>by rw[WbG];omega,λx y z _ _ _=>by rw[WbG,WbG,WbG];omega,λx y z _ _ _=>by rw[WbG,WbG,WbG];omega⟩
end Go.Sx
