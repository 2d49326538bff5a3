/- The abstract machine, part 3: a reflective interpreter of the program's code over data, with its soundness over the model. -/
import Derived.Test.YthfplagpoopmcaaGreatEng2
open Option renaming bind_assoc→Xey,map→Xfa,bind_some→Xd,getD_some→Xea,bind_eq_some_iff→Xao,map_eq_some_iff→Xs
open Bool renaming not_true→Xx,and_eq_true→Xg,not_eq_true'→Xak,false_eq_true→Xap,or_eq_true→Xcg
open List renaming mem_map→Xv,mem_cons_of_mem→Xe,mem_append_left→Xj,mem_append_right→Xf,mem_cons→Xq,mem_cons_self→Xh,length_append→Xo,getD_eq_getElem?_getD→Xbz,getElem?_append→Xan,getElem?_cons_zero→Xdb,getElem?_eq_none→Xbp,all_eq_true→Xab,append_of_mem→Xds,mem_append→Xl,range→Xbt,mem_filter→Xat,mem_range→Xcx,filter_cons→Xbc,eq_nil_of_length_eq_zero→Xu,eq_nil_iff_forall_not_mem→Xei,nodup_nil→Xcy,mem_of_getElem?→Xas,nodup_cons→Xaa,nil_append→Xbn,cons_append→Xaq,length_filter_le→Xee,length_range→Xez,mem_flatMap→Xfe,map_cons→Xag,map_map→Xdu,map_id→Xgh,map_congr_left→Xen,append_nil→Xcf,nodup_append→Xac,filter_append→Xcl,prefix_append→Xgb,map_append→Xy,map_nil→Xbu,mem_erase_of_ne→Xft,length_erase_of_mem→Xfc,length_pos_of_mem→Xfi,length_cons→Xn,getElem?_cons_succ→Xdx,getElem?_eq_some_iff→Xz,getElem?_append_right→Xbr,getElem?_tail→Xbx,mapM_cons→Xep,pairwise_singleton→Xbd,mem_singleton→Xaf,take_of_length_le→Xde,getElem?_eq_getElem→Xp,drop_zero→Xca,tail_cons→Xdw,getElem?_map→Xai,all_cons→Xbk,length→Xb,sum_cons→Xdo
open Nat renaming sub_self→Xcs,blt_eq→Xgq,le_refl→Xm,zero_add→Xbh,zero_le→Xcb,sub_zero→Xda,beq→Xaz,le_trans→Xcr,add_zero→Xay,add_sub_cancel_left→Xbq,ble→Xgu,le_of_ble_eq_true→Xec,add_mul→Xcn,zero_mul→Xem
open Array renaming getD_eq_getD_getElem?→Xck,getElem?_setIfInBounds→Xeo,getElem?_eq_getElem→Xcu,getElem?_eq_some_iff→Xbs,replicate→Xdc,getElem?_append_left→Xev,mapM_eq_mapM_toList→Xdq
namespace Go.Sx
set_option linter.unusedVariables false
set_option linter.unusedSimpArgs false
section
variable{T:Tab}{Γ:Ctx}{A:List (Nat×An)}
theorem Wax{α β:Type}{c:Prop}[Decidable c]{x:Option α}{f:α->Option β}:(if c then x else none).bind f=if c then x.bind f else none:=by split<;>rfl
theorem Wby{α β:Type}{c:Bool}{x:Option α}{f:α->Option β}:(bif c then x else none).bind f=bif c then x.bind f else none:=by cases c<;>rfl
theorem WeC{R:Type}(sg:Sig)(st:St)(xs:List AVal)(k:KV R):Wec sg st xs k=(Wec sg st xs WaZ).bind λp=>k p.1 p.2.1 p.2.2:=by
 unfold Wec;split
 .split
  .rw[sg.law,sg.law,Xey];rfl
  .rfl
 .rfl
theorem Wni{R:Type}(sg:Sig)(st:St)(xs:List AVal)(k:KV R):WkN sg st xs k=(WkN sg st xs WaZ).bind λp=>k p.1 p.2.1 p.2.2:=by
 unfold WkN;cases sg.fresh with
 |true=>exact WeC _ _ _ _
 |false=>
  simp only[Wf];split
  .split
   .exact WeC _ _ _ _
   .exact WeC _ _ _ _
  .rfl
theorem Wla{R:Type}(st:St)(te:Ty)(s x:AVal)(k:KV R):WdH st te s x k=(WdH st te s x WaZ).bind λp=>k p.1 p.2.1 p.2.2:=by
 unfold WdH;split
 .split
  .split
   .split
    .rw[Wby];rfl
    .rfl
   .rfl
  .rfl
 .split
  .split
   .split
    .rw[Wax,Wby];rfl
    .rfl
   .rfl
  .rfl
 .rfl
theorem WkY{R:Type}(st:St)(e:Ty)(ps:List (Nat×AVal))(k:KV R):Wco st e ps k=(Wco st e ps WaZ).bind λp=>k p.1 p.2.1 p.2.2:=by
 unfold Wco;split
 .rw[Wax];split
  .split
   .split
    .rw[Wax];rfl
    .rfl
   .rfl
  .rfl
 .rfl
theorem WlN{R:Type}(st:St)(te:Ty)(id:Nat)(l h:Option Int)(k:KV R):Web st te id l h k=(Web st te id l h WaZ).bind λp=>k p.1 p.2.1 p.2.2:=by
 unfold Web;split
 .rw[Wax,Wby];rfl
 .rfl
theorem Wja{R:Type}(st:St)(t t2:TypeId)(s x:AVal)(k:KV R):Wc0 T st t t2 s x k=(Wc0 T st t t2 s x WaZ).bind λp=>k p.1 p.2.1 p.2.2:=by
 unfold Wc0;split
 .split
  .split
   .cases Wqz st s x with
    |false=>exact Wla _ _ _ _ _
    |true=>
    simp only[Xx,Wf];split
    .rw[Wby];rfl
    .split
     .split
      .rw[Wby];rfl
      .rfl
     .rfl
    .split
     .split
      .rw[Wby];rfl
      .rfl
     .rfl
    .rfl
   .rfl
  .rfl
 .rfl
theorem Wr0{R:Type}(p:Option (Bool×AVal))(objs:WZ)(nx:Nat)(k:KV R):(match p with|some (c,v)=>bif c then k v objs nx else none|none=>none)=(match p with|some (c,v)=>bif c then WaZ v objs nx else none|none=>none).bind λp=>k p.1 p.2.1 p.2.2:=by
 rcases p with _|⟨c,v⟩
 .rfl
 .cases c<;>rfl
theorem WdT{R:Type}(o:Oper)(st:St)(k:KV R):rxe T Γ A o st k=(rxe T Γ A o st WaZ).bind λp=>k p.1 p.2.1 p.2.2:=by
 unfold rxe;split
 .split
  .rw[Wax];rfl
  .rw[Wax];rfl
  .rfl
 .split<;>rfl
 .split
  .split
   .split<;>rfl
   .rfl
  .rfl
 .split
  .split
   .split
    .rw[Wax];split
     .exact WkY _ _ _ _
     .rfl
    .split
     .rw[Wax];rfl
     .rfl
   .rfl
  .rfl
 .split
  .split
   .split
    .rw[Wax,Wby];rfl
    .rw[Wax,Wby];rfl
   .rfl
  .rfl
 .split
  .split
   .split<;>rfl
   .rfl
  .rfl
 .split
  .split
   .split
    .split
     .rw[Wax];split
      .exact WlN _ _ _ _ _ _
      .rfl
     .split
      .rw[Wax,Wby];rfl
      .rw[Wax,Wby];rfl
      .rfl
    .rfl
   .rfl
  .exact Wr0 _ _ _ _
 .split
  .split
   .exact Wja _ _ _ _ _ _
   .rfl
  .split
   .split
    .split
     .rw[Wax];rfl
     .rfl
    .rfl
   .rfl
  .exact Wr0 _ _ _ _
  .split
   .split
    .split
     .exact Wni _ _ _ _
     .exact‹Inl›.law _ _ _
    .rfl
   .rfl
  .rfl
 .exact Wr0 _ _ _ _
end
section
variable{T:Tab}{Γ:Ctx}{A:List (Nat×An)}
theorem Wl6{st:St}{env:List (Nat×AVal)}{t:TypeId}{x v:AVal}:Wcd T {env:=env,objs:=st.objs,nx:=st.nx} t x v=(Wcd T st t x v).map λs=>{env:=env,objs:=s.objs,nx:=s.nx}:=by
 unfold Wcd;generalize Wj T t=q;generalize Wfs v=z;rcases q with _|te
 .rfl
 rcases z with _|ds
 .rcases x with(c|cs)|xs
  .cases c<;>rfl
  .rfl
  .rfl
 rcases x with(c|cs)|xs
 .cases c with
  |ptr id off=>
   show(match Wj st.objs id with|some (.box cs)=>_|_=>_)=Xfa _ (match Wj st.objs id with|some (.box cs)=>_|_=>_);generalize Wj st.objs id=ob;rcases ob with _|ob
   .rfl
   cases ob with
   |box cs=>
    show(if _ then _ else _)=Xfa _ (if _ then _ else _);split<;>rfl
   |arr e xs=>rfl
   |hole e xs i p=>rfl
   |dead=>rfl
  |eptr id i off=>
   show(match Wj st.objs id with|some (.arr e xs)=>_|_=>_)=Xfa _ (match Wj st.objs id with|some (.arr e xs)=>_|_=>_);generalize Wj st.objs id=ob;rcases ob with _|ob
   .rfl
   cases ob with
   |box cs=>rfl
   |hole e xs i p=>rfl
   |dead=>rfl
   |arr e xs=>
    show(if _ then _ else _)=Xfa _ (if _ then _ else _);by_cases hc:(decide (te.ty.size=ds.length)&&te.plain&&decide (off+ds.length<=e.size)&&e.data)=true
    .rw[We hc,We hc];generalize Wac e (Wc8 (split e (List.getD xs i e.dflt)) off ds) st.objs=r;rcases r with _|⟨d,m,l⟩
     .rfl
     .cases m<;>cases l<;>rfl
    .rw[Wc hc,Wc hc];by_cases jW:(decide (te.ty.size=ds.length)&&te.plain&&decide (off=0)&&decide (ds.length=e.size))=true
     .rw[We jW,We jW];generalize Wac e ds st.objs=r;rcases r with _|⟨d,m,l⟩
      .rfl
      .cases l with
       |nil=>
        show(if _ then _ else _)=Xfa _ (if _ then _ else _);split<;>rfl
       |cons _ _=>rfl
     .rw[Wc jW,Wc jW];rfl
  |_=>rfl
 .rfl
 .rfl
theorem Woo{R:Type}(o:Oper){st:St}{env:List (Nat×AVal)}(k:KV R)(he:∀x∈W0 o.op,ev {env:=env,objs:=st.objs,nx:=st.nx} x=ev st x):
  rxe T Γ A o {env:=env,objs:=st.objs,nx:=st.nx} k=rxe T Γ A o st k:=by
 have be:(∀t x l h m,o.op≠ .slice t x l h m)->W1 T {env:=env,objs:=st.objs,nx:=st.nx} o.op=W1 T st o.op:=λhm=>WfX o.op hm he (λ_ _ _ _ _ _ _=>rfl);obtain⟨dst,op,type,pos,after,guard⟩:=o;simp only at he be;cases op with
 |alloc t=>rfl
 |box t x=>simp only[rxe,he x (by simp[W0])]
 |build t parts=>simp only[rxe,WbW (st:=st) parts.toList λp hp=>he p.2 (by simp only[W0];exact Xv.2 ⟨p,hp,rfl⟩)]
 |buildSlice t n parts=>
  have e1:∀e ps,Wco {env:=env,objs:=st.objs,nx:=st.nx} e ps k=Wco st e ps k:=λ_ _=>rfl;simp only[rxe,e1,WbW (st:=st) parts.toList λp hp=>he p.2 (by simp only[W0];exact Xv.2 ⟨p,hp,rfl⟩)]
 |makeSlice t n c=>simp only[rxe,he n (by simp[W0]),he c (by simp[W0])]
 |store t a x=>
  simp only[rxe,he a (by simp[W0]),he x (by simp[W0])];split
  .rename_i p v _ _;have e:=Wl6 (T:=T) (st:={env:=st.env,objs:=Wc1 st.objs (Weu st.objs p v),nx:=st.nx}) (env:=env) (t:=t) (x:=p) (v:=WfT st.objs (Weu st.objs p v) v);simp only at e;rw[e];cases Wcd T {env:=st.env,objs:=Wc1 st.objs (Weu st.objs p v),nx:=st.nx} t p (WfT st.objs (Weu st.objs p v) v)<;>rfl
  .rfl
 |slice t x lo hi m=>
  have hx:=he x (by simp[W0]);have aR:=Wiy (st:=st) (st2:={env:=env,objs:=st.objs,nx:=st.nx}) lo λy hy=>he y (by simp only[W0];exact Xe _ (Xj _ hy));have nb:=Wiy (st:=st) (st2:={env:=env,objs:=st.objs,nx:=st.nx}) hi λy hy=>he y (by simp only[W0];exact Xe _ (Xf _ (Xj _ hy)));cases m with
  |none=>
   have hp:W1 T {env:=env,objs:=st.objs,nx:=st.nx} (.slice t x lo hi none)=W1 T st (.slice t x lo hi none):=by
    simp only[W1,hx];refine Wbq λv _=>?_;simp only[Wjn,aR,nb]
   have e1:∀te id l h,Web {env:=env,objs:=st.objs,nx:=st.nx} te id l h k=Web st te id l h k:=λ_ _ _ _=>rfl;simp only[rxe,hx,aR,nb,hp,e1]
  |some y=>rfl
 |call c=>
  have au:=Wkr (st:=st) (st2:={env:=env,objs:=st.objs,nx:=st.nx}) c.args.toList λx hx=>he x (by simp only[W0];exact Xf _ hx);have hp:=be (λ_ _ _ _ _ h=>by cases h);simp only[rxe];split
  .rename_i s x t t2 hc ha cQ;have h1:ev {env:=env,objs:=st.objs,nx:=st.nx} s=ev st s:=he s (by simp only[W0];rw[ha];exact Xf _ (by simp));have h2:ev {env:=env,objs:=st.objs,nx:=st.nx} x=ev st x:=he x (by simp only[W0];rw[ha];exact Xf _ (by simp));rw[h1,h2];rfl
  .rename_i x t hc ha cQ;have h1:ev {env:=env,objs:=st.objs,nx:=st.nx} x=ev st x:=he x (by simp only[W0];rw[ha];exact Xf _ (by simp));rw[h1]
  .rw[hp]
  .rename_i f hc;have h1:ev {env:=env,objs:=st.objs,nx:=st.nx} f=ev st f:=he f (by simp only[W0];rw[hc];exact Xj _ (by simp));rw[h1,au];rfl
  .rfl
 |move x=>simp only[rxe,be (λ_ _ _ _ _ h=>by cases h)]
 |assign x=>simp only[rxe,be (λ_ _ _ _ _ h=>by cases h)]
 |pick c a b=>simp only[rxe,be (λ_ _ _ _ _ h=>by cases h)]
 |load t a=>simp only[rxe,be (λ_ _ _ _ _ h=>by cases h)]
 |nilCheck x=>simp only[rxe,be (λ_ _ _ _ _ h=>by cases h)]
 |binOp op t x y z=>simp only[rxe,be (λ_ _ _ _ _ h=>by cases h)]
 |unOp op t x=>simp only[rxe,be (λ_ _ _ _ _ h=>by cases h)]
 |convert s d x=>simp only[rxe,be (λ_ _ _ _ _ h=>by cases h)]
 |fieldAddr s x f=>simp only[rxe,be (λ_ _ _ _ _ h=>by cases h)]
 |field t x f=>simp only[rxe,be (λ_ _ _ _ _ h=>by cases h)]
 |indexAddr t x i=>simp only[rxe,be (λ_ _ _ _ _ h=>by cases h)]
 |index t x i=>simp only[rxe,be (λ_ _ _ _ _ h=>by cases h)]
 |extract t ix=>simp only[rxe,be (λ_ _ _ _ _ h=>by cases h)]
 |makeFunc f first captured=>simp only[rxe,be (λ_ _ _ _ _ h=>by cases h)]
 |_=>rfl
def Wrl(T:Tab)(o:Oper)(st:St):Option AVal:=match o.op with
 | .build t parts=>match Wj T t,WbP st parts.toList with
  |some ⟨ty,true,.struct fs⟩,some ps=>
   if fs.all (λf=>match Wj T f.2 with|some te=>te.plain|none=>false)then
    match WkS T fs ps (Wdy ty)with
    |some cs=>some (.s (.agg cs))
    |none=>none
   else none
  |_,_=>none
 |op=>match W1 T st op with
  |some (c,v)=>bif c then some v else none
  |none=>none
theorem Wsx(p:Option (Bool×AVal))(objs:WZ)(nx:Nat):(match p with|some (c,v)=>bif c then WaZ v objs nx else none|none=>none)=(match p with|some (c,v)=>bif c then some v else none|none=>none).bind λv=>WaZ v objs nx:=by
 rcases p with _|⟨c,v⟩
 .rfl
 .cases c<;>rfl
theorem Wlf{o:Oper}(hm:Wao o=false)(st:St):rxe T Γ A o st WaZ=(Wrl T o st).bind λv=>WaZ v st.objs st.nx:=by
 obtain⟨dst,op,type,pos,after,guard⟩:=o;cases op with
 |alloc t=>cases hm
 |box t x=>cases hm
 |buildSlice t n parts=>cases hm
 |makeSlice t n c=>cases hm
 |store t a x=>cases hm
 |slice t x lo hi m=>cases hm
 |build t parts=>
  simp only[rxe,Wrl];generalize Wj T t=q;generalize WbP st parts.toList=z;rcases q with _|⟨ty,agg,shape⟩
  .rfl
  rcases z with _|ps
  .cases agg<;>cases shape<;>rfl
  cases agg with
  |false=>rfl
  |true=>
   cases shape with
   |struct fs=>
    show(if _ then _ else _)=Option.bind (if _ then _ else _) _;rw[Wax];cases WkS T fs ps (Wdy ty)<;>rfl
   |_=>rfl
 |call c=>
  simp only[rxe,Wrl];split
  .rename_i hc _ _;simp only[Wao,hc]at hm;cases hm
  .rename_i hc _ _;simp only[Wao,hc]at hm;cases hm
  .exact Wsx _ _ _
  .rename_i hc;simp only[Wao,hc]at hm;cases hm
  .rename_i h0 h1 h2 h3;have:W1 T st (.call c)=none:=by
    simp only[W1];split
    .rename_i hc _ _;first|exact Ww hc (h0 _)|exact Ww hc (h1 _)|exact Ww hc (h2 _)|exact Ww hc (h3 _)
    .rename_i hc _ _;first|exact Ww hc (h0 _)|exact Ww hc (h1 _)|exact Ww hc (h2 _)|exact Ww hc (h3 _)
    .rename_i hc _ _;first|exact Ww hc (h0 _)|exact Ww hc (h1 _)|exact Ww hc (h2 _)|exact Ww hc (h3 _)
    .rfl
   rw[this];rfl
 |_=>first|rfl|exact Wsx (W1 T st _) st.objs st.nx
theorem Wnm{o:Oper}(hm:Wao o=false){st st2:St}(he:∀x∈W0 o.op,ev st2 x=ev st x)(hl:WrO o.op=true->∀x∈W0 o.op,∀v,ev st x=some v->Wc7 st st2 v):Wrl T o st2=Wrl T o st:=by
 have be:(∀t x l h m,o.op≠ .slice t x l h m)->W1 T st2 o.op=W1 T st o.op:=λhm=>WfX o.op hm he hl;obtain⟨dst,op,type,pos,after,guard⟩:=o;simp only at he be;cases op with
 |slice t x lo hi m=>cases hm
 |build t parts=>simp only[Wrl,WbW (st:=st) parts.toList λp hp=>he p.2 (by simp only[W0];exact Xv.2 ⟨p,hp,rfl⟩)]
 |_=>simp only[Wrl,be (λ_ _ _ _ _ h=>by cases h)]
theorem Wb9(objs:WZ):∀l,∃pre,kill objs l=pre++objs
 | []=>⟨[],rfl⟩
 |i::l=>by
  obtain⟨pre,h⟩:=Wb9 objs l;exact⟨(i,.dead)::pre,by simp only[kill,h];rfl⟩
theorem WY:∀(ps:List PTy) (o:WeG ps) (ids:List Kp) (objs:WZ) (nx:Nat),∃pre,(W4 ps o ids objs nx).1=pre++objs
 | [],_,_,objs,_=>⟨[],rfl⟩
 | .v _ _::ps,o,ids,objs,nx=>WY ps o ids objs nx
 | .rp _::ps,o,ids,objs,nx=>WY ps o ids objs nx
 | .box t::ps,o,ids,objs,nx=>by
  cases ids with
  |nil=>exact⟨[],rfl⟩
  |cons k ids=>
   obtain⟨pre,h⟩:=WY ps o.2 ids ((k.id,WfK (Wj objs k.id) k.off (unfold t o.1 nx).1)::((unfold t o.1 nx).2.1++objs)) (unfold t o.1 nx).2.2;exact⟨pre++(k.id,WfK (Wj objs k.id) k.off (unfold t o.1 nx).1)::(unfold t o.1 nx).2.1,by simp only[W4,h];simp⟩
 | .vj _::ps,o,ids,objs,nx=>WY ps o ids objs nx
 | .boxal t _::ps,o,ids,objs,nx=>by
  cases ids with
  |nil=>exact⟨[],rfl⟩
  |cons k ids=>
   obtain⟨pre,h⟩:=WY ps o.2 ids ((k.id,WfK (Wj objs k.id) k.off (unfold t o.1 nx).1)::((unfold t o.1 nx).2.1++objs)) (unfold t o.1 nx).2.2;exact⟨pre++(k.id,WfK (Wj objs k.id) k.off (unfold t o.1 nx).1)::(unfold t o.1 nx).2.1,by simp only[W4,h];simp⟩
 | .mut e::ps,o,ids,objs,nx=>by
  cases ids with
  |nil=>exact⟨[],rfl⟩
  |cons k ids=>
   obtain⟨pre,h⟩:=WY ps o.2 ids ((k.id,.arr e o.1)::objs) nx;exact⟨pre++ [(k.id,.arr e o.1)],by simp only[W4,h];simp⟩
 | .clos _ _::ps,o,ids,objs,nx=>WY ps o ids objs nx
 | .kv t _::ps,o,ids,objs,nx=>by
  obtain⟨pre,h⟩:=WY ps o.2 (ids.drop t.owns) (WbO t o.1 ((ids.take t.owns).map Kp.id)++objs) nx;exact⟨pre++WbO t o.1 ((ids.take t.owns).map Kp.id),by simp only[W4,h];simp⟩
theorem W8:∀(rs:List PTy) (d:Wfj rs) (objs:WZ) (nx:Nat),∃pre,(WaS rs d objs nx).2.1=pre++objs
 | [],_,objs,_=>⟨[],rfl⟩
 | .v t agg::rs,d,objs,nx=>by
  obtain⟨pre,h⟩:=W8 rs d.2 ((unfold t d.1 nx).2.1++objs) (unfold t d.1 nx).2.2;exact⟨pre++(unfold t d.1 nx).2.1,by simp only[WaS,h];simp⟩
 | .box t::rs,d,objs,nx=>by
  obtain⟨pre,h⟩:=W8 rs d.2 ((nx,.box (unfold t d.1 (nx+1)).1)::((unfold t d.1 (nx+1)).2.1++objs)) (unfold t d.1 (nx+1)).2.2;exact⟨pre++(nx,.box (unfold t d.1 (nx+1)).1)::(unfold t d.1 (nx+1)).2.1,by simp only[WaS,h];simp⟩
 | .mut _::rs,d,objs,nx=>W8 rs d objs nx
 | .clos _ _::rs,d,objs,nx=>W8 rs d objs nx
 | .kv _ _::rs,d,objs,nx=>W8 rs d objs nx
 | .rp _::rs,d,objs,nx=>W8 rs d objs nx
 | .vj t::rs,d,objs,nx=>by
  obtain⟨pre,h⟩:=W8 rs d.2 ((unfold t d.1 nx).2.1++objs) (unfold t d.1 nx).2.2;exact⟨pre++(unfold t d.1 nx).2.1,by simp only[WaS,h];simp⟩
 | .boxal _ _::rs,d,objs,nx=>W8 rs d objs nx
def Suf(objs:WZ)(r:Option Out):Prop:=∀x objs' nx,r=some (x,objs',nx)->∃pre,objs'=pre++objs
theorem Suf.none{objs:WZ}:Suf objs none:=λ_ _ _ h=>by cases h
theorem Suf.out{objs pre:WZ}{x:AVal}{nx:Nat}:Suf objs (WaZ x (pre++objs) nx):=λ_ _ _ h=>by
 injection h with h;have:=Wk (λp:Out=>p.2.1) h;exact⟨pre,this.symm⟩
theorem Suf.ite{objs:WZ}{c:Prop}[Decidable c]{r:Option Out}(h:Suf objs r):Suf objs (if c then r else Option.none):=by split;exact h;exact .none
theorem Suf.bif{objs:WZ}{c:Bool}{r:Option Out}(h:Suf objs r):Suf objs (bif c then r else Option.none):=by cases c;exact .none;exact h
theorem WhA{st ac:St}{t:TypeId}{x v:AVal}(h:Wcd T st t x v=some ac):∃pre,ac.objs=pre++st.objs:=by
 unfold Wcd at h;split at h
 .split at h
  .split at h
   .injection h with h;subst h;exact⟨[_],rfl⟩
   .cases h
  .cases h
 .split at h
  .split at h
   .split at h
    .injection h with h;subst h;exact⟨[_],rfl⟩
    .cases h
   .split at h
    .split at h
     .rename_i m _;split at h
      .injection h with h;subst h;obtain⟨pre,hp⟩:=Wb9 st.objs m;exact⟨_::pre,by simp only[hp];rfl⟩
      .cases h
     .cases h
    .cases h
  .cases h
 .cases h
theorem Wme(p:Option (Bool×AVal))(objs:WZ)(nx:Nat):Suf objs (match p with|some (c,v)=>bif c then WaZ v objs nx else none|none=>none):=by
 rcases p with _|⟨c,v⟩
 .exact .none
 .exact Suf.bif (Suf.out (pre:=[]))
theorem WcX(sg:Sig)(st:St)(xs:List AVal):Suf st.objs (Wec sg st xs WaZ):=by
 unfold Wec;split
 .rename_i A _;split
  .intro x objs' nx h;rw[sg.law]at h;cases hr:sg.run A.d with
   |none=>rw[hr]at h;cases h
   |some out=>
    rw[hr]at h;simp only[Xd]at h;injection h with h;have h2:=Wk (λp:Out=>p.2.1) h;simp only at h2;obtain⟨p1,e1⟩:=Wb9 st.objs A.moved;obtain⟨p2,e2⟩:=WY sg.ps out.1 A.kept (kill st.objs A.moved) st.nx;obtain⟨p3,e3⟩:=W8 sg.rs out.2 (W4 sg.ps out.1 A.kept (kill st.objs A.moved) st.nx).1 (W4 sg.ps out.1 A.kept (kill st.objs A.moved) st.nx).2;refine⟨p3++(p2++p1),?_⟩;rw[←h2,e3,e2,e1];simp
  .exact .none
 .exact .none
theorem Suf.over{objs:WZ}{l:List Nat}{r:Option Out}(h:Suf (kill objs l) r):Suf objs r:=λx objs' nx hr=>by
 obtain⟨p1,e1⟩:=h x objs' nx hr;obtain⟨p2,e2⟩:=Wb9 objs l;exact⟨p1++p2,by rw[e1,e2];simp⟩
theorem Wkz(sg:Sig)(st:St)(xs:List AVal):Suf st.objs (WkN sg st xs WaZ):=by
 unfold WkN;cases sg.fresh with
 |true=>exact WcX _ _ _
 |false=>
  simp only[Wf];split
  .split
   .exact WcX _ _ _
   .exact Suf.over (WcX sg {env:=st.env,objs:=kill st.objs _,nx:=st.nx} _)
  .exact .none
theorem WlY{objs:WZ}{x:AVal}{p:Nat×Ob}{l:List Nat}{nx:Nat}:Suf objs (WaZ x (p::kill objs l) nx):=by
 obtain⟨pre,h⟩:=Wb9 objs l;rw[h];exact Suf.out (pre:=p::pre)
theorem WhK(st:St)(te:Ty)(s x:AVal):Suf st.objs (WdH st te s x WaZ):=by
 unfold WdH;split
 .split
  .split
   .split
    .exact Suf.bif WlY
    .exact .none
   .exact .none
  .exact .none
 .split
  .split
   .split
    .exact Suf.ite (Suf.bif WlY)
    .exact .none
   .exact .none
  .exact .none
 .exact .none
theorem WhI(st:St)(e:Ty)(ps:List (Nat×AVal)):Suf st.objs (Wco st e ps WaZ):=by
 unfold Wco;split
 .refine Suf.ite ?_;split
  .split
   .exact Suf.ite (Suf.over WlY)
   .exact .none
  .exact .none
 .exact .none
theorem Wjb(st:St)(te:Ty)(id:Nat)(l h:Option Int):Suf st.objs (Web st te id l h WaZ):=by
 unfold Web;split
 .exact Suf.ite (Suf.bif (Suf.out (pre:=[])))
 .exact .none
theorem WiA(o:Oper)(st:St):Suf st.objs (rxe T Γ A o st WaZ):=by
 unfold rxe;split
 .split
  .exact Suf.ite (Suf.out (pre:=[_]))
  .exact Suf.ite (Suf.out (pre:=[_]))
  .exact .none
 .split
  .exact Suf.out (pre:=[_])
  .exact .none
 .split
  .split
   .split
    .exact Suf.out (pre:=[])
    .exact .none
   .exact .none
  .exact .none
 .split
  .split
   .split
    .exact Suf.ite (WhI _ _ _)
    .split
     .exact Suf.ite (Suf.over (Suf.out (pre:=[_])))
     .exact .none
   .exact .none
  .exact .none
 .split
  .split
   .split
    .exact Suf.ite (Suf.bif (Suf.out (pre:=[_])))
    .exact Suf.ite (Suf.bif (Suf.out (pre:=[_])))
   .exact .none
  .exact .none
 .split
  .split
   .rename_i ac hs;split
    .obtain⟨pre,h⟩:=WhA hs;rw[h];exact Suf.over Suf.out
    .exact .none
   .exact .none
  .exact .none
 .split
  .split
   .split
    .split
     .exact Suf.ite (Wjb _ _ _ _ _)
     .split
      .exact Suf.ite (Suf.bif (Suf.out (pre:=[_,_])))
      .exact Suf.ite (Suf.bif (Suf.out (pre:=[_,_,_])))
      .exact .none
    .exact .none
   .exact .none
  .exact Wme _ _ _
 .split
  .split
   .unfold Wc0;split
    .split
     .split
      .cases Wqz st _ _ with
       |false=>exact WhK _ _ _ _
       |true=>
       simp only[Xx,Wf];split
       .exact Suf.bif (Suf.out (pre:=[_]))
       .split
        .split
         .exact Suf.bif (Suf.out (pre:=[_,_]))
         .exact .none
        .exact .none
       .split
        .split
         .exact Suf.bif (Suf.out (pre:=[_,_]))
         .exact .none
        .exact .none
       .exact .none
      .exact .none
     .exact .none
    .exact .none
   .exact .none
  .split
   .split
    .split
     .exact Suf.ite (Suf.out (pre:=[_]))
     .exact .none
    .exact .none
   .exact .none
  .exact Wme _ _ _
  .split
   .split
    .split
     .exact Wkz _ _ _
     .exactλx objs' nx h=>by have q:=(‹Inl›).suf _ x objs' nx h;exact q
    .exact .none
   .exact .none
  .exact .none
 .exact Wme _ _ _
end
end Go.Sx
namespace Go.Sx
set_option linter.unusedVariables false
set_option linter.unusedSimpArgs false
theorem WmS{x y:Nat}{l:List Nat}:y∈Ws0 x l↔y=x\/y∈l:=by
 unfold Ws0;cases h:WbB x l with
 |true=>
  have:=(Waq x l).1 h;simp only[Wa];exact⟨.inr,λh=>h.elim (λe=>e▸this) id⟩
 |false=>simp
theorem Wh0{y:Nat}:∀(m l:List Nat),y∈Wk6 m l↔y∈m\/y∈l
 | [],l=>by simp[Wk6]
 |x::m,l=>by
  rw[Wk6,Wh0 m,WmS,Xq];constructor
  .rintro(h|h|h)
   .exact .inl (.inr h)
   .exact .inl (.inl h)
   .exact .inr h
  .rintro((h|h)|h)
   .exact .inr (.inl h)
   .exact .inl h
   .exact .inr (.inr h)
theorem WgR{acc:List (List Nat)}{y:Nat}:∀(ds l:List Nat),y∈Wjm acc ds l↔(∃j∈ds,y=j\/y∈acc.getD j [])\/y∈l
 | [],l=>by simp[Wjm]
 |j::ds,l=>by
  rw[Wjm,WgR ds,Wh0,WmS];constructor
  .rintro(⟨k,hk,h⟩|h|h|h)
   .exact .inl ⟨k,Xe _ hk,h⟩
   .exact .inl ⟨j,Xh ..,.inr h⟩
   .exact .inl ⟨j,Xh ..,.inl h⟩
   .exact .inr h
  .rintro(⟨k,hk,h⟩|h)
   .rcases Xq.1 hk with rfl|hk
    .exact .inr (h.elim (λh=>.inr (.inl h)) .inl)
    .exact .inl ⟨k,hk,h⟩
   .exact .inr (.inr (.inr h))
def WkD(ops:Array Oper)(S:Nat->Prop):Prop:=∀i o,ops[i]?=some o->S i->∀d∈Wk0 o,S d
theorem Wif{ops:Array Oper}{S:Nat->Prop}(hS:WkD ops S):∀(l:List Oper) (acc:List (List Nat)),(∀(k:Nat) (o:Oper),l[k]?=some o->ops[acc.length+k]?=some o)->
  (∀i,S i->∀j∈acc.getD i [],S j)->∀i,S i->∀j∈(WbV l acc).getD i [],S j
 | [],acc,_,h=>h
 |o::l,acc,hl,h=>by
  refine Wif hS l _ (λk o' hk=>?_) (λi hi j hj=>?_)
  .have:=hl (k+1) o' (by simpa using hk);rw[Xo];have e:acc.length+(k+1)=acc.length+ [Wjm acc (Wk0 o) []].length+k:=by simp;omega
   rw[←e];exact this
  .rw[Xbz,Xan]at hj;split at hj
   .exact h i hi j (by rw[Xbz];exact hj)
   .rename_i ad;by_cases he:i=acc.length
    .subst he;simp only[Xcs,Xdb,Xea]at hj;rcases(WgR _ _).1 hj with⟨k,hk,kd⟩|hj
     .have hSk:=hS _ o (hl 0 o (by simp)) hi k hk;rcases kd with rfl|kd
      .exact hSk
      .exact h k hSk j kd
     .cases hj
    .have:[Wjm acc (Wk0 o) []][i-acc.length]?=none:=Xbp (by simp;omega);rw[this]at hj;cases hj
theorem Wns{ops:Array Oper}{S:Nat->Prop}(hS:WkD ops S){i j:Nat}(h:WbS (WbV ops.toList []) j i=true)(hi:S i):S j:=
 Wif hS ops.toList [] (λk o hk=>by simpa using hk) (λi _ j hj=>by simp at hj) i hi j ((Waq _ _).1 h)
theorem Wib{ops:Array Oper}:∀(l:List Oper) (n:Nat),WqO l n=true->∀(k:Nat) (o:Oper),l[k]?=some o->∀d∈Wk0 o,d<n+k
 | [],_,_,k,o,hk=>by simp at hk
 |o'::l,n,h,k,o,hk=>by
  simp only[WqO,Xg,Xab]at h;cases k with
  |zero=>
   simp at hk;subst hk;intro e he;have:=h.1 e he;rw[Xgq]at this;omega
  |succ k=>
   have:=Wib (ops:=ops) l (n+1) h.2 k o (by simpa using hk);intro e he;have:=this e he;omega
structure Order(ops:Array Oper)(l:List Nat):Prop where
 nodup:l.Nodup
 all:∀i,i<ops.size↔i∈l
 dep:∀p i s,l=p++i::s->∀o,ops[i]?=some o->∀d∈Wk0 o,d∈p
theorem Order.closed{ops:Array Oper}{l:List Nat}(h:Order ops l){p s:List Nat}(e:l=p++s):WkD ops (· ∈p):=λi o ho hi d hd=>by
 obtain⟨a,b,rfl⟩:=Xds hi;have:=h.dep a i (b++s) (by rw[e];simp) o ho d hd;simp[this]
theorem Order.bef{ops:Array Oper}{l:List Nat}(h:Order ops l){p s:List Nat}{i j:Nat}(e:l=p++s)(hb:WbS (WbV ops.toList []) j i=true)(hi:i∈p):j∈p:=
 Wns (h.closed e) hb hi
theorem Order.bef'{ops:Array Oper}{l:List Nat}(h:Order ops l){p s:List Nat}{i j:Nat}(e:l=p++i::s)(hb:WbS (WbV ops.toList []) j i=true)(bZ:j≠i):j∈p:=by
 have:=h.bef (p:=p++ [i]) (s:=s) (by rw[e];simp) hb (by simp);rcases Xl.1 this with h|h
 .exact h
 .simp at h;exact Ww h bZ
def unl(ops:Array Oper)(listed:Array Bool):List Nat:=(Xbt ops.size).filter λi=>!listed.getD i true
theorem Wew{ops:Array Oper}{listed:Array Bool}{i:Nat}:i∈unl ops listed↔i<ops.size/\listed.getD i true=false:=by
 unfold unl;rw[Xat,Xcx];simp
theorem WeK{α:Type}{p q:α->Bool}:∀(l:List α),(∀x∈l,q x=true->p x=true)->(∃x∈l,p x=true/\q x=false)->(l.filter q).length<(l.filter p).length
 | [],_,⟨x,hx,_⟩=>by cases hx
 |x::l,h,⟨y,hy,hp,hq⟩=>by
  have aG:∀(l:List α),(∀x∈l,q x=true->p x=true)->(l.filter q).length<=(l.filter p).length:=by
   intro l
   induction l with
   |nil=>intro _;simp
   |cons x l ih=>
    intro h;have:=ih λx hx=>h x (Xe _ hx);have hx:=h x (Xh ..);rw[Xbc,Xbc];cases hqx:q x with
    |true=>rw[hx hqx];simpa using this
    |false=>cases p x<;>simp<;>omega
  rw[Xbc,Xbc];rcases Xq.1 hy with rfl|hy
  .rw[hp,hq];have:=aG l λx hx=>h x (Xe _ hx);simp;omega
  .have:=WeK l (λx hx=>h x (Xe _ hx)) ⟨y,hy,hp,hq⟩;have hx:=h x (Xh ..);cases hqx:q x with
   |true=>rw[hx hqx];simpa using this
   |false=>cases p x<;>simp<;>omega
theorem Wi5{listed:Array Bool}{i j:Nat}:(listed.setIfInBounds i true).getD j true=(if i=j then true else listed.getD j true):=by
 simp only[Xck,Xeo];split
 .split<;>rfl
 .rfl
theorem Wps{listed:Array Bool}{i j:Nat}(hi:i<listed.size):(listed.setIfInBounds i true).getD j false=(if i=j then true else listed.getD j false):=by
 simp only[Xck,Xeo];split
 .simp[hi]
 .rfl
theorem WrW{listed:Array Bool}{i:Nat}(hi:i<listed.size):listed.getD i true=listed.getD i false:=by
 simp[hi]
theorem Wm5{o:Oper}{e:Edge}(he:e∈o.after)(hb:Region.binds .any e=true):e.on∈Wk0 o:=
 Xv.2 ⟨e,Xat.2 ⟨by simpa using he,hb⟩,rfl⟩
theorem WmN{ops:Array Oper}(hb:∀(k:Nat) (o:Oper),ops[k]?=some o->∀d∈Wk0 o,d<k):∀(fuel t:Nat) (listed:Array Bool),listed.size=ops.size->(unl ops listed).length<=fuel->
  (Region.linearise.go .any ops fuel t listed []).Nodup/\
  (∀i,i∈Region.linearise.go .any ops fuel t listed []↔i∈unl ops listed)/\
  (∀p i s,Region.linearise.go .any ops fuel t listed []=p++i::s->∀o,ops[i]?=some o->∀e∈o.after,Region.binds .any e=true->listed.getD e.on false=true\/e.on∈p)
 |0,t,listed,hs,aa=>by
  have:unl ops listed= []:=Xu (by omega);simp only[Region.linearise.go,List.reverse_nil,this];exact⟨by simp,by simp,λp i s h=>by simp at h⟩
 |fuel+1,t,listed,hs,aa=>by
  have lD:Region.linearise.go .any ops (fuel+1) t listed []=match(Region.ready .any ops listed)[t%(Region.ready .any ops listed).length]? with
   |some i=>Region.linearise.go .any ops fuel (t/(Region.ready .any ops listed).length) (listed.setIfInBounds i true) [i]
   |none=>[]:=rfl
  rw[lD];cases hi:(Region.ready .any ops listed)[t%(Region.ready .any ops listed).length]? with
  |none=>
   have bt:Region.ready .any ops listed= []:=by
    cases hr:Region.ready .any ops listed with
    |nil=>rfl
    |cons x xs=>
     rw[hr]at hi;have ad:t%(x::xs).length<(x::xs).length:=Nat.mod_lt _ (by simp);simp at hi;simp at ad;omega
   have hu:unl ops listed= []:=by
    have key:∀n i,i<=n->i∉unl ops listed:=by
     intro n
     induction n with
     |zero=>
      intro i di hm;obtain⟨h1,h2⟩:=Wew.1 hm;have:i∈Region.ready .any ops listed:=by
       rw[mem_ready];refine⟨h2,ops[i],Xcu h1,λe he ke=>?_⟩;have:=hb i _ (Xcu h1) e.on (Wm5 he ke);omega
      rw[bt]at this;cases this
     |succ n ih=>
      intro i di hm;obtain⟨h1,h2⟩:=Wew.1 hm;have:i∈Region.ready .any ops listed:=by
       rw[mem_ready];refine⟨h2,ops[i],Xcu h1,λe he ke=>?_⟩;have ad:=hb i _ (Xcu h1) e.on (Wm5 he ke);have tN:=ih e.on (by omega);have h3:e.on<ops.size:=by omega
       cases h4:listed.getD e.on true with
       |false=>exact Ww (Wew.2 ⟨h3,h4⟩) tN
       |true=>rw[←WrW (by omega)];exact h4
      rw[bt]at this;cases this
    exact Xei.2 λi=>key i i (Xm _)
   rw[hu];exact⟨Xcy,λ_=>Iff.rfl,λp i s h=>by simp at h⟩
  |some i=>
   have tO:=Xas hi;obtain⟨h1,o,ho,h3⟩:=mem_ready.1 tO;have nW:i<ops.size:=(Xbs.1 ho).1;have tP:i∈unl ops listed:=Wew.2 ⟨nW,h1⟩;simp only[];rw[linearise_go_acc,List.reverse_singleton,List.singleton_append];have iX:(unl ops (listed.setIfInBounds i true)).length<=fuel:=by
    have:(unl ops (listed.setIfInBounds i true)).length<(unl ops listed).length:=by
     refine WeK _ (λx _ hx=>?_) ⟨i,Xcx.2 nW,by simpa using h1,by rw[Wi5];simp⟩;rw[Wi5]at hx;split at hx
     .simp at hx
     .exact hx
    omega
   obtain⟨g1,g2,g3⟩:=WmN hb fuel (t/(Region.ready .any ops listed).length) (listed.setIfInBounds i true) (by simp[hs]) iX;have ay:∀j,j∈unl ops (listed.setIfInBounds i true)↔j∈unl ops listed/\j≠i:=λj=>by
    rw[Wew,Wew,Wi5];constructor
    .rintro⟨q1,q2⟩;split at q2
     .cases q2
     .rename_i bZ;exact⟨⟨q1,q2⟩,λe=>bZ e.symm⟩
    .rintro⟨⟨q1,q2⟩,bZ⟩;exact⟨q1,by rw[Wc (λe=>bZ e.symm)];exact q2⟩
   refine⟨Xaa.2 ⟨λhm=>?_,g1⟩,λj=>?_,λp j s e o' gW ed nd ke=>?_⟩
   .exact((ay i).1 ((g2 i).1 hm)).2 rfl
   .rw[Xq,g2,ay];constructor
    .rintro(rfl|h)
     .exact tP
     .exact h.1
    .intro h;by_cases he:j=i
     .exact .inl he
     .exact .inr ⟨h,he⟩
   .cases p with
    |nil=>
     simp only[Xbn,List.cons.injEq]at e;obtain⟨rfl,_⟩:=e;rw[ho]at gW;injection gW with gW;subst gW;exact .inl (h3 ed nd ke)
    |cons x p=>
     simp only[Xaq,List.cons.injEq]at e;obtain⟨rfl,e⟩:=e;rcases g3 p j s e o' gW ed nd ke with h|h
     .rw[Wps (by omega)]at h;split at h
      .rename_i he;exact .inr (by rw[he];simp)
      .exact .inl h
     .exact .inr (Xe _ h)
theorem WgX{ops:Array Oper}{t:Nat}(hb:∀(k:Nat) (o:Oper),ops[k]?=some o->∀d∈Wk0 o,d<k):Order ops (Region.linearise .any ops t):=by
 have hu:∀i,i∈unl ops (Xdc ops.size false)↔i<ops.size:=λi=>by
  rw[Wew];constructor
  .exactλh=>h.1
  .exactλh=>⟨h,by simp[h]⟩
 obtain⟨h1,h2,h3⟩:=WmN hb ops.size t (Xdc ops.size false) (by simp) (by
  have:=Xee (λi=>!(Xdc ops.size false).getD i true) (Xbt ops.size);rw[Xez]at this;exact this)
 refine⟨h1,λi=>by unfold Region.linearise;rw[h2,hu],λp i s e o ho d hd=>?_⟩;unfold Wk0 at hd;obtain⟨ed,nd,rfl⟩:=Xv.1 hd;obtain⟨nd,ke⟩:=Xat.1 nd;rcases h3 p i s e o ho ed (by simpa using nd) ke with h|h
 .exfalso;rw[Xck,Array.getElem?_replicate]at h;split at h<;>simp at h
 .exact h
theorem Why{ops:Array Oper}{t:Nat}(hb:∀(k:Nat) (o:Oper),ops[k]?=some o->∀d∈Wk0 o,d<k):Order ops (Region.schedule true ops t):=by
 unfold Region.schedule;rw[We (by simp)];exact WgX hb
end Go.Sx
namespace Go.Sx
set_option linter.unusedVariables false
set_option linter.unusedSimpArgs false
def WpQ(n:Nat)(kept:List Nat)(o:Oper):Bool:=match o.dst with
 |some d=>Nat.blt d n&& !WbB d kept
 |none=>true
def Wcg(n:Nat)(kept:List Nat):Code->Bool
 | .region _ ops _=>ops.toList.all (WpQ n kept)
 | .seq a b=>Wcg n kept a&&Wcg n kept b
 | .cond _ x y=>Wcg n kept x&&Wcg n kept y
 | .block _ c=>Wcg n kept c
 | .loop c=>Wcg n kept c
 |_=>true
theorem WlF{nt:Slots}{n:Nat}{kept:List Nat}(hn:nt.n=n)(hk:∀p∈nt.kept,p.1∈kept){o:Oper}(h:WpQ n kept o=true):∀d,o.dst=some d->nt.Ok d:=λd hd=>by
 unfold WpQ at h;rw[hd]at h;simp only[Xg,Xak]at h;refine⟨by have h1:=h.1;rw[Xgq]at h1;rw[hn];exact h1,λp hp e=>?_⟩;have:=hk p hp;rw[e]at this;rw[(Waq d kept).2 this]at h;exact Ww h.2 (by simp)
def Ex.to:Ex->Exit
 | .normal=>.normal
 | .exit id=>.exit id
 | .ret=>.ret
section
variable{w0:World}{F:CS}{nt:Slots}{G0:GH}{P:Program}{T:Tab}{Γ:Ctx}{A:List (Nat×An)}{R:Type}{r:R}
def Wog(w0:World)(F:CS)(nt:Slots)(G0:GH)(k:St->Option R)(r:R)(K:Act->World->Prop):Prop:=
 ∀st a w G ν,Rel w0 F nt G0 G ν st a w->k st=some r->K a w
theorem Wlm{G:GH}{ν:Nat->Nu}{st:St}{a:Act}{w:World}(hr:Rel w0 F nt G0 G ν st a w){ops:Array Oper}{j:Nat}{t:Tmp}(ht:(ops[j]?).bind (·.dst)=some t){b:Bool}(hb:(Wj st.env t).bind asB=some b):
  a.tmps[t]?=some (.bool b)/\yielded ops a.tmps j=some b:=by
 cases hl:Wj st.env t with
 |none=>simp[hl]at hb
 |some x=>
  simp only[hl,Xd]at hb;obtain⟨v,hv,hx⟩:=hr.env t x hl;have:=Wlp x v b hx hb;subst this;refine⟨hv,?_⟩;unfold yielded;rw[ht];simp[hv]
theorem Wru(hT:W5 P T)(hΓ:Wcy P Γ){ops:Array Oper}{o:Oper}(hd:∀d,o.dst=some d->nt.Ok d){k:St->Option R}{K:Act->World->Prop}{Q:Exit->Act->World->Prop}(hK:Wog w0 F nt G0 k r K)
  {st:St} {a:Act} {w:World} {G:GH} {ν:Nat->Nu} (hr:Rel w0 F nt G0 G ν st a w) (h:rxg T Γ A ops o st k=some r):
  if Region.wanted o (yielded ops a.tmps)then o.wp P a w K Q else K (a.put o.dst undef) w:=by
 unfold rxg at h;have fY:∀ac,Rel w0 F nt G0 G ν ac a w->Rel w0 F nt G0 G ν (ac.put o.dst (.tup [])) (a.put o.dst undef) w:=λac bM=>
  bM.put hd ⟨[],rfl,rfl,λj x v hj=>by simp at hj⟩
 have dD:∀b:Bool,AValRel G ν st.nx (one .bool b) (.bool b):=λb=>WB (t:=.bool) (d:=b) (v:=.bool b) rfl;split at h
 .rename_i hg;simp only[Region.wanted,hg,W9];exact Wou hT hΓ hr hd h (λac a' w' G' ν' bM hk=>hK _ _ _ _ _ bM hk)
 .rename_i j want hg;split at h
  .rename_i t ht;split at h
   .rename_i hl;obtain⟨v,hv,hx⟩:=hr.env t _ hl;have lB:v=undef:=by
     obtain⟨vs,h1,h2,_⟩:=hx;rw[h1,Xu h2];rfl
    subst lB;have hy:yielded ops a.tmps j=none:=by
     unfold yielded;rw[ht];simp only[Xd,hv];rfl
    simp only[Region.wanted,hg,hy];rw[Wc (by simp)];exact hK _ _ _ _ _ (fY _ hr) h
   .rename_i x _ hl;split at h
    .rename_i b hb;obtain⟨hv,hy⟩:=Wlm hr ht (b:=b) (by rw[hl];exact hb);simp only[Region.wanted,hg,hy];have nf:=hr.rebind hv (dD b);cases b with
     |true=>
      simp only[Wa]at h;cases want with
      |true=>
       simp only[W9]at h;simp only[beq_self_eq_true,W9];exact Wou hT hΓ nf hd h (λac a' w' G' ν' bM hk=>hK _ _ _ _ _ bM hk)
      |false=>
       simp only[Xap,Wae]at h;rw[Wc (by simp)];exact hK _ _ _ _ _ (fY _ nf) h
     |false=>
      simp only[Wf]at h;cases want with
      |true=>
       simp only[W9]at h;rw[Wc (by simp)];exact hK _ _ _ _ _ (fY _ nf) h
      |false=>
       simp only[Xap,Wae]at h;simp only[beq_self_eq_true,W9];exact Wou hT hΓ nf hd h (λac a' w' G' ν' bM hk=>hK _ _ _ _ _ bM hk)
    .cases h
   .cases h
  .cases h
theorem Wra(hT:W5 P T)(hΓ:Wcy P Γ){ops:Array Oper}:∀(l:List Oper),(∀o∈l,∀d,o.dst=some d->nt.Ok d)->∀{k:St->Option R} {Q:Exit->Act->World->Prop},Wog w0 F nt G0 k r (Q .normal)->
  Wog w0 F nt G0 (λst=>rxs T Γ A ops l st k) r (wpList P ops Q l)
 | [],_,k,Q,hK=>λst a w G ν hr h=>hK st a w G ν hr h
 |o::l,hd,k,Q,hK=>λst a w G ν hr h=>by
  have ih:=Wra (ops:=ops) hT hΓ l (λo ho=>hd o (Xe _ ho)) hK;have h:rxg T Γ A ops o st (λac=>match opG A o ac with
   |some (c,bn)=>bif c then rxs T Γ A ops l bn k else none
   |none=>none)=some r:=h
  have tQ:Wog w0 F nt G0 (λac=>match opG A o ac with
   |some (c,bn)=>bif c then rxs T Γ A ops l bn k else none
   |none=>none) r (wpList P ops Q l):=λst1 a1 w1 G1 ν1 fj h1=>by
   have h1:(match opG A o st1 with
    |some (c,bn)=>bif c then rxs T Γ A ops l bn k else none
    |none=>none)=some r:=h1
   split at h1
   .rename_i c st2 hg;obtain⟨rfl,h1⟩:=WQ h1;have:∃G' ν',Rel w0 F nt G0 G' ν' st2 a1 w1:=by
     unfold opG at hg;split at hg
     .split at hg
      .injection hg with hg;injection hg with _ hg;subst hg;exact⟨G1,ν1,fj⟩
      .exact Whv (.inr rfl) fj hg
     .injection hg with hg;injection hg with _ hg;subst hg;exact⟨G1,ν1,fj⟩
     .injection hg with hg;injection hg with _ hg;subst hg;exact⟨G1,ν1,fj⟩
     .injection hg with hg;injection hg with _ hg;subst hg;exact⟨G1,ν1,fj⟩
     .injection hg with hg;injection hg with _ hg;subst hg;exact⟨G1,ν1,fj⟩
     .exact Whv (.inr rfl) fj hg
     .injection hg with hg;injection hg with _ hg;subst hg;exact⟨G1,ν1,fj⟩
    obtain⟨G2,ν2,gX⟩:=this;exact ih st2 a1 w1 G2 ν2 gX h1
   .cases h1
  have:=Wru hT hΓ (hd o (Xh ..)) (Q:=Q) tQ hr h;unfold wpList;split
  .rename_i hw;rw[We hw]at this;exact .inl this
  .rename_i hw;rw[Wc hw]at this;exact this
end
end Go.Sx
namespace Go.Sx
set_option linter.unusedVariables false
set_option linter.unusedSimpArgs false
section
variable{T:Tab}{Γ:Ctx}{A:List (Nat×An)}{ops:Array Oper}
theorem WiX{R:Type}(o:Oper)(st:St)(k:St->Option R):rx1 T Γ A o st k=(rx1 T Γ A o st some).bind k:=by
 unfold rx1;rw[WdT,WdT o st (λx objs nx=>some _),Xey];rfl
theorem Wgn{R:Type}(o:Oper)(st:St)(k:St->Option R):rxg T Γ A ops o st k=(rxg T Γ A ops o st some).bind k:=by
 unfold rxg;cases o.guard with
 |none=>exact WiX o st k
 |some g=>
  obtain⟨j,want⟩:=g;simp only;cases(ops[j]?).bind (·.dst)with
  |none=>rfl
  |some t=>
   simp only;cases Wj st.env t with
   |none=>rfl
   |some x=>
    have main:(match asB x with
      |some b=>bif b
       then(if want then rx1 T Γ A o (st.put (some t) (one .bool true)) k else k ((st.put (some t) (one .bool true)).put o.dst (.tup [])))
       else(if want then k ((st.put (some t) (one .bool false)).put o.dst (.tup []))else rx1 T Γ A o (st.put (some t) (one .bool false)) k)
      |none=>none)=(match asB x with
      |some b=>bif b
       then(if want then rx1 T Γ A o (st.put (some t) (one .bool true)) some else some ((st.put (some t) (one .bool true)).put o.dst (.tup [])))
       else(if want then some ((st.put (some t) (one .bool false)).put o.dst (.tup []))else rx1 T Γ A o (st.put (some t) (one .bool false)) some)
      |none=>none).bind k:=by
     cases asB x with
     |none=>rfl
     |some b=>
      cases b<;>cases want
      .exact WiX _ _ _
      .rfl
      .rfl
      .exact WiX _ _ _
    cases x with
    |s y=>exact main
    |tup l=>
     cases l with
     |nil=>rfl
     |cons y l=>exact main
theorem WeS{R:Type}{o:Oper}{st:St}{k:St->Option R}{r:R}(h:rxg T Γ A ops o st k=some r):∃ac,rxg T Γ A ops o st some=some ac/\k ac=some r:=by
 rw[Wgn]at h;exact Xao.1 h
structure Eff(o:Oper)(v:AVal)(pre:WZ)(af:Nat)(st ac:St):Prop where
 env:∀t,Wj ac.env t=if o.dst=some t then some v else Wj st.env t
 objs:ac.objs=pre++st.objs
 nx:ac.nx=af
theorem Wci(st:St)(dst:Option Tmp)(x:AVal)(t:Nat):Wj (st.put dst x).env t=if dst=some t then some x else Wj st.env t:=by
 cases dst with
 |none=>simp[St.put]
 |some d=>
  simp only[St.put];rw[Wv];by_cases h:d=t
  .subst h;simp
  .rw[Wc h,Wc (by simpa using h)]
theorem WdP{st st2:St}{x:Operand}(h:∀t∈WoG x,Wj st2.env t=Wj st.env t):ev st2 x=ev st x:=by
 cases x with
 |tmp t=>exact h t (by simp[WoG])
 |_=>rfl
theorem Wfx{st:St}{x:Operand}{v:AVal}:∀(l:List Operand),x∈l->ev st x=some v->∀id∈Wav v,id∈Wdi st l
 | [],h,_,_,_=>by cases h
 |y::l,h,hv,id,bj=>by
  simp only[Wdi];rcases Xq.1 h with rfl|h
  .rw[hv];exact Xj _ bj
  .split
   .exact Xf _ (Wfx l h hv id bj)
   .exact Wfx l h hv id bj
theorem We2{st st2:St}:∀(l:List Operand),(∀x∈l,ev st2 x=ev st x)->Wdi st2 l=Wdi st l
 | [],_=>rfl
 |x::l,h=>by simp only[Wdi,h x (Xh ..),We2 l λy hy=>h y (Xe _ hy)]
theorem Wo4{o:Oper}{st ac st2:St}(h:rx1 T Γ A o st some=some ac)(he:∀x∈W0 o.op,ev st2 x=ev st x)
  (hm:Wao o=true->st2.objs=st.objs/\st2.nx=st.nx) (hf:Wao o=false->∀id∈WbN o st,Wj st2.objs id=Wj st.objs id):
  ∃v pre af,Eff o v pre af st ac/\(Wao o=false->pre= []/\af=st.nx)/\
   ∃bu,rx1 T Γ A o st2 some=some bu/\(Wao o=true->Eff o v pre af st2 bu)/\(Wao o=false->Eff o v [] st2.nx st2 bu):=by
 unfold rx1 at*;rw[WdT]at h;obtain⟨⟨v,objs',af⟩,h1,h2⟩:=Xao.1 h;injection h2 with h2;subst h2;cases dy:Wao o with
 |true=>
  obtain⟨e1,e2⟩:=hm dy;obtain⟨pre,rfl⟩:=WiA o st v objs' af h1;refine⟨v,pre,af,⟨λt=>Wci _ _ _ _,by cases o.dst<;>rfl,by cases o.dst<;>rfl⟩,by simp,?_⟩;have h3:rxe T Γ A o st2 WaZ=some (v,pre++st.objs,af):=by
   obtain⟨qD,sq,nx2⟩:=st2;simp only at e1 e2;subst e1 e2;rw[Woo o (env:=qD) (st:=st) WaZ he];exact h1
  refine⟨_,?_,λ_=>⟨λt=>Wci (⟨st2.env,pre++st.objs,af⟩) o.dst v t,?_,?_⟩,by simp⟩
  .rw[WdT,h3];rfl
  .rw[e1];cases o.dst<;>rfl
  .cases o.dst<;>rfl
 |false=>
  rw[Wlf dy]at h1;obtain⟨u,h3,h4⟩:=Xao.1 h1;injection h4 with h4;have e1:u=v:=Wk (λp:Out=>p.1) h4;have e2:st.objs=objs':=Wk (λp:Out=>p.2.1) h4;have e3:st.nx=af:=Wk (λp:Out=>p.2.2) h4;subst e1 e2 e3;refine⟨u,[],st.nx,⟨λt=>Wci _ _ _ _,by cases o.dst<;>rfl,by cases o.dst<;>rfl⟩,by simp,?_⟩;have h5:Wrl T o st2=some u:=by
   rw[←h3];refine Wnm dy he λtR x hx v hv id bj=>hf dy id ?_;unfold WbN;rw[tR];exact Wfx _ hx hv id bj
  refine⟨_,?_,by simp,λ_=>⟨λt=>Wci (⟨st2.env,st2.objs,st2.nx⟩) o.dst u t,?_,?_⟩⟩
  .rw[WdT,Wlf dy,h5];rfl
  .cases o.dst<;>rfl
  .cases o.dst<;>rfl
theorem WrA{x:AVal}{b:Bool}(h:asB x=some b):x=one .bool b:=by
 unfold asB at h;split at h
 .injection h with h;subst h;rfl
 .cases h
theorem WcR{st:St}{t:Nat}{x:AVal}(h:Wj st.env t=some x)(t':Nat):Wj (st.put (some t) x).env t'=Wj st.env t':=by
 rw[Wci];split
 .rename_i e;injection e with e;subst e;exact h.symm
 .rfl
theorem WaE(st:St)(d:Option Tmp)(x:AVal):(st.put d x).objs=st.objs:=by cases d<;>rfl
theorem Wgp(st:St)(d:Option Tmp)(x:AVal):(st.put d x).nx=st.nx:=by cases d<;>rfl
theorem WeW{o:Oper}{st st2:St}(h:∀x∈W0 o.op,ev st2 x=ev st x):WbN o st2=WbN o st:=by
 unfold WbN;rw[We2 _ h]
theorem WoH{o:Oper}{st ac st2:St}(h:rxg T Γ A ops o st some=some ac)(he:∀t∈Wcr ops o,Wj st2.env t=Wj st.env t)
  (hm:Wao o=true->st2.objs=st.objs/\st2.nx=st.nx) (hf:Wao o=false->∀id∈WbN o st,Wj st2.objs id=Wj st.objs id):
  ∃v pre af,Eff o v pre af st ac/\(Wao o=false->pre= []/\af=st.nx)/\
   ∃bu,rxg T Γ A ops o st2 some=some bu/\(Wao o=true->Eff o v pre af st2 bu)/\(Wao o=false->Eff o v [] st2.nx st2 bu):=by
 have sr:∀x∈W0 o.op,ev st2 x=ev st x:=λx hx=>WdP λt ht=>he t (by
  unfold Wcr;exact Xj _ (Xfe.2 ⟨x,hx,ht⟩))
 unfold rxg at h⊢;cases hg:o.guard with
 |none=>
  rw[hg]at h;exact Wo4 h sr hm hf
 |some g=>
  obtain⟨j,want⟩:=g;rw[hg]at h;simp only at h⊢;cases ht:(ops[j]?).bind (·.dst)with
  |none=>rw[ht]at h;cases h
  |some t=>
   rw[ht]at h;simp only at h⊢;have gG:Wj st2.env t=Wj st.env t:=he t (by
    unfold Wcr;refine Xf _ ?_;rw[hg];simp only;rw[ht];simp)
   rw[gG];cases hx:Wj st.env t with
   |none=>rw[hx]at h;cases h
   |some x=>
    rw[hx]at h;have skip:∀(s s2:St) (s':St),some (s.put o.dst (.tup []))=some s'->(∀t,Wj s.env t=Wj st.env t)->s.objs=st.objs->s.nx=st.nx->(∀t,Wj s2.env t=Wj st2.env t)->s2.objs=st2.objs->s2.nx=st2.nx->
      ∃v pre af,Eff o v pre af st s'/\(Wao o=false->pre= []/\af=st.nx)/\
       ∃bu,some (s2.put o.dst (.tup []))=some bu/\(Wao o=true->Eff o v pre af st2 bu)/\(Wao o=false->Eff o v [] st2.nx st2 bu):=by
     intro s s2 s' hs a1 a2 a3 b1 b2 b3;injection hs with hs;subst hs;refine⟨.tup [],[],st.nx,⟨λt=>?_,by rw[WaE,a2];rfl,by rw[Wgp,a3]⟩,λ_=>⟨rfl,rfl⟩,_,rfl,λdy=>⟨λt=>?_,by rw[WaE,b2];rfl,by rw[Wgp,b3];exact(hm dy).2⟩,λ_=>⟨λt=>?_,by rw[WaE,b2];rfl,by rw[Wgp,b3]⟩⟩
     .rw[Wci,a1]
     .rw[Wci,b1]
     .rw[Wci,b1]
    have doit:∀b:Bool,x=one .bool b->rx1 T Γ A o (st.put (some t) (one .bool b)) some=some ac->
      ∃v pre af,Eff o v pre af st ac/\(Wao o=false->pre= []/\af=st.nx)/\
       ∃bu,rx1 T Γ A o (st2.put (some t) (one .bool b)) some=some bu/\(Wao o=true->Eff o v pre af st2 bu)/\(Wao o=false->Eff o v [] st2.nx st2 bu):=by
     intro b hb h1;subst hb;have l1:=WcR hx;have l2:=WcR (st:=st2) (t:=t) (x:=one .bool b) (by rw[gG];exact hx);have nX:∀x∈W0 o.op,ev (st.put (some t) (one .bool b)) x=ev st x:=λx hx=>WdP λt' _=>l1 t';have qE:∀x∈W0 o.op,ev (st2.put (some t) (one .bool b)) x=ev st2 x:=λx hx=>WdP λt' _=>l2 t';obtain⟨v,pre,af,e1,e2,bu,e3,e4,e5⟩:=Wo4 (st2:=st2.put (some t) (one .bool b)) h1 (λx hx=>by rw[qE x hx,nX x hx,sr x hx])
      (λdy=>hm dy) (λfT id bj=>hf fT id (by rw[←WeW nX];exact bj))
     refine⟨v,pre,af,⟨λt'=>by rw[e1.env,l1],e1.objs,e1.nx⟩,e2,bu,e3,λdy=>⟨λt'=>by rw[(e4 dy).env,l2],(e4 dy).objs,(e4 dy).nx⟩,λdy=>⟨λt'=>by rw[(e5 dy).env,l2],(e5 dy).objs,(e5 dy).nx⟩⟩
    have main:(match asB x with
      |some b=>bif b
       then(if want then rx1 T Γ A o (st.put (some t) (one .bool true)) some else some ((st.put (some t) (one .bool true)).put o.dst (.tup [])))
       else(if want then some ((st.put (some t) (one .bool false)).put o.dst (.tup []))else rx1 T Γ A o (st.put (some t) (one .bool false)) some)
      |none=>none)=some ac->∃v pre af,Eff o v pre af st ac/\(Wao o=false->pre= []/\af=st.nx)/\
       ∃bu,(match asB x with
      |some b=>bif b
       then(if want then rx1 T Γ A o (st2.put (some t) (one .bool true)) some else some ((st2.put (some t) (one .bool true)).put o.dst (.tup [])))
       else(if want then some ((st2.put (some t) (one .bool false)).put o.dst (.tup []))else rx1 T Γ A o (st2.put (some t) (one .bool false)) some)
      |none=>none)=some bu/\(Wao o=true->Eff o v pre af st2 bu)/\(Wao o=false->Eff o v [] st2.nx st2 bu):=by
     intro h;cases hb:asB x with
     |none=>rw[hb]at h;cases h
     |some b=>
      rw[hb]at h;have dD:=WrA hb;have r1:∀b',b'=b->∀t',Wj (st.put (some t) (one .bool b')).env t'=Wj st.env t':=λb' e=>by subst e;exact WcR (by rw[hx,dD])
      have r2:∀b',b'=b->∀t',Wj (st2.put (some t) (one .bool b')).env t'=Wj st2.env t':=λb' e=>by subst e;exact WcR (by rw[gG,hx,dD])
      cases b<;>cases want
      .exact doit false dD h
      .exact skip _ _ _ h (r1 _ rfl) (WaE _ _ _) (Wgp _ _ _) (r2 _ rfl) (WaE _ _ _) (Wgp _ _ _)
      .exact skip _ _ _ h (r1 _ rfl) (WaE _ _ _) (Wgp _ _ _) (r2 _ rfl) (WaE _ _ _) (Wgp _ _ _)
      .exact doit true dD h
    cases x with
    |s y=>exact main h
    |tup l=>
     cases l with
     |nil=>exact skip st st2 ac h (λ_=>rfl) rfl rfl (λ_=>rfl) rfl rfl
     |cons y l=>exact main h
end
end Go.Sx
namespace Go.Sx
set_option linter.unusedVariables false
set_option linter.unusedSimpArgs false
structure Rc where
 i:Nat
 v:AVal
 pre:WZ
 nx:Nat
 ids:List Nat
 mv:Bool
section
variable{T:Tab}{Γ:Ctx}{A:List (Nat×An)}{ops:Array Oper}
structure StepTo(T:Tab)(Γ:Ctx)(A:List (Nat×An))(ops:Array Oper)(ρ:Rc)(o:Oper)(st ac:St):Prop where
 at_:ops[ρ.i]?=some o
 isM:ρ.mv=Wao o
 lk:ρ.mv=false->ρ.ids=WbN o st
 run:rxg T Γ A ops o st some=some ac
 env:∀t,Wj ac.env t=if o.dst=some t then some ρ.v else Wj st.env t
 objs:ac.objs=if ρ.mv then ρ.pre++st.objs else st.objs
 nx:ac.nx=if ρ.mv then ρ.nx else st.nx
def Wrv(T:Tab)(Γ:Ctx)(A:List (Nat×An))(ops:Array Oper):List Rc->St->St->Prop
 | [],st,ac=>st=ac
 |ρ::l,st,ac=>∃o st1,StepTo T Γ A ops ρ o st st1/\Wrv T Γ A ops l st1 ac
theorem WoN{i:Nat}{o:Oper}{st ac:St}(hi:ops[i]?=some o)(h:rxg T Γ A ops o st some=some ac):
  ∃ρ:Rc,ρ.i=i/\StepTo T Γ A ops ρ o st ac:=by
 obtain⟨v,pre,af,e1,e2,_⟩:=WoH (st2:=st) h (λ_ _=>rfl) (λ_=>⟨rfl,rfl⟩) (λ_ _ _=>rfl);refine⟨⟨i,v,pre,af,WbN o st,Wao o⟩,rfl,hi,rfl,λ_=>rfl,h,e1.env,?_,?_⟩
 .simp only;cases hm:Wao o with
  |true=>simpa using e1.objs
  |false=>rw[e1.objs,(e2 hm).1];rfl
 .simp only;cases hm:Wao o with
  |true=>simpa using e1.nx
  |false=>rw[e1.nx,(e2 hm).2];rfl
theorem StepTo.move{ρ:Rc}{o:Oper}{st ac st2:St}(h:StepTo T Γ A ops ρ o st ac)(he:∀t∈Wcr ops o,Wj st2.env t=Wj st.env t)
  (hm:ρ.mv=true->st2.objs=st.objs/\st2.nx=st.nx) (hf:ρ.mv=false->∀id∈ρ.ids,Wj st2.objs id=Wj st.objs id):
  ∃bu,StepTo T Γ A ops ρ o st2 bu:=by
 obtain⟨v,pre,af,e1,e2,bu,e3,e4,e5⟩:=WoH (st2:=st2) h.run he (λdy=>hm (by rw[h.isM];exact dy)) (λfT id bj=>hf (by rw[h.isM];exact fT) id (by rw[h.lk (by rw[h.isM];exact fT)];exact bj));have hv:∀t,o.dst=some t->v=ρ.v:=λt ht=>by
  have a:=e1.env t;have b:=h.env t;rw[We ht]at a b;rw[a]at b;injection b
 have pU:ρ.mv=false->WbN o st2=WbN o st:=λ_=>WeW λx hx=>WdP λt ht=>he t (by
  unfold Wcr;exact Xj _ (Xfe.2 ⟨x,hx,ht⟩))
 cases dy:Wao o with
 |true=>
  have hρ:ρ.mv=true:=by rw[h.isM];exact dy
  have e4:=e4 dy;obtain⟨q1,q2⟩:=hm hρ;refine⟨bu,h.at_,h.isM,λhf=>(by rw[hρ]at hf;cases hf),e3,λt=>?_,?_,?_⟩
  .rw[e4.env];split
   .rename_i ht;rw[hv t ht]
   .rfl
  .rw[e4.objs,hρ];simp only[W9];have a:=e1.objs;have b:=h.objs;rw[hρ]at b;simp only[W9]at b;rw[a]at b;rw[List.append_cancel_right b]
  .rw[e4.nx,hρ];simp only[W9];have a:=e1.nx;have b:=h.nx;rw[hρ]at b;simp only[W9]at b;rw[←a,b]
 |false=>
  have hρ:ρ.mv=false:=by rw[h.isM];exact dy
  have e5:=e5 dy;refine⟨bu,h.at_,h.isM,λhf=>by rw[pU hρ];exact h.lk hρ,e3,λt=>?_,?_,?_⟩
  .rw[e5.env];split
   .rename_i ht;rw[hv t ht]
   .rfl
  .rw[e5.objs,hρ];rfl
  .rw[e5.nx,hρ];rfl
def WqR(ids:List Nat)(pre:WZ):Prop:=∀id∈ids,id∉WfH pre
def Wtc(B:List (List Nat))(x y:Rc):Prop:=
 (x.mv=false->y.mv=true->WbS B x.i y.i=true\/WqR x.ids y.pre)/\
 (x.mv=true->y.mv=false->WbS B x.i y.i=true\/WqR y.ids x.pre)
theorem WaI{α:Type}:∀(l:List Nat) (k:List Nat->α),WeN l k=k l
 | [],_=>rfl
 |x::l,k=>by rw[WeN,WaI l]
theorem WeI{α:Type}:∀(l:List (List Nat)) (k:List (List Nat)->α),Wmw l k=k l
 | [],_=>rfl
 |x::l,k=>by rw[Wmw,WaI,WeI l]
theorem WhW{ids:List Nat}{pre:WZ}(h:Wen ids (WfH pre)=true):WqR ids pre:=λid bj hk=>by
 unfold Wen at h;have:=Xab.1 h id bj;rw[(Waq id _).2 hk]at this;cases this
theorem WnT(pre objs:WZ):Wmo objs (pre++objs)=WfH pre:=by
 unfold Wmo;simp
theorem Wjg{B:List (List Nat)}{R:Type}{k:St->Option R}{r:R}:∀(l:List Nat) (fl mu:List (Nat×List Nat)) (st:St),rdx T Γ A ops B l fl mu st k=some r->
  ∃(rs:List Rc) (ac:St),rs.map (·.i)=l/\Wrv T Γ A ops rs st ac/\k ac=some r/\rs.Pairwise (Wtc B)/\
   (∀p∈fl,∀ρ∈rs,ρ.mv=true->WbS B p.1 ρ.i=true\/WqR p.2 ρ.pre)/\
   (∀p∈mu,∀ρ∈rs,ρ.mv=false->WbS B p.1 ρ.i=true\/Wen ρ.ids p.2=true)
 | [],fl,mu,st,h=>⟨[],st,rfl,rfl,h,List.Pairwise.nil,by simp,by simp⟩
 |i::l,fl,mu,st,h=>by
  simp only[rdx]at h;cases ho:ops[i]? with
  |none=>rw[ho]at h;cases h
  |some o=>
   rw[ho]at h;simp only at h;cases hm:Wao o with
   |true=>
    simp only[hm,Wa]at h;obtain⟨st1,h1,h2⟩:=WeS h;rw[WaI]at h2;obtain⟨iZ,h2⟩:=WQ h2;obtain⟨ρ,hi,hs⟩:=WoN ho h1;have hρ:ρ.mv=true:=by rw[hs.isM];exact hm
    have an:=hs.objs;rw[hρ]at an;simp only[W9]at an;rw[an,WnT]at iZ h2;obtain⟨rs,ac,q1,q2,q3,q4,q5,q6⟩:=Wjg l _ _ _ h2;refine⟨ρ::rs,ac,by simp[hi,q1],⟨o,st1,hs,q2⟩,q3,List.Pairwise.cons (λy hy=>⟨λhf=>(by rw[hρ]at hf;cases hf),λ_ lE=>?_⟩) q4,λp hp y hy lF=>?_,λp hp y hy lE=>?_⟩
    .rcases q6 (i,WfH ρ.pre) (Xh ..) y hy lE with h|h
     .rw[hi];exact .inl h
     .exact .inr (WhW h)
    .rcases Xq.1 hy with rfl|hy
     .have:=Xab.1 iZ p hp;rw[Xcg]at this;rw[hi];exact this.imp id WhW
     .exact q5 p hp y hy lF
    .rcases Xq.1 hy with rfl|hy
     .rw[hρ]at lE;cases lE
     .exact q6 p (Xe _ hp) y hy lE
   |false=>
    simp only[hm,Wf]at h;rw[WaI]at h;obtain⟨iZ,h⟩:=WQ h;obtain⟨st1,h1,h2⟩:=WeS h;obtain⟨ρ,hi,hs⟩:=WoN ho h1;have hρ:ρ.mv=false:=by rw[hs.isM];exact hm
    have qF:=hs.lk hρ;rw[←qF]at iZ h2;obtain⟨rs,ac,q1,q2,q3,q4,q5,q6⟩:=Wjg l _ _ _ h2;refine⟨ρ::rs,ac,by simp[hi,q1],⟨o,st1,hs,q2⟩,q3,List.Pairwise.cons (λy hy=>⟨λ_ lF=>?_,λhf=>(by rw[hρ]at hf;cases hf)⟩) q4,λp hp y hy lF=>?_,λp hp y hy lE=>?_⟩
    .rw[hi];exact q5 (i,ρ.ids) (Xh ..) y hy lF
    .rcases Xq.1 hy with rfl|hy
     .rw[hρ]at lF;cases lF
     .exact q5 p (Xe _ hp) y hy lF
    .rcases Xq.1 hy with rfl|hy
     .have:=Xab.1 iZ p hp;rw[Xcg]at this;rw[hi];exact this
     .exact q6 p hp y hy lE
def Wdf(ops:Array Oper)(i:Nat):Option Tmp:=(ops[i]?).bind (·.dst)
def WmZ(ops:Array Oper):List Rc->(Nat->Option AVal)->Nat->Option AVal
 | [],e,t=>e t
 |ρ::a,e,t=>WmZ ops a (λt'=>if Wdf ops ρ.i=some t' then some ρ.v else e t') t
def Wga:List Rc->WZ×Nat->WZ×Nat
 | [],m=>m
 |ρ::a,m=>Wga a (if ρ.mv then(ρ.pre++m.1,ρ.nx)else m)
theorem WfE:∀(rs:List Rc) (st ac:St),Wrv T Γ A ops rs st ac->(∀t,Wj ac.env t=WmZ ops rs (Wj st.env) t)/\(ac.objs,ac.nx)=Wga rs (st.objs,st.nx)
 | [],st,ac,h=>by cases h;exact⟨λ_=>rfl,rfl⟩
 |ρ::rs,st,ac,⟨o,st1,hs,h⟩=>by
  obtain⟨h1,h2⟩:=WfE rs st1 ac h;have e:(Wj st1.env)= λt'=>if Wdf ops ρ.i=some t' then some ρ.v else Wj st.env t':=funext λt=>by
   rw[hs.env];unfold Wdf;rw[hs.at_];rfl
  refine⟨λt=>by rw[h1,e];rfl,?_⟩;rw[h2,Wga];congr 1;rw[hs.objs,hs.nx];split<;>rfl
theorem Wh8:∀(a:List Rc) (ρ:Rc) (b:List Rc) (st ac:St),Wrv T Γ A ops (a++ρ::b) st ac->∃o st1 st2,Wrv T Γ A ops a st st1/\StepTo T Γ A ops ρ o st1 st2
 | [],ρ,b,st,ac,⟨o,st1,hs,h⟩=>⟨o,st,st1,rfl,hs⟩
 |x::a,ρ,b,st,ac,⟨o,st1,hs,h⟩=>by
  obtain⟨o',s1,s2,h1,h2⟩:=Wh8 a ρ b st1 ac h;exact⟨o',s1,s2,⟨o,st1,hs,h1⟩,h2⟩
theorem Wa2:∀(a:List Rc) (m:WZ×Nat),Wga a m=Wga (a.filter (·.mv)) m
 | [],_=>rfl
 |ρ::a,m=>by
  rw[Wga,Wa2 a,Xbc];cases h:ρ.mv with
  |true=>simp only[W9,Wga,h]
  |false=>simp only[Xap,Wae]
theorem WcZ:∀(a b:List Rc) (m:WZ×Nat),Wga (a++b) m=Wga b (Wga a m)
 | [],_,_=>rfl
 |ρ::a,b,m=>by rw[Xaq,Wga,WcZ a b];rfl
theorem Wg3{pre objs:WZ}{id:Nat}(h:id∉WfH pre):Wj (pre++objs) id=Wj objs id:=by
 induction pre with
 |nil=>rfl
 |cons p pre ih=>
  obtain⟨j,ob⟩:=p;simp only[WfH,Xag,Xq,not_or]at h;rw[Xaq,Wv,Wc (λe=>h.1 e.symm)];exact ih h.2
theorem WgA{id:Nat}:∀(a:List Rc) (m:WZ×Nat),(∀ρ∈a,ρ.mv=true->id∉WfH ρ.pre)->Wj (Wga a m).1 id=Wj m.1 id
 | [],_,_=>rfl
 |ρ::a,m,h=>by
  rw[Wga,WgA a _ λx hx=>h x (Xe _ hx)];split
  .rename_i hm;exact Wg3 (h ρ (Xh ..) hm)
  .rfl
def Wjc(ops:Array Oper):Prop:=∀i j t,Wdf ops i=some t->Wdf ops j=some t->i=j
theorem We7{t:Nat}:∀(a:List Rc) (e:Nat->Option AVal),(∀ρ∈a,Wdf ops ρ.i≠some t)->WmZ ops a e t=e t
 | [],_,_=>rfl
 |ρ::a,e,h=>by
  rw[WmZ,We7 a _ λx hx=>h x (Xe _ hx),Wc (h ρ (Xh ..))]
theorem Whh{t:Nat}(h1:Wjc ops):∀(a:List Rc) (e:Nat->Option AVal),(a.map (·.i)).Nodup->∀ρ∈a,Wdf ops ρ.i=some t->WmZ ops a e t=some ρ.v
 | [],_,_,_,h,_=>by cases h
 |x::a,e,hn,ρ,hρ,ht=>by
  rw[Xag,Xaa]at hn;rw[WmZ];rcases Xq.1 hρ with rfl|hρ
  .rw[We7 a _ λy hy tS=>hn.1 (by rw[h1 _ _ _ ht tS];exact Xv.2 ⟨y,hy,rfl⟩),We ht]
  .exact Whh h1 a _ hn.2 ρ hρ ht
theorem Wiu{t:Nat}(h1:Wjc ops){a b:List Rc}{e:Nat->Option AVal}(ha:(a.map (·.i)).Nodup)(hb:(b.map (·.i)).Nodup)
  (h:∀ρ,Wdf ops ρ.i=some t->(ρ∈a↔ρ∈b)):WmZ ops a e t=WmZ ops b e t:=by
 by_cases hx:∃ρ∈a,Wdf ops ρ.i=some t
 .obtain⟨ρ,hρ,ht⟩:=hx;rw[Whh h1 a e ha ρ hρ ht,Whh h1 b e hb ρ ((h ρ ht).1 hρ) ht]
 .rw[We7 a e λρ hρ ht=>hx ⟨ρ,hρ,ht⟩,We7 b e λρ hρ ht=>hx ⟨ρ,(h ρ ht).2 hρ,ht⟩]
end
end Go.Sx
namespace Go.Sx
set_option linter.unusedVariables false
set_option linter.unusedSimpArgs false
theorem Wep{α:Type}{x:α}:∀{a c b d:List α},(a++x::b).Nodup->a++x::b=c++x::d->a=c
 | [],[],_,_,_,_=>rfl
 | [],y::c,b,d,hn,h=>by
  simp only[Xbn,Xaq,List.cons.injEq]at h;obtain⟨rfl,h⟩:=h;rw[Xbn,Xaa]at hn;exact Ww (by rw[h];simp) hn.1
 |y::a,[],b,d,hn,h=>by
  simp only[Xbn,Xaq,List.cons.injEq]at h;obtain⟨rfl,h⟩:=h;rw[Xaq,Xaa]at hn;exact Ww (by simp) hn.1
 |y::a,z::c,b,d,hn,h=>by
  simp only[Xaq,List.cons.injEq]at h;obtain⟨rfl,h⟩:=h;rw[Xaq,Xaa]at hn;rw[Wep hn.2 h]
def Wam(ops:Array Oper)(i:Nat):Bool:=match ops[i]? with
 |some o=>Wao o
 |none=>false
theorem Rel.same{w0:World}{F:CS}{nt:Slots}{G0 G:GH}{ν:Nat->Nu}{st st2:St}{a:Act}{w:World}(h:Rel w0 F nt G0 G ν st a w)
  (he:∀t,Wj st2.env t=Wj st.env t) (ho:st2.objs=st.objs) (hn:st2.nx=st.nx):Rel w0 F nt G0 G ν st2 a w:=
 ⟨h.defers,h.ntm,h.par,λi x hx=>by rw[he]at hx;rw[hn];exact h.env i x hx,by rw[ho,hn];exact h.h,h.gx,λx v hv=>by rw[hn];exact h.ex x v hv⟩
theorem Wrk:∀(rs:List Rc),(rs.map (·.i)).Nodup->∃rec:Nat->Rc,∀ρ∈rs,rec ρ.i=ρ
 | [],_=>⟨λi=>⟨i,.tup [],[],0,[],false⟩,by simp⟩
 |ρ::rs,h=>by
  rw[Xag,Xaa]at h;obtain⟨rec,hr⟩:=Wrk rs h.2;refine⟨λi=>if i=ρ.i then ρ else rec i,λx hx=>?_⟩;rcases Xq.1 hx with rfl|hx
  .simp
  .simp only;rw[Wc (λe=>h.1 (by rw[←e];exact Xv.2 ⟨x,hx,rfl⟩))];exact hr x hx
section
variable{w0:World}{F:CS}{nt:Slots}{G0:GH}{P:Program}{T:Tab}{Γ:Ctx}{A:List (Nat×An)}{ops:Array Oper}{Q:Exit->Act->World->Prop}
theorem WoQ(hT:W5 P T)(hΓ:Wcy P Γ)(hd:∀o∈ops,∀d,o.dst=some d->nt.Ok d){l L:List Nat}(hl:Order ops l)(hL:Order ops L)(dD:Wjc ops)
  (gz:∀(i:Nat) (o:Oper) (t:Nat),ops[i]?=some o->t∈Wcr ops o->∀j,Wdf ops j=some t->j=i\/WbS (WbV ops.toList []) j i=true\/WbS (WbV ops.toList []) i j=true)
  (hσ:l.filter (Wam ops)=L.filter (Wam ops)) {rs:List Rc} {st ac:St} (fm:rs.map (·.i)=L) (ja:Wrv T Γ A ops rs st ac) (bO:rs.Pairwise (Wtc (WbV ops.toList [])))
  (hK:∀a w G ν,Rel w0 F nt G0 G ν ac a w->Q .normal a w) {a:Act} {w:World} {G:GH} {ν:Nat->Nu} (hr:Rel w0 F nt G0 G ν st a w):wpOps P ops Q l a w:=by
 have aH:(rs.map (·.i)).Nodup:=by rw[fm];exact hL.nodup
 obtain⟨rec,cV⟩:=Wrk rs aH;have hLr:L.map rec=rs:=by
  rw[←fm,Xdu]
  conv=>rhs;rw[←Xgh rs]
  exact Xen λρ hρ=>cV ρ hρ
 have gH:∀i,i∈l↔i∈L:=λi=>by rw[←hl.all,hL.all]
 have gY:∀i∈L,(rec i).i=i/\rec i∈rs:=λi hi=>by
  rw[←fm]at hi;obtain⟨ρ,hρ,rfl⟩:=Xv.1 hi;rw[cV ρ hρ];exact⟨rfl,hρ⟩
 have jb:∀i∈L,∃pre post o st1 st2,L=pre++i::post/\Wrv T Γ A ops (pre.map rec) st st1/\StepTo T Γ A ops (rec i) o st1 st2:=λi hi=>by
  obtain⟨pre,post,e⟩:=Xds hi;have:rs=pre.map rec++rec i::post.map rec:=by rw[←hLr,e];simp
  rw[this]at ja;obtain⟨o,st1,st2,h1,h2⟩:=Wh8 _ _ _ _ _ ja;exact⟨pre,post,o,st1,st2,e,h1,h2⟩
 have fg:∀i∈L,(rec i).mv=Wam ops i:=λi hi=>by
  obtain⟨pre,post,o,st1,st2,e,h1,h2⟩:=jb i hi;rw[h2.isM];have:=h2.at_;rw[(gY i hi).1]at this;unfold Wam;rw[this]
 have ey:∀(p:List Nat),(∀i∈p,i∈L)->(p.map rec).filter (·.mv)=(p.filter (Wam ops)).map rec:=by
  intro p
  induction p with
  |nil=>intro _;rfl
  |cons i p ih=>
   intro h;have:=ih λj hj=>h j (Xe _ hj);rw[Xag,Xbc,Xbc,fg i (h i (Xh ..))];split
   .rw[Xag,this]
   .exact this
 have lG:∀(p:List Nat),(∀i∈p,i∈L)->(p.map rec).map (·.i)=p:=by
  intro p h;rw[Xdu]
  conv=>rhs;rw[←Xgh p]
  exact Xen λi hi=>(gY i (h i hi)).1
 have di:∀(p:List Nat),(∀i∈p,i∈L)->∀i∈L,(rec i∈p.map rec↔i∈p):=λp hp i hi=>by
  constructor
  .intro h;obtain⟨j,hj,e⟩:=Xv.1 h;have:j=i:=by rw[←(gY j (hp j hj)).1,←(gY i hi).1,e]
   rw[←this];exact hj
  .exactλh=>Xv.2 ⟨i,h,rfl⟩
 have kN:∀i j pre post,L=pre++i::post->j∈post->Wtc (WbV ops.toList []) (rec i) (rec j):=λi j pre post e hj=>by
  have:rs=pre.map rec++rec i::post.map rec:=by rw[←hLr,e];simp
  rw[this,List.pairwise_append]at bO;exact(List.pairwise_cons.1 bO.2.1).1 _ (Xv.2 ⟨j,hj,rfl⟩)
 suffices main:∀(s p:List Nat),l=p++s->∀(st2:St) (a:Act) (w:World) (G:GH) (ν:Nat->Nu),Rel w0 F nt G0 G ν st2 a w->
   (∀t,Wj st2.env t=WmZ ops (p.map rec) (Wj st.env) t)->(st2.objs,st2.nx)=Wga (p.map rec) (st.objs,st.nx)->wpOps P ops Q s a w from
  main l [] rfl st a w G ν hr (λ_=>rfl) rfl
 intro s
 induction s with
 |nil=>
  intro p e st2 a w G ν gX he hm;rw[Xcf]at e;subst e;obtain⟨f1,f2⟩:=WfE _ _ _ ja;have nY:∀i∈l,i∈L:=λi hi=>(gH i).1 hi;refine hK a w G ν (gX.same (λt=>?_) ?_ ?_)
  .rw[f1,he];refine Wiu dD aH (by rw[lG l nY];exact hl.nodup) λρ _=>?_;constructor
   .intro hρ;have hi:ρ.i∈L:=by rw[←fm];exact Xv.2 ⟨ρ,hρ,rfl⟩
    rw[←cV ρ hρ];exact(di l nY ρ.i hi).2 ((gH _).2 hi)
   .intro hρ;obtain⟨i,hi,rfl⟩:=Xv.1 hρ;exact(gY i (nY i hi)).2
  .have:Wga (l.map rec) (st.objs,st.nx)=Wga rs (st.objs,st.nx):=by
    rw[Wa2,ey l nY,hσ,←ey L (λi hi=>hi),←Wa2,hLr]
   rw[this,←f2]at hm;exact(Wk (·.1) hm).symm
  .have:Wga (l.map rec) (st.objs,st.nx)=Wga rs (st.objs,st.nx):=by
    rw[Wa2,ey l nY,hσ,←ey L (λi hi=>hi),←Wa2,hLr]
   rw[this,←f2]at hm;exact(Wk (·.2) hm).symm
 |cons i s ih=>
  intro p e st2 a w G ν gX he hm;have ng:i∈L:=(gH i).1 (by rw[e];simp);have nZ:∀j∈p,j∈L:=λj hj=>(gH j).1 (by rw[e];exact Xj _ hj);obtain⟨pre,post,o,st1,tT,eL,h1,h2⟩:=jb i ng;have gI:∀j∈pre,j∈L:=λj hj=>by rw[eL];exact Xj _ hj
  have pz:ops[i]?=some o:=by have:=h2.at_;rw[(gY i ng).1]at this;exact this
  obtain⟨g1,g2⟩:=WfE _ _ _ h1;have kg:=hl.nodup;have kh:=hL.nodup;rw[e]at kg;rw[eL]at kh;have oa:i∉p:=λh=>(Xac.1 kg).2.2 i h i (Xh ..) rfl;have gJ:i∉pre:=λh=>(Xac.1 kh).2.2 i h i (Xh ..) rfl;have lH:∀t∈Wcr ops o,Wj st2.env t=Wj st1.env t:=λt ht=>by
   rw[he,g1];refine Wiu dD (by rw[lG p nZ];exact(Xac.1 kg).1) (by rw[lG pre gI];exact(Xac.1 kh).1) λρ hρt=>?_;have key:∀j∈L,Wdf ops j=some t->(j∈p↔j∈pre):=λj hj qn=>by
    rcases gz i o t pz ht j qn with rfl|hb|hb
    .exact⟨λh=>Ww h oa,λh=>Ww h gJ⟩
    .by_cases oc:j=i
     .subst oc;exact⟨λh=>Ww h oa,λh=>Ww h gJ⟩
     .exact⟨λ_=>hL.bef' eL hb oc,λ_=>hl.bef' e hb oc⟩
    .exact⟨λh=>Ww (hl.bef e hb h) oa,λh=>Ww (hL.bef eL hb h) gJ⟩
   constructor
   .intro hρ;obtain⟨j,hj,rfl⟩:=Xv.1 hρ;have od:=nZ j hj;rw[(gY j od).1]at hρt;exact Xv.2 ⟨j,(key j od hρt).1 hj,rfl⟩
   .intro hρ;obtain⟨j,hj,rfl⟩:=Xv.1 hρ;have od:=gI j hj;rw[(gY j od).1]at hρt;exact Xv.2 ⟨j,(key j od hρt).2 hj,rfl⟩
  have ss:Wga (p.map rec) (st.objs,st.nx)=Wga ((p.filter (Wam ops)).map rec) (st.objs,st.nx):=by rw[Wa2,ey p nZ]
  have kO:Wga (pre.map rec) (st.objs,st.nx)=Wga ((pre.filter (Wam ops)).map rec) (st.objs,st.nx):=by rw[Wa2,ey pre gI]
  obtain⟨st3,h3⟩:=h2.move (st2:=st2) lH (λdy=>by
   have qG:Wam ops i=true:=by rw[←fg i ng];exact dy
   have:p.filter (Wam ops)=pre.filter (Wam ops):=by
    have q:=hσ;rw[e,eL,Xcl,Xcl,Xbc,Xbc,We qG,We qG]at q;refine Wep ?_ q;have:=hl.nodup.filter (Wam ops);rw[e,Xcl,Xbc,We qG]at this;exact this
   rw[ss,this,←kO,←g2]at hm;exact⟨Wk (·.1) hm,Wk (·.2) hm⟩) (λfT id bj=>by
   have q:(p.filter (Wam ops))<+:l.filter (Wam ops):=by rw[e,Xcl];exact Xgb _ _
   have q2:(pre.filter (Wam ops))<+:l.filter (Wam ops):=by rw[hσ,eL,Xcl];exact Xgb _ _
   have qf:st2.objs=(Wga ((p.filter (Wam ops)).map rec) (st.objs,st.nx)).1:=by rw[←ss,←hm]
   have pr:st1.objs=(Wga ((pre.filter (Wam ops)).map rec) (st.objs,st.nx)).1:=by rw[←kO,←g2]
   rw[qf,pr];rcases List.prefix_or_prefix_of_prefix q q2 with⟨X,hX⟩|⟨X,hX⟩
   .
    rw[←hX,Xy,WcZ];refine(WgA _ _ λρ hρ hρm=>?_).symm;obtain⟨m,nh,rfl⟩:=Xv.1 hρ;have fZ:m∈pre:=(Xat.1 (by rw[←hX];exact Xf _ nh:m∈pre.filter (Wam ops))).1;have lI:m∉p:=λay=>by
     have qH:Wam ops m=true:=(Xat.1 (by rw[←hX];exact Xf _ nh:m∈pre.filter (Wam ops))).2;have jc:(pre.filter (Wam ops)).Nodup:=(Xac.1 kh).1.filter _;rw[←hX]at jc;exact(Xac.1 jc).2.2 m (Xat.2 ⟨ay,qH⟩) m nh rfl
    obtain⟨u,v,eu⟩:=Xds fZ;have hf:=kN m i u (v++i::post) (by rw[eL,eu];simp) (by simp);rcases hf.2 hρm fT with hb|hb
    .rw[(gY m (gI m fZ)).1,(gY i ng).1]at hb;exact Ww (hl.bef' e hb (λhc=>gJ (hc▸fZ))) lI
    .exact hb id bj
   .rw[←hX,Xy,WcZ];refine WgA _ _ λρ hρ hρm=>?_;obtain⟨m,nh,rfl⟩:=Xv.1 hρ;have su:m∈p.filter (Wam ops):=by rw[←hX];exact Xf _ nh
    have ki:m∈p:=(Xat.1 su).1;have lI:m∉pre:=λay=>by
     have qH:Wam ops m=true:=(Xat.1 su).2;have jc:(p.filter (Wam ops)).Nodup:=(Xac.1 kg).1.filter _;rw[←hX]at jc;exact(Xac.1 jc).2.2 m (Xat.2 ⟨ay,qH⟩) m nh rfl
    have sw:=nZ m ki;have lJ:m∈post:=by
     rw[eL]at sw;rcases Xl.1 sw with h|h
     .exact Ww h lI
     .rcases Xq.1 h with h|h
      .exact Ww (h▸ki) oa
      .exact h
    have hf:=kN i m pre post eL lJ;rcases hf.1 fT hρm with hb|hb
    .rw[(gY m (nZ m ki)).1,(gY i ng).1]at hb;exact Ww (hl.bef e hb ki) oa
    .exact hb id bj)
  have tU:∀d,o.dst=some d->nt.Ok d:=hd o (Array.mem_of_getElem? pz);have pA:=Wru (F:=F) (G0:=G0) (w0:=w0) hT hΓ tU (Q:=Q) (k:=some) (r:=st3) (K:=wpOps P ops Q s) (λtV a' w' G' ν' hr4 h4=>by
   injection h4 with h4;subst h4;refine ih (p++ [i]) (by rw[e];simp) tV a' w' G' ν' hr4 (λt=>?_) ?_
   .rw[h3.env];have hv:WmZ ops ((p++ [i]).map rec) (Wj st.env) t=if Wdf ops i=some t then some (rec i).v else WmZ ops (p.map rec) (Wj st.env) t:=by
     rw[Xy];have gen:∀(x:List Rc) (y:Rc) (e:Nat->Option AVal),WmZ ops (x++ [y]) e t=if Wdf ops y.i=some t then some y.v else WmZ ops x e t:=by
      intro x
      induction x with
      |nil=>intro y e;rfl
      |cons z x ih=>intro y e;rw[Xaq,WmZ,ih];rfl
     rw[List.map_singleton,gen,(gY i ng).1]
    rw[hv,he];have:Wdf ops i=o.dst:=by unfold Wdf;rw[pz];rfl
    rw[this]
   .rw[Xy,WcZ,←hm];simp only[Xag,Xbu,Wga];rw[h3.objs,h3.nx];split<;>rfl) gX h3.run
  rw[wpOps_cons];unfold wpOp;rw[pz];simp only;split
  .rename_i hw;rw[We hw]at pA;exact .inl pA
  .rename_i hw;rw[Wc hw]at pA;exact pA
end
end Go.Sx
namespace Go.Sx
set_option linter.unusedVariables false
set_option linter.unusedSimpArgs false
theorem Wic:∀{l:List (Nat×Nat)},WaR (l.map (·.1))=true->∀p∈l,∀q∈l,p.1=q.1->p=q
 | [],_,p,hp,_,_,_=>by cases hp
 |x::l,h,p,hp,q,hq,e=>by
  have hn:=(WdL _).1 h;simp only[Xag,WaR,Xg]at h;rw[Xag,Xaa]at hn;rcases Xq.1 hp with h1|h1
  .rcases Xq.1 hq with h2|h2
   .rw[h1,h2]
   .exact Ww (Xv.2 ⟨q,h2,by rw[←e,h1]⟩) hn.1
  .rcases Xq.1 hq with h2|h2
   .exact Ww (Xv.2 ⟨p,h1,by rw[e,h2]⟩) hn.1
   .exact Wic h.2 p h1 q h2 e
theorem Wh5:∀(l:List Oper) (n k:Nat) (o:Oper) (d:Nat),l[k]?=some o->o.dst=some d->(d,n+k)∈WfY l n
 | [],_,k,o,d,h,_=>by simp at h
 |x::l,n,k,o,d,h,hd=>by
  cases k with
  |zero=>
   simp at h;subst h;simp only[WfY,hd];exact Xh ..
  |succ k=>
   have:=Wh5 l (n+1) k o d (by simpa using h) hd;have e:n+(k+1)=n+1+k:=by omega
   rw[e];simp only[WfY];split
   .exact Xe _ this
   .exact this
theorem WfZ{ops:Array Oper}{B:List (List Nat)}{D:List (Nat×Nat)}:∀(l:List Oper) (n:Nat),WjC ops B D l n=true->∀(k:Nat) (o:Oper),l[k]?=some o->∀t∈Wcr ops o,∀p∈D,p.1=t->
  p.2=n+k\/WbS B p.2 (n+k)=true\/WbS B (n+k) p.2=true
 | [],_,_,k,o,h=>by simp at h
 |x::l,n,h,k,o,hk=>by
  simp only[WjC,Xg]at h;cases k with
  |zero=>
   simp at hk;subst hk;intro t ht p hp e;have:=Xab.1 (Xab.1 h.1 t ht) p hp;simp only[Xcg,Xak]at this;rcases this with((h1|h1)|h1)|h1
   .rw[e]at h1;simp at h1
   .exact .inl (by simpa using h1)
   .exact .inr (.inl h1)
   .exact .inr (.inr h1)
  |succ k=>
   have:=WfZ l (n+1) h.2 k o (by simpa using hk);have e:n+(k+1)=n+1+k:=by omega
   rw[e];exact this
structure RegOk(ops:Array Oper):Prop where
 back:∀(k:Nat) (o:Oper),ops[k]?=some o->∀d∈Wk0 o,d<k
 one:Wjc ops
 slots:∀(i:Nat) (o:Oper) (t:Nat),ops[i]?=some o->t∈Wcr ops o->∀j,Wdf ops j=some t->j=i\/WbS (WbV ops.toList []) j i=true\/WbS (WbV ops.toList []) i j=true
theorem WgJ{ops:Array Oper}{j t:Nat}(h:Wdf ops j=some t):(t,j)∈WfY ops.toList 0:=by
 unfold Wdf at h;obtain⟨o,ho,hd⟩:=Xao.1 h;have:=Wh5 ops.toList 0 j o t (by simpa using ho) hd;rw[Xbh]at this;exact this
theorem Wnq{ops:Array Oper}(h:Wql ops (WbV ops.toList [])=true):RegOk ops:=by
 simp only[Wql,Xg]at h;obtain⟨⟨h1,h2⟩,h3⟩:=h;refine⟨λk o ho e he=>?_,λi j t hi hj=>?_,λi o t ho ht j hj=>?_⟩
 .have:=Wib (ops:=ops) ops.toList 0 h1 k o (by simpa using ho) e he;omega
 .have:=Wic h2 _ (WgJ hi) _ (WgJ hj) rfl;exact Wk (·.2) this
 .have:=WfZ ops.toList 0 h3 i o (by simpa using ho) t ht _ (WgJ hj) rfl;simpa using this
theorem Wh3{ops:Array Oper}:∀(l done:List Nat),WgS ops l done=true->done.Nodup->(∀i∈done,i<ops.size)->
  (done++l).Nodup/\(∀i∈done++l,i<ops.size)/\(done++l).length=ops.size/\(∀p i s,l=p++i::s->∀o,ops[i]?=some o->∀d∈Wk0 o,d∈done++p)
 | [],done,h,hn,ad=>by
  simp only[WgS]at h;exact⟨by simpa using hn,by simpa using ad,by simpa using h,λp i s e=>by simp at e⟩
 |x::l,done,h,hn,ad=>by
  simp only[WgS,Xg,Xak]at h;obtain⟨⟨h1,h2⟩,h3⟩:=h;have hx:x∉done:=λhm=>by rw[(Waq x done).2 hm]at h1;cases h1
  cases ho:ops[x]? with
  |none=>rw[ho]at h2;cases h2
  |some o=>
   rw[ho]at h2;have jI:x<ops.size:=(Xbs.1 ho).1;obtain⟨g1,g2,g3,g4⟩:=Wh3 l (x::done) h3 (Xaa.2 ⟨hx,hn⟩) (λi hi=>by
    rcases Xq.1 hi with rfl|hi
    .exact jI
    .exact ad i hi)
   have jd:List.Perm (x::done++l) (done++x::l):=by simpa using(List.perm_middle (a:=x) (l₁:=done) (l₂:=l)).symm
   refine⟨jd.nodup_iff.1 g1,λi hi=>g2 i (jd.mem_iff.2 hi),by rw[←jd.length_eq];exact g3,λp i s e o' gW d hd=>?_⟩;cases p with
   |nil=>
    simp only[Xbn,List.cons.injEq]at e;obtain⟨rfl,_⟩:=e;rw[ho]at gW;injection gW with gW;subst gW;have:=Xab.1 h2 d hd;simpa using(Waq d done).1 this
   |cons y p=>
    simp only[Xaq,List.cons.injEq]at e;obtain⟨rfl,e⟩:=e;have:=g4 p i s e o' gW d hd;simp only[Xaq,Xq,Xl]at this⊢;rcases this with h|h|h
    .exact .inr (.inl h)
    .exact .inl h
    .exact .inr (.inr h)
theorem WlZ{l:List Nat}{n:Nat}(hn:l.Nodup)(ad:∀i∈l,i<n)(aa:l.length=n):∀i,i<n->i∈l:=by
 intro i hi;refine Classical.byContradiction λh=>?_;have h1:(i::l).Nodup:=Xaa.2 ⟨h,hn⟩;have h2:∀j∈i::l,j∈Xbt n:=λj hj=>by
  rw[Xcx];rcases Xq.1 hj with rfl|hj
  .exact hi
  .exact ad j hj
 have key:∀(a b:List Nat),a.Nodup->(∀x∈a,x∈b)->a.length<=b.length:=by
  intro a
  induction a with
  |nil=>intro b _ _;simp
  |cons x a ih=>
   intro b lK eU;rw[Xaa]at lK;have oe:x∈b:=eU x (Xh ..);have:=ih (b.erase x) lK.2 λy hy=>(Xft (λe=>lK.1 (by rw[←e];exact hy))).2 (eU y (Xe _ hy));rw[Xfc oe]at this;have eE:=Xfi oe;simp;omega
 have:=key _ _ h1 h2;rw[Xez,Xn]at this;omega
theorem Wlz{ops:Array Oper}{l:List Nat}(h:WgS ops l []=true):Order ops l:=by
 obtain⟨h1,h2,h3,h4⟩:=Wh3 l [] h Xcy (by simp);rw[Xbn]at h1 h2 h3;exact⟨h1,λi=>⟨WlZ h1 h2 h3 i,h2 i⟩,λp i s e o ho d hd=>by simpa using h4 p i s e o ho d hd⟩
theorem Wh6:∀(l:List Oper) (n i:Nat),i∈WcA l n↔n<=i/\∃o,l[i-n]?=some o/\Wao o=true
 | [],n,i=>by simp[WcA]
 |o::l,n,i=>by
  have ih:=Wh6 l (n+1) i;have og:(n<=i/\∃o',(o::l)[i-n]?=some o'/\Wao o'=true)↔(i=n/\Wao o=true)\/(n+1<=i/\∃o',l[i-(n+1)]?=some o'/\Wao o'=true):=by
   by_cases hi:i=n
   .subst hi;constructor
    .rintro⟨_,o',h1,h2⟩;rw[Xcs]at h1;injection h1 with h1;subst h1;exact .inl ⟨rfl,h2⟩
    .rintro(⟨_,h⟩|⟨h,_⟩)
     .exact⟨Xm _,o,by rw[Xcs];rfl,h⟩
     .omega
   .constructor
    .rintro⟨h0,o',h1,h2⟩;have e:i-n=(i-(n+1))+1:=by omega
     rw[e,Xdx]at h1;exact .inr ⟨by omega,o',h1,h2⟩
    .rintro(⟨h,_⟩|⟨h0,o',h1,h2⟩)
     .exact Ww h hi
     .have e:i-n=(i-(n+1))+1:=by omega
      exact⟨by omega,o',by rw[e,Xdx];exact h1,h2⟩
  rw[og,←ih];simp only[WcA];cases hm:Wao o with
  |true=>simp
  |false=>simp
theorem Wks{ops:Array Oper}{i:Nat}:i∈WcA ops.toList 0↔Wam ops i=true:=by
 rw[Wh6];unfold Wam;simp only[Xcb,true_and,Xda,Array.getElem?_toList];cases ops[i]? with
 |none=>simp
 |some o=>simp
theorem Wna{B:List (List Nat)}:∀(σ rem:List Nat) (n:Nat),σ.length<=n->σ.Nodup->(∀i,i∈rem↔i∈σ)->(∀p m s,σ=p++m::s->∀m'∈m::s,WbS B m' m=false)->σ∈Woj B n rem
 | [],rem,n,hn,aH,ay,hb=>by
  have:rem= []:=Xei.2 λi hi=>by have:=(ay i).1 hi;cases this
  subst this;cases n<;>simp[Woj]
 |m::s,rem,0,hn,_,_,_=>by simp at hn
 |m::s,rem,n+1,hn,aH,ay,hb=>by
  have hm:m∈rem:=(ay m).2 (Xh ..);rw[Xaa]at aH;cases hrem:rem with
  |nil=>rw[hrem]at hm;cases hm
  |cons x xs=>
   rw[←hrem];have dX:Woj B (n+1) rem=(rem.filter λm=>rem.all λm'=>!WbS B m' m).flatMap λm=>(Woj B n (rem.filter λx=>!Xaz x m)).map (m:: ·):=by rw[hrem];rfl
   rw[dX];refine Xfe.2 ⟨m,Xat.2 ⟨hm,Xab.2 λm' fU=>?_⟩,Xv.2 ⟨s,?_,rfl⟩⟩
   .rw[hb [] m s rfl m' ((ay m').1 fU)];rfl
   .refine Wna s _ n (by simpa using hn) aH.2 (λi=>?_) (λp q s' e=>hb (m::p) q s' (by rw[e];rfl));rw[Xat,ay,Xq];constructor
    .rintro⟨h1,h2⟩;rcases h1 with rfl|h1
     .simp at h2
     .exact h1
    .intro h;refine⟨.inr h,?_⟩;have bZ:i≠m:=λe=>aH.1 (e▸h);cases bV:Xaz i m with
     |false=>rfl
     |true=>exact Ww (Nat.eq_of_beq_eq_true bV) bZ
theorem Wri:∀(l m:List Nat),eqN l m=true->l=m
 | [],[],_=>rfl
 | [],_::_,h=>by cases h
 |_::_,[],h=>by cases h
 |i::l,j::m,h=>by
  simp only[eqN,Xg]at h;have:i=j:=by simpa using h.1
  rw[this,Wri l m h.2]
theorem Wp1{α:Type}{a b:Option α}{r:α}(h:Wf3 a b=some r):a=some r/\b=some r:=by
 unfold Wf3 at h;split at h
 .rename_i e;exact⟨h,e▸h⟩
 .cases h
section
variable{w0:World}{F:CS}{nt:Slots}{G0:GH}{P:Program}{T:Tab}{Γ:Ctx}{A:List (Nat×An)}{R:Type}{r:R}
theorem Wmy{ops:Array Oper}{B:List (List Nat)}{st:St}{k:St->Option R}:∀(l:List (List Nat)),Wsf T Γ A ops B st k l=some r->∀σ∈l,∃L,WgS ops L []=true/\L.filter (λi=>WbB i σ)=σ/\rdx T Γ A ops B L [] [] st k=some r
 | [],_,σ,hσ=>by cases hσ
 |τ::l,h,σ,hσ=>by
  have one:WeN (Wg7 ops.toList B ops.size [] τ) (λL=>bif WgS ops L []&&eqN (L.filter λi=>WbB i τ) τ then rdx T Γ A ops B L [] [] st k else none)=some r->∃L,WgS ops L []=true/\L.filter (λi=>WbB i τ)=τ/\rdx T Γ A ops B L [] [] st k=some r:=λh=>by
   rw[WaI]at h;obtain⟨hc,h⟩:=WQ h;simp only[Xg]at hc;exact⟨_,hc.1,Wri _ _ hc.2,h⟩
  cases l with
  |nil=>
   simp only[Wsf]at h;rcases Xq.1 hσ with rfl|hσ
   .exact one h
   .cases hσ
  |cons x l=>
   have h:Wf3 (WeN (Wg7 ops.toList B ops.size [] τ) (λL=>bif WgS ops L []&&eqN (L.filter λi=>WbB i τ) τ then rdx T Γ A ops B L [] [] st k else none)) (Wsf T Γ A ops B st k (x::l))=some r:=h;obtain⟨h1,h2⟩:=Wp1 h;rcases Xq.1 hσ with rfl|hσ
   .exact one h1
   .exact Wmy (x::l) h2 σ hσ
theorem WqU(hM:P.follows .mixedOrders=true)(hT:W5 P T)(hΓ:Wcy P Γ){id:Nat}{ops:Array Oper}(hd:∀o∈ops,∀d,o.dst=some d->nt.Ok d){k:St->Option R}{Q:Exit->Act->World->Prop}(hK:Wog w0 F nt G0 k r (Q .normal)):
  Wog w0 F nt G0 (λst=>Wi6 T Γ A ops st k) r ((Code.region id ops true).wp P Q):=λst a w G ν hr h=>by
 simp only[Wi6,WeI]at h;obtain⟨qI,h⟩:=WQ h;have hR:=Wnq qI;refine wp_region_draw λt=>?_;rw[hM];have hl:Order ops (Region.schedule true ops t):=Why hR.back;generalize Region.schedule true ops t=l at hl;have hσ:l.filter (Wam ops)∈Woj (WbV ops.toList []) ops.size (WcA ops.toList 0):=by
  refine Wna _ _ _ ?_ (hl.nodup.filter _) (λi=>?_) (λp m s e m' fU=>?_)
  .refine Xcr (Xee _ _) ?_;have dC:l.length<=(Xbt ops.size).length:=by
    have key:∀(a b:List Nat),a.Nodup->(∀x∈a,x∈b)->a.length<=b.length:=by
     intro a
     induction a with
     |nil=>intro b _ _;simp
     |cons x a ih=>
      intro b lK eU;rw[Xaa]at lK;have oe:x∈b:=eU x (Xh ..);have:=ih (b.erase x) lK.2 λy hy=>(Xft (λe=>lK.1 (by rw[←e];exact hy))).2 (eU y (Xe _ hy));rw[Xfc oe]at this;have eE:=Xfi oe;simp;omega
    exact key _ _ hl.nodup λx hx=>Xcx.2 ((hl.all x).2 hx)
   rw[Xez]at dC;exact dC
  .rw[Wks,Xat];constructor
   .intro h;refine⟨(hl.all i).1 ?_,h⟩;unfold Wam at h;split at h
    .rename_i o ho;exact(Xbs.1 ho).1
    .cases h
   .exactλh=>h.2
  .cases hb:WbS (WbV ops.toList []) m' m with
   |false=>rfl
   |true=>
    exfalso;have ni:m∈l:=(Xat.1 (by rw[e];simp:m∈l.filter (Wam ops))).1;obtain⟨u,v,eu⟩:=Xds ni;have hm'u:m'∈u++ [m]:=hl.bef (p:=u++ [m]) (s:=v) (by rw[eu];simp) hb (by simp);have sy:Wam ops m=true:=(Xat.1 (by rw[e];simp:m∈l.filter (Wam ops))).2;have oh:=hl.nodup.filter (Wam ops);have e2:l.filter (Wam ops)=u.filter (Wam ops)++m::v.filter (Wam ops):=by rw[eu,Xcl,Xbc,We sy]
    have tW:p=u.filter (Wam ops):=by
     refine Wep (b:=s) (d:=v.filter (Wam ops)) (x:=m) ?_ ?_
     .rw[←e];exact oh
     .rw[←e,e2]
    rcases Xq.1 fU with rfl|hm's
    .
     have:=hl.bef (p:=u++ [m']) (s:=v) (by rw[eu];simp) hb (by simp);have cK:WkD ops (λj=>j∈u\/(j=m'/\False)):=λi o ho hi d hd=>by
      rcases hi with hi|⟨_,hf⟩
      .exact .inl (hl.closed (p:=u) (s:=m'::v) eu i o ho hi d hd)
      .exact hf.elim
     have back:∀(j i:Nat),WbS (WbV ops.toList []) j i=true->j<i:=λj i oc=>by
      have oi:WkD ops (λx=>x<i\/(x=i)):=λx o ho hx d hd=>by
       have:d<x:=hR.back x o ho d hd;omega
      refine Classical.byContradiction λhn=>?_;have ad:∀(l:List Oper) (acc:List (List Nat)),(∀(k:Nat) (o:Oper),l[k]?=some o->ops[acc.length+k]?=some o)->(∀i,∀j∈acc.getD i [],j<i)->∀i,∀j∈(WbV l acc).getD i [],j<i:=by
       intro l
       induction l with
       |nil=>intro acc _ h;exact h
       |cons o l ih=>
        intro acc hl h;refine ih _ (λk o' hk=>?_) (λi j hj=>?_)
        .have:=hl (k+1) o' (by simpa using hk);rw[Xo];have e:acc.length+(k+1)=acc.length+ [Wjm acc (Wk0 o) []].length+k:=by simp;omega
         rw[←e];exact this
        .rw[Xbz,Xan]at hj;split at hj
         .exact h i j (by rw[Xbz];exact hj)
         .by_cases he:i=acc.length
          .subst he;simp only[Xcs,Xdb,Xea]at hj;rcases(WgR _ _).1 hj with⟨k,hk,kd⟩|hj
           .have qg:k<acc.length:=hR.back acc.length o (hl 0 o (by simp)) k hk;rcases kd with rfl|kd
            .exact qg
            .have:=h k j kd;omega
           .cases hj
          .have:[Wjm acc (Wk0 o) []][i-acc.length]?=none:=Xbp (by simp;omega);rw[this]at hj;cases hj
      exact hn (ad ops.toList [] (λk o hk=>by simpa using hk) (λi j hj=>by simp at hj) i j ((Waq _ _).1 oc))
     have:=back m' m' hb;omega
    .
     have hm'l:m'∈p:=by
      rw[tW];rcases Xl.1 hm'u with h|h
      .refine Xat.2 ⟨h,?_⟩;exact(Xat.1 (by rw[e];simp[hm's]:m'∈l.filter (Wam ops))).2
      .simp at h;subst h;rw[e]at oh;have:=(Xaa.1 (Xac.1 oh).2.1).1;exact Ww hm's this
     rw[e]at oh;exact(Xac.1 oh).2.2 m' hm'l m' (Xe _ hm's) rfl
 obtain⟨L,g1,g2,g3⟩:=Wmy _ h _ hσ;have hL:=Wlz g1;obtain⟨rs,ac,q1,q2,q3,q4,_,_⟩:=Wjg _ _ _ _ g3;have hf:l.filter (Wam ops)=L.filter (Wam ops):=by
  rw[←g2];refine List.filter_congr λi hi=>?_;cases hm:Wam ops i with
  |true=>exact(Waq _ _).2 (Xat.2 ⟨(hl.all i).1 ((hL.all i).2 hi),hm⟩)
  |false=>
   cases he:WbB i (l.filter (Wam ops))with
   |false=>rfl
   |true=>
    have:=(Xat.1 ((Waq _ _).1 he)).2;rw[hm]at this;cases this
 have bM:Rel w0 F nt G0 G ν st a {w with drawn:=w.drawn+1}:=⟨hr.defers,hr.ntm,hr.par,hr.env,?_,hr.gx,hr.ex⟩
 .exact WoQ hT hΓ hd hl hL hR.one hR.slots hf q1 q2 q4 (λa w G ν hr=>hK ac a w G ν hr q3) bM
 .exact hr.h.drew
end
end Go.Sx
namespace Go.Sx
set_option linter.unusedVariables false
set_option linter.unusedSimpArgs false
section
variable{w0:World}{F:CS}{nt:Slots}{G0:GH}{P:Program}{T:Tab}{Γ:Ctx}{A:List (Nat×An)}{R:Type}{r:R}
theorem Wj3(hM:P.follows .mixedOrders=true)(hT:W5 P T)(hΓ:Wcy P Γ){n:Nat}{kept:List Nat}(hn:nt.n=n)(lL:∀p∈nt.kept,p.1∈kept){ann:Nat->List Ghost}{N:Nat}(dX:(∀x v,¬nt.ex x v)\/∀id,(ann id).all Ghost.quiet=true):∀(c:Code),Wcg n kept c=true->∀{k:Ex->St->Option R} {Q:Exit->Act->World->Prop},
  (∀e,Wog w0 F nt G0 (k e) r (Q e.to))->Wog w0 F nt G0 (λst=>sx T Γ ann N c st k) r (c.wp P Q)
 | .skip,_,k,Q,hK=>λst a w G ν hr h=>wp_skip (hK .normal st a w G ν hr h)
 | .exit id,_,k,Q,hK=>λst a w G ν hr h=>wp_exit (hK (.exit id) st a w G ν hr h)
 | .ret,_,k,Q,hK=>λst a w G ν hr h=>wp_ret (hK .ret st a w G ν hr h)
 | .region id ops draw,bv,k,Q,hK=>λst a w G ν hr h=>by
  have j8:Wog w0 F nt G0 (λac=>match Wbl (ann id) ac with|some (c,bn)=>bif c then k .normal bn else none|none=>none) r (Q .normal):=λac a' w' G' ν' bM h'=>by
   simp only at h';split at h'
   .rename_i c bn hg;obtain⟨rfl,h'⟩:=WQ h';obtain⟨G2,ν2,gX⟩:=WcE _ _ _ _ _ (dX.imp_right λh=>h _) bM hg;exact hK .normal _ _ _ _ _ gX h'
   .cases h'
  have oj:∀o∈ops,∀d,o.dst=some d->nt.Ok d:=λo ho=>WlF hn lL (Xab.1 bv o (by simpa using ho));cases draw with
  |true=>exact WqU hM hT hΓ oj j8 st a w G ν hr h
  |false=>exact wp_region_list (Wra hT hΓ ops.toList (λo ho=>oj o (by simpa using ho)) j8 st a w G ν hr h)
 | .seq x y,bv,k,Q,hK=>λst a w G ν hr h=>by
  simp only[Wcg,Xg]at bv;refine wp_seq (Wj3 hM hT hΓ hn lL dX x bv.1 (Q:=Exit.then (y.wp P Q) Q) (λe=>?_) st a w G ν hr h);cases e with
  |normal=>exact Wj3 hM hT hΓ hn lL dX y bv.2 hK
  |exit id=>exact hK (.exit id)
  |ret=>exact hK .ret
 | .cond c x y,bv,k,Q,hK=>λst a w G ν hr h=>by
  simp only[Wcg,Xg]at bv;simp only[sx]at h;split at h
  .rename_i b hb;cases hv:ev st c with
   |none=>simp[hv]at hb
   |some v=>
    simp only[hv,Xd]at hb;have hc:=Wlp v _ b (Wz hr c v hv) hb;refine wp_cond hc ?_;cases b with
    |true=>exact Wj3 hM hT hΓ hn lL dX x bv.1 hK st a w G ν hr h
    |false=>exact Wj3 hM hT hΓ hn lL dX y bv.2 hK st a w G ν hr h
  .cases h
 | .block id c,bv,k,Q,hK=>λst a w G ν hr h=>by
  simp only[Wcg]at bv;refine wp_block (Wj3 hM hT hΓ hn lL dX c bv (Q:=Exit.inBlock id Q) (λe=>?_) st a w G ν hr h);cases e with
  |normal=>exact hK .normal
  |exit bw=>
   intro ac a' w' G' ν' bM h';simp only[Ex.to,Exit.inBlock];split
   .rename_i he;simp only[he,W9]at h';exact hK .normal _ _ _ _ _ bM h'
   .rename_i he;simp only[he,Wae]at h';exact hK (.exit bw) _ _ _ _ _ bM h'
  |ret=>exact hK .ret
 | .loop c,bv,k,Q,hK=>λst a w G ν hr h=>by
  simp only[Wcg]at bv;refine wp_loop_rounds N ?_;have key:∀(m:Nat),Wog w0 F nt G0 (λst=>Wml (Wis (ann (WeA c)) λst k=>sx T Γ ann N c st k) m st k) r (Code.rounds P c Q m):=by
   intro m
   induction m with
   |zero=>intro st a w G ν hr h;cases h
   |succ m ih=>
    intro st a w G ν hr h;rw[rounds_succ];have h:sx T Γ ann N c st (λe ac=>match e with
     | .normal=>match Wbl (ann (WeA c)) ac with
      |some (b,bn)=>bif b then Wml (Wis (ann (WeA c)) λst k=>sx T Γ ann N c st k) m bn k else none
      |none=>none
     | .exit id=>k (.exit id) ac
     | .ret=>k .ret ac)=some r:=by
     rw[←h];simp only[Wml,Wis];congr 1
    refine Wj3 hM hT hΓ hn lL dX c bv (Q:=Exit.then (Code.rounds P c Q m) Q) (λe=>?_) st a w G ν hr h;cases e with
    |normal=>
     intro ac a' w' G' ν' bM h';simp only at h';split at h'
     .rename_i b bn hg;obtain⟨rfl,h'⟩:=WQ h';obtain⟨G2,ν2,gX⟩:=WcE _ _ _ _ _ (dX.imp_right λh=>h _) bM hg;exact ih _ _ _ _ _ gX h'
     .cases h'
    |exit id=>exact hK (.exit id)
    |ret=>exact hK .ret
  have h:(match Wbl (ann (WeA c)) st with
   |some (b,ac)=>bif b then Wml (Wis (ann (WeA c)) λst k=>sx T Γ ann N c st k) N ac k else none
   |none=>none)=some r:=h
  split at h
  .rename_i b ac hg;obtain⟨rfl,h⟩:=WQ h;obtain⟨G2,ν2,gX⟩:=WcE _ _ _ _ _ (dX.imp_right λh=>h _) hr hg;exact key N _ _ _ _ _ gX h
  .cases h
 | .scope ..,_,k,Q,hK=>λst a w G ν hr h=>by cases h
 | .label ..,_,k,Q,hK=>λst a w G ν hr h=>by cases h
 | .goto ..,_,k,Q,hK=>λst a w G ν hr h=>by cases h
 | .rangeFunc ..,_,k,Q,hK=>λst a w G ν hr h=>by cases h
 | .refuse ..,_,k,Q,hK=>λst a w G ν hr h=>by cases h
end
end Go.Sx
namespace Go.Sx
set_option linter.unusedVariables false
set_option linter.unusedSimpArgs false
section
variable{w0:World}{F:CS}{nt:Slots}{G0 G G':GH}{ν:Nat->Nu}{φ:Nat->CS}{objs:WZ}{nx af:Nat}{st ac:St}{a:Act}{w w':World}{P:Program}{T:Tab}{Γ:Ctx}
theorem WfQ:∀(xs:List AVal) (j i:Nat),Wj (Wbo j xs) i=if j<=i then xs[i-j]? else none
 | [],j,i=>by simp[Wbo,Wj]
 |x::xs,j,i=>by
  simp only[Wbo];rw[Wv,WfQ xs (j+1) i];by_cases h:j=i
  .subst h;simp
  .by_cases h2:j<=i
   .have h3:j+1<=i:=by omega
    rw[Wc h,We h3,We h2,show i-j=(i-(j+1))+1 by omega];rfl
   .rw[Wc h,Wc h2,Wc (by omega)]
theorem Wil:∀(l:List Nat),Wpi (WfD l)=l
 | []=>rfl
 |i::l=>by
  show i::Wpi (WfD l)=i::l;rw[Wil l]
theorem Win:∀(ps:List PTy) (d:Wea ps) (objs:WZ) (nx n:Nat),WhV ps n=true->∃ids,ids.length=n/\(WF ps d objs nx).1.take n=WfD ids
 |_,_,_,_,0,_=>⟨[],rfl,rfl⟩
 | [],_,_,_,_+1,h=>by cases h
 | .v _ _::_,_,_,_,_+1,h=>by cases h
 | .mut _::_,_,_,_,_+1,h=>by cases h
 | .clos _ _::_,_,_,_,_+1,h=>by cases h
 | .kv _ _::_,_,_,_,_+1,h=>by cases h
 | .rp _::_,_,_,_,_+1,h=>by cases h
 | .vj _::_,_,_,_,_+1,h=>by cases h
 | .boxal _ _::_,_,_,_,_+1,h=>by cases h
 | .box t::ps,d,objs,nx,n+1,h=>by
  obtain⟨ids,h1,h2⟩:=Win ps d.2 ((nx,.box (unfold t d.1 (nx+1)).1)::((unfold t d.1 (nx+1)).2.1++objs)) (unfold t d.1 (nx+1)).2.2 n h;refine⟨nx::ids,by simp[h1],?_⟩;simp only[WF,List.take_succ_cons,h2];rfl
theorem WbL:∀(ps:List PTy) (d:Wea ps) (vs:List Value) (ns:List Pc) (ks:List Nu) (objs:WZ) (nx af:Nat),WbJ ps=true->WaP G w ps d vs ns ks->At ν φ nx ns->nx+ns.length<=af->
  (WF ps d objs nx).2.2=nx+ns.length/\
  (∀id ob,Wj (WF ps d objs nx).2.1 id=some ob->(nx<=id/\id<nx+ns.length/\WbR G ν af w id (φ id) ob)\/Wj objs id=some ob)/\
  (WF ps d objs nx).1.length=vs.length/\∀(j:Nat) (x:AVal) (v:Value),(WF ps d objs nx).1[j]?=some x->vs[j]?=some v->AValRel G ν af x v
 | [],d,vs,ns,ks,objs,nx,af,_,⟨h1,h2,h3⟩,_,_=>by
  subst h1 h2;exact⟨rfl,λid ob h=>.inr h,rfl,λj x v h=>by simp[WF]at h⟩
 | .v t agg::ps,d,vs,ns,ks,objs,nx,af,dY,⟨v,aj,n1,n2,h1,h2,h3,h4⟩,hν,hx=>by
  subst h2;obtain⟨us,ig⟩:=WlV h3;have bz:=WR _ _ _ _ ig;have aa:(n1++n2).length=t.owns+n2.length:=by rw[Xo,bz]
  obtain⟨_,o1⟩:=Waa t d.1 nx us n1 ig hν.left;obtain⟨e1,e2,e3,e4⟩:=WbL ps d.2 aj n2 ks ((unfold t d.1 nx).2.1++objs) (nx+t.owns) af dY h4 (hν.right bz) (by omega);simp only[WF,Wap];refine⟨by rw[e1,aa];omega,λid ob hl=>?_,by rw[h1];simp[e3],λj x u hj hu=>?_⟩
  .rcases e2 id ob hl with⟨g1,g2,g3⟩|g
   .exact .inl ⟨by omega,by omega,g3⟩
   .rcases WA g with g|g
    .obtain⟨g1,g2,e,xs,rfl,g3⟩:=o1 id ob g;exact .inl ⟨g1,by omega,g3⟩
    .exact .inr g
  .rw[h1]at hu;cases j with
   |zero=>simp at hj hu;subst hj hu;exact WjH h3 hν.left (by omega)
   |succ j=>exact e4 j x u (by simpa using hj) (by simpa using hu)
 | .kv t agg::ps,d,vs,ns,ks,objs,nx,af,dY,⟨v,aj,n1,n2,ak,h1,h2,_,h3,h4⟩,hν,hx=>by
  subst h2;obtain⟨us,ig⟩:=WlV h3;have bz:=WR _ _ _ _ ig;have aa:(n1++n2).length=t.owns+n2.length:=by rw[Xo,bz]
  obtain⟨_,o1⟩:=Waa t d.1 nx us n1 ig hν.left;obtain⟨e1,e2,e3,e4⟩:=WbL ps d.2 aj n2 ak ((unfold t d.1 nx).2.1++objs) (nx+t.owns) af dY h4 (hν.right bz) (by omega);simp only[WF,Wap];refine⟨by rw[e1,aa];omega,λid ob hl=>?_,by rw[h1];simp[e3],λj x u hj hu=>?_⟩
  .rcases e2 id ob hl with⟨g1,g2,g3⟩|g
   .exact .inl ⟨by omega,by omega,g3⟩
   .rcases WA g with g|g
    .obtain⟨g1,g2,e,xs,rfl,g3⟩:=o1 id ob g;exact .inl ⟨g1,by omega,g3⟩
    .exact .inr g
  .rw[h1]at hu;cases j with
   |zero=>simp at hj hu;subst hj hu;exact WjH h3 hν.left (by omega)
   |succ j=>exact e4 j x u (by simpa using hj) (by simpa using hu)
 | .box t::ps,d,vs,ns,ks,objs,nx,af,dY,⟨b,o,aj,n1,n2,ak,h1,h2,h3,⟨us,aJ,ay,fC⟩,h6⟩,hν,hx=>by
  subst h2;have bz:=WR _ _ _ _ fC;have aa:((⟨Wbm b o,rng b o t.size⟩:Pc)::(n1++n2)).length=1+t.owns+n2.length:=by rw[Xn,Xo,bz];omega
  obtain⟨hν0,hφ0⟩:ν nx=Wbm b o/\φ nx=rng b o t.size:=by have:=hν 0 _ rfl;simpa using this
  have hν1:At ν φ (nx+1) (n1++n2):=hν.right (n1:=[⟨Wbm b o,rng b o t.size⟩]) rfl;obtain⟨c1,o1⟩:=Waa t d.1 (nx+1) us n1 fC hν1.left;have cH:=Wbr t d.1 (nx+1);obtain⟨e1,e2,e3,e4⟩:=WbL ps d.2 aj n2 ak ((nx,.box (unfold t d.1 (nx+1)).1)::((unfold t d.1 (nx+1)).2.1++objs)) (nx+1+t.owns) af dY h6 (hν1.right bz) (by omega);simp only[WF,Wap];refine⟨by rw[e1,aa];omega,λid ob hl=>?_,by rw[h1];simp[e3],λj x u hj hu=>?_⟩
  .rcases e2 id ob hl with⟨g1,g2,g3⟩|g
   .exact .inl ⟨by omega,by omega,g3⟩
   .rw[Wv]at g;split at g
    .rename_i e;subst e;injection g with g;subst g;exact .inl ⟨Xm _,by omega,b,us,by rw[hν0];rfl,by rw[hν0,cH];exact aJ,by rw[hν0];exact ay,c1 af (by omega),by rw[hν0,cH,hφ0];exactλ_ _ hh=>hh⟩
    .rcases WA g with g|g
     .obtain⟨g1,g2,e,xs,rfl,g3⟩:=o1 id ob g;exact .inl ⟨by omega,by omega,g3⟩
     .exact .inr g
  .rw[h1]at hu;cases j with
   |zero=>
    simp at hj hu;subst hj hu;exact⟨⟨by omega,b,by rw[hν0];rfl,by rw[hν0];rfl⟩,rfl⟩
   |succ j=>exact e4 j x u (by simpa using hj) (by simpa using hu)
 | .vj _::_,_,_,_,_,_,_,_,_,h,_,_=>h.elim
 | .boxal t lf::ps,d,vs,ns,ks,objs,nx,af,dY,⟨b,o,b',pc,aj,n1,n2,ak,h1,h2,h3,⟨us,aJ,ay,fC⟩,h4,h5,h7,h6⟩,hν,hx=>by
  subst h2;have bz:=WR _ _ _ _ fC;have aa:((⟨Wbm b o,rng b o t.size⟩:Pc)::(n1++n2)).length=1+t.owns+n2.length:=by rw[Xn,Xo,bz];omega
  obtain⟨hν0,hφ0⟩:ν nx=Wbm b o/\φ nx=rng b o t.size:=by have:=hν 0 _ rfl;simpa using this
  have hν1:At ν φ (nx+1) (n1++n2):=hν.right (n1:=[⟨Wbm b o,rng b o t.size⟩]) rfl;obtain⟨c1,o1⟩:=Waa t d.1 (nx+1) us n1 fC hν1.left;have cH:=Wbr t d.1 (nx+1);have sA:lf<n1.length:=(Xz.1 h4).1;have hνl:ν (nx+1+lf)=pc.nu:=(hν1.left lf pc h4).1;obtain⟨e1,e2,e3,e4⟩:=WbL ps d.2.2 aj n2 ak ((nx,.box (unfold t d.1 (nx+1)).1)::((unfold t d.1 (nx+1)).2.1++objs)) (nx+1+t.owns) af dY h6 (hν1.right bz) (by omega);simp only[WF,Wap];refine⟨by rw[e1,aa];omega,λid ob hl=>?_,by rw[h1];simp[e3],λj x u hj hu=>?_⟩
  .rcases e2 id ob hl with⟨g1,g2,g3⟩|g
   .exact .inl ⟨by omega,by omega,g3⟩
   .rw[Wv]at g;split at g
    .rename_i e;subst e;injection g with g;subst g;exact .inl ⟨Xm _,by omega,b,us,by rw[hν0];rfl,by rw[hν0,cH];exact aJ,by rw[hν0];exact ay,c1 af (by omega),by rw[hν0,cH,hφ0];exactλ_ _ hh=>hh⟩
    .rcases WA g with g|g
     .obtain⟨g1,g2,e,xs,rfl,g3⟩:=o1 id ob g;exact .inl ⟨by omega,by omega,g3⟩
     .exact .inr g
  .rw[h1]at hu
   match j with
   |0=>
    simp at hj hu;subst hj hu;exact⟨⟨by omega,b,by rw[hν0];rfl,by rw[hν0];rfl⟩,rfl⟩
   |1=>
    simp at hj hu;subst hj hu;exact⟨⟨by omega,by rw[hνl];exact h7,b',by rw[hνl];exact h5,by rw[hνl];rfl⟩,rfl⟩
   |j+2=>exact e4 j x u (by simpa using hj) (by simpa using hu)
 | .rp t::ps,d,vs,ns,ks,objs,nx,af,dY,⟨b,o,us,aj,h1,h2,h3,h4⟩,hν,hx=>by
  obtain⟨e1,e2,e3,e4⟩:=WbL ps d.2 aj ns ks objs nx af dY h4 hν hx;simp only[WF];refine⟨e1,e2,by rw[h1];simp[e3],λj x u hj hu=>?_⟩;rw[h1]at hu;cases j with
  |zero=>
   simp at hj hu;subst hj hu;exact⟨⟨b,o,us,by rw[Xay],h2,h3⟩,rfl⟩
  |succ j=>exact e4 j x u (by simpa using hj) (by simpa using hu)
 | .mut e::ps,d,vs,ns,ks,objs,nx,af,dY,⟨pc,aj,n2,ak,h1,h2,h3,h4,h5⟩,hν,hx=>by
  subst h2;have aa:(pc::n2).length=1+n2.length:=by rw[Xn];omega
  obtain⟨hν0,hφ0⟩:ν nx=pc.nu/\φ nx=pc.fp:=by have:=hν 0 _ rfl;simpa using this
  obtain⟨e1,e2,e3,e4⟩:=WbL ps d.2 aj n2 ak ((nx,.arr e d.1)::objs) (nx+1) af dY h5 (hν.right (n1:=[pc]) rfl) (by omega);simp only[WF];refine⟨by rw[e1,aa];omega,λid ob hl=>?_,by rw[h1];simp[e3],λj x u hj hu=>?_⟩
  .rcases e2 id ob hl with⟨g1,g2,g3⟩|g
   .exact .inl ⟨by omega,by omega,g3⟩
   .rw[Wv]at g;split at g
    .rename_i e;subst e;injection g with g;subst g;refine .inl ⟨Xm _,by omega,?_⟩;show Wa9 w (Wm G w _) _ (ν nx) d.1 (φ nx);rw[hν0,hφ0];exact h4
    .exact .inr g
  .rw[h1]at hu;cases j with
   |zero=>
    simp at hj hu;subst hj hu;exact⟨⟨by omega,by rw[hν0]⟩,WgP _⟩
   |succ j=>exact e4 j x u (by simpa using hj) (by simpa using hu)
 | .clos g n::ps,d,vs,ns,ks,objs,nx,af,dY,⟨cvs,aj,h1,h2,h3,h4⟩,hν,hx=>by
  simp only[WbJ,Xg]at dY;obtain⟨e1,e2,e3,e4⟩:=WbL ps d (cvs++aj) ns ks objs nx af dY.2 h4 hν hx;obtain⟨ids,g1,g2⟩:=Win ps d objs nx n dY.1;simp only[WF];rw[g2,Wil];have aa:(WF ps d objs nx).1.length=n+aj.length:=by rw[e3,Xo,h2]
  have qJ:∀(j id:Nat),ids[j]?=some id->(WF ps d objs nx).1[j]?=some (AVal.s (.one (.ptr id 0))):=λj id hj=>by
   have ad:j<n:=by rw[←g1];exact(Xz.1 hj).1
   have:((WF ps d objs nx).1.take n)[j]?=some (.s (.one (.ptr id 0))):=by rw[g2];simp[WfD,hj]
   rw[List.getElem?_take,We ad]at this;exact this
  refine⟨e1,e2,by rw[h1];simp[aa],λj x u hj hu=>?_⟩;rw[h1]at hu;cases j with
  |zero=>
   simp at hj hu;subst hj hu;refine⟨⟨cvs,rfl,by rw[h2,g1],λj id u hj hu=>?_⟩,rfl⟩;have ad:j<cvs.length:=(Xz.1 hu).1;obtain⟨⟨q1,q2⟩,q3⟩:=e4 j _ u (qJ j id hj) (by rw[List.getElem?_append_left ad];exact hu);exact⟨q1,q3,q2⟩
  |succ j=>
   have d4:(WF ps d objs nx).1[n+j]?=some x:=by
    rw[←List.getElem?_drop];simpa using hj
   exact e4 (n+j) x u d4 (by rw[Xbr (by omega),h2,Xbq];simpa using hu)
theorem Wcj:∀(ps:List PTy) (d:Wea ps) (vs:List Value) (ns:List Pc) (ks:List Nu),WaP G w ps d vs ns ks->vs.length<=Wbj ps
 | [],d,vs,ns,ks,⟨h1,_,_⟩=>by rw[h1];exact Xm _
 | .v t agg::ps,d,vs,ns,ks,⟨v,aj,n1,n2,h1,h2,h3,h4⟩=>by rw[h1,Xn];have:=Wcj ps _ _ _ _ h4;simp only[Wbj];omega
 | .box t::ps,d,vs,ns,ks,⟨b,o,aj,n1,n2,ak,h1,h2,h3,h4,h6⟩=>by rw[h1,Xn];have:=Wcj ps _ _ _ _ h6;simp only[Wbj];omega
 | .mut e::ps,d,vs,ns,ks,⟨pc,aj,n2,ak,h1,h2,h3,h4,h5⟩=>by rw[h1,Xn];have:=Wcj ps _ _ _ _ h5;simp only[Wbj];omega
 | .clos g n::ps,d,vs,ns,ks,⟨cvs,aj,h1,h2,h3,h4⟩=>by rw[h1,Xn];have:=Wcj ps _ _ _ _ h4;simp at this;simp only[Wbj];omega
 | .kv t agg::ps,d,vs,ns,ks,⟨v,aj,n1,n2,ak,h1,h2,ij,h3,h4⟩=>by rw[h1,Xn];have:=Wcj ps _ _ _ _ h4;simp only[Wbj];omega
 | .rp t::ps,d,vs,ns,ks,⟨b,o,us,aj,h1,h2,h3,h4⟩=>by rw[h1,Xn];have:=Wcj ps _ _ _ _ h4;simp only[Wbj];omega
 | .vj _::_,_,_,_,_,h=>h.elim
 | .boxal t lf::ps,d,vs,ns,ks,⟨b,o,b',pc,aj,n1,n2,ak,h1,h2,h3,h4,h5,h6,h7,h8⟩=>by rw[h1,Xn,Xn];have:=Wcj ps _ _ _ _ h8;simp only[Wbj];omega
def WlQ(i:Nat)(vs:List Value):List (Nat×Value):=match vs with
 |v::_=>[(i,v)]
 | []=>[]
def Wx:List PTy->Nat->Nat->List Value->List (Nat×Value)
 | [],_,_,_=>[]
 |_::ps,i,k+1,vs=>Wx ps i k vs
 | .v _ _::ps,i,0,vs=>Wx ps (i+1) 0 vs.tail
 | .box _::ps,i,0,vs=>WlQ i vs++Wx ps (i+1) 0 vs.tail
 | .mut _::ps,i,0,vs=>WlQ i vs++Wx ps (i+1) 0 vs.tail
 | .clos _ n::ps,i,0,vs=>WlQ i vs++Wx ps (i+1) n vs.tail
 | .kv _ _::ps,i,0,vs=>WlQ i vs++Wx ps (i+1) 0 vs.tail
 | .rp _::ps,i,0,vs=>Wx ps (i+1) 0 vs.tail
 | .vj _::ps,i,0,vs=>Wx ps (i+1) 0 vs.tail
 | .boxal _ _::ps,i,0,vs=>WlQ i vs++Wx ps (i+2) 0 vs.tail.tail
theorem WaV{i:Nat}{vs:List Value}{p:Nat×Value}(h:p∈WlQ i vs):p.1=i/\vs[0]?=some p.2:=by
 unfold WlQ at h;split at h
 .simp at h;subst h;exact⟨rfl,rfl⟩
 .cases h
theorem WI:∀(ps:List PTy) (i k:Nat) (vs:List Value),∀p∈Wx ps i k vs,p.1∈Wdd ps i k
 | [],_,_,_,p,h=>by simp[Wx]at h
 | .v _ _::ps,i,k+1,vs,p,h=>WI ps i k vs p h
 | .box _::ps,i,k+1,vs,p,h=>WI ps i k vs p h
 | .mut _::ps,i,k+1,vs,p,h=>WI ps i k vs p h
 | .clos _ _::ps,i,k+1,vs,p,h=>WI ps i k vs p h
 | .v _ _::ps,i,0,vs,p,h=>WI ps (i+1) 0 vs.tail p h
 | .box _::ps,i,0,vs,p,h=>by
  simp only[Wx]at h;rcases Xl.1 h with h|h
  .rw[(WaV h).1];exact Xh ..
  .exact Xe _ (WI ps (i+1) 0 vs.tail p h)
 | .mut _::ps,i,0,vs,p,h=>by
  simp only[Wx]at h;rcases Xl.1 h with h|h
  .rw[(WaV h).1];exact Xh ..
  .exact Xe _ (WI ps (i+1) 0 vs.tail p h)
 | .clos _ n::ps,i,0,vs,p,h=>by
  simp only[Wx]at h;rcases Xl.1 h with h|h
  .rw[(WaV h).1];exact Xh ..
  .exact Xe _ (WI ps (i+1) n vs.tail p h)
 | .kv _ _::ps,i,k+1,vs,p,h=>WI ps i k vs p h
 | .kv _ _::ps,i,0,vs,p,h=>by
  simp only[Wx]at h;rcases Xl.1 h with h|h
  .rw[(WaV h).1];exact Xh ..
  .exact Xe _ (WI ps (i+1) 0 vs.tail p h)
 | .rp _::ps,i,k+1,vs,p,h=>WI ps i k vs p h
 | .rp _::ps,i,0,vs,p,h=>WI ps (i+1) 0 vs.tail p h
 | .vj _::ps,i,k+1,vs,p,h=>WI ps i k vs p h
 | .vj _::ps,i,0,vs,p,h=>WI ps (i+1) 0 vs.tail p h
 | .boxal _ _::ps,i,k+1,vs,p,h=>WI ps i k vs p h
 | .boxal _ _::ps,i,0,vs,p,h=>by
  simp only[Wx]at h;rcases Xl.1 h with h|h
  .rw[(WaV h).1];exact Xh ..
  .exact Xe _ (WI ps (i+2) 0 vs.tail.tail p h)
theorem WE:∀(ps:List PTy) (i k:Nat) (vs:List Value),∀p∈Wx ps i k vs,i<=p.1/\vs[p.1-i]?=some p.2
 | [],_,_,_,p,h=>by simp[Wx]at h
 | .v _ _::ps,i,k+1,vs,p,h=>WE ps i k vs p h
 | .box _::ps,i,k+1,vs,p,h=>WE ps i k vs p h
 | .mut _::ps,i,k+1,vs,p,h=>WE ps i k vs p h
 | .clos _ _::ps,i,k+1,vs,p,h=>WE ps i k vs p h
 | .v _ _::ps,i,0,vs,p,h=>by
  obtain⟨h1,h2⟩:=WE ps (i+1) 0 vs.tail p h;refine⟨by omega,?_⟩;rw[show p.1-i=(p.1-(i+1))+1 by omega,←Xbx];exact h2
 | .box _::ps,i,0,vs,p,h=>by
  simp only[Wx]at h;rcases Xl.1 h with h|h
  .obtain⟨h1,h2⟩:=WaV h;rw[h1];exact⟨Xm _,by rw[Xcs];exact h2⟩
  .obtain⟨h1,h2⟩:=WE ps (i+1) 0 vs.tail p h;refine⟨by omega,?_⟩;rw[show p.1-i=(p.1-(i+1))+1 by omega,←Xbx];exact h2
 | .mut _::ps,i,0,vs,p,h=>by
  simp only[Wx]at h;rcases Xl.1 h with h|h
  .obtain⟨h1,h2⟩:=WaV h;rw[h1];exact⟨Xm _,by rw[Xcs];exact h2⟩
  .obtain⟨h1,h2⟩:=WE ps (i+1) 0 vs.tail p h;refine⟨by omega,?_⟩;rw[show p.1-i=(p.1-(i+1))+1 by omega,←Xbx];exact h2
 | .clos _ n::ps,i,0,vs,p,h=>by
  simp only[Wx]at h;rcases Xl.1 h with h|h
  .obtain⟨h1,h2⟩:=WaV h;rw[h1];exact⟨Xm _,by rw[Xcs];exact h2⟩
  .obtain⟨h1,h2⟩:=WE ps (i+1) n vs.tail p h;refine⟨by omega,?_⟩;rw[show p.1-i=(p.1-(i+1))+1 by omega,←Xbx];exact h2
 | .kv _ _::ps,i,k+1,vs,p,h=>WE ps i k vs p h
 | .kv _ _::ps,i,0,vs,p,h=>by
  simp only[Wx]at h;rcases Xl.1 h with h|h
  .obtain⟨h1,h2⟩:=WaV h;rw[h1];exact⟨Xm _,by rw[Xcs];exact h2⟩
  .obtain⟨h1,h2⟩:=WE ps (i+1) 0 vs.tail p h;refine⟨by omega,?_⟩;rw[show p.1-i=(p.1-(i+1))+1 by omega,←Xbx];exact h2
 | .rp _::ps,i,k+1,vs,p,h=>WE ps i k vs p h
 | .rp _::ps,i,0,vs,p,h=>by
  obtain⟨h1,h2⟩:=WE ps (i+1) 0 vs.tail p h;refine⟨by omega,?_⟩;rw[show p.1-i=(p.1-(i+1))+1 by omega,←Xbx];exact h2
 | .vj _::ps,i,k+1,vs,p,h=>WE ps i k vs p h
 | .vj _::ps,i,0,vs,p,h=>by
  obtain⟨h1,h2⟩:=WE ps (i+1) 0 vs.tail p h;refine⟨by omega,?_⟩;rw[show p.1-i=(p.1-(i+1))+1 by omega,←Xbx];exact h2
 | .boxal _ _::ps,i,k+1,vs,p,h=>WE ps i k vs p h
 | .boxal _ _::ps,i,0,vs,p,h=>by
  simp only[Wx]at h;rcases Xl.1 h with h|h
  .obtain⟨h1,h2⟩:=WaV h;rw[h1];exact⟨Xm _,by rw[Xcs];exact h2⟩
  .obtain⟨h1,h2⟩:=WE ps (i+2) 0 vs.tail.tail p h;refine⟨by omega,?_⟩;rw[show p.1-i=(p.1-(i+2))+1+1 by omega,←Xbx,←Xbx];exact h2
def Wg8(tmps:Array Value):ResultVar->Sem Value
 | .tmp t=>pure (tmps.getD t undef)
 | .cell b t=>do loadVar t (←asAddr (tmps.getD b undef))
theorem Wgd(hT:W5 P T)(hr:Rel w0 F nt G0 G ν st a w):∀(l:List ResultVar) (xs:List AVal),Wch T st l=some xs->
  ∃vs:List Value,(l.mapM (Wg8 a.tmps)).run P w= .ok vs w/\vs.length=xs.length/\
   ∀(j:Nat) (x:AVal) (v:Value),xs[j]?=some x->vs[j]?=some v->AValRel G ν st.nx x v
 | [],xs,h=>by
  simp only[Wch]at h;injection h with h;subst h;exact⟨[],by simp,rfl,λj x v hj=>by simp at hj⟩
 | .tmp t::l,xs,h=>by
  simp only[Wch]at h;split at h
  .rename_i x pw h1 h2;injection h with h;subst h;obtain⟨vs,h3,h4,h5⟩:=Wgd hT hr l pw h2;obtain⟨v,hv,hx⟩:=hr.env t x h1;refine⟨v::vs,?_,by simp[h4],λj y u hj hu=>?_⟩
   .have gZ:a.tmps.getD t undef=v:=by simp[Xck,hv]
    simp only[Xep,Sem.run_bind,Wg8,Sem.run_pure,Result.andThen_ok,h3,gZ]
   .cases j with
    |zero=>simp at hj hu;subst hj hu;exact hx
    |succ j=>exact h5 j y u (by simpa using hj) (by simpa using hu)
  .cases h
 | .cell b t::l,xs,h=>by
  simp only[Wch]at h;split at h
  .rename_i x pw h1 h2;injection h with h;subst h;obtain⟨vs,h3,h4,h5⟩:=Wgd hT hr l pw h2;cases hb:Wj st.env b with
   |none=>simp[hb]at h1
   |some y=>
    simp only[hb,Xd]at h1;obtain⟨v,hv,hx⟩:=hr.env b y hb;obtain⟨u,hu,tX⟩:=WfL hT hr.h hx h1;refine⟨u::vs,?_,by simp[h4],λj z q hj hq=>?_⟩
    .have gZ:a.tmps.getD b undef=v:=by simp[Xck,hv]
     unfold Instr.loadAt at hu;rw[Sem.run_bind]at hu;obtain⟨p,rfl⟩:∃p,v= .pointer (some p):=by
      unfold Instr.sureAddr at hu;split at hu
      .exact⟨_,rfl⟩
      .simp[stuck]at hu
     simp only[Instr.sureAddr,Sem.run_pure,Result.andThen_ok]at hu;have ha:(asAddr (.pointer (some p))).run P w= .ok p w:=rfl;simp only[Xep,Sem.run_bind,Wg8,Sem.run_pure,Result.andThen_ok,gZ,ha,hu,h3]
    .cases j with
     |zero=>simp at hj hq;subst hj hq;exact tX
     |succ j=>exact h5 j z q (by simpa using hj) (by simpa using hq)
  .cases h
theorem WcS(h:HR w0 F G ν φ objs nx w)(hg:GLe G G'):∀(rs:List PTy) (xs:List AVal) (vs:List Value) (A:Outs (Wfj rs)),vs.length=xs.length->
  (∀(j:Nat) (x:AVal) (v:Value),xs[j]?=some x->vs[j]?=some v->AValRel G ν nx x v)->Lent G' w φ objs A.lent->A.moved.Nodup->WaB rs xs objs=some A->
  ∃ns,We8 G' w rs A.d vs ns/\Sep (fps ns)/\(∀q∈ns,CS.le q.fp (FromL φ objs A.moved))/\(∀i∈A.moved,Live objs i)
 | [],xs,vs,A,aa,hx,hl,aH,hf=>by
  simp only[WaB]at hf;split at hf
  .injection hf with hf;subst hf;have ee:vs= []:=Xu (by simpa using aa);exact⟨[],⟨ee,rfl⟩,List.Pairwise.nil,by simp,by simp⟩
  .cases hf
 | .v t agg::rs,xs,vs,A,aa,hx,hl,aH,hf=>by
  simp only[WaB]at hf;split at hf
  .rename_i x xs;split at hf
   .rename_i d m l A' h1 h2;injection hf with hf;subst hf
    match vs,aa with
    |v::vs,aa=>
     cases hc:cellsOf agg x with
     |none=>simp[hc]at h1
     |some cs=>
      simp[hc]at h1;obtain⟨k1,k2,k3⟩:=Xac.1 aH;obtain⟨n1,g1,g2,g3,g4,_⟩:=Wju h hg (hx 0 x v rfl rfl) (hl.mono (λi hi=>Xj _ hi)) k1 hc h1;obtain⟨n2,g5,g6,g7,g8⟩:=WcS h hg rs xs vs A' (by simpa using aa) (λj y u hj hu=>hx (j+1) y u (by simpa using hj) (by simpa using hu)) (hl.mono (λi hi=>Xf _ hi)) k2 h2;refine⟨n1++n2,⟨v,vs,n1,n2,rfl,rfl,g1,g5⟩,Wbz h g2 g6 g3 g7 (λi hi hj=>k3 i hi i hj rfl),λq hq=>?_,λi hi=>?_⟩
      .rcases Xl.1 hq with hq|hq
       .exactλb o hh=>FromL.mono (λi hi=>Xj _ hi) b o (g3 q hq b o hh)
       .exactλb o hh=>FromL.mono (λi hi=>Xf _ hi) b o (g7 q hq b o hh)
      .rcases Xl.1 hi with hi|hi
       .exact g4 i hi
       .exact g8 i hi
   .cases hf
  .cases hf
 | .box t::rs,xs,vs,A,aa,hx,hl,aH,hf=>by
  simp only[WaB]at hf;split at hf
  .rename_i id xs;split at hf
   .rename_i cs aR;split at hf
    .rename_i d m l A' h1 h2;injection hf with hf;subst hf
     match vs,aa with
     |v::vs,aa=>
      obtain⟨k0,k1⟩:=Xaa.1 aH;obtain⟨k2,k3,k4⟩:=Xac.1 k1;obtain⟨⟨_,b,hνb,rfl⟩,_⟩:=hx 0 _ v rfl rfl;have ax:Live objs id:=⟨_,aR,by simp⟩;obtain⟨b'',us,kj,aJ,ay,bk,dW⟩:WbR G ν nx w id (φ id) (.box cs):=h.ob _ _ aR;rw[hνb]at kj;injection kj with kj;subst kj;obtain⟨n1,g1,g2,g3,g4,_⟩:=W2 h hg t cs us d m l bk (hl.mono (λi hi=>Xj _ hi)) k2 h1;have cH:cs.length=t.size:=by rw[←bk.1];exact Wu _ _ _ _ g1
      obtain⟨n2,g5,g6,g7,g8⟩:=WcS h hg rs xs vs A' (by simpa using aa) (λj y u hj hu=>hx (j+1) y u (by simpa using hj) (by simpa using hu)) (hl.mono (λi hi=>Xf _ hi)) k3 h2;rw[cH]at aJ dW;refine⟨⟨Wbm b ((ν id).off+0),rng b ((ν id).off+0) t.size⟩::(n1++n2),⟨b,(ν id).off+0,vs,n1,n2,rfl,rfl,⟨us,aJ,ay,g1⟩,g5⟩,?_,λq hq=>?_,λi hi=>?_⟩
      .refine Wbz h (n1:=[⟨Wbm b ((ν id).off+0),rng b ((ν id).off+0) t.size⟩]) (m:=[id]) (l:=m++A'.moved) (Xbd _ _) (Wbz h g2 g6 g3 g7 (λi hi hj=>k4 i hi i hj rfl)) (λq hq=>?_) (λq hq=>?_) (λi hi hj=>k0 (by rw[←Xaf.1 hi];exact hj))
       .rw[Xaf.1 hq];exactλb o hh=>⟨id,by simp,ax,dW b o hh⟩
       .rcases Xl.1 hq with hq|hq
        .exactλb o hh=>FromL.mono (λi hi=>Xj _ hi) b o (g3 q hq b o hh)
        .exactλb o hh=>FromL.mono (λi hi=>Xf _ hi) b o (g7 q hq b o hh)
      .rcases Xq.1 hq with rfl|hq
       .exactλb o hh=>⟨id,by simp,ax,dW b o hh⟩
       .rcases Xl.1 hq with hq|hq
        .exactλb o hh=>FromL.mono (λi hi=>Xe _ (Xj _ hi)) b o (g3 q hq b o hh)
        .exactλb o hh=>FromL.mono (λi hi=>Xe _ (Xf _ hi)) b o (g7 q hq b o hh)
      .rcases Xq.1 hi with rfl|hi
       .exact ax
       .rcases Xl.1 hi with hi|hi
        .exact g4 i hi
        .exact g8 i hi
    .cases hf
   .cases hf
  .cases hf
 | .mut _::_,_,_,_,_,_,_,_,h=>by simp only[WaB]at h;cases h
 | .clos _ _::_,_,_,_,_,_,_,_,h=>by simp only[WaB]at h;cases h
 | .kv _ _::_,_,_,_,_,_,_,_,h=>by simp only[WaB]at h;cases h
 | .rp _::_,_,_,_,_,_,_,_,h=>by simp only[WaB]at h;cases h
 | .vj t::rs,xs,vs,A,aa,hx,hl,aH,hf=>by
  simp only[WaB]at hf;split at hf
  .rename_i cs xs;split at hf
   .rename_i cK;split at hf
    .rename_i d m l A' h1 h2;injection hf with hf;subst hf
     match vs,aa with
     |v::vs,aa=>
      obtain⟨k1,k2,k3⟩:=Xac.1 aH;obtain⟨us,rfl,bk⟩:=hx 0 _ v rfl rfl;obtain⟨n1,g1,g2,g3,g4,_⟩:=W2 h hg t (cs.take t.size) (us.take t.size) d m l (bk.take t.size) (hl.mono (λi hi=>Xj _ hi)) k1 h1;obtain⟨n2,g5,g6,g7,g8⟩:=WcS h hg rs xs vs A' (by simpa using aa) (λj y u hj hu=>hx (j+1) y u (by simpa using hj) (by simpa using hu)) (hl.mono (λi hi=>Xf _ hi)) k2 h2;have cH:us.length=t.size+1:=by rw[bk.1,cK]
      have ad:t.size<us.length:=by omega
      have e0:us=us.take t.size++ [us[t.size]]:=by
       rw[←List.take_succ_eq_append_getElem ad,Xde (by omega)]
      have ho:=(bk.2 t.size (cs[t.size]'(by omega)) us[t.size] (Xp (by omega)) (Xp ad)).2;refine⟨n1++n2,⟨us.take t.size,us[t.size],vs,n1,n2,by rw[←e0],ho,rfl,g1,g5⟩,Wbz h g2 g6 g3 g7 (λi hi hj=>k3 i hi i hj rfl),λq hq=>?_,λi hi=>?_⟩
      .rcases Xl.1 hq with hq|hq
       .exactλb o hh=>FromL.mono (λi hi=>Xj _ hi) b o (g3 q hq b o hh)
       .exactλb o hh=>FromL.mono (λi hi=>Xf _ hi) b o (g7 q hq b o hh)
      .rcases Xl.1 hi with hi|hi
       .exact g4 i hi
       .exact g8 i hi
    .cases hf
   .cases hf
  .cases hf
 | .boxal _ _::_,_,_,_,_,_,_,_,h=>by simp only[WaB]at h;cases h
theorem Wlt{p:PTy}{ps:List PTy}{k:Nat}(h:WhV (p::ps) (k+1)=true):(∃t,p= .box t)/\WhV ps k=true:=by
 cases p with
 |box t=>exact⟨⟨t,rfl⟩,h⟩
 |_=>cases h
theorem WeH(hr:Rel w0 F nt G0 G ν st a w){i:Nat}{u:Value}(hp:a.tmps[i]?=some u):(Wj st.env i).getD (.tup [])= .tup []\/AValRel G ν st.nx ((Wj st.env i).getD (.tup [])) u:=by
 cases he:Wj st.env i with
 |none=>exact .inl rfl
 |some y=>
  obtain⟨v,hv,hx⟩:=hr.env i y he;rw[hp]at hv;injection hv with hv;subst hv;exact .inr hx
theorem Wah{wb:World}{Gb:GH}(hr:Rel w0 F nt G0 G ν st a w):∀(ps:List PTy) (d:Wea ps) (vs:List Value) (ns:List Pc) (ks:List Nu) (i k:Nat),WaP Gb wb ps d vs ns ks->WbJ ps=true->WhV ps k=true->k<=vs.length->
  (∀p∈Wx ps i k (vs.drop k),a.tmps[p.1]?=some p.2)->(Wq ps i k st).length+k=vs.length/\
  ∀(j:Nat) (x:AVal) (v:Value),(Wq ps i k st)[j]?=some x->vs[k+j]?=some v->x= .tup []\/AValRel G ν st.nx x v
 | [],d,vs,ns,ks,i,k,⟨h1,_,_⟩,_,_,hk,_=>by
  subst h1;have:k=0:=by simpa using hk
  subst this;exact⟨rfl,λj x v hj=>by simp[Wq]at hj⟩
 |p::ps,d,vs,ns,ks,i,k+1,h,hc,hb,hk,hp=>by
  obtain⟨⟨t,rfl⟩,bV⟩:=Wlt hb;obtain⟨b,o,aj,n1,n2,ak,h1,h2,h3,h4,h6⟩:=h;subst h1;have iP:WbJ ps=true:=hc;obtain⟨e1,e2⟩:=Wah hr ps d.2 aj n2 ak i k h6 iP bV (by simpa using hk) (by simpa [Wx]using hp);refine⟨by simp only[Wq,Xn];omega,λj x v hj hv=>e2 j x v (by simpa [Wq]using hj) ?_⟩;rw[show k+1+j=(k+j)+1 by omega]at hv;simpa using hv
 | .v t agg::ps,d,vs,ns,ks,i,0,⟨v,aj,n1,n2,h1,h2,h3,h4⟩,hc,_,_,hp=>by
  subst h1;obtain⟨e1,e2⟩:=Wah hr ps d.2 aj n2 ks (i+1) 0 h4 hc (by cases ps<;>rfl) (Xcb _) (by simpa [Wx]using hp);refine⟨by simp only[Wq,Xn];omega,λj x u hj hu=>?_⟩;cases j with
  |zero=>simp[Wq]at hj;exact .inl hj.symm
  |succ j=>exact e2 j x u (by simpa [Wq]using hj) (by simpa using hu)
 | .rp t::ps,d,vs,ns,ks,i,0,⟨b,o,us,aj,h1,h2,h3,h4⟩,hc,_,_,hp=>by
  subst h1;obtain⟨e1,e2⟩:=Wah hr ps d.2 aj ns ks (i+1) 0 h4 hc (by cases ps<;>rfl) (Xcb _) (by simpa [Wx]using hp);refine⟨by simp only[Wq,Xn];omega,λj x u hj hu=>?_⟩;cases j with
  |zero=>simp[Wq]at hj;exact .inl hj.symm
  |succ j=>exact e2 j x u (by simpa [Wq]using hj) (by simpa using hu)
 | .box t::ps,d,vs,ns,ks,i,0,⟨b,o,aj,n1,n2,ak,h1,h2,h3,h4,h6⟩,hc,_,_,hp=>by
  subst h1;simp only[Wx,Xca,Xdw]at hp;obtain⟨e1,e2⟩:=Wah hr ps d.2 aj n2 ak (i+1) 0 h6 hc (by cases ps<;>rfl) (Xcb _) (λp fN=>hp p (Xf _ (by simpa using fN)));refine⟨by simp only[Wq,Xn];omega,λj x u hj hu=>?_⟩;cases j with
  |zero=>
   simp[Wq]at hj hu;subst hj hu;exact WeH hr (hp (i,_) (Xj _ (Xh ..)))
  |succ j=>exact e2 j x u (by simpa [Wq]using hj) (by simpa using hu)
 | .vj _::_,_,_,_,_,_,_,h,_,_,_,_=>h.elim
 | .boxal t lf::ps,d,vs,ns,ks,i,0,⟨b,o,b',pc,aj,n1,n2,ak,h1,h2,h3,h4,h5,h6,h7,h8⟩,hc,_,_,hp=>by
  subst h1;simp only[Wx,Xca,Xdw]at hp;obtain⟨e1,e2⟩:=Wah hr ps d.2.2 aj n2 ak (i+2) 0 h8 hc (by cases ps<;>rfl) (Xcb _) (λp fN=>hp p (Xf _ (by simpa using fN)));refine⟨by simp only[Wq,Xn];omega,λj x u hj hu=>?_⟩
  match j with
  |0=>
   simp[Wq]at hj hu;subst hj hu;exact WeH hr (hp (i,_) (Xj _ (Xh ..)))
  |1=>simp[Wq]at hj;exact .inl hj.symm
  |j+2=>exact e2 j x u (by simpa [Wq]using hj) (by simpa using hu)
 | .mut e::ps,d,vs,ns,ks,i,0,⟨pc,aj,n2,ak,h1,h2,h3,h4,h5⟩,hc,_,_,hp=>by
  subst h1;simp only[Wx,Xca,Xdw]at hp;obtain⟨e1,e2⟩:=Wah hr ps d.2 aj n2 ak (i+1) 0 h5 hc (by cases ps<;>rfl) (Xcb _) (λp fN=>hp p (Xf _ (by simpa using fN)));refine⟨by simp only[Wq,Xn];omega,λj x u hj hu=>?_⟩;cases j with
  |zero=>
   simp[Wq]at hj hu;subst hj hu;exact WeH hr (hp (i,_) (Xj _ (Xh ..)))
  |succ j=>exact e2 j x u (by simpa [Wq]using hj) (by simpa using hu)
 | .clos g n::ps,d,vs,ns,ks,i,0,⟨cvs,aj,h1,h2,h3,h4⟩,hc,_,_,hp=>by
  subst h1;simp only[WbJ,Xg]at hc;simp only[Wx,Xca,Xdw]at hp;obtain⟨e1,e2⟩:=Wah hr ps d (cvs++aj) ns ks (i+1) n h4 hc.2 hc.1 (by simp[h2]) (λp fN=>hp p (Xf _ (by rw[List.drop_left' h2]at fN;exact fN)));refine⟨by simp only[Wq,Xn];simp at e1;omega,λj x u hj hu=>?_⟩;cases j with
  |zero=>
   simp[Wq]at hj hu;subst hj hu;exact WeH hr (hp (i,_) (Xj _ (Xh ..)))
  |succ j=>exact e2 j x u (by simpa [Wq]using hj) (by rw[Xbr (by omega),h2,Xbq];simpa using hu)
 | .kv t agg::ps,d,vs,ns,ks,i,0,⟨v,aj,n1,n2,ak,h1,h2,ij,h3,h4⟩,hc,_,_,hp=>by
  subst h1;simp only[Wx,Xca,Xdw]at hp;obtain⟨e1,e2⟩:=Wah hr ps d.2 aj n2 ak (i+1) 0 h4 hc (by cases ps<;>rfl) (Xcb _) (λp fN=>hp p (Xf _ (by simpa using fN)));refine⟨by simp only[Wq,Xn];omega,λj x u hj hu=>?_⟩;cases j with
  |zero=>
   simp[Wq]at hj hu;subst hj hu;exact WeH hr (hp (i,_) (Xj _ (Xh ..)))
  |succ j=>exact e2 j x u (by simpa [Wq]using hj) (by simpa using hu)
theorem Wmz{G G':GH}{wb w:World}{nu ol:Nu}{e:Ty}{xs ys:List e.den}{S S':CS}(h4:Wa9 wb (Wm G wb e) e.size nu xs S)(az:Wa9 w (Wm G' w e) e.size ol ys S')(hx:nu.hdr=ol.hdr):Wa9 w (Wm G' w e) e.size nu ys S':=by
 unfold Nu.hdr at hx;cases hb:ol.blk with
 |none=>
  cases bV:nu.blk with
  |some b=>simp[hb,bV]at hx
  |none=>
   have k1:=WbK h4 bV;have k2:=WbK az hb;refine⟨by rw[k2,←h4.1,k1],h4.2.1,?_⟩;simp only[bV];exact k2
 |some b=>
  cases bV:nu.blk with
  |none=>simp[hb,bV]at hx
  |some b'=>
   simp only[hb,bV]at hx;injection hx with x1 x2 x3;injection x1 with x1;injection x1 with x1 x4 _;have e1:=h4.2.1;have e2:=az.2.1;have:nu=ol:=by
    obtain⟨a1,a2,a3,a4,a5⟩:=nu;obtain⟨b1,b2,b3,b4,b5⟩:=ol;simp only at hb bV x1 x2 x3 x4 e1 e2;subst hb bV x1 x2 x3 x4;rw[e1,e2]
   rw[this];exact az
theorem Wd0{G G':GH}{wb w:World}:∀(t:Ty) (d0 d:t.den) (us:List Value) (n1 n2:List Pc),Wm G wb t d0 us n1->Wm G' w t d us n2->∃n3,Wm G' w t d us n3/\nus n3=nus n1/\fps n3=fps n2
 | .own e,d0,d,us,n1,n2,⟨pc,h1,h2,h3⟩,⟨dF,g1,g2,g3⟩=>by
  subst h1 g1;have hx:pc.nu.hdr=dF.nu.hdr:=by rw[h2]at g2;simpa using g2
  exact⟨[⟨pc.nu,dF.fp⟩],⟨_,rfl,h2,Wmz h3 g3 hx⟩,rfl,rfl⟩
 | .prod a b,d0,d,us,n1,n2,⟨v1,v2,m1,m2,h1,h2,h3,h4⟩,⟨u1,u2,k1,k2,g1,g2,g3,g4⟩=>by
  have l1:=Wu a _ _ _ h3;have l2:=Wu a _ _ _ g3;obtain⟨q1,q2⟩:=List.append_inj (h1.symm.trans g1) (by rw[l1,l2]);subst q1 q2 h2 g2;obtain⟨a1,a2,a3,a4⟩:=Wd0 a _ _ _ _ _ h3 g3;obtain⟨b1,b2,b3,b4⟩:=Wd0 b _ _ _ _ _ h4 g4;exact⟨a1++b1,⟨_,_,a1,b1,h1,rfl,a2,b2⟩,by unfold nus at a3 b3⊢;rw[Xy,Xy,a3,b3],by unfold fps at a4 b4⊢;rw[Xy,Xy,a4,b4]⟩
 | .int _,d0,d,us,n1,n2,h,g=>by obtain⟨h1,_⟩:=h;obtain⟨g1,g2⟩:=g;subst h1 g1;exact⟨[],⟨rfl,g2⟩,rfl,rfl⟩
 | .bool,d0,d,us,n1,n2,h,g=>by obtain⟨h1,_⟩:=h;obtain⟨g1,g2⟩:=g;subst h1 g1;exact⟨[],⟨rfl,g2⟩,rfl,rfl⟩
 | .str,d0,d,us,n1,n2,h,g=>by obtain⟨h1,_⟩:=h;obtain⟨g1,g2⟩:=g;subst h1 g1;exact⟨[],⟨rfl,g2⟩,rfl,rfl⟩
 | .slice _,d0,d,us,n1,n2,h,g=>by obtain⟨h1,_⟩:=h;obtain⟨g1,g2⟩:=g;subst h1 g1;exact⟨[],⟨rfl,g2⟩,rfl,rfl⟩
theorem WpF{G G':GH}{wb w:World}{t:Ty}{agg:Bool}{d0 d:t.den}{v:Value}{n1 n2:List Pc}(h:WhE G wb t agg d0 v n1)(g:WhE G' w t agg d v n2):∃us n3,Wm G' w t d us n3/\nus n3=nus n1/\fps n3=fps n2:=by
 unfold WhE at h g;split at h
 .rename_i ha;rw[We ha]at g;obtain⟨us,h1,h2⟩:=h;obtain⟨tY,g1,g2⟩:=g;have:us=tY:=by
   rw[h1]at g1;injection g1 with g1;have:=Wk Array.toList g1;simpa using this
  subst this;exact⟨us,Wd0 _ _ _ _ _ _ h2 g2⟩
 .rename_i ha;rw[Wc ha]at g;exact⟨_,Wd0 _ _ _ _ _ _ h g⟩
structure OOk(G':GH)(φ:Nat->CS)(objs:WZ)(w:World)(ps:List PTy)(B:OutK (WeG ps))(ks:List Nu)(kf:List CS)(ms:List Pc):Prop where
 outs:Wa6 G' w ps B.d ks kf ms
 sepk:Sep kf
 sepm:Sep (fps ms)
 kf:∀S∈kf,CS.le S (FromL φ objs B.kept)
 ms:∀q∈ms,CS.le q.fp (FromL φ objs B.moved)
theorem WsW(h:HR w0 F G ν φ objs nx w){k1 k2:List CS}{m l:List Nat}(h1:Sep k1)(h2:Sep k2)(g1:∀S∈k1,CS.le S (FromL φ objs m))(g2:∀S∈k2,CS.le S (FromL φ objs l))(hd:∀i∈m,i∉l):Sep (k1++k2):=
 WlH h1 h2 (A:=FromL φ objs m) (B:=FromL φ objs l) g1 g2 (FromL.disj h hd)
theorem WfS{wb:World}{Gb:GH}(hg:GLe G G')(h:HR w0 F G ν φ objs nx w){t:Ty}{ps:List PTy}{id b o:Nat}{cs:List Cell}{dd:t.den}{m l:List Nat}{A:OutK (WeG ps)}{ks:List Nu}{kf:List CS}{ms:List Pc}
  (hx:CellRel G ν nx (.ptr id 0) (.pointer (some ⟨b,o,none⟩))) (ho:Wj objs id=some (.box cs)) (g1:Wac t cs objs=some (dd,m,l)) (hl:Lent G' w φ objs l) (hk:(id::A.kept).Nodup) (hm:(m++A.moved).Nodup) (hA:OOk G' φ objs w ps A ks kf ms):
  ∃nn,Wd6 G' w t dd b o nn/\Sep (rng b o t.size::kf)/\Sep (fps (nn++ms))/\(∀S∈rng b o t.size::kf,CS.le S (FromL φ objs (id::A.kept)))/\(∀q∈nn++ms,CS.le q.fp (FromL φ objs (m++A.moved))):=by
 obtain⟨_,b',tZ,je⟩:=hx;injection je with je;injection je with je;injection je with je iT _;subst je iT;have ax:Live objs id:=⟨_,ho,by simp⟩;obtain⟨b'',us,pB,aJ,ay,bk,dW⟩:WbR G ν nx w id (φ id) (.box cs):=h.ob _ _ ho;rw[tZ]at pB;injection pB with pB;subst pB;obtain⟨k1,k2⟩:=Xaa.1 hk;obtain⟨k3,k4,k5⟩:=Xac.1 hm;obtain⟨nn,e1,e2,e3,_⟩:=W2 h hg t cs us dd m l bk hl k3 g1;have cH:cs.length=t.size:=by rw[←bk.1];exact Wu _ _ _ _ e1
 rw[cH]at aJ dW;have ff:CS.le (rng b ((ν id).off+0) t.size) (FromL φ objs [id]):=λb o hh=>⟨id,by simp,ax,dW b o hh⟩;refine⟨nn,⟨us,aJ,ay,e1⟩,?_,Wbz h e2 hA.sepm e3 hA.ms (λi hi hj=>k5 i hi i hj rfl),λS hS=>?_,λq hq=>?_⟩
 .exact WsW h (k1:=[rng b ((ν id).off+0) t.size]) (m:=[id]) (Xbd _ _) hA.sepk (λS hS=>by rw[Xaf.1 hS];exact ff) hA.kf (λi hi hj=>k1 (by rw[←Xaf.1 hi];exact hj))
 .rcases Xq.1 hS with rfl|hS
  .exactλb o hh=>FromL.mono (λi hi=>by rw[Xaf.1 hi];exact Xh ..) b o (ff b o hh)
  .exactλb o hh=>FromL.mono (λi hi=>Xe _ hi) b o (hA.kf S hS b o hh)
 .rcases Xl.1 hq with hq|hq
  .exactλb o hh=>FromL.mono (λi hi=>Xj _ hi) b o (e3 q hq b o hh)
  .exactλb o hh=>FromL.mono (λi hi=>Xf _ hi) b o (hA.ms q hq b o hh)
theorem Was{wb:World}{Gb:GH}(hg:GLe G G')(h:HR w0 F G ν φ objs nx w):∀(ps:List PTy) (d:Wea ps) (vs:List Value) (ns:List Pc) (ks:List Nu) (xs:List AVal) (B:OutK (WeG ps)),WaP Gb wb ps d vs ns ks->xs.length=vs.length->
  (∀(j:Nat) (x:AVal) (v:Value),xs[j]?=some x->vs[j]?=some v->x= .tup []\/AValRel G ν nx x v)->Lent G' w φ objs B.lent->B.kept.Nodup->B.moved.Nodup->WO ps xs objs=some B->
  ∃kf ms,OOk G' φ objs w ps B ks kf ms
 | [],d,vs,ns,ks,xs,B,⟨_,_,hk⟩,_,_,_,_,_,hf=>by
  simp only[WO]at hf;injection hf with hf;subst hf;exact⟨[],[],⟨hk,rfl,rfl⟩,List.Pairwise.nil,List.Pairwise.nil,by simp,by simp⟩
 | .v t agg::ps,d,vs,ns,ks,xs,B,⟨v,aj,n1,n2,h1,h2,h3,h4⟩,aa,hp,hl,hk,hm,hf=>by
  subst h1;simp only[WO]at hf;cases hA:WO ps xs.tail objs with
  |none=>simp[hA]at hf
  |some A=>
   simp[hA]at hf;subst hf
   match xs,aa with
   |x::xs,aa=>
    obtain⟨kf,ms,hO⟩:=Was hg h ps d.2 aj n2 ks xs A h4 (by simpa using aa) (λj y u hj hu=>hp (j+1) y u (by simpa using hj) (by simpa using hu)) hl hk hm hA;exact⟨kf,ms,hO.outs,hO.sepk,hO.sepm,hO.kf,hO.ms⟩
 | .rp t::ps,d,vs,ns,ks,xs,B,⟨b,o,us,aj,h1,h2,h3,h4⟩,aa,hp,hl,hk,hm,hf=>by
  subst h1;simp only[WO]at hf;cases hA:WO ps xs.tail objs with
  |none=>simp[hA]at hf
  |some A=>
   simp[hA]at hf;subst hf
   match xs,aa with
   |x::xs,aa=>
    obtain⟨kf,ms,hO⟩:=Was hg h ps d.2 aj ns ks xs A h4 (by simpa using aa) (λj y u hj hu=>hp (j+1) y u (by simpa using hj) (by simpa using hu)) hl hk hm hA;exact⟨kf,ms,hO.outs,hO.sepk,hO.sepm,hO.kf,hO.ms⟩
 | .box t::ps,d,vs,ns,ks,xs,B,⟨b,o,aj,n1,n2,ak,h1,h2,h3,h4,h6⟩,aa,hp,hl,hk,hm,hf=>by
  subst h1;simp only[WO]at hf;split at hf
  .rename_i id xs;split at hf
   .rename_i cs ho;split at hf
    .rename_i dd m l A g1 g2;injection hf with hf;subst hf;have hx:=((hp 0 _ _ rfl rfl).resolve_left (λe=>by cases e)).1;obtain⟨kf,ms,hO⟩:=Was hg h ps d.2 aj n2 ak xs A h6 (by simpa using aa) (λj y u hj hu=>hp (j+1) y u (by simpa using hj) (by simpa using hu)) (hl.mono λj hj=>Xf _ hj) (Xaa.1 hk).2 (Xac.1 hm).2.1 g2;obtain⟨nn,e1,e2,e3,e4,e5⟩:=WfS (wb:=wb) (Gb:=Gb) hg h hx ho g1 (hl.mono λj hj=>Xj _ hj) hk hm hO;exact⟨_,nn++ms,⟨b,o,ak,kf,nn,ms,h3,rfl,rfl,e1,hO.outs⟩,e2,e3,e4,e5⟩
    .cases hf
   .cases hf
  .cases hf
 | .vj _::_,_,_,_,_,_,_,h,_,_,_,_,_,_=>h.elim
 | .boxal t lf::ps,d,vs,ns,ks,xs,B,⟨b,o,b',pc,aj,n1,n2,ak,h1,h2,h3,h4,h5,h6,h7,h8⟩,aa,hp,hl,hk,hm,hf=>by
  subst h1;simp only[WO]at hf;split at hf
  .rename_i id y xs;split at hf
   .rename_i cs ho;split at hf
    .rename_i dd m l A g1 g2;injection hf with hf;subst hf;have hx:=((hp 0 _ _ rfl rfl).resolve_left (λe=>by cases e)).1;obtain⟨kf,ms,hO⟩:=Was hg h ps d.2.2 aj n2 ak xs A h8 (by simpa using aa) (λj y u hj hu=>hp (j+2) y u (by simpa using hj) (by simpa using hu)) (hl.mono λj hj=>Xf _ hj) (Xaa.1 hk).2 (Xac.1 hm).2.1 g2;obtain⟨nn,e1,e2,e3,e4,e5⟩:=WfS (wb:=wb) (Gb:=Gb) hg h hx ho g1 (hl.mono λj hj=>Xj _ hj) hk hm hO;exact⟨_,nn++ms,⟨b,o,ak,kf,nn,ms,h3,rfl,rfl,e1,hO.outs⟩,e2,e3,e4,e5⟩
    .cases hf
   .cases hf
  .cases hf
 | .mut e::ps,d,vs,ns,ks,xs,B,⟨pc,aj,n2,ak,h1,h2,h3,h4,h5⟩,aa,hp,hl,hk,hm,hf=>by
  subst h1;simp only[WO]at hf;split at hf
  .rename_i id xs;split at hf
   .rename_i e' ys ho;split at hf
    .rename_i dd A g1 g2;injection hf with hf;subst hf;obtain⟨g0,hd⟩:=Wab g1;subst g0;simp only at hd;subst hd;obtain⟨⟨_,hx⟩,_⟩:=(hp 0 _ _ rfl rfl).resolve_left (λe=>by cases e);have ax:Live objs id:=⟨_,ho,by simp⟩;have az:Wa9 w (Wm G w e') e'.size (ν id) ys (φ id):=h.ob _ _ ho;have ek:=Wcc hg (Same.refl _ w) (λ_ _ hh=>hh) az;obtain⟨k1,k2⟩:=Xaa.1 hk;obtain⟨kf,ms,hO⟩:=Was hg h ps d.2 aj n2 ak xs A h5 (by simpa using aa) (λj y u hj hu=>hp (j+1) y u (by simpa using hj) (by simpa using hu)) hl k2 hm g2;refine⟨φ id::kf,ms,⟨⟨pc.nu,φ id⟩,ak,kf,h3,rfl,Wmz h4 ek hx,hO.outs⟩,?_,hO.sepm,λS hS=>?_,hO.ms⟩
     .exact WsW h (k1:=[φ id]) (m:=[id]) (Xbd _ _) hO.sepk (λS hS=>by rw[Xaf.1 hS];exact FromL.one (by simp) ax) hO.kf (λi hi hj=>k1 (by rw[←Xaf.1 hi];exact hj))
     .rcases Xq.1 hS with rfl|hS
      .exact FromL.one (Xh ..) ax
      .exactλb o hh=>FromL.mono (λi hi=>Xe _ hi) b o (hO.kf S hS b o hh)
    .cases hf
   .cases hf
  .cases hf
 | .clos g n::ps,d,vs,ns,ks,xs,B,⟨cvs,aj,h1,h2,h3,h4⟩,aa,hp,hl,hk,hm,hf=>by
  subst h1;simp only[WO]at hf;split at hf
  .rename_i g' caps xs;split at hf
   .rename_i hc;obtain⟨rfl,cK⟩:=hc;cases hA:WO ps (WfD caps++xs) objs with
    |none=>simp[hA]at hf
    |some A=>
     simp[hA]at hf;subst hf;obtain⟨⟨us,qK,sB,ua⟩,_⟩:=(hp 0 _ _ rfl rfl).resolve_left (λe=>by cases e);have ig:us=cvs:=by
      injection qK with _ _ qK;have:=Wk Array.toList qK;simpa using this.symm
     subst ig;obtain⟨kf,ms,hO⟩:=Was hg h ps d (us++aj) ns ks (WfD caps++xs) A h4 (by simp[WfD,sB];simpa using aa) (λj y u hj hu=>by
      rw[Xan]at hj hu;simp only[WfD,List.length_map]at hj;rw[sB]at hu;split at hj
      .rename_i ad;rw[We ad]at hu;rw[Xai]at hj;obtain⟨id,bj,rfl⟩:=Xs.1 hj;obtain⟨q1,q3,q2⟩:=ua _ id u bj hu;exact .inr ⟨⟨q1,q2⟩,q3⟩
      .rename_i ad;rw[Wc ad]at hu;exact hp (j-caps.length+1) y u (by simpa using hj) (by simpa using hu)) hl hk hm hA
     exact⟨kf,ms,hO.outs,hO.sepk,hO.sepm,hO.kf,hO.ms⟩
   .cases hf
  .cases hf
 | .kv t agg::ps,d,vs,ns,ks,xs,B,⟨v,aj,n1,n2,ak,h1,h2,ij,h3,h4⟩,aa,hp,hl,hk,hm,hf=>by
  subst h1;simp only[WO]at hf;split at hf
  .rename_i x xs;split at hf
   .rename_i dd m l A g1 g2;split at hf
    .rename_i fh;injection hf with hf;subst hf;cases hc:cellsOf agg x with
     |none=>simp[hc]at g1
     |some cs=>
      simp[hc]at g1;obtain⟨k1,k2,k3⟩:=Xac.1 hk;have hx:=(hp 0 _ _ rfl rfl).resolve_left (λe=>by subst e;cases hc);have bz:Lent G' w φ objs l:=hl.mono λj hj=>Xj _ hj;obtain⟨_,_,_,_,q4,_⟩:=Wju h hg hx bz k1 hc g1;obtain⟨v1,_⟩:=Wkl h hg hx bz hc g1 fh;obtain⟨us,n3,r1,r2,r3⟩:=WpF h3 v1;obtain⟨kf,ms,hO⟩:=Was hg h ps d.2 aj n2 ak xs A h4 (by simpa using aa) (λj y u hj hu=>hp (j+1) y u (by simpa using hj) (by simpa using hu)) (hl.mono λj hj=>Xf _ hj) k2 hm g2;have gp:∀S∈fps n3,CS.le S (FromL φ objs m):=λS hS=>by
       rw[r3,Wmf]at hS;obtain⟨i,hi,rfl⟩:=Xv.1 hS;exact FromL.one hi (q4 i hi)
      have gs:Sep (fps n3):=by
       rw[r3,Wmf];refine List.pairwise_map.2 (k1.imp_of_mem λ{i j} hi hj bZ=>?_)
       exactλb o h1 h2=>bZ (h.inj i j b o (q4 i hi) (q4 j hj) h1 h2)
      refine⟨fps n3++kf,ms,⟨n3,ak,kf,us,by rw[ij,r2],rfl,r1,hO.outs⟩,WsW h gs hO.sepk gp hO.kf (λi hi hj=>k3 i hi i hj rfl),hO.sepm,λS hS=>?_,hO.ms⟩;rcases Xl.1 hS with hS|hS
      .exactλb o hh=>FromL.mono (λi hi=>Xj _ hi) b o (gp S hS b o hh)
      .exactλb o hh=>FromL.mono (λi hi=>Xf _ hi) b o (hO.kf S hS b o hh)
    .cases hf
   .cases hf
  .cases hf
end
end Go.Sx
namespace Go.Sx
set_option linter.unusedVariables false
set_option linter.unusedSimpArgs false
section
variable{P:Program}{T:Tab}{Γ:Ctx}
theorem Wqb{sg:Sig}{d:Wea sg.ps}{G:GH}{w:World}{vs:List Value}{ns:List Pc}{ks:List Nu}{n:Nat}(hn:Wbj sg.ps<=n)(dY:WbJ sg.ps=true)(au:WaP G w sg.ps d vs ns ks)(hC:Sep (fps ns))
  (cl:∀q∈ns,∀b off,q.fp b off->G b off=none/\b<w.heap.size) (hg:∀b o v,G b o=some v->w.cell? ⟨b,o,none⟩=some v):
  ∃ν,Rel w (Of ns) ⟨n,Wx sg.ps 0 0 vs,λ_ _=>False⟩ G G ν {env:=Wbo 0 (WF sg.ps d [] 0).1,objs:=(WF sg.ps d [] 0).2.1,nx:=(WF sg.ps d [] 0).2.2}
   {tmps:=vs.toArray++Xdc (n-vs.toArray.size) undef,defers:=[]} w:=by
 obtain⟨ν,hν⟩:∃ν:Nat->Nu,ν= λi=>((nus ns)[i]?).getD ⟨none,0,0,0,0⟩:=⟨_,rfl⟩;obtain⟨φ,hφ⟩:∃φ:Nat->CS,φ= λi=>((fps ns)[i]?).getD (λ_ _=>False):=⟨_,rfl⟩;have hAt:At ν φ 0 ns:=λj pc hj=>by
  have e1:(nus ns)[j]?=some pc.nu:=by unfold nus;rw[Xai,hj];rfl
  have e2:(fps ns)[j]?=some pc.fp:=by unfold fps;rw[Xai,hj];rfl
  rw[hν,hφ];simp only[Xbh,e1,e2];exact⟨rfl,rfl⟩
 obtain⟨h1,h2,h3,h4⟩:=WbL (ν:=ν) (φ:=φ) sg.ps d vs ns ks [] 0 (0+ns.length) dY au hAt (Xm _);have pm:=Wcj _ _ _ _ _ au;have dx:∀id,Live (WF sg.ps d [] 0).2.1 id->id<ns.length:=λid ⟨ob,ho,_⟩=>by
  rcases h2 id ob ho with⟨_,h,_⟩|h
  .simpa using h
  .cases h
 have ba:∀id b o,φ id b o->∃q,ns[id]?=some q/\(fps ns)[id]?=some q.fp/\q.fp b o:=λid b o hp=>by
  rw[hφ]at hp
  try simp only at hp
  cases hq:ns[id]? with
  |none=>
   have:(fps ns)[id]?=none:=by unfold fps;rw[Xai,hq];rfl
   rw[this]at hp;exact hp.elim
  |some q=>
   have:(fps ns)[id]?=some q.fp:=by unfold fps;rw[Xai,hq];rfl
   rw[this]at hp;exact⟨q,rfl,this,hp⟩
 have sD:∀(i:Nat) (v:Value),vs[i]?=some v->(vs.toArray++Xdc (n-vs.toArray.size) undef)[i]?=some v:=λi v hi=>by
  have ad:=(Xz.1 hi).1;rw[Xev (by simpa using ad)];simpa using hi
 refine⟨ν,rfl,by simp;omega,λp hp=>?_,λi x hx=>?_,⟨φ,?_⟩,⟨λ_ _ _ hh=>hh,λ_ _ _ hh=>.inl hh⟩,λ_ _ h=>h.elim⟩
 .obtain⟨_,g2⟩:=WE _ _ _ _ p hp;exact sD _ _ (by simpa using g2)
 .simp only at hx;rw[WfQ]at hx;simp only[Xcb,W9,Xda]at hx;have ad:=(Xz.1 hx).1;rw[h3]at ad;have hv:=Xp ad;refine⟨_,sD i _ hv,?_⟩;have:=h4 i x _ hx hv;simp only[h1];exact this
 .exact{
   g:=hg
   ob:=λid ob ho=>by
    rcases h2 id ob ho with⟨_,_,h⟩|h
    .simp only[h1];exact h
    .cases h
   gf:=λid b o hl hp=>by
    obtain⟨q,g1,_,g2⟩:=ba id b o hp;exact(cl q (Xas g1) b o g2).1
   inj:=λid bw b o hl dB hp dI=>by
    obtain⟨q,_,g1,g2⟩:=ba id b o hp;obtain⟨q',_,ub,ud⟩:=ba bw b o dI;exact Wjl hC g1 ub g2 ud
   own:=λid b o hl hp=>by
    obtain⟨q,g1,_,g2⟩:=ba id b o hp;exact .inr ⟨q,Xas g1,g2⟩
   lt:=λid hl=>by simp only[h1];have:=dx id hl;omega
   bl:=λid b o hl hp=>by
    obtain⟨q,g1,_,g2⟩:=ba id b o hp;exact(cl q (Xas g1) b o g2).2
   le:=WLe.refl _ w}
theorem Wpk(hT:W5 P T){f:Func}{sg:Sig}{d:Wea sg.ps}{G:GH}{w:World}{vs:List Value}{ns:List Pc}{ks:List Nu}{n:Nat}(dY:WbJ sg.ps=true)(au:WaP G w sg.ps d vs ns ks)
  {st:St} {a:Act} {w':World} {G1:GH} {ν:Nat->Nu} (hr:Rel w (Of ns) ⟨n,Wx sg.ps 0 0 vs,λ_ _=>False⟩ G G1 ν st a w') {xs:List AVal} (hx:Wch T st f.results.toList=some xs)
  {A:Outs (Wfj sg.rs)} (hA:WaB sg.rs xs st.objs=some A) {B:OutK (WeG sg.ps)} (hB:WO sg.ps (Wq sg.ps 0 0 st) st.objs=some B)
  (aH:WaR (B.kept++(B.moved++A.moved))=true) (j9:Wen (A.lent++B.lent) (B.kept++(B.moved++A.moved))=true):
  ∃rv kf ms cr G',(results f a.tmps).run P w'= .ok (WgQ rv) w'/\After sg (B.d,A.d) G w ns ks rv kf ms cr G' w':=by
 have aH:=(WdL _).1 aH;have j9:=WkK j9;obtain⟨φ,hφ⟩:=hr.h;have qL:=hφ.addG_le (A.lent++B.lent);have ue:=hφ.addG_w (A.lent++B.lent);have kP:Lent (Woh G1 w' (FromL φ st.objs (A.lent++B.lent))) w' φ st.objs (A.lent++B.lent):=λid bj hl=>(Wgz _).mono (FromL.one bj hl);obtain⟨k1,k2,k3⟩:=Xac.1 aH;obtain⟨k4,k5,k6⟩:=Xac.1 k2;obtain⟨rv,lM,lN,lO⟩:=Wgd hT hr _ xs hx;obtain⟨cr,q1,q2,q3,q4⟩:=WcS hφ qL sg.rs xs rv A lN lO (kP.mono λi hi=>Xj _ hi) k5 hA;obtain⟨gz,cT⟩:=Wah hr sg.ps d vs ns ks 0 0 au dY (by cases sg.ps<;>rfl) (Xcb _) (by simpa using hr.par);obtain⟨kf,ms,hO⟩:=Was qL hφ sg.ps d vs ns ks _ B au gz (λj x v hj hv=>cT j x v hj (by simpa using hv)) (kP.mono λi hi=>Xf _ hi) k1 k4 hB;have ew:∀S∈kf++fps (ms++cr),CS.le S (FromL φ st.objs (B.kept++(B.moved++A.moved))):=λS hS=>by
  rcases Xl.1 hS with hS|hS
  .exactλb o hh=>FromL.mono (λi hi=>Xj _ hi) b o (hO.kf S hS b o hh)
  .obtain⟨q,hq,rfl⟩:=Xv.1 hS;rcases Xl.1 hq with hq|hq
   .exactλb o hh=>FromL.mono (λi hi=>Xf _ (Xj _ hi)) b o (hO.ms q hq b o hh)
   .exactλb o hh=>FromL.mono (λi hi=>Xf _ (Xf _ hi)) b o (q3 q hq b o hh)
 refine⟨rv,kf,ms,cr,Woh G1 w' (FromL φ st.objs (A.lent++B.lent)),?_,?_⟩
 .show(do let vs←f.results.mapM (Wg8 a.tmps);pure (if h:vs.size=1 then vs[0]else .tuple vs):Sem Value).run P w'=_;have fm:(f.results.mapM (Wg8 a.tmps)).run P w'= .ok rv.toArray w':=by
   rw[Xdq,Sem.run_map,lM];rfl
  rw[Sem.run_bind,fm];simp only[Result.andThen_ok,Sem.run_pure];congr 1;unfold WgQ
  match rv with
  | []=>rfl
  | [v]=>rfl
  |u::v::l=>simp
 .exact{
   res:=q1
   outs:=hO.outs
   sep:=by
    refine WsW hφ hO.sepk (Wbz hφ hO.sepm q2 hO.ms q3 (λi hi hj=>k6 i hi i hj rfl)) hO.kf (l:=B.moved++A.moved) (λS hS=>?_) (λi hi hj=>k3 i hi i hj rfl);obtain⟨q,hq,rfl⟩:=Xv.1 hS;rcases Xl.1 hq with hq|hq
    .exactλb o hh=>FromL.mono (λi hi=>Xj _ hi) b o (hO.ms q hq b o hh)
    .exactλb o hh=>FromL.mono (λi hi=>Xf _ hi) b o (q3 q hq b o hh)
   own:=λS hS b off hh=>by
    obtain⟨i,hi,h1,h2⟩:=ew S hS b off hh;refine⟨?_,(hφ.own i b off h1 h2).symm,hφ.bl i b off h1 h2⟩;rw[Wck (λ⟨j,hj,h3,h4⟩=>by
     have:=hφ.inj i j b off h1 h3 h2 h4;subst this;exact j9 _ hj hi)]
    exact hφ.gf i b off h1 h2
   gx:=by
    refine⟨λb o v hv=>qL b o v (hr.gx.le b o v hv),λb off v hv=>?_⟩;by_cases hb:FromL φ st.objs (A.lent++B.lent) b off
    .obtain⟨j,hj,h1,h2⟩:=hb;exact .inr (hφ.own j b off h1 h2)
    .rw[Wck hb]at hv;exact hr.gx.new b off v hv
   g:=ue
   le:=hφ.le}
theorem Wr4(hM:P.follows .mixedOrders=true)(hT:W5 P T)(hΓ:Wcy P Γ){f:Func}{k:FuncId}{c:Code}(hf:P.funcs[k]?=some f)(hb:f.body=some c){sg:Sig}(bv:Wcg f.ntmps (Wdd sg.ps 0 0) c=true)(dY:WbJ sg.ps=true)
  (hn:Wbj sg.ps<=f.ntmps) {ann:Nat->List Ghost} (h:∀d o,sg.run d=some o->∃N,den T Γ ann N sg f d some=some o):Wsk P k sg:=by
 intro d o aM G w vs ns ks au hC cl hg;obtain⟨N,ga⟩:=h d o aM;unfold den at ga;simp only[hb]at ga;obtain⟨ν,uf⟩:=Wqb hn dY au hC cl hg;split at ga
 case h_2=>cases ga
 rename_i c' b st0 iP ug;injection iP with iP;subst iP;obtain⟨rfl,ga⟩:=WQ ga;obtain⟨G0',ν0',hr⟩:=WcE _ _ _ _ _ (.inl λ_ _ h=>h) uf ug;refine calls_of_wp hf hb ?_
 suffices hk:∀e,Wog w (Of ns) ⟨f.ntmps,Wx sg.ps 0 0 vs,λ_ _=>False⟩ G (Ws7 T sg f.results.toList some e) o (bodyPost P f (λe w'=>∃rv kf ms cr G',e= .returned (WgQ rv)/\After sg o G w ns ks rv kf ms cr G' w') e.to)from
  Wj3 (nt:=⟨f.ntmps,Wx sg.ps 0 0 vs,λ_ _=>False⟩) hM hT hΓ (n:=f.ntmps) rfl (WI sg.ps 0 0 vs) (.inl λ_ _ h=>h) c bv hk _ _ _ _ _ hr ga
 intro e st a w' G1 ν1 fj hk;have eH:(∃xs,Wch T st f.results.toList=some xs/\∃A B,WaB sg.rs xs st.objs=some A/\WO sg.ps (Wq sg.ps 0 0 st) st.objs=some B/\WaR (B.kept++(B.moved++A.moved))=true/\Wen (A.lent++B.lent) (B.kept++(B.moved++A.moved))=true/\(B.d,A.d)=o)->
   a.defers= []/\∃v,(results f a.tmps).run P w'= .ok v w'/\∃rv kf ms cr G',Ending.returned v= .returned (WgQ rv)/\After sg o G w ns ks rv kf ms cr G' w':=by
  rintro⟨xs,hx,A,B,hA,hB,h1,h2,rfl⟩;obtain⟨rv,kf,ms,cr,G',h3,h4⟩:=Wpk hT (f:=f) dY au fj hx hA hB h1 h2;exact⟨fj.defers,_,h3,rv,kf,ms,cr,G',rfl,h4⟩
 have lD:(match Wch T st f.results.toList with
   |some xs=>match WaB sg.rs xs st.objs,WO sg.ps (Wq sg.ps 0 0 st) st.objs with
    |some A,some B=>if WaR (B.kept++(B.moved++A.moved))&&Wen (A.lent++B.lent) (B.kept++(B.moved++A.moved))then some (B.d,A.d)else none
    |_,_=>none
   |none=>none)=some o->(∃xs,Wch T st f.results.toList=some xs/\∃A B,WaB sg.rs xs st.objs=some A/\WO sg.ps (Wq sg.ps 0 0 st) st.objs=some B/\WaR (B.kept++(B.moved++A.moved))=true/\Wen (A.lent++B.lent) (B.kept++(B.moved++A.moved))=true/\(B.d,A.d)=o):=λhk=>by
  split at hk
  .rename_i xs hx;split at hk
   .rename_i A B hA hB;obtain⟨hc,hk⟩:=Wbh hk;simp only[Xg]at hc;injection hk with hk;exact⟨xs,hx,A,B,hA,hB,hc.1,hc.2,hk⟩
   .cases hk
  .cases hk
 cases e with
 |normal=>exact eH (lD hk)
 |ret=>exact eH (lD hk)
 |exit id=>cases hk
end
end Go.Sx
namespace Go.Sx
set_option linter.unusedVariables false
set_option linter.unusedSimpArgs false
def zv1:Value->Value->Bool
 | .int k n,.int k' n'=>decide (k=k')&&decide (n=n')
 | .bool b,.bool b'=>b==b'
 | .string s,.string s'=>match s.data.toList,s'.data.toList with
  | [],[]=>true
  |_,_=>false
 | .slice none 0 0,.slice none 0 0=>true
 | .pointer none,.pointer none=>true
 |_,_=>false
theorem Wqo(x y:Value)(h:zv1 x y=true):x=y:=by
 unfold zv1 at h;split at h
 .simp only[Xg,Wg]at h;obtain⟨rfl,rfl⟩:=h;rfl
 .have:=eq_of_beq h;subst this;rfl
 .rename_i s s';split at h
  .rename_i e1 e2;have:s=s':=by
    cases s with|mk a=>cases s' with|mk b=>
    congr 1;apply Array.ext';simp only at e1 e2;rw[e1,e2]
   rw[this]
  .cases h
 .rfl
 .rfl
 .cases h
def WsX:List Value->List Value->Bool
 | [],[]=>true
 |x::l,y::m=>zv1 x y&&WsX l m
 |_,_=>false
theorem Wj5:∀(l m:List Value),WsX l m=true->l=m
 | [],[],_=>rfl
 | [],_::_,h=>by cases h
 |_::_,[],h=>by cases h
 |x::l,y::m,h=>by
  simp only[WsX,Xg]at h;rw[Wqo x y h.1,Wj5 l m h.2]
def WeQ:List Field->List (Nat×TypeId)->Bool
 | [],[]=>true
 |f::l,p::m=>Xaz f.offset p.1&&Xaz f.type p.2&&(f.name != "_")&&WeQ l m
 |_,_=>false
def Wpv(P:Program)(T:Tab)(t:TypeId)(te:TE):Bool:=match te.shape with
 | .basic=>!te.agg&&(match te.ty with
  | .int k=>match P.underlying t with|some (.int k')=>decide (k'=k)|_=>false
  | .bool=>match P.underlying t with|some .bool=>true|_=>false
  | .str=>match P.underlying t with|some .string=>true|_=>false
  |_=>false)
 | .slice e=>!te.agg&&(match P.underlying t with|some (.slice e')=>Xaz e' e|_=>false)&&(match Wj T e with|some da=>decide (te.ty= .slice da.ty)|none=>false)
 | .struct fs=>te.agg&&(match P.underlying t with|some (.struct fields)=>WeQ fields.toList fs|_=>false)&& !P.stoodInHeld t&& !P.eqGuardType P.depth t
 | .ptr e=>!te.agg&&(match P.underlying t with|some (.pointer e')=>Xaz e' e|_=>false)
 | .arr n e=>te.agg&&(match P.underlying t with|some (.array n' e')=>Xaz n' n&&Xaz e' e|_=>false)&&(match Wj T e with|some da=>decide (da.ty=te.ty)&&da.plain|none=>false)
def Wlw(P:Program)(t:TypeId)(te:TE):Bool:=match P.info? t with
 |some i=>match i.zero with
  |some z=>Xaz i.size te.size&&WsX z.cells.toList te.cells&&Xgu i.bytes 4096
  |none=>false
 |none=>false
def WjX(P:Program)(T:Tab):Tab->Bool
 | []=>true
 |(t,te)::l=>Wpv P T t te&&Wlw P t te&&WjX P T l
theorem Wd8:∀(l:List Field) (m:List (Nat×TypeId)),WeQ l m=true→l.map (λf=>(f.offset,f.type))=m∧∀f∈l,f.name≠ "_"
 | [],[],_=>⟨rfl,by simp⟩
 | [],_::_,h=>by cases h
 |_::_,[],h=>by cases h
 |f::l,p::m,h=>by
  simp only[WeQ,Xg,bne_iff_ne,ne_eq]at h;obtain⟨⟨⟨h1,h2⟩,h3⟩,h4⟩:=h;obtain⟨h5,h6⟩:=Wd8 l m h4;have h1:f.offset=p.1:=by simpa using h1
  have h2:f.type=p.2:=by simpa using h2
  refine⟨by rw[Xag,h5,h1,h2],λg hg=>?_⟩;rcases Xq.1 hg with hg|hg
  .subst hg;exact h3
  .exact h6 g hg
theorem WlR{P:Program}{T:Tab}{t:TypeId}{te:TE}(h:Wpv P T t te=true)(hi:Wlw P t te=true):TEok P T t te:=by
 obtain⟨ty,agg,shape⟩:=te;refine⟨?_,?_⟩
 .unfold Wpv at h;cases shape with
  |basic=>
   simp only[Xg,Xak]at h⊢;refine⟨h.1,?_⟩;have h:=h.2;cases ty with
   |int k=>
    simp only at h⊢;split at h
    .rename_i k' hu;simp only[Wg]at h;rw[hu,h]
    .cases h
   |bool=>
    simp only at h⊢;split at h
    .assumption
    .cases h
   |str=>
    simp only at h⊢;split at h
    .assumption
    .cases h
   |slice e=>cases h
   |own e=>cases h
   |prod a b=>cases h
  |slice e=>
   simp only[Xg,Xak]at h⊢;obtain⟨⟨h1,h2⟩,h3⟩:=h;refine⟨h1,?_,?_⟩
   .split at h2
    .rename_i e' hu;rw[hu];have:e'=e:=by simpa using h2
     rw[this]
    .cases h2
   .split at h3
    .rename_i da hl;exact⟨da,hl,by simpa using h3⟩
    .cases h3
  |struct fs=>
   simp only[Xg,Xak]at h⊢;obtain⟨⟨⟨h1,h2⟩,h3⟩,h4⟩:=h;refine⟨h1,?_⟩;split at h2
   .rename_i fields hu;obtain⟨h5,h6⟩:=Wd8 _ _ h2;exact⟨fields,hu,h5,λf hf=>h6 f (by simpa using hf),h3,h4⟩
   .cases h2
  |ptr e=>
   simp only[Xg,Xak]at h⊢;refine⟨h.1,?_⟩;have h:=h.2;split at h
   .rename_i e' hu;rw[hu];have:e'=e:=by simpa using h
    rw[this]
   .cases h
  |arr n e=>
   simp only[Xg]at h⊢;obtain⟨⟨h1,h2⟩,h3⟩:=h;refine⟨h1,?_,?_⟩
   .split at h2
    .rename_i n' e' hu;simp only[Xg]at h2;have e1:n'=n:=by simpa using h2.1
     have e2:e'=e:=by simpa using h2.2
     rw[hu,e1,e2]
    .cases h2
   .split at h3
    .rename_i da hl;simp only[Xg,Wg]at h3;refine⟨da,hl,h3.1,λm f hs=>?_⟩;have:=h3.2;unfold TE.plain at this;rw[hs]at this;cases this
    .cases h3
 .unfold Wlw at hi;split at hi
  .rename_i i uh;split at hi
   .rename_i z hz;simp only[Xg]at hi;obtain⟨⟨h1,h2⟩,h3⟩:=hi;exact⟨i,z,uh,by simpa using h1,hz,Wj5 _ _ h2,Xec h3⟩
   .cases hi
  .cases hi
theorem WsO{P:Program}{T:Tab}(h:WjX P T T=true):W5 P T:=by
 have key:∀l,WjX P T l=true->∀t te,Wj l t=some te->TEok P T t te:=by
  intro l
  induction l with
  |nil=>intro _ t te hl;cases hl
  |cons p l ih=>
   intro hc t te hl;obtain⟨t',da⟩:=p;simp only[WjX,Xg]at hc;rw[Wv]at hl;split at hl
   .rename_i e;subst e;injection hl with hl;subst hl;exact WlR hc.1.1 hc.1.2
   .exact ih hc.2 t te hl
 exact key T h
theorem Wlo{P:Program}:Wcy P []:=λk sg h=>by cases h
theorem Wte{P:Program}{k:FuncId}{s:Sig}(hi:s.inl=none)(h:Wsk P k s):Wmk P k s:=by
 unfold Wmk;rw[hi];exact h
theorem Wqq{P:Program}{Γ:Ctx}{k:FuncId}{sg:Sig}(hg:Wmk P k sg)(hc:Wfe P k)(h:Wcy P Γ):Wcy P ((k,sg)::Γ):=λk' ui hl=>by
 simp only[Wj]at hl;split at hl
 .rename_i e;have:k=k':=by simpa using e
  subst this;injection hl with hl;subst hl;exact⟨hg,hc⟩
 .exact h k' ui hl
def WlL(f:Func):Bool:=f.body.isSome&& !(f.name== "runtime.NumGoroutine")
theorem WcY{P:Program}{k:FuncId}{f:Func}(hf:P.funcs[k]?=some f)(h:WlL f=true):Wfe P k:=by
 simp only[WlL,Xg,Xak]at h;refine⟨f,hf,?_,h.2⟩;cases hb:f.body with
 |none=>rw[hb]at h;cases h.1
 |some c=>rfl
def WgT(f:Func)(ps:List PTy):Bool:=match f.body with
 |some c=>Wcg f.ntmps (Wdd ps 0 0) c&&Xgu (Wbj ps) f.ntmps&&WbJ ps
 |none=>false
theorem WpZ{P:Program}{T:Tab}{Γ:Ctx}(hM:P.follows .mixedOrders=true)(hT:W5 P T)(hΓ:Wcy P Γ){f:Func}{k:FuncId}(hf:P.funcs[k]?=some f){sg:Sig}(bv:WgT f sg.ps=true){ann:Nat->List Ghost}
  (h:∀d o,sg.run d=some o->∃N,den T Γ ann N sg f d some=some o):Wsk P k sg:=by
 unfold WgT at bv;split at bv
 .rename_i c hb;simp only[Xg]at bv;exact Wr4 hM hT hΓ hf hb bv.1.1 bv.2 (Xec bv.1.2) h
 .cases bv
end Go.Sx
namespace Go.Sx
def Wer:Code->List Code
 | .seq a b=>Wer a++Wer b
 | .cond _ a b=>Wer a++Wer b
 | .block _ c=>Wer c
 | .loop c=>c::Wer c
 |_=>[]
def Wln(f:Func):Code:=match f.body with
 |some c=>c
 |none=>.skip
def WpY(f:Func)(i:Nat):Code:=(Wer (Wln f)).getD i .skip
noncomputable def WrU{R:Type}(T:Tab)(Γ:Ctx)(ann:Nat->List Ghost)(N:Nat):Code->List Nat->(Ex->St->Option R)->Ex->St->Option R
 | .seq a b,p,k=>match p with
  |0::p=>WrU T Γ ann N a p λe ac=>match e with
   | .normal=>sx T Γ ann N b ac k
   | .exit id=>k (.exit id) ac
   | .ret=>k .ret ac
  |_::p=>WrU T Γ ann N b p k
  | []=>k
 | .cond _ x y,p,k=>match p with
  |0::p=>WrU T Γ ann N x p k
  |_::p=>WrU T Γ ann N y p k
  | []=>k
 | .block id c,p,k=>match p with
  |_::p=>WrU T Γ ann N c p λe ac=>match e with
   | .exit bw=>if bw=id then k .normal ac else k (.exit bw) ac
   | .normal=>k .normal ac
   | .ret=>k .ret ac
  | []=>k
 |_,_,k=>k
def Wta{R:Type}(gs:List Ghost)(L:St->(Ex->St->Option R)->Option R)(K:Ex->St->Option R):Ex->St->Option R:=λe st=>match e with
 | .normal=>match Wbl gs st with
  |some (c,ac)=>bif c then L ac K else none
  |none=>none
 | .exit id=>K (.exit id) st
 | .ret=>K .ret st
abbrev vI(x:Int):AVal:=.s (.one (.val (.int .i64) x))
abbrev vB(x:Bool):AVal:=.s (.one (.val .bool x))
abbrev vV(t:Ty)(x:t.den):AVal:=.s (.one (.val t x))
abbrev vO(i:Nat):AVal:=.s (.one (.own i))
abbrev vP(i o:Nat):AVal:=.s (.one (.ptr i o))
abbrev Qs(s:Sig):=WeG s.ps×Wfj s.rs
structure Fn where
 F:Func
 a:Nat->List Ghost
 s:Nat->Sig
 c:Nat->Ctx
def WG:Nat->List Ghost:=λ_=>[]
def WaN:Nat->Ctx:=λ_=>[]
noncomputable def lpM{R:Type}(T:Tab)(Γ:Ctx)(ann:Nat->List Ghost)(N:Nat)(F:Func)(i k n:Nat)(st:St)(K:Ex->St->Option R):Option R:=Wml (Wis (ann k) λst k=>sx T Γ ann N (WpY F i) st k) n st K
noncomputable def cxF(T:Tab)(Γ:Ctx)(ann:Nat->List Ghost)(N:Nat)(sg:Sig)(F:Func)(p:List Nat):Ex->St->Option (Qs sg):=WrU (R:=Qs sg) T Γ ann N (Wln F) p (Ws7 T sg F.results.toList some)
noncomputable def cxL{R:Type}(T:Tab)(Γ:Ctx)(ann:Nat->List Ghost)(N:Nat)(F:Func)(i k:Nat)(p:List Nat)(n:Nat)(K:Ex->St->Option R):Ex->St->Option R:=WrU T Γ ann N (WpY F i) p (Wta (ann k) (lpM T Γ ann N F i k n) K)
end Go.Sx
namespace Go.Sx
set_option linter.unusedVariables false
set_option linter.unusedSimpArgs false
def WqB{R:Type}(T:Tab)(rv:List ResultVar)(k:KV R)(e:Ex)(st:St):Option R:=match e with
 | .exit _=>none
 |_=>match Wch T st rv with
  |some [x]=>k x st.objs st.nx
  |_=>none
def Ghost.opens:Ghost->Bool
 | .unfC _ _ _=>true
 |_=>false
def Wej(ann:Nat->List Ghost):Code->Bool
 | .skip| .ret=>true
 | .region id ops draw=>(ann id).all Ghost.opens&&(!draw||decide ((Woj (WbV ops.toList []) ops.size (WcA ops.toList 0)).length<=1))
 | .seq a b=>Wej ann a&&Wej ann b
 |_=>false
section
variable{T:Tab}{Γ:Ctx}{A:List (Nat×An)}{ops:Array Oper}{ann:Nat->List Ghost}{N:Nat}
theorem via{S R R':Type}{X:(Q:Type)->(S->Option Q)->Option Q}(hX:∀Q k,X Q k=(X S some).bind k){f:S->Option R}{g:S->Option R'}{h:R'->Option R}(e:∀s,f s=(g s).bind h):X R f=(X R' g).bind h:=by
 rw[hX R f,hX R' g,Xey];congr 1;funext s;exact e s
theorem Wi1{R:Type}:∀(l:List Oper) (st:St) (k:St->Option R),rxs T Γ A ops l st k=(rxs T Γ A ops l st some).bind k
 | [],st,k=>rfl
 |o::l,st,k=>by
  simp only[rxs];refine via (X:=λQ k=>rxg T Γ A ops o st k) (λQ k=>Wgn o st k) λac=>?_;cases opG A o ac with
  |none=>rfl
  |some p=>
   obtain⟨c,s⟩:=p;cases c with
   |false=>rfl
   |true=>exact Wi1 l s k
theorem Wjf{R:Type}{B:List (List Nat)}:∀(l:List Nat) (fl mu:List (Nat×List Nat)) (st:St) (k:St->Option R),rdx T Γ A ops B l fl mu st k=(rdx T Γ A ops B l fl mu st some).bind k
 | [],_,_,st,k=>rfl
 |i::l,fl,mu,st,k=>by
  simp only[rdx];cases ops[i]? with
  |none=>rfl
  |some o=>
   dsimp only;cases Wao o with
   |true=>
    simp only[Wa,WaI];refine via (X:=λQ k=>rxg T Γ A ops o st k) (λQ k=>Wgn o st k) λac=>?_;generalize fl.all (λp=>WbS B p.1 i||Wen p.2 (Wmo st.objs ac.objs))=c;cases c with
    |false=>rfl
    |true=>exact Wjf l _ _ ac k
   |false=>
    simp only[Wf,WaI];generalize mu.all (λp=>WbS B p.1 i||Wen (WbN o st) p.2)=c;cases c with
    |false=>rfl
    |true=>
     simp only[Wa];refine via (X:=λQ k=>rxg T Γ A ops o st k) (λQ k=>Wgn o st k) λac=>?_;exact Wjf l _ _ ac k
theorem Wh9{R:Type}(h:(Woj (WbV ops.toList []) ops.size (WcA ops.toList 0)).length<=1)(st:St)(k:St->Option R):Wi6 T Γ A ops st k=(Wi6 T Γ A ops st some).bind k:=by
 simp only[Wi6,WeI];generalize Wql ops (WbV ops.toList [])=c;cases c with
 |false=>rfl
 |true=>
  simp only[Wa];generalize Woj (WbV ops.toList []) ops.size (WcA ops.toList 0)=l at h
  match l,h with
  | [],_=>rfl
  | [σ],_=>
   simp only[Wsf,WaI];generalize (WgS ops (Wg7 ops.toList (WbV ops.toList []) ops.size [] σ) []&&_)=c;cases c with
   |false=>rfl
   |true=>exact Wjf _ _ _ _ _
theorem WgG{R:Type}:∀(c:Code),Wej ann c=true->∀(st:St) (k:Ex->St->Option R),sx T Γ ann N c st k=(sx T Γ ann N c st λe s=>some (e,s)).bind λp=>k p.1 p.2
 | .skip,_,st,k=>rfl
 | .ret,_,st,k=>rfl
 | .seq a b,h,st,k=>by
  simp only[Wej,Xg]at h;simp only[sx];refine via (X:=λQ k=>sx T Γ ann N a st λe s=>k (e,s)) (λQ k=>WgG a h.1 st λe s=>k (e,s)) (f:=λp=>match p.1 with
   | .normal=>sx T Γ ann N b p.2 k
   | .exit id=>k (.exit id) p.2
   | .ret=>k .ret p.2) (g:=λp=>match p.1 with
   | .normal=>sx T Γ ann N b p.2 λe s=>some (e,s)
   | .exit id=>some (.exit id,p.2)
   | .ret=>some (.ret,p.2)) λp=>?_
  obtain⟨e,s⟩:=p;cases e with
  |normal=>exact WgG b h.2 s k
  |exit _=>rfl
  |ret=>rfl
 | .region id ops draw,h,st,k=>by
  simp only[Wej,Xg,Xcg,Xak,Wg]at h;simp only[sx];have e:∀ac:St,(match Wbl (ann id) ac with|some (c,bn)=>bif c then k .normal bn else none|none=>none)
    =(match Wbl (ann id) ac with|some (c,bn)=>bif c then some (Ex.normal,bn)else none|none=>none).bind λp=>k p.1 p.2:=λac=>by
   cases Wbl (ann id) ac with
   |none=>rfl
   |some p=>
    obtain⟨c,s⟩:=p;cases c<;>rfl
  cases draw with
  |true=>
   simp only[Wa];exact via (X:=λQ k=>Wi6 T Γ (Whw (ann id)) ops st k) (λQ k=>Wh9 (h.2.resolve_left (by simp)) st k) e
  |false=>
   simp only[Wf];exact via (X:=λQ k=>rxs T Γ (Whw (ann id)) ops ops.toList st k) (λQ k=>Wi1 _ st k) e
 | .cond ..,h,_,_| .block ..,h,_,_| .loop ..,h,_,_| .exit ..,h,_,_| .scope ..,h,_,_| .label ..,h,_,_| .goto ..,h,_,_| .rangeFunc ..,h,_,_| .refuse ..,h,_,_=>by cases h
def Fw(st ac:St):Prop:=∃pre,ac.objs=pre++st.objs
theorem Fw.refl(st:St):Fw st st:=⟨[],rfl⟩
theorem Fw.trans{a b c:St}(h:Fw a b)(g:Fw b c):Fw a c:=by
 obtain⟨p,h⟩:=h;obtain⟨q,g⟩:=g;exact⟨q++p,by rw[g,h,List.append_assoc]⟩
theorem WoZ{o:Oper}{st ac:St}(h:rx1 T Γ A o st some=some ac):Fw st ac:=by
 unfold rx1 at h;rw[WdT]at h;obtain⟨p,h1,h2⟩:=Xao.1 h;obtain⟨pre,h3⟩:=WiA _ _ _ _ _ h1;injection h2 with h2;subst h2;exact⟨pre,by cases o.dst<;>exact h3⟩
theorem Wor{o:Oper}{st ac:St}(h:rxg T Γ A ops o st some=some ac):Fw st ac:=by
 unfold rxg at h;split at h
 .exact WoZ h
 .split at h
  .split at h
   .injection h with h;subst h;exact⟨[],by rw[WaE];rfl⟩
   .rename_i t _ x _ _;split at h
    .rename_i b _;cases b
     .simp only[Wf]at h;split at h
      .injection h with h;subst h;exact⟨[],by rw[WaE,WaE];rfl⟩
      .obtain⟨pre,hp⟩:=WoZ h;exact⟨pre,by rw[hp,WaE]⟩
     .simp only[Wa]at h;split at h
      .obtain⟨pre,hp⟩:=WoZ h;exact⟨pre,by rw[hp,WaE]⟩
      .injection h with h;subst h;exact⟨[],by rw[WaE,WaE];rfl⟩
    .cases h
   .cases h
  .cases h
theorem WoS{st ac:St}{r:Nat}{ix:Option Nat}{c:Bool}(h:WhU st r ix=some (c,ac)):Fw st ac:=by
 unfold WhU at h;split at h
 .obtain⟨s,h1,h2⟩:=Xs.1 h;injection h2 with _ h2;subst h2;unfold Wiv at h1;split at h1
  .injection h1 with h1;subst h1;exact⟨_::_::_,rfl⟩
  .cases h1
 .cases h
theorem WqH{g:Ghost}(hq:g.opens=true){st ac:St}{c:Bool}(h:WcW g st=some (c,ac)):Fw st ac:=by
 cases g<;>simp only[Ghost.opens,Xap]at hq;simp only[WcW]at h;split at h
 .split at h
  .split at h
   .exact WoS h
   .cases h
  .cases h
 .cases h
theorem WkW:∀(l:List Ghost) (st ac:St) (c:Bool),l.all Ghost.opens=true->Wbl l st=some (c,ac)->Fw st ac
 | [],st,ac,c,_,h=>by injection h with h;injection h with _ h;subst h;exact .refl _
 |g::l,st,ac,c,hq,h=>by
  simp only[Xbk,Xg]at hq;simp only[Wbl]at h;split at h
  .rename_i c1 s hg;split at h
   .rename_i c2 s2 hl;injection h with h;injection h with _ h;subst h;exact(WqH hq.1 hg).trans (WkW l _ _ _ hq.2 hl)
   .cases h
  .cases h
theorem Wim:∀(l:List Ghost),l.all Ghost.opens=true->Whw l= []
 | [],_=>rfl
 |g::l,h=>by
  simp only[Xbk,Xg]at h;cases g<;>simp only[Ghost.opens,Xap,false_and]at h;exact Wim l h.2
theorem Wq9:∀(l:List Oper) (st ac:St),rxs T Γ [] ops l st some=some ac->Fw st ac
 | [],st,ac,h=>by injection h with h;subst h;exact .refl _
 |o::l,st,ac,h=>by
  simp only[rxs]at h;obtain⟨s,h1,h2⟩:=WeS h;have e:opG [] o s=some (true,s):=by unfold opG;cases hd:o.dst<;>simp[Wsn,hd,Wj]
  rw[e]at h2;exact(Wor h1).trans (Wq9 l s ac h2)
theorem WoT{B:List (List Nat)}:∀(l:List Nat) (fl mu:List (Nat×List Nat)) (st ac:St),rdx T Γ A ops B l fl mu st some=some ac->Fw st ac
 | [],_,_,st,ac,h=>by injection h with h;subst h;exact .refl _
 |i::l,fl,mu,st,ac,h=>by
  simp only[rdx]at h;split at h
  .rename_i o _;cases hm:Wao o with
   |true=>
    rw[hm]at h;simp only[Wa]at h;obtain⟨s,h1,h2⟩:=WeS h;rw[WaI]at h2;obtain⟨_,h2⟩:=WQ h2;exact(Wor h1).trans (WoT l _ _ s ac h2)
   |false=>
    rw[hm]at h;simp only[Wf,WaI]at h;obtain⟨_,h⟩:=WQ h;obtain⟨s,h1,h2⟩:=WeS h;exact(Wor h1).trans (WoT l _ _ s ac h2)
  .cases h
theorem WqD(hl:(Woj (WbV ops.toList []) ops.size (WcA ops.toList 0)).length<=1){st ac:St}(h:Wi6 T Γ A ops st some=some ac):Fw st ac:=by
 simp only[Wi6,WeI]at h;obtain⟨_,h⟩:=WQ h;generalize Woj (WbV ops.toList []) ops.size (WcA ops.toList 0)=l at hl h
 match l,hl with
 | [],_=>cases h
 | [σ],_=>
  simp only[Wsf,WaI]at h;obtain⟨_,h⟩:=WQ h;exact WoT _ _ _ _ _ h
theorem Wsa:∀(c:Code),Wej ann c=true->∀(st ac:St) (e:Ex),sx T Γ ann N c st (λe s=>some (e,s))=some (e,ac)->Fw st ac
 | .skip,_,st,ac,e,h=>by injection h with h;injection h with _ h;subst h;exact .refl _
 | .ret,_,st,ac,e,h=>by injection h with h;injection h with _ h;subst h;exact .refl _
 | .seq a b,hl,st,ac,e,h=>by
  simp only[Wej,Xg]at hl;simp only[sx]at h;rw[WgG a hl.1]at h;obtain⟨⟨e1,s⟩,h1,h2⟩:=Xao.1 h;refine(Wsa a hl.1 _ _ _ h1).trans ?_;cases e1 with
  |normal=>exact Wsa b hl.2 _ _ _ h2
  |exit id=>injection h2 with h2;injection h2 with _ h2;subst h2;exact .refl _
  |ret=>injection h2 with h2;injection h2 with _ h2;subst h2;exact .refl _
 | .region id ops draw,hl,st,ac,e,h=>by
  simp only[Wej,Xg,Xcg,Xak,Wg]at hl;simp only[sx,Wim _ hl.1]at h;have key:∀s:St,(match Wbl (ann id) s with|some (c,bn)=>bif c then some (Ex.normal,bn)else none|none=>none)=some (e,ac)->Fw s ac:=λs h=>by
   split at h
   .rename_i c s2 hg;obtain⟨_,h⟩:=WQ h;injection h with h;injection h with _ h;subst h;exact WkW _ _ _ _ hl.1 hg
   .cases h
  cases draw with
  |true=>
   simp only[Wa]at h;have h1:=hl.2.resolve_left (by simp);rw[Wh9 h1]at h;obtain⟨s,h2,h3⟩:=Xao.1 h;exact(WqD h1 h2).trans (key s h3)
  |false=>
   simp only[Wf]at h;rw[Wi1]at h;obtain⟨s,h2,h3⟩:=Xao.1 h;exact(Wq9 _ _ _ h2).trans (key s h3)
 | .cond ..,h,_,_,_,_| .block ..,h,_,_,_,_| .loop ..,h,_,_,_,_| .exit ..,h,_,_,_,_| .scope ..,h,_,_,_,_| .label ..,h,_,_,_,_| .goto ..,h,_,_,_,_| .rangeFunc ..,h,_,_,_,_| .refuse ..,h,_,_,_,_=>by cases h
theorem WoC{R:Type}{rv:List ResultVar}(k:KV R)(e:Ex)(st:St):WqB T rv k e st=(WqB T rv WaZ e st).bind λp=>k p.1 p.2.1 p.2.2:=by
 unfold WqB;cases e with
 |exit _=>rfl
 |normal|ret=>all_goals
  cases Wch T st rv with
  |none=>rfl
  |some l=>match l with
   | []=>rfl
   | [x]=>rfl
   |_::_::_=>rfl
end
noncomputable def WoO(T:Tab)(ann:Nat->List Ghost)(n:Nat)(c:Code)(rv:List ResultVar)(R:Type)(st:St)(k:KV R):Option R:=
 bif Xgu st.env.length n then sx T [] ann 0 c st (WqB T rv k)else none
noncomputable def Inl.of(T:Tab)(ann:Nat->List Ghost)(n:Nat)(c:Code)(rv:List ResultVar)(h:Wej ann c=true):Inl where
 fn:=WoO T ann n c rv
 law R st k:=by
  unfold WoO;cases Xgu st.env.length n with
  |false=>rfl
  |true=>
   simp only[Wa];exact via (X:=λQ k=>sx T [] ann 0 c st λe s=>k (e,s)) (λQ k=>WgG c h st λe s=>k (e,s)) (f:=λp=>WqB T rv k p.1 p.2) (g:=λp=>WqB T rv WaZ p.1 p.2) λp=>WoC _ _ _
 suf st x objs nx hh:=by
  unfold WoO at hh;obtain⟨_,hh⟩:=WQ hh;rw[WgG c h]at hh;obtain⟨⟨e,s⟩,h1,h2⟩:=Xao.1 hh;obtain⟨pre,h3⟩:=Wsa c h _ _ _ h1;refine⟨pre,?_⟩;rw[←h3];simp only[WqB]at h2;split at h2
  .cases h2
  .split at h2
   .injection h2 with h2;exact(Wk (λp:Out=>p.2.1) h2).symm
   .cases h2
noncomputable def Sig.inline(i:Inl):Sig:=⟨[],[],λ_ _ _=>none,λ_=>none,λ_ _ _=>rfl,some i⟩
theorem Ghost.opens_quiet{l:List Ghost}(h:l.all Ghost.opens=true):l.all Ghost.quiet=true:=by
 rw[Xab]at h⊢;intro g hg;have:=h g hg;cases g<;>simp_all [Ghost.opens,Ghost.quiet]
theorem Wq1{P:Program}{T:Tab}(hM:P.follows .mixedOrders=true)(hT:W5 P T){f:Func}{k:FuncId}{c:Code}{ann:Nat->List Ghost}(hf:P.funcs[k]?=some f)(hb:f.body=some c)
  (bv:Wcg f.ntmps [] c=true) (hl:Wej ann c=true) (ha:∀id,(ann id).all Ghost.opens=true):Wsp P k (Inl.of T ann f.ntmps c f.results.toList hl):=by
 intro st vs out aM aa w0 F G0 G ν ex w henv hh gx dX;have aM:WoO T ann f.ntmps c f.results.toList Out st WaZ=some out:=aM;unfold WoO at aM;obtain⟨hn,aM⟩:=WQ aM;have hn:=Xec hn;refine calls_of_wp hf hb ?_;have hr:Rel w0 F ⟨f.ntmps,[],ex⟩ G0 G ν st {tmps:=vs.toArray++Xdc (f.ntmps-vs.toArray.size) undef,defers:=[]} w:=
  ⟨rfl,by simp;omega,λp hp=>by simp at hp,λi x hx=>by
   obtain⟨v,hv,hx⟩:=henv i x hx;refine⟨v,?_,hx⟩;have ad:=(Xz.1 hv).1;rw[Xev (by simpa using ad)];simpa using hv,hh,gx,dX⟩
 suffices hk:∀e,Wog w0 F ⟨f.ntmps,[],ex⟩ G0 (WqB T f.results.toList WaZ e) out (bodyPost P f (λe w'=>∃rv G' ν',e= .returned rv/\AValRel G' ν' out.2.2 out.1 rv/\HRel w0 F G' ν' out.2.1 out.2.2 w'/\GExt w0.heap.size F G0 G'/\∀x v,ex x v->AValRel G' ν' out.2.2 x v) e.to)from
  Wj3 (nt:=⟨f.ntmps,[],ex⟩) hM hT Wlo (n:=f.ntmps) rfl (λp hp=>by simp at hp) (.inr λid=>Ghost.opens_quiet (ha id)) c bv hk _ _ _ _ _ hr aM
 intro e ac a w' G1 ν1 fj hk;have eH:∀x,Wch T ac f.results.toList=some [x]->WaZ x ac.objs ac.nx=some out->a.defers= []/\∃v,(results f a.tmps).run P w'= .ok v w'/\∃rv G' ν',Ending.returned v= .returned rv/\AValRel G' ν' out.2.2 out.1 rv/\HRel w0 F G' ν' out.2.1 out.2.2 w'/\GExt w0.heap.size F G0 G'/\∀x v,ex x v->AValRel G' ν' out.2.2 x v:=λx hx ho=>by
  injection ho with ho;subst ho;obtain⟨rv,lM,lN,lO⟩:=Wgd hT fj _ _ hx;obtain⟨v,rfl⟩:∃v,rv= [v]:=by
   match rv,lN with
   | [v],_=>exact⟨v,rfl⟩
  refine⟨fj.defers,v,?_,v,G1,ν1,rfl,lO 0 x v rfl rfl,fj.h,fj.gx,fj.ex⟩;show(do let vs←f.results.mapM (Wg8 a.tmps);pure (if h:vs.size=1 then vs[0]else .tuple vs):Sem Value).run P w'=_;have fm:(f.results.mapM (Wg8 a.tmps)).run P w'= .ok [v].toArray w':=by
   rw[Xdq,Sem.run_map,lM];rfl
  rw[Sem.run_bind,fm];simp only[Result.andThen_ok,Sem.run_pure];rfl
 cases e with
 |exit id=>cases hk
 |normal|ret=>all_goals
  simp only[WqB]at hk;split at hk
  .rename_i x hx;exact eH x hx hk
  .cases hk
end Go.Sx
namespace Go.Sx
open Go.ChangeShapes Go.WideShapes Go.ChangeAt Go.RowKit
set_option linter.unusedVariables false
set_option linter.unusedSimpArgs false
def Wfd:(t:Ty)->t.den->Prop
 | .int k,n=>(Lit.int k n).wf=true
 | .bool,_=>True
 | .str,s=>Xb s<=maxLen
 | .slice e,l=>Xb l<=maxLen/\∀x,List.Mem x l->Wfd e x
 | .own _,_=>False
 | .prod a b,d=>Wfd a d.1/\Wfd b d.2
def WeL:(t:Ty)->t.den->Nat
 | .int _,_=>1
 | .bool,_=>1
 | .str,s=>Xb s+1
 | .slice e,l=>(List.map (WeL e) l).sum+1
 | .own _,_=>0
 | .prod a b,d=>WeL a d.1+WeL b d.2
structure Bulk{H:Type}(β:DataW H->Nat):Prop where
 lit:∀l,1<=β (.lit l)
 str:∀s,s.length+1<=β (.lit (.string s))
 nil:1<=β .nil
 slice:∀es sp,(es.map β).sum+1<=β (.slice es sp)
 agg:∀ps,(ps.map β).sum<=β (.agg ps)
def Wh1(T:Tab):List (Nat×TypeId)->Nat->Option (List Ty)
 | [],_=>some []
 |(o,ft)::fs,off=>match Wj T ft with
  |some te=>bif Xaz o off&&te.plain then(Wh1 T fs (off+te.ty.size)).map (te.ty:: ·)else none
  |none=>none
def Wc6:List Ty->Ty
 | []=>.bool
 | [t]=>t
 |t::ts=>.prod t (Wc6 ts)
def Wmd(T:Tab):Nat->TypeId->Bool
 |0,_=>false
 |n+1,t=>match Wj T t with
  |some te=>match te.shape with
   | .basic=>match te.ty with
    | .int _=>true
    | .bool=>true
    | .str=>true
    | .slice _=>false
    | .own _=>false
    | .prod _ _=>false
   | .slice e=>Wmd T n e&&(match Wj T e with|some da=>da.plain|none=>false)
   | .struct fs=>fs.all (λf=>Wmd T n f.2)&&(match Wh1 T fs 0 with
    |some (t::ts)=>decide (te.ty=Wc6 (t::ts))
    |_=>false)
   | .ptr _=>false
   | .arr _ _=>false
  |none=>false
section
variable{P:Program}{T:Tab}{H:Type}{enc:TypeId×Value->H}{β:DataW H->Nat}{w:World}
theorem Wfw{t:TypeId}{te:TE}(h:TEok P T t te):P.cellsOf t=te.size:=by
 obtain⟨i,z,hi,hs,_⟩:=h.info;unfold Program.cellsOf;rw[hi];exact hs
def WgL(w:World):GH:=λb o=>w.cell? ⟨b,o,none⟩
theorem Wo2{b:Nat}{a:Addr}{n:Nat}{cs:List Value}(h:w.cells? b a n=some cs):cs.length=n/\∀(j:Nat) (v:Value),cs[j]?=some v->w.cell? (a.add j)=some v:=by
 unfold World.cells? at h;split at h
 .refine⟨by simpa using mapM_some_length h,λj v hj=>?_⟩;have ad:j<n:=by
   have:=mapM_some_length h;have h2:=(Xz.1 hj).1;simp at this;omega
  have:=mapM_some_get h j j (by simp[ad]);rw[this];exact hj
 .cases h
theorem WmP{e:Ty}{a:Addr}(n:Nat)(hn:0<n):∀(k:Nat) (i0:Nat) (el:Nat->Option (DataW H×List MemPlace)) (f:List Value->Option (DataW H×List MemPlace)),
  (∀cs y,f cs=some y->∃d:e.den,Enc (WgL w) e d cs/\Wfd e d/\WeL e d<=β y.1)->
  (∀i,i0<=i->i<i0+k->∃y cs,w.cells? 0 (a.add (i*n)) n=some cs/\f cs=some y/\el i=some y)->
  ∃(l:List e.den) (cs:List Value),l.length=k/\WcT (Enc (WgL w) e) l cs/\(∀x∈l,Wfd e x)/\(∀(j:Nat) (v:Value),cs[j]?=some v->w.cell? (a.add (i0*n+j))=some v)/\
   cs.length=k*n/\(l.map (WeL e)).sum<=((Xbt k).map λi=>match el (i0+i)with|some y=>β y.1|none=>0).sum
 |0,i0,el,f,hf,he=>⟨[],[],rfl,rfl,by simp,by simp,by simp,by simp⟩
 |k+1,i0,el,f,hf,he=>by
  obtain⟨y,c1,h1,h2,h3⟩:=he i0 (Xm _) (by omega);obtain⟨d,uj,kc,hd3⟩:=hf _ _ h2;obtain⟨l,cs,g1,g2,g3,g4,g5,g6⟩:=WmP n hn k (i0+1) el f hf (λi hi1 qM=>he i (by omega) (by omega));obtain⟨hl,hg⟩:=Wo2 h1;refine⟨d::l,c1++cs,by simp[g1],⟨c1,cs,rfl,uj,g2⟩,λx hx=>?_,λj v hj=>?_,?_,?_⟩
  .rcases Xq.1 hx with rfl|hx
   .exact kc
   .exact g3 x hx
  .rw[Xan]at hj;split at hj
   .have:=hg j v hj;rw[Addr.add_add]at this;exact this
   .rename_i ad;have:=g4 _ v hj;rw[hl]at this ad;have e:(i0+1)*n+(j-n)=i0*n+j:=by rw[Xcn];omega
    rw[e]at this;exact this
  .rw[Xo,hl,g5,Xcn];omega
  .rw[List.range_succ_eq_map,Xag,Xag,Xdo,Xdo,Xdu];simp only[Xay,h3];have:((λi=>match el (i0+i)with|some y=>β y.1|none=>0)∘Nat.succ)= λi=>match el (i0+1+i)with|some y=>β y.1|none=>0:=by
    funext i;simp only[Function.comp,Nat.succ_eq_add_one];rw[show i0+(i+1)=i0+1+i by omega]
   rw[this];omega
theorem WrS{β':DataW H×List MemPlace->Nat}(xs:List (DataW H×List MemPlace)):((Xbt xs.length).map λi=>match xs[0+i]? with|some y=>β' y|none=>0).sum=(xs.map β').sum:=by
 congr 1;apply List.ext_getElem
 .simp
 .intro i h1 h2;simp at h1;simp[h1]
theorem WlP{t:Ty}{ts:List Ty}(h:ts≠ []):Wc6 (t::ts)= .prod t (Wc6 ts):=by
 cases ts with
 |nil=>exact Ww rfl h
 |cons _ _=>rfl
theorem Wiw(hT:W5 P T)(hβ:Bulk β)(f:TypeId->List Value->Option (DataW H×List MemPlace)){cs:List Value}:∀(fs:List (Nat×TypeId)) (off:Nat) (ts:List Ty) (ys:List (DataW H×List MemPlace)),ts≠ []->Wh1 T fs off=some ts->
  (∀fd∈fs,∀te cs y,Wj T fd.2=some te->f fd.2 cs=some y->∃d:te.ty.den,Enc (WgL w) te.ty d cs/\Wfd te.ty d/\WeL te.ty d<=β y.1)->
  ys.length=fs.length->(∀(i:Nat) (fd:Nat×TypeId),fs[i]?=some fd->f fd.2 ((cs.drop fd.1).take (P.cellsOf fd.2))=ys[i]?)->cs.length=off+(Wc6 ts).size->
  ∃d:(Wc6 ts).den,Enc (WgL w) (Wc6 ts) d (cs.drop off)/\Wfd (Wc6 ts) d/\WeL (Wc6 ts) d<=(ys.map λy=>β y.1).sum
 | [],off,ts,ys,bZ,gG,_,_,_,_=>by injection gG with gG;exact Ww gG.symm bZ
 |(o,ft)::fs,off,ts,ys,bZ,gG,hf,aa,sE,bk=>by
  cases ys with
  |nil=>simp at aa
  |cons y ys=>
   simp only[Wh1]at gG;split at gG
   .rename_i te hl;obtain⟨hc,gG⟩:=WQ gG;simp only[Xg]at hc;have ho:o=off:=by simpa using hc.1
    obtain⟨sF,dG,rfl⟩:=Xs.1 gG;have bE:P.cellsOf ft=te.ty.size:=by rw[Wfw (hT _ _ hl),WJ hc.2]
    have h0:=sE 0 (o,ft) rfl;simp only[Xdb,bE,ho]at h0;obtain⟨d1,e1,e2,e3⟩:=hf (o,ft) (Xh ..) te _ y hl h0;cases dN:fs with
    |nil=>
     subst dN;simp only[Wh1]at dG;injection dG with dG;subst dG;have qN:ys= []:=by cases ys with
      |nil=>rfl
      |cons _ _=>simp at aa
     subst qN;have qJ:(cs.drop off).take te.ty.size=cs.drop off:=Xde (by rw[List.length_drop,bk];simp[Wc6]);rw[qJ]at e1;exact⟨d1,e1,e2,by rw[Xag,Xbu,Xdo,List.sum_nil,Xay];exact e3⟩
    |cons g gs=>
     have om:sF≠ []:=by
      rw[dN]at dG;obtain⟨o2,ft2⟩:=g;simp only[Wh1]at dG;split at dG
      .obtain⟨_,dG⟩:=WQ dG;obtain⟨x,_,rfl⟩:=Xs.1 dG;simp
      .cases dG
     have sG:=WlP (t:=te.ty) om;obtain⟨d2,f1,f2,f3⟩:=Wiw hT hβ f (cs:=cs) fs (off+te.ty.size) sF ys om dG (λfd gy=>hf fd (Xe _ gy)) (by simpa using aa)
      (λi fd hi=>by have:=sE (i+1) fd (by simpa using hi);simpa using this) (by rw[bk,sG,Ty.size];omega)
     rw[sG];refine⟨(d1,d2),⟨_,_,?_,e1,f1⟩,⟨e2,f2⟩,?_⟩
     .rw[←List.drop_drop];exact(List.take_append_drop _ _).symm
     .simp only[WeL,Xag,Xdo];omega
   .cases gG
theorem WiN(hT:W5 P T)(hβ:Bulk β):∀(n fuel:Nat) (t:TypeId) (te:TE) (cs:List Value) (x:DataW H×List MemPlace),Wmd T n t=true->Wj T t=some te->
  DataW.trod enc P w 0 (λ_=>true) true fuel t cs=some x->∃d:te.ty.den,Enc (WgL w) te.ty d cs/\Wfd te.ty d/\WeL te.ty d<=β x.1
 |0,_,_,_,_,_,h,_,_=>by cases h
 |n+1,fuel,t,te,cs,x,h,hl,hx=>by
  have bo:=hT _ _ hl;simp only[Wmd,hl]at h;obtain⟨ty,agg,shape⟩:=te;cases shape with
  |basic=>
   have hu:=bo.und.2;cases ty with
   |int k=>
    obtain⟨m,rfl,rfl,hw⟩:=DataW.trod_int hu hx;exact⟨m,rfl,hw,hβ.lit _⟩
   |bool=>
    obtain⟨b,rfl,rfl⟩:=DataW.trod_bool hu hx;exact⟨b,rfl,trivial,hβ.lit _⟩
   |str=>
    obtain⟨s,rfl,rfl,hs⟩:=DataW.trod_string hu hx;refine⟨s.data.toList,by simp[Enc],?_,hβ.str _⟩;show s.data.toList.length<=maxLen;rw[Array.length_toList];exact hs
   |slice e=>cases h
   |own e=>cases h
   |prod a b=>cases h
  |slice e=>
   simp only[Xg]at h;obtain⟨ha,hu,da,aG,fC⟩:=bo.und;simp only at fC;subst fC;have hp:da.plain=true:=by have:=h.2;rw[aG]at this;exact this
   have bE:P.cellsOf e=da.ty.size:=by rw[Wfw (hT _ _ aG),WJ hp]
   rcases DataW.trod_slice hu hx with⟨rfl,rfl⟩|⟨a,len,cap,elems,rest,m,rfl,rfl,rfl,hb,uk,jZ,qO,nK,ic,_⟩
   .exact⟨([]:List da.ty.den),⟨_,rfl,.inl ⟨rfl,rfl⟩⟩,⟨by simp,λx hx=>by cases hx⟩,by simpa [WeL]using hβ.nil⟩
   .have key:=WmP (w:=w) (β:=β) (e:=da.ty) (a:=a) da.ty.size (Wba _) len 0 (λi=>elems[i]?) (λcs=>DataW.trod enc P w 0 (λ_=>true) true m e cs)
     (λcs y hy=>WiN hT hβ n m e da cs y h.1 aG hy) (λi _ hi=>by
      rw[Xbh]at hi;have:=nK i hi;rw[bE]at this;have ad:i<elems.length:=by omega
      rw[Xp ad]at this;obtain⟨cs,h1,h2⟩:=Xao.1 this;exact⟨elems[i],cs,h1,h2,Xp ad⟩)
    obtain⟨l,cs,g1,g2,g3,g4,g5,g6⟩:=key;refine⟨l,⟨_,rfl,?_⟩,⟨by rw[g1];omega,g3⟩,?_⟩
    .by_cases h0:len=0
     .subst h0;exact .inr (.inr ⟨a,cap,rfl,Xu g1⟩)
     .have p9:0<cs.length:=by rw[g5];exact Nat.mul_pos (by omega) (Wba _)
      have oo:=g4 0 _ (Xp p9);have oq:a.spot=none:=by
       rw[Xem,Xay]at oo;have:=World.cell?_spot oo;simpa [Addr.add]using this
      obtain⟨b,off,spot⟩:=a;subst oq;refine .inr (.inl ⟨b,off,cap,cs,by rw[g1],by rw[g1];exact uk,jZ,g2,λj v hj=>?_⟩);have:=g4 j v hj;rw[Xem,Xbh,Wau]at this;exact this
    .have h1:=hβ.slice (elems.map (·.1)) (rest.map (·.1));have h2:((Xbt len).map λi=>match elems[0+i]? with|some y=>β y.1|none=>0).sum=(elems.map λy=>β y.1).sum:=by
      rw[←qO];exact WrS elems
     rw[h2]at g6;rw[Xdu]at h1;simp only[WeL];have h3:(List.map (β∘λx=>x.1) elems)=elems.map λy=>β y.1:=rfl;rw[h3]at h1;show(List.map (WeL da.ty) l).sum+1<=_;omega
  |struct fs=>
   simp only[Xg]at h;obtain⟨ha,fields,hu,dN,sH,_⟩:=bo.und;have h2:=h.2;split at h2
   .rename_i t1 ts um;have fC:ty=Wc6 (t1::ts):=WN h2;subst fC;obtain⟨xs,m,rfl,rfl,cK,fB,jI⟩:=DataW.trod_struct hu hx;have bE:P.cellsOf t=(Wc6 (t1::ts)).size:=by rw[Wfw bo];rfl
    have key:=Wiw (w:=w) (P:=P) hT hβ (λt cs=>DataW.trod enc P w 0 (λ_=>true) true m t cs) (cs:=cs) fs 0 (t1::ts) xs (by simp) um
     (λfd gy te cs y sA hy=>WiN hT hβ n m fd.2 te cs y (Xab.1 h.1 fd gy) sA hy) (by rw[fB,←dN];simp)
     (λi fd hi=>by
      rw[←dN]at hi;rw[Xai]at hi;obtain⟨fl,fT,he⟩:=Xs.1 hi;subst he;exact jI i fl (by simpa using fT)) (by rw[cK,bE,Xbh])
    obtain⟨d,g1,g2,g3⟩:=key;rw[Xca]at g1;refine⟨d,g1,g2,Xcr g3 ?_⟩;have:=hβ.agg (xs.map (·.1));rw[Xdu]at this;exact this
   .cases h2
  |ptr e=>cases h
  |arr m e=>cases h
theorem Wdn{G:GH}{w:World}:∀(t:Ty) (d:t.den) (vs:List Value),Enc G t d vs->Wm G w t d vs []
 | .int _,_,_,h=>⟨rfl,h⟩
 | .bool,_,_,h=>⟨rfl,h⟩
 | .str,_,_,h=>⟨rfl,h⟩
 | .slice _,_,_,h=>⟨rfl,h⟩
 | .own _,_,_,h=>h.elim
 | .prod a b,d,vs,⟨c1,c2,he,h1,h2⟩=>⟨c1,c2,[],[],he,rfl,Wdn a _ _ h1,Wdn b _ _ h2⟩
def WmE:(ps:List PTy)->Wea ps->Prop
 | [],_=>True
 | .v t _::ps,d=>Wfd t d.1/\WmE ps d.2
 | .box _::_,_=>False
 | .mut _::_,_=>False
 | .clos _ _::_,_=>False
 | .kv _ _::_,_=>False
 | .rp _::_,_=>False
 | .vj _::_,_=>False
 | .boxal _ _::_,_=>False
def We6:(ps:List PTy)->Wea ps->Nat
 | [],_=>0
 | .v t _::ps,d=>WeL t d.1+We6 ps d.2
 | .box _::_,_=>0
 | .mut _::_,_=>0
 | .clos _ _::_,_=>0
 | .kv _ _::_,_=>0
 | .rp _::_,_=>0
 | .vj _::_,_=>0
 | .boxal _ _::_,_=>0
def Wsl(P:Program)(T:Tab):List TypeId->List PTy->Bool
 | [],[]=>true
 |t::ts,p::ps=>(match p with
  | .v ty agg=>(match Wj T t with|some te=>decide (te.ty=ty)&&(te.agg==agg)|none=>false)&&Wmd T 20 t&&P.readableRec t&&Nat.blt t P.types.size&&Wsl P T ts ps
  | .box _=>false
  | .mut _=>false
  | .clos _ _=>false
  | .kv _ _=>false
  | .rp _=>false
  | .vj _=>false
  | .boxal _ _=>false)
 |_,_=>false
theorem WkT(hT:W5 P T)(hβ:Bulk β):∀(ts:List TypeId) (ps:List PTy) (vs:List Value) (ds:List (DataW H)) (pl:List MemPlace),Wsl P T ts ps=true->DataW.TrodAll enc P w 0 (λ_=>true) true ts vs ds pl->
  (∀(j:Nat) (t:TypeId) (v:Value),ts[j]?=some t->vs[j]?=some v->∃base,Value.okWide P w .any base t v)->
  ∃d:Wea ps,WaP (WgL w) w ps d vs [] []/\WmE ps d/\We6 ps d<=(ds.map β).sum
 | [],[],vs,ds,pl,_,h,_=>by
  obtain⟨rfl,rfl,_⟩:=trodAll_nil h;exact⟨(),⟨rfl,rfl,rfl⟩,trivial,by simp[We6]⟩
 | [],_::_,_,_,_,h,_,_=>by cases h
 |_::_,[],_,_,_,h,_,_=>by cases h
 |t::ts,.box _::ps,_,_,_,h,_,_=>by cases h
 |t::ts,.mut _::ps,_,_,_,h,_,_=>by cases h
 |t::ts,.clos _ _::ps,_,_,_,h,_,_=>by cases h
 |t::ts,.kv _ _::ps,_,_,_,h,_,_=>by cases h
 |t::ts,.rp _::ps,_,_,_,h,_,_=>by cases h
 |t::ts,.vj _::ps,_,_,_,h,_,_=>by cases h
 |t::ts,.boxal _ _::ps,_,_,_,h,_,_=>by cases h
 |t::ts,.v ty agg::ps,vs,ds,pl,hp,h,fa=>by
  obtain⟨v,aj,d,ot,p,q,rfl,rfl,rfl,h0,hr⟩:=trodAll_cons h;simp only[Wsl,Xg]at hp;obtain⟨⟨⟨⟨h1,h2⟩,h3⟩,h4⟩,h5⟩:=hp;split at h1
  .rename_i te hl;simp only[Xg]at h1;have e1:te.ty=ty:=WN h1.1;have e2:te.agg=agg:=eq_of_beq h1.2;subst e1 e2;obtain⟨fuel,hx⟩:=h0;obtain⟨x,ou,sJ,qP⟩:=WiN hT hβ 20 fuel t te _ (d,p) h2 hl hx;obtain⟨base,bv⟩:=fa 0 t v rfl rfl;obtain⟨dd,g1,g2,g3⟩:=WkT hT hβ ts ps aj ot q h5 hr (λj t v hj hv=>fa (j+1) t v (by simpa using hj) (by simpa using hv));refine⟨(x,dd),⟨v,aj,[],[],rfl,rfl,?_,g1⟩,⟨sJ,g2⟩,?_⟩
   .have hu:=(hT _ _ hl).und;unfold WhE;obtain⟨ty,ag,shape⟩:=te;simp only at ou sJ qP⊢;have dD:∀u:Value,u.cells= #[u]->u=v->v.cells.toList= [v]:=λu h e=>by rw[←e,h]
    cases shape with
    |basic=>
     obtain⟨ha,hu⟩:=hu;simp only at ha;subst ha;simp only[Xap,Wae];have:v.cells.toList= [v]:=by
      cases ty with
      |int k=>obtain⟨n,rfl⟩:=okWide_int hu bv;rfl
      |bool=>obtain⟨n,rfl⟩:=okWide_bool hu bv;rfl
      |str=>obtain⟨n,rfl⟩:=okWide_string hu bv;rfl
      |slice e=>cases hu
      |own e=>cases hu
      |prod a b=>cases hu
     rw[this]at ou;exact Wdn _ _ _ ou
    |slice e=>
     obtain⟨ha,hu,_⟩:=hu;simp only at ha;subst ha;simp only[Xap,Wae];obtain⟨a,l,c,rfl⟩:=okWide_slice hu bv;exact Wdn _ _ _ ou
    |struct fs=>
     obtain⟨ha,fields,hu,_⟩:=hu;simp only at ha;subst ha;simp only[W9];obtain⟨cs,rfl,_⟩:=okWide_struct hu bv;exact⟨cs.toList,by simp,Wdn _ _ _ ou⟩
    |ptr e=>simp only[Wmd,hl]at h2;cases h2
    |arr m e=>simp only[Wmd,hl]at h2;cases h2
   .have qP:WeL te.ty x<=β d:=qP;simp only[We6,Xag,Xdo];omega
  .cases h1
theorem WkB:∀(ts:List TypeId) (vs:List Value) (ds:List (DataW H)) (pl:List MemPlace),DataW.TrodAll enc P w 0 (λ_=>true) true ts vs ds pl->ds.length=ts.length
 | [],vs,ds,pl,h=>by obtain⟨_,rfl,_⟩:=trodAll_nil h;rfl
 |t::ts,vs,ds,pl,h=>by
  obtain⟨v,aj,d,ot,p,q,rfl,rfl,rfl,h0,hr⟩:=trodAll_cons h;simp[WkB ts aj ot q hr]
theorem Wk5(gK:laidOutB P=true){W W':World}(hb:Below W.heap.size W W'){sp:Nat->Bool}:∀(ts:List TypeId) (ps:List PTy) (vs:List Value) (ds:List (DataW H)) (pl:List MemPlace),Wsl P T ts ps=true->
  DataW.TrodAll enc P W 0 (λ_=>true) true ts vs ds pl->(∀p∈pl,p.block<W.heap.size)->(∀p∈pl,sp p.block=true)->DataW.TrodAll enc P W' 0 sp true ts vs ds pl
 | [],ps,vs,ds,pl,_,h,_,_=>by
  obtain⟨rfl,rfl,rfl⟩:=trodAll_nil h;exact trodAll_mk0
 |t::ts,[],_,_,_,h,_,_,_=>by cases h
 |t::ts,.box _::ps,_,_,_,h,_,_,_=>by cases h
 |t::ts,.mut _::ps,_,_,_,h,_,_,_=>by cases h
 |t::ts,.clos _ _::ps,_,_,_,h,_,_,_=>by cases h
 |t::ts,.kv _ _::ps,_,_,_,h,_,_,_=>by cases h
 |t::ts,.rp _::ps,_,_,_,h,_,_,_=>by cases h
 |t::ts,.vj _::ps,_,_,_,h,_,_,_=>by cases h
 |t::ts,.boxal _ _::ps,_,_,_,h,_,_,_=>by cases h
 |t::ts,.v ty agg::ps,vs,ds,pl,hp,h,ad,ic=>by
  obtain⟨v,aj,d,ot,p,q,rfl,rfl,rfl,h0,hr⟩:=trodAll_cons h;simp only[Wsl,Xg]at hp;obtain⟨⟨⟨⟨h1,h2⟩,h3⟩,h4⟩,h5⟩:=hp;have aJ:t<P.types.size:=by rw[Xgq]at h4;exact h4
  exact⟨p,q,WideElems.Trod_stays gK h3 aJ h0 (λx hx=>hb.same (ad x (Xj _ hx))) (λx hx=>ic x (Xj _ hx)),
   Wk5 gK hb ts ps aj ot q h5 hr (λx hx=>ad x (Xf _ hx)) (λx hx=>ic x (Xf _ hx)),rfl⟩
theorem WqA{f:Func}{s:ChangeSpec}{Whl fresh eI again:Bool}{W W':World}{args:Array Value}{v:Value}{ds gs:List (DataW H)}{before pa pv:List MemPlace}
  (hW:DataW.Whole enc P f.params.toList s.vars Whl W args.toList ds gs before)
  (fW:∀(b:Nat) (sp:Nat->Bool) (hd:Bool),DataW.TrodAll enc P W' b sp hd f.resultTypes.toList (v.resultList f.resultTypes.size) (s.fn H (ds++gs)).results [])
  (au:∀sp:Nat->Bool,(∀p∈before,sp p.block=true)->DataW.TrodAll enc P W' 0 sp true f.params.toList args.toList (s.fn H (ds++gs)).args pa)
  (kQ:∀sp:Nat->Bool,(∀p∈before,sp p.block=true)->DataW.TrodVars enc P W' sp s.vars (s.fn H (ds++gs)).vars pv)
  (cq:before=pa++pv) (hk:W.keptBut W' (· ∈before)) (sL:∀a,a.block<W.heap.size->W'.frozen? a=W.frozen? a)
  (bv:∀(j:Nat) (t:TypeId) (r:Value),f.resultTypes[j]?=some t->(v.resultList f.resultTypes.size)[j]?=some r->Value.okWide P W' .any 0 t r):
  s.post enc P f Whl fresh eI again W args v W':=by
 have fe:∀p∈before,(λb=>decide (b<W.heap.size)) p.block=true:=λp hp=>by simpa using hW.lt p hp
 refine⟨ds,gs,before,[],pa,pv,hW,fW _ _ _,au _ fe,kQ _ fe,World.keptBut_mono (λp hp=>⟨hp,?_⟩) hk,λ_=>?_⟩
 .rw[cq,Xl]at hp;exact Or.inr hp
 .have ad:=hW.lt;obtain⟨_,_,_,_,_,hz,hn⟩:=hW;refine⟨bv,_,_,([]++pa)++pv,⟨[]++pa,pv,trodAll_append (au _ (λ_ _=>rfl)) (fW _ _ _),kQ _ (λ_ _=>rfl),rfl,?_,?_⟩,?_⟩
  .intro b off hp;have dI:MemPlace.cell b off∈before:=by rw[cq];simpa using hp
   rw[sL ⟨b,off,none⟩ (ad _ dI)];exact hz b off dI
  .intro ha;have:=hn ha;rw[cq]at this;simpa using this
  .intro p hp _;rw[cq];simpa using hp
theorem law_row(hT:W5 P T)(gK:laidOutB P=true){f:Func}{k:FuncId}{s:ChangeSpec}(cT:s.vars= [])(hs:∀ds:List (DataW H),ds.length=f.params.toList.length->s.fn H ds={results:=[.lit (.bool true)],args:=ds})
  {ps:List PTy} (cq:Wsl P T f.params.toList ps=true) {tb:TypeId} (fW:f.resultTypes= #[tb]) (sM:P.underlying tb=some .bool) {run:Nat->Wea ps->Option (WeG ps×Wfj [.v .bool false])}
  (cy:∀N,Wsk P k (Sig.of ps [.v .bool false] (run N))) (hβ:Bulk β) {ok:List (DataW H)->Prop} {M:Nat->Prop} (ov:∀ds m,ok ds->m<=(ds.map β).sum->M m)
  (qQ:∀d:Wea ps,WmE ps d->M (We6 ps d)->∃N o,run N d=some (o,(true,()))) {Whl fresh eI again:Bool}
  (W:World) (base:Nat) (args:Array Value) (ds gs:List (DataW H)) (before:List MemPlace)
  (fa:∀(j:Nat) t v,f.params[j]?=some t->args[j]?=some v->Value.okWide P W .any base t v)
  (hW:DataW.Whole enc P f.params.toList s.vars Whl W args.toList ds gs before) (hk:ok ds):
  Calls P k args W λe W'=>∃v,e= .returned v/\s.post enc P f Whl fresh eI again W args v W':=by
 have hW':=hW;have ad:=hW.lt;obtain⟨p,q,hA,hV,sN,sL,aH⟩:=hW;rw[cT]at hV;obtain⟨un,hq⟩:=trodVars_none hV;subst un hq;rw[Xcf]at sN;subst sN;obtain⟨d,h1,h2,h3⟩:=WkT (w:=W) hT hβ f.params.toList ps args.toList ds before cq hA (λj t v hj hv=>⟨base,fa j t v (by simpa using hj) (by simpa using hv)⟩);obtain⟨N,o,ho⟩:=qQ d h2 (ov ds _ hk h3);have hc:=cy N d (o,(true,())) ho (WgL W) W args.toList [] [] h1 List.Pairwise.nil (by simp) (λb o v hv=>hv);have au:args.toList.toArray=args:=by simp
 rw[au]at hc;refine hc.mono λe W' ⟨rv,kf,ms,cr,G',he,ha⟩=>?_;have hb:Below W.heap.size W W':=⟨ha.le.os,ha.le.tape,ha.le.output,ha.le.size,λb hb=>ha.le.whole b hb (λo ⟨q,hq,_⟩=>by simp at hq)⟩;obtain⟨v,aj,n1,n2,e1,e2,e3,e4⟩:=ha.res;obtain⟨e5,_⟩:=e4;subst e5;have hv:v= .bool true:=by
  unfold WhE at e3;simp only[Xap,Wae]at e3;have:=e3.2;simpa [Enc]using this
 subst hv;have kR:WgQ rv= .bool true:=by rw[e1];rfl
 rw[kR]at he;refine⟨.bool true,he,?_⟩;have aa:=WkB _ _ _ _ hA;have qR:=hs (ds++ []) (by rw[Xcf];exact aa);refine WqA (pa:=before) (pv:=[]) hW' ?_ ?_ ?_ (by simp) (hb.frame _) (λa ha=>hb.frozen ha) (ok_one fW rfl (okWide_bool_mk sM _))
 .intro b sp hd;rw[qR,fW];exact trodAll_cons_mk (shut_bool sM _) trodAll_mk0
 .intro sp ic;rw[qR,Xcf];exact Wk5 gK hb _ _ _ _ _ cq hA ad ic
 .intro sp ic;rw[qR,cT];rfl
end
end Go.Sx
namespace Go.Sx
set_option linter.unusedVariables false
end Go.Sx
namespace Go.Sx
set_option linter.unusedVariables false
def WiF{α:Type}(r:α->α->Bool):List α->Bool
 | []=>true
 |x::l=>l.all (r x)&&WiF r l
def WdF{α:Type}(cf:α->α->Int)(x y:α):Bool:=decide (cf x y<0)
def Whl{α:Type}(cf:α->α->Int)(x y:α):Bool:=WdF cf x y||WdF cf y x
def Wdc{α:Type}(cf:α->α->Int)(xs:List α):List α:=xs.mergeSort λx y=>!WdF cf y x
def Zh5{α:Type}(rng:α->Bool)(cf:α->α->Int)(N:Nat)(xs:List α):Option ((List α×Unit)×Unit):=
 bif xs.all rng&&(WiF (Whl cf) xs&&decide (xs.length<4611686018427387904))then some ((Wdc cf xs,()),())else none
structure SwoOn{α:Type}(rng:α->Bool)(cf:α->α->Int):Prop where
 irr:∀x,rng x=true->¬cf x x<0
 tr:∀x y z,rng x=true->rng y=true->rng z=true->cf x y<0->cf y z<0->cf x z<0
 nt:∀x y z,rng x=true->rng y=true->rng z=true->¬cf x y<0->¬cf y z<0->¬cf x z<0
theorem Wmj{α:Type}{rng:α->Bool}{cf:α->α->Int}{N:Nat}{xs:List α}{o:(List α×Unit)×Unit}(h:Zh5 rng cf N xs=some o):
  (∀x∈xs,rng x=true)/\WiF (Whl cf) xs=true/\xs.length<4611686018427387904/\o=((Wdc cf xs,()),()):=by
 unfold Zh5 at h;cases hb:xs.all rng&&(WiF (Whl cf) xs&&decide (xs.length<4611686018427387904))
 .rw[hb]at h;cases h
 .rw[hb]at h;simp only[Wa]at h;injection h with h;simp only[Xg,Wg]at hb;exact⟨Xab.1 hb.1,hb.2.1,hb.2.2,h.symm⟩
theorem WkI{α:Type}{r:α->α->Bool}:∀{l:List α},WiF r l=true->∀(i j:Nat) (hi:i<l.length) (hj:j<l.length),i<j->r l[i] l[j]=true
 | [],_,i,_,hi,_,_=>by simp at hi
 |x::l,h,0,j+1,hi,hj,nj=>by
  simp only[WiF,Xg]at h;exact Xab.1 h.1 _ (List.getElem_mem _)
 |x::l,h,i+1,j+1,hi,hj,nj=>by
  simp only[WiF,Xg]at h;simpa using WkI h.2 i j (by simpa using hi) (by simpa using hj) (by omega)
def Wrf(k:Int):Bool:=decide (-1000000000<=k)&&decide (k<=1000000000)
def WsL(a:Int×Int×Int):Bool:=Wrf a.1
def cfE(a b:Int×Int×Int):Int:=a.1-b.1
def Wr2(a:Int×Int×Int):Bool:=Wrf a.1&&Wrf a.2.1
def cfH(a b:Int×Int×Int):Int:=bif a.2.1==b.2.1 then a.1-b.1 else a.2.1-b.2.1
theorem Wfo{k:Int}(h:Wrf k=true):-1000000000<=k/\k<=1000000000:=by unfold Wrf at h;simpa using h
theorem Wtp:SwoOn WsL cfE:=⟨λx _=>by unfold cfE;omega,λx y z _ _ _=>by unfold cfE;omega,λx y z _ _ _=>by unfold cfE;omega⟩
theorem Wbx{a b:Int×Int×Int}:cfH a b<0↔(a.2.1<b.2.1\/(a.2.1=b.2.1/\a.1<b.1)):=by
 unfold cfH;by_cases h:a.2.1=b.2.1
 .have:(a.2.1==b.2.1)=true:=by simpa using h
  rw[this];simp only[Wa];omega
 .have:(a.2.1==b.2.1)=false:=by simpa using h
  rw[this];simp only[Wf];omega
theorem WsK{a b:Int×Int×Int}(h:(a.2.1 !=b.2.1)=false):a.1-b.1=cfH a b:=by
 have h:a.2.1=b.2.1:=bne_eq_false_iff_eq.1 h;unfold cfH;rw[beq_iff_eq.2 h];rfl
theorem Wsq{a b:Int×Int×Int}(h:(a.2.1 !=b.2.1)=true):a.2.1-b.2.1=cfH a b:=by
 have h:a.2.1≠b.2.1:=bne_iff_ne.1 h;unfold cfH;rw[beq_eq_false_iff_ne.2 h];rfl
theorem Wtr:SwoOn Wr2 cfH:=⟨λx _=>by rw[Wbx];omega,λx y z _ _ _=>by rw[Wbx,Wbx,Wbx];omega,λx y z _ _ _=>by rw[Wbx,Wbx,Wbx];omega⟩
end Go.Sx
