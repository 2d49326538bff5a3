/- The abstract machine, part 3: a reflective interpreter of the program's code over data, with its soundness over the model. -/
import Derived.Test.YtjcmdagkabkicaaGreatEng2
open Option renaming bind_assoc→Xfi,map→Xfn,bind_some→Xd,getD_some→Xds,bind_eq_some_iff→Xau,map_eq_some_iff→Xt
open Bool renaming not_true→Xk,and_eq_true→Xi,not_eq_true'→Xai,false_eq_true→Xap,or_eq_true→Xce
open List renaming mem_map→Xw,mem_cons_of_mem→Xf,mem_append_left→Xn,mem_append_right→Xg,mem_cons→Xs,mem_cons_self→Xj,length_append→Xaa,getD_eq_getElem?_getD→Xbl,getElem?_append→Xar,getElem?_cons_zero→Xdg,getElem?_eq_none→Xbp,all_eq_true→Xad,append_of_mem→Xeb,mem_append→Xo,range→Xcu,mem_filter→Xay,mem_range→Xdn,filter_cons→Xbi,eq_nil_of_length_eq_zero→Xx,eq_nil_iff_forall_not_mem→Xer,nodup_nil→Xdd,mem_of_getElem?→Xas,nodup_cons→Xac,nil_append→Xbd,cons_append→Xbc,length_filter_le→Xej,length_range→Xfl,mem_flatMap→Xfr,map_cons→Xaf,map_map→Xdm,map_id→Xgx,map_congr_left→Xeu,append_nil→Xcp,nodup_append→Xae,filter_append→Xcr,prefix_append→Xgr,map_append→Xz,map_nil→Xcg,mem_erase_of_ne→Xgm,length_erase_of_mem→Xfv,length_pos_of_mem→Xgc,length_cons→Xr,getElem?_cons_succ→Xee,getElem?_eq_some_iff→Xab,getElem?_append_right→Xbv,getElem?_tail→Xcf,mapM_cons→Xey,pairwise_singleton→Xbm,mem_singleton→Xag,take_of_length_le→Xdj,getElem?_eq_getElem→Xq,drop_zero→Xbk,tail_cons→Xed,getElem?_map→Xaj,all_cons→Xcc,length→Xb,sum_cons→Xcn
open Nat renaming sub_self→Xcx,blt_eq→Xhb,le_refl→Xm,zero_add→Xaw,zero_le→Xci,sub_zero→Xde,beq→Xav,le_trans→Xak,add_zero→Xbe,add_sub_cancel_left→Xbu,ble→Xhf,le_of_ble_eq_true→Xel,add_mul→Xcs,zero_mul→Xeq
open Array renaming getD_eq_getD_getElem?→Xcq,getElem?_setIfInBounds→Xev,getElem?_eq_getElem→Xdb,getElem?_eq_some_iff→Xbw,replicate→Xdi,getElem?_append_left→Xfe,mapM_eq_mapM_toList→Xdz
namespace Go.Sx
set_option linter.unusedVariables false
set_option linter.unusedSimpArgs false
section
variable{T:Tab}{Γ:Ctx}{A:List (Nat×An)}
theorem Wa1{α β:Type}{c:Prop}[Decidable c]{x:Option α}{f:α->Option β}:(if c then x else none).bind f=if c then x.bind f else none:=by split<;>rfl
theorem Wcm{α β:Type}{c:Bool}{x:Option α}{f:α->Option β}:(bif c then x else none).bind f=bif c then x.bind f else none:=by cases c<;>rfl
theorem Wf9{R:Type}(sg:Sig)(st:St)(xs:List AVal)(k:KV R):Wfx sg st xs k=(Wfx sg st xs Wby).bind λp=>k p.1 p.2.1 p.2.2:=by
 unfold Wfx;split
 .split
  .rw[sg.law,sg.law,Xfi];rfl
  .rfl
 .rfl
theorem Wqx{R:Type}(sg:Sig)(st:St)(xs:List AVal)(k:KV R):Wn1 sg st xs k=(Wn1 sg st xs Wby).bind λp=>k p.1 p.2.1 p.2.2:=by
 unfold Wn1;cases sg.fresh with
 |true=>exact Wf9 _ _ _ _
 |false=>
  simp only[Wa];split
  .split
   .exact Wf9 _ _ _ _
   .exact Wf9 _ _ _ _
  .rfl
theorem Wm7{R:Type}(st:St)(te:Ty)(s x:AVal)(k:KV R):WeJ st te s x k=(WeJ st te s x Wby).bind λp=>k p.1 p.2.1 p.2.2:=by
 unfold WeJ;split
 .split
  .split
   .split
    .rw[Wcm];rfl
    .rfl
   .rfl
  .rfl
 .split
  .split
   .split
    .rw[Wa1,Wcm];rfl
    .rfl
   .rfl
  .rfl
 .rfl
theorem Wnc{R:Type}(st:St)(e:Ty)(ps:List (Nat×AVal))(k:KV R):WdE st e ps k=(WdE st e ps Wby).bind λp=>k p.1 p.2.1 p.2.2:=by
 unfold WdE;split
 .rw[Wa1];split
  .split
   .split
    .rw[Wa1];rfl
    .rfl
   .rfl
  .rfl
 .rfl
theorem WoB{R:Type}(st:St)(te:Ty)(id:Nat)(l h:Option Int)(k:KV R):WfH st te id l h k=(WfH st te id l h Wby).bind λp=>k p.1 p.2.1 p.2.2:=by
 unfold WfH;split
 .rw[Wa1,Wcm];rfl
 .rfl
theorem WlV{R:Type}(st:St)(t t2:TypeId)(s x:AVal)(k:KV R):Wea T st t t2 s x k=(Wea T st t t2 s x Wby).bind λp=>k p.1 p.2.1 p.2.2:=by
 unfold Wea;split
 .split
  .split
   .cases Wuw st s x with
    |false=>exact Wm7 _ _ _ _ _
    |true=>
    simp only[Xk,Wa];split
    .rw[Wcm];rfl
    .split
     .split
      .rw[Wcm];rfl
      .rfl
     .rfl
    .split
     .split
      .rw[Wcm];rfl
      .rfl
     .rfl
    .rfl
   .rfl
  .rfl
 .rfl
theorem Wve{R:Type}(p:Option (Bool×AVal))(objs:Wab)(nx:Nat)(k:KV R):(match p with|some (c,v)=>bif c then k v objs nx else none|none=>none)=(match p with|some (c,v)=>bif c then Wby v objs nx else none|none=>none).bind λp=>k p.1 p.2.1 p.2.2:=by
 rcases p with _|⟨c,v⟩
 .rfl
 .cases c<;>rfl
theorem We6{R:Type}(o:Oper)(st:St)(k:KV R):rxe T Γ A o st k=(rxe T Γ A o st Wby).bind λp=>k p.1 p.2.1 p.2.2:=by
 unfold rxe;split
 .split
  .rw[Wa1];rfl
  .rw[Wa1];rfl
  .rfl
 .split<;>rfl
 .split
  .split
   .split<;>rfl
   .rfl
  .rfl
 .split
  .split
   .split
    .rw[Wa1];split
     .exact Wnc _ _ _ _
     .rfl
    .split
     .rw[Wa1];rfl
     .rfl
   .rfl
  .rfl
 .split
  .split
   .split
    .rw[Wa1,Wcm];rfl
    .rw[Wa1,Wcm];rfl
   .rfl
  .rfl
 .split
  .split
   .split<;>rfl
   .rfl
  .rfl
 .split
  .split
   .split
    .split
     .rw[Wa1];split
      .exact WoB _ _ _ _ _ _
      .rfl
     .split
      .rw[Wa1,Wcm];rfl
      .rw[Wa1,Wcm];rfl
      .rfl
    .rfl
   .rfl
  .exact Wve _ _ _ _
 .split
  .split
   .exact WlV _ _ _ _ _ _
   .rfl
  .split
   .split
    .split
     .rw[Wa1];rfl
     .rfl
    .rfl
   .rfl
  .exact Wve _ _ _ _
  .split
   .split
    .split
     .exact Wqx _ _ _ _
     .exact‹Inl›.law _ _ _
    .rfl
   .rfl
  .rfl
 .exact Wve _ _ _ _
end
section
variable{T:Tab}{Γ:Ctx}{A:List (Nat×An)}
theorem WoE{st:St}{env:List (Nat×AVal)}{t:TypeId}{x v:AVal}:Wc4 T {env:=env,objs:=st.objs,nx:=st.nx} t x v=(Wc4 T st t x v).map λs=>{env:=env,objs:=s.objs,nx:=s.nx}:=by
 unfold Wc4;generalize Wn T t=q;generalize Wg1 v=z;rcases q with _|te
 .rfl
 rcases z with _|ds
 .rcases x with(c|cs)|xs
  .cases c<;>rfl
  .rfl
  .rfl
 rcases x with(c|cs)|xs
 .cases c with
  |ptr id off=>
   show(match Wn st.objs id with|some (.box cs)=>_|_=>_)=Xfn _ (match Wn st.objs id with|some (.box cs)=>_|_=>_);generalize Wn st.objs id=ob;rcases ob with _|ob
   .rfl
   cases ob with
   |box cs=>
    show(if _ then _ else _)=Xfn _ (if _ then _ else _);split<;>rfl
   |arr e xs=>rfl
   |hole e xs i p=>rfl
   |dead=>rfl
  |eptr id i off=>
   show(match Wn st.objs id with|some (.arr e xs)=>_|_=>_)=Xfn _ (match Wn st.objs id with|some (.arr e xs)=>_|_=>_);generalize Wn st.objs id=ob;rcases ob with _|ob
   .rfl
   cases ob with
   |box cs=>rfl
   |hole e xs i p=>rfl
   |dead=>rfl
   |arr e xs=>
    show(if _ then _ else _)=Xfn _ (if _ then _ else _);by_cases hc:(decide (te.ty.size=ds.length)&&te.plain&&decide (off+ds.length<=e.size)&&e.data)=true
    .rw[Wf hc,Wf hc];generalize Wax e (Wes (split e (List.getD xs i e.dflt)) off ds) st.objs=r;rcases r with _|⟨d,m,l⟩
     .rfl
     .cases m<;>cases l<;>rfl
    .rw[Wc hc,Wc hc];by_cases ln:(decide (te.ty.size=ds.length)&&te.plain&&decide (off=0)&&decide (ds.length=e.size))=true
     .rw[Wf ln,Wf ln];generalize Wax e ds st.objs=r;rcases r with _|⟨d,m,l⟩
      .rfl
      .cases l with
       |nil=>
        show(if _ then _ else _)=Xfn _ (if _ then _ else _);split<;>rfl
       |cons _ _=>rfl
     .rw[Wc ln,Wc ln];rfl
  |_=>rfl
 .rfl
 .rfl
theorem WsV{R:Type}(o:Oper){st:St}{env:List (Nat×AVal)}(k:KV R)(he:∀x∈Wac o.op,ev {env:=env,objs:=st.objs,nx:=st.nx} x=ev st x):
  rxe T Γ A o {env:=env,objs:=st.objs,nx:=st.nx} k=rxe T Γ A o st k:=by
 have bG:(∀t x l h m,o.op≠ .slice t x l h m)->Waf T {env:=env,objs:=st.objs,nx:=st.nx} o.op=Waf T st o.op:=λhm=>WhP o.op hm he (λ_ _ _ _ _ _ _=>rfl);obtain⟨dst,op,type,pos,after,guard⟩:=o;simp only at he bG;cases op with
 |alloc t=>rfl
 |box t x=>simp only[rxe,he x (by simp[Wac])]
 |build t parts=>simp only[rxe,WcX (st:=st) parts.toList λp hp=>he p.2 (by simp only[Wac];exact Xw.2 ⟨p,hp,rfl⟩)]
 |buildSlice t n parts=>
  have e1:∀e ps,WdE {env:=env,objs:=st.objs,nx:=st.nx} e ps k=WdE st e ps k:=λ_ _=>rfl;simp only[rxe,e1,WcX (st:=st) parts.toList λp hp=>he p.2 (by simp only[Wac];exact Xw.2 ⟨p,hp,rfl⟩)]
 |makeSlice t n c=>simp only[rxe,he n (by simp[Wac]),he c (by simp[Wac])]
 |store t a x=>
  simp only[rxe,he a (by simp[Wac]),he x (by simp[Wac])];split
  .rename_i p v _ _;have e:=WoE (T:=T) (st:={env:=st.env,objs:=Wej st.objs (Wf4 st.objs p v),nx:=st.nx}) (env:=env) (t:=t) (x:=p) (v:=WhD st.objs (Wf4 st.objs p v) v);simp only at e;rw[e];cases Wc4 T {env:=st.env,objs:=Wej st.objs (Wf4 st.objs p v),nx:=st.nx} t p (WhD st.objs (Wf4 st.objs p v) v)<;>rfl
  .rfl
 |slice t x lo hi m=>
  have hx:=he x (by simp[Wac]);have br:=Wkh (st:=st) (an:={env:=env,objs:=st.objs,nx:=st.nx}) lo λy hy=>he y (by simp only[Wac];exact Xf _ (Xn _ hy));have nD:=Wkh (st:=st) (an:={env:=env,objs:=st.objs,nx:=st.nx}) hi λy hy=>he y (by simp only[Wac];exact Xf _ (Xg _ (Xn _ hy)));cases m with
  |none=>
   have hp:Waf T {env:=env,objs:=st.objs,nx:=st.nx} (.slice t x lo hi none)=Waf T st (.slice t x lo hi none):=by
    simp only[Waf,hx];refine Wcc λv _=>?_;simp only[Wmq,br,nD]
   have e1:∀te id l h,WfH {env:=env,objs:=st.objs,nx:=st.nx} te id l h k=WfH st te id l h k:=λ_ _ _ _=>rfl;simp only[rxe,hx,br,nD,hp,e1]
  |some y=>rfl
 |call c=>
  have aP:=WmO (st:=st) (an:={env:=env,objs:=st.objs,nx:=st.nx}) c.args.toList λx hx=>he x (by simp only[Wac];exact Xg _ hx);have hp:=bG (λ_ _ _ _ _ h=>by cases h);simp only[rxe];split
  .rename_i s x t t2 hc ha dC;have h1:ev {env:=env,objs:=st.objs,nx:=st.nx} s=ev st s:=he s (by simp only[Wac];rw[ha];exact Xg _ (by simp));have h2:ev {env:=env,objs:=st.objs,nx:=st.nx} x=ev st x:=he x (by simp only[Wac];rw[ha];exact Xg _ (by simp));rw[h1,h2];rfl
  .rename_i x t hc ha dC;have h1:ev {env:=env,objs:=st.objs,nx:=st.nx} x=ev st x:=he x (by simp only[Wac];rw[ha];exact Xg _ (by simp));rw[h1]
  .rw[hp]
  .rename_i f hc;have h1:ev {env:=env,objs:=st.objs,nx:=st.nx} f=ev st f:=he f (by simp only[Wac];rw[hc];exact Xn _ (by simp));rw[h1,aP];rfl
  .rfl
 |move x=>simp only[rxe,bG (λ_ _ _ _ _ h=>by cases h)]
 |assign x=>simp only[rxe,bG (λ_ _ _ _ _ h=>by cases h)]
 |pick c a b=>simp only[rxe,bG (λ_ _ _ _ _ h=>by cases h)]
 |load t a=>simp only[rxe,bG (λ_ _ _ _ _ h=>by cases h)]
 |nilCheck x=>simp only[rxe,bG (λ_ _ _ _ _ h=>by cases h)]
 |binOp op t x y z=>simp only[rxe,bG (λ_ _ _ _ _ h=>by cases h)]
 |unOp op t x=>simp only[rxe,bG (λ_ _ _ _ _ h=>by cases h)]
 |convert s d x=>simp only[rxe,bG (λ_ _ _ _ _ h=>by cases h)]
 |fieldAddr s x f=>simp only[rxe,bG (λ_ _ _ _ _ h=>by cases h)]
 |field t x f=>simp only[rxe,bG (λ_ _ _ _ _ h=>by cases h)]
 |indexAddr t x i=>simp only[rxe,bG (λ_ _ _ _ _ h=>by cases h)]
 |index t x i=>simp only[rxe,bG (λ_ _ _ _ _ h=>by cases h)]
 |extract t ix=>simp only[rxe,bG (λ_ _ _ _ _ h=>by cases h)]
 |makeFunc f first captured=>simp only[rxe,bG (λ_ _ _ _ _ h=>by cases h)]
 |_=>rfl
def WuY(T:Tab)(o:Oper)(st:St):Option AVal:=match o.op with
 | .build t parts=>match Wn T t,WcI st parts.toList with
  |some ⟨ty,true,.struct fs⟩,some ps=>
   if fs.all (λf=>match Wn T f.2 with|some te=>te.plain|none=>false)then
    match WnP T fs ps (Wey ty)with
    |some cs=>some (.s (.agg cs))
    |none=>none
   else none
  |_,_=>none
 |op=>match Waf T st op with
  |some (c,v)=>bif c then some v else none
  |none=>none
theorem WwU(p:Option (Bool×AVal))(objs:Wab)(nx:Nat):(match p with|some (c,v)=>bif c then Wby v objs nx else none|none=>none)=(match p with|some (c,v)=>bif c then some v else none|none=>none).bind λv=>Wby v objs nx:=by
 rcases p with _|⟨c,v⟩
 .rfl
 .cases c<;>rfl
theorem Wn3{o:Oper}(hm:WaP o=false)(st:St):rxe T Γ A o st Wby=(WuY T o st).bind λv=>Wby v st.objs st.nx:=by
 obtain⟨dst,op,type,pos,after,guard⟩:=o;cases op with
 |alloc t=>cases hm
 |box t x=>cases hm
 |buildSlice t n parts=>cases hm
 |makeSlice t n c=>cases hm
 |store t a x=>cases hm
 |slice t x lo hi m=>cases hm
 |build t parts=>
  simp only[rxe,WuY];generalize Wn T t=q;generalize WcI st parts.toList=z;rcases q with _|⟨ty,agg,shape⟩
  .rfl
  rcases z with _|ps
  .cases agg<;>cases shape<;>rfl
  cases agg with
  |false=>rfl
  |true=>
   cases shape with
   |struct fs=>
    show(if _ then _ else _)=Option.bind (if _ then _ else _) _;rw[Wa1];cases WnP T fs ps (Wey ty)<;>rfl
   |_=>rfl
 |call c=>
  simp only[rxe,WuY];split
  .rename_i hc _ _;simp only[WaP,hc]at hm;cases hm
  .rename_i hc _ _;simp only[WaP,hc]at hm;cases hm
  .exact WwU _ _ _
  .rename_i hc;simp only[WaP,hc]at hm;cases hm
  .rename_i h0 h1 h2 h3;have:Waf T st (.call c)=none:=by
    simp only[Waf];split
    .rename_i hc _ _;first|exact WD hc (h0 _)|exact WD hc (h1 _)|exact WD hc (h2 _)|exact WD hc (h3 _)
    .rename_i hc _ _;first|exact WD hc (h0 _)|exact WD hc (h1 _)|exact WD hc (h2 _)|exact WD hc (h3 _)
    .rename_i hc _ _;first|exact WD hc (h0 _)|exact WD hc (h1 _)|exact WD hc (h2 _)|exact WD hc (h3 _)
    .rfl
   rw[this];rfl
 |_=>first|rfl|exact WwU (Waf T st _) st.objs st.nx
theorem Wqh{o:Oper}(hm:WaP o=false){st an:St}(he:∀x∈Wac o.op,ev an x=ev st x)(hl:WvK o.op=true->∀x∈Wac o.op,∀v,ev st x=some v->Wew st an v):WuY T o an=WuY T o st:=by
 have bG:(∀t x l h m,o.op≠ .slice t x l h m)->Waf T an o.op=Waf T st o.op:=λhm=>WhP o.op hm he hl;obtain⟨dst,op,type,pos,after,guard⟩:=o;simp only at he bG;cases op with
 |slice t x lo hi m=>cases hm
 |build t parts=>simp only[WuY,WcX (st:=st) parts.toList λp hp=>he p.2 (by simp only[Wac];exact Xw.2 ⟨p,hp,rfl⟩)]
 |_=>simp only[WuY,bG (λ_ _ _ _ _ h=>by cases h)]
theorem Wdc(objs:Wab):∀l,∃pre,kill objs l=pre++objs
 | []=>⟨[],rfl⟩
 |i::l=>by
  obtain⟨pre,h⟩:=Wdc objs l;exact⟨(i,.dead)::pre,by simp only[kill,h];rfl⟩
theorem W9:∀(ps:List PTy) (o:Wgb ps) (ids:List Kp) (objs:Wab) (nx:Nat),∃pre,(Wad ps o ids objs nx).1=pre++objs
 | [],_,_,objs,_=>⟨[],rfl⟩
 | .v _ _::ps,o,ids,objs,nx=>W9 ps o ids objs nx
 | .rp _::ps,o,ids,objs,nx=>W9 ps o ids objs nx
 | .box t::ps,o,ids,objs,nx=>by
  cases ids with
  |nil=>exact⟨[],rfl⟩
  |cons k ids=>
   obtain⟨pre,h⟩:=W9 ps o.2 ids ((k.id,WhI (Wn objs k.id) k.off (unfold t o.1 nx).1)::((unfold t o.1 nx).2.1++objs)) (unfold t o.1 nx).2.2;exact⟨pre++(k.id,WhI (Wn objs k.id) k.off (unfold t o.1 nx).1)::(unfold t o.1 nx).2.1,by simp only[Wad,h];simp⟩
 | .vj _::ps,o,ids,objs,nx=>W9 ps o ids objs nx
 | .boxal t _::ps,o,ids,objs,nx=>by
  cases ids with
  |nil=>exact⟨[],rfl⟩
  |cons k ids=>
   obtain⟨pre,h⟩:=W9 ps o.2 ids ((k.id,WhI (Wn objs k.id) k.off (unfold t o.1 nx).1)::((unfold t o.1 nx).2.1++objs)) (unfold t o.1 nx).2.2;exact⟨pre++(k.id,WhI (Wn objs k.id) k.off (unfold t o.1 nx).1)::(unfold t o.1 nx).2.1,by simp only[Wad,h];simp⟩
 | .mut e::ps,o,ids,objs,nx=>by
  cases ids with
  |nil=>exact⟨[],rfl⟩
  |cons k ids=>
   obtain⟨pre,h⟩:=W9 ps o.2 ids ((k.id,.arr e o.1)::objs) nx;exact⟨pre++ [(k.id,.arr e o.1)],by simp only[Wad,h];simp⟩
 | .clos _ _::ps,o,ids,objs,nx=>W9 ps o ids objs nx
 | .kv t _::ps,o,ids,objs,nx=>by
  obtain⟨pre,h⟩:=W9 ps o.2 (ids.drop t.owns) (WcG t o.1 ((ids.take t.owns).map Kp.id)++objs) nx;exact⟨pre++WcG t o.1 ((ids.take t.owns).map Kp.id),by simp only[Wad,h];simp⟩
theorem War:∀(rs:List PTy) (d:WgX rs) (objs:Wab) (nx:Nat),∃pre,(Wbp rs d objs nx).2.1=pre++objs
 | [],_,objs,_=>⟨[],rfl⟩
 | .v t agg::rs,d,objs,nx=>by
  obtain⟨pre,h⟩:=War rs d.2 ((unfold t d.1 nx).2.1++objs) (unfold t d.1 nx).2.2;exact⟨pre++(unfold t d.1 nx).2.1,by simp only[Wbp,h];simp⟩
 | .box t::rs,d,objs,nx=>by
  obtain⟨pre,h⟩:=War rs d.2 ((nx,.box (unfold t d.1 (nx+1)).1)::((unfold t d.1 (nx+1)).2.1++objs)) (unfold t d.1 (nx+1)).2.2;exact⟨pre++(nx,.box (unfold t d.1 (nx+1)).1)::(unfold t d.1 (nx+1)).2.1,by simp only[Wbp,h];simp⟩
 | .mut _::rs,d,objs,nx=>War rs d objs nx
 | .clos _ _::rs,d,objs,nx=>War rs d objs nx
 | .kv _ _::rs,d,objs,nx=>War rs d objs nx
 | .rp _::rs,d,objs,nx=>War rs d objs nx
 | .vj t::rs,d,objs,nx=>by
  obtain⟨pre,h⟩:=War rs d.2 ((unfold t d.1 nx).2.1++objs) (unfold t d.1 nx).2.2;exact⟨pre++(unfold t d.1 nx).2.1,by simp only[Wbp,h];simp⟩
 | .boxal _ _::rs,d,objs,nx=>War rs d objs nx
def Suf(objs:Wab)(r:Option Out):Prop:=∀x objs' nx,r=some (x,objs',nx)->∃pre,objs'=pre++objs
theorem Suf.none{objs:Wab}:Suf objs none:=λ_ _ _ h=>by cases h
theorem Suf.out{objs pre:Wab}{x:AVal}{nx:Nat}:Suf objs (Wby x (pre++objs) nx):=λ_ _ _ h=>by
 injection h with h;have:=Wm (λp:Out=>p.2.1) h;exact⟨pre,this.symm⟩
theorem Suf.ite{objs:Wab}{c:Prop}[Decidable c]{r:Option Out}(h:Suf objs r):Suf objs (if c then r else Option.none):=by split;exact h;exact .none
theorem Suf.bif{objs:Wab}{c:Bool}{r:Option Out}(h:Suf objs r):Suf objs (bif c then r else Option.none):=by cases c;exact .none;exact h
theorem WjT{st af:St}{t:TypeId}{x v:AVal}(h:Wc4 T st t x v=some af):∃pre,af.objs=pre++st.objs:=by
 unfold Wc4 at h;split at h
 .split at h
  .split at h
   .injection h with h;subst h;exact⟨[_],rfl⟩
   .cases h
  .cases h
 .split at h
  .split at h
   .split at h
    .injection h with h;subst h;exact⟨[_],rfl⟩
    .cases h
   .split at h
    .split at h
     .rename_i m _;split at h
      .injection h with h;subst h;obtain⟨pre,hp⟩:=Wdc st.objs m;exact⟨_::pre,by simp only[hp];rfl⟩
      .cases h
     .cases h
    .cases h
  .cases h
 .cases h
theorem WoY(p:Option (Bool×AVal))(objs:Wab)(nx:Nat):Suf objs (match p with|some (c,v)=>bif c then Wby v objs nx else none|none=>none):=by
 rcases p with _|⟨c,v⟩
 .exact .none
 .exact Suf.bif (Suf.out (pre:=[]))
theorem Wd3(sg:Sig)(st:St)(xs:List AVal):Suf st.objs (Wfx sg st xs Wby):=by
 unfold Wfx;split
 .rename_i A _;split
  .intro x objs' nx h;rw[sg.law]at h;cases hr:sg.run A.d with
   |none=>rw[hr]at h;cases h
   |some out=>
    rw[hr]at h;simp only[Xd]at h;injection h with h;have h2:=Wm (λp:Out=>p.2.1) h;simp only at h2;obtain⟨p1,e1⟩:=Wdc st.objs A.moved;obtain⟨p2,e2⟩:=W9 sg.ps out.1 A.kept (kill st.objs A.moved) st.nx;obtain⟨p3,e3⟩:=War sg.rs out.2 (Wad sg.ps out.1 A.kept (kill st.objs A.moved) st.nx).1 (Wad sg.ps out.1 A.kept (kill st.objs A.moved) st.nx).2;refine⟨p3++(p2++p1),?_⟩;rw[←h2,e3,e2,e1];simp
  .exact .none
 .exact .none
theorem Suf.over{objs:Wab}{l:List Nat}{r:Option Out}(h:Suf (kill objs l) r):Suf objs r:=λx objs' nx hr=>by
 obtain⟨p1,e1⟩:=h x objs' nx hr;obtain⟨p2,e2⟩:=Wdc objs l;exact⟨p1++p2,by rw[e1,e2];simp⟩
theorem Wnf(sg:Sig)(st:St)(xs:List AVal):Suf st.objs (Wn1 sg st xs Wby):=by
 unfold Wn1;cases sg.fresh with
 |true=>exact Wd3 _ _ _
 |false=>
  simp only[Wa];split
  .split
   .exact Wd3 _ _ _
   .exact Suf.over (Wd3 sg {env:=st.env,objs:=kill st.objs _,nx:=st.nx} _)
  .exact .none
theorem Won{objs:Wab}{x:AVal}{p:Nat×Ob}{l:List Nat}{nx:Nat}:Suf objs (Wby x (p::kill objs l) nx):=by
 obtain⟨pre,h⟩:=Wdc objs l;rw[h];exact Suf.out (pre:=p::pre)
theorem WjR(st:St)(te:Ty)(s x:AVal):Suf st.objs (WeJ st te s x Wby):=by
 unfold WeJ;split
 .split
  .split
   .split
    .exact Suf.bif Won
    .exact .none
   .exact .none
  .exact .none
 .split
  .split
   .split
    .exact Suf.ite (Suf.bif Won)
    .exact .none
   .exact .none
  .exact .none
 .exact .none
theorem Wj1(st:St)(e:Ty)(ps:List (Nat×AVal)):Suf st.objs (WdE st e ps Wby):=by
 unfold WdE;split
 .refine Suf.ite ?_;split
  .split
   .exact Suf.ite (Suf.over Won)
   .exact .none
  .exact .none
 .exact .none
theorem WlC(st:St)(te:Ty)(id:Nat)(l h:Option Int):Suf st.objs (WfH st te id l h Wby):=by
 unfold WfH;split
 .exact Suf.ite (Suf.bif (Suf.out (pre:=[])))
 .exact .none
theorem WkK(o:Oper)(st:St):Suf st.objs (rxe T Γ A o st Wby):=by
 unfold rxe;split
 .split
  .exact Suf.ite (Suf.out (pre:=[_]))
  .exact Suf.ite (Suf.out (pre:=[_]))
  .exact .none
 .split
  .exact Suf.out (pre:=[_])
  .exact .none
 .split
  .split
   .split
    .exact Suf.out (pre:=[])
    .exact .none
   .exact .none
  .exact .none
 .split
  .split
   .split
    .exact Suf.ite (Wj1 _ _ _)
    .split
     .exact Suf.ite (Suf.over (Suf.out (pre:=[_])))
     .exact .none
   .exact .none
  .exact .none
 .split
  .split
   .split
    .exact Suf.ite (Suf.bif (Suf.out (pre:=[_])))
    .exact Suf.ite (Suf.bif (Suf.out (pre:=[_])))
   .exact .none
  .exact .none
 .split
  .split
   .rename_i af hs;split
    .obtain⟨pre,h⟩:=WjT hs;rw[h];exact Suf.over Suf.out
    .exact .none
   .exact .none
  .exact .none
 .split
  .split
   .split
    .split
     .exact Suf.ite (WlC _ _ _ _ _)
     .split
      .exact Suf.ite (Suf.bif (Suf.out (pre:=[_,_])))
      .exact Suf.ite (Suf.bif (Suf.out (pre:=[_,_,_])))
      .exact .none
    .exact .none
   .exact .none
  .exact WoY _ _ _
 .split
  .split
   .unfold Wea;split
    .split
     .split
      .cases Wuw st _ _ with
       |false=>exact WjR _ _ _ _
       |true=>
       simp only[Xk,Wa];split
       .exact Suf.bif (Suf.out (pre:=[_]))
       .split
        .split
         .exact Suf.bif (Suf.out (pre:=[_,_]))
         .exact .none
        .exact .none
       .split
        .split
         .exact Suf.bif (Suf.out (pre:=[_,_]))
         .exact .none
        .exact .none
       .exact .none
      .exact .none
     .exact .none
    .exact .none
   .exact .none
  .split
   .split
    .split
     .exact Suf.ite (Suf.out (pre:=[_]))
     .exact .none
    .exact .none
   .exact .none
  .exact WoY _ _ _
  .split
   .split
    .split
     .exact Wnf _ _ _
     .exactλx objs' nx h=>by have q:=(‹Inl›).suf _ x objs' nx h;exact q
    .exact .none
   .exact .none
  .exact .none
 .exact WoY _ _ _
end
end Go.Sx
namespace Go.Sx
set_option linter.unusedVariables false
set_option linter.unusedSimpArgs false
theorem WpO{x y:Nat}{l:List Nat}:y∈Ww6 x l↔y=x\/y∈l:=by
 unfold Ww6;cases h:WcB x l with
 |true=>
  have:=(WaR x l).1 h;simp only[Wb];exact⟨.inr,λh=>h.elim (λe=>e▸this) id⟩
 |false=>simp
theorem Wkr{y:Nat}:∀(m l:List Nat),y∈WnL m l↔y∈m\/y∈l
 | [],l=>by simp[WnL]
 |x::m,l=>by
  rw[WnL,Wkr m,WpO,Xs];constructor
  .rintro(h|h|h)
   .exact .inl (.inr h)
   .exact .inl (.inl h)
   .exact .inr h
  .rintro((h|h)|h)
   .exact .inr (.inl h)
   .exact .inl h
   .exact .inr (.inr h)
theorem WiH{acc:List (List Nat)}{y:Nat}:∀(ds l:List Nat),y∈Wmx acc ds l↔(∃j∈ds,y=j\/y∈acc.getD j [])\/y∈l
 | [],l=>by simp[Wmx]
 |j::ds,l=>by
  rw[Wmx,WiH ds,Wkr,WpO];constructor
  .rintro(⟨k,hk,h⟩|h|h|h)
   .exact .inl ⟨k,Xf _ hk,h⟩
   .exact .inl ⟨j,Xj ..,.inr h⟩
   .exact .inl ⟨j,Xj ..,.inl h⟩
   .exact .inr h
  .rintro(⟨k,hk,h⟩|h)
   .rcases Xs.1 hk with rfl|hk
    .exact .inr (h.elim (λh=>.inr (.inl h)) .inl)
    .exact .inl ⟨k,hk,h⟩
   .exact .inr (.inr (.inr h))
def Wnl(ops:Array Oper)(S:Nat->Prop):Prop:=∀i o,ops[i]?=some o->S i->∀d∈Wnt o,S d
theorem Wks{ops:Array Oper}{S:Nat->Prop}(hS:Wnl ops S):∀(l:List Oper) (acc:List (List Nat)),(∀(k:Nat) (o:Oper),l[k]?=some o->ops[acc.length+k]?=some o)->
  (∀i,S i->∀j∈acc.getD i [],S j)->∀i,S i->∀j∈(WcU l acc).getD i [],S j
 | [],acc,_,h=>h
 |o::l,acc,hl,h=>by
  refine Wks hS l _ (λk o' hk=>?_) (λi hi j hj=>?_)
  .have:=hl (k+1) o' (by simpa using hk);rw[Xaa];have e:acc.length+(k+1)=acc.length+ [Wmx acc (Wnt o) []].length+k:=by simp;omega
   rw[←e];exact this
  .rw[Xbl,Xar]at hj;split at hj
   .exact h i hi j (by rw[Xbl];exact hj)
   .rename_i ac;by_cases he:i=acc.length
    .subst he;simp only[Xcx,Xdg,Xds]at hj;rcases(WiH _ _).1 hj with⟨k,hk,gt⟩|hj
     .have hSk:=hS _ o (hl 0 o (by simp)) hi k hk;rcases gt with rfl|gt
      .exact hSk
      .exact h k hSk j gt
     .cases hj
    .have:[Wmx acc (Wnt o) []][i-acc.length]?=none:=Xbp (by simp;omega);rw[this]at hj;cases hj
theorem Wqy{ops:Array Oper}{S:Nat->Prop}(hS:Wnl ops S){i j:Nat}(h:WcR (WcU ops.toList []) j i=true)(hi:S i):S j:=
 Wks hS ops.toList [] (λk o hk=>by simpa using hk) (λi _ j hj=>by simp at hj) i hi j ((WaR _ _).1 h)
theorem WkY{ops:Array Oper}:∀(l:List Oper) (n:Nat),Wt8 l n=true->∀(k:Nat) (o:Oper),l[k]?=some o->∀d∈Wnt o,d<n+k
 | [],_,_,k,o,hk=>by simp at hk
 |o'::l,n,h,k,o,hk=>by
  simp only[Wt8,Xi,Xad]at h;cases k with
  |zero=>
   simp at hk;subst hk;intro e he;have:=h.1 e he;rw[Xhb]at this;omega
  |succ k=>
   have:=WkY (ops:=ops) l (n+1) h.2 k o (by simpa using hk);intro e he;have:=this e he;omega
structure Order(ops:Array Oper)(l:List Nat):Prop where
 nodup:l.Nodup
 all:∀i,i<ops.size↔i∈l
 dep:∀p i s,l=p++i::s->∀o,ops[i]?=some o->∀d∈Wnt o,d∈p
theorem Order.closed{ops:Array Oper}{l:List Nat}(h:Order ops l){p s:List Nat}(e:l=p++s):Wnl ops (· ∈p):=λi o ho hi d hd=>by
 obtain⟨a,b,rfl⟩:=Xeb hi;have:=h.dep a i (b++s) (by rw[e];simp) o ho d hd;simp[this]
theorem Order.bef{ops:Array Oper}{l:List Nat}(h:Order ops l){p s:List Nat}{i j:Nat}(e:l=p++s)(hb:WcR (WcU ops.toList []) j i=true)(hi:i∈p):j∈p:=
 Wqy (h.closed e) hb hi
theorem Order.bef'{ops:Array Oper}{l:List Nat}(h:Order ops l){p s:List Nat}{i j:Nat}(e:l=p++i::s)(hb:WcR (WcU ops.toList []) j i=true)(bI:j≠i):j∈p:=by
 have:=h.bef (p:=p++ [i]) (s:=s) (by rw[e];simp) hb (by simp);rcases Xo.1 this with h|h
 .exact h
 .simp at h;exact WD h bI
def unl(ops:Array Oper)(listed:Array Bool):List Nat:=(Xcu ops.size).filter λi=>!listed.getD i true
theorem Wf6{ops:Array Oper}{listed:Array Bool}{i:Nat}:i∈unl ops listed↔i<ops.size/\listed.getD i true=false:=by
 unfold unl;rw[Xay,Xdn];simp
theorem Wgu{α:Type}{p q:α->Bool}:∀(l:List α),(∀x∈l,q x=true->p x=true)->(∃x∈l,p x=true/\q x=false)->(l.filter q).length<(l.filter p).length
 | [],_,⟨x,hx,_⟩=>by cases hx
 |x::l,h,⟨y,hy,hp,hq⟩=>by
  have bd:∀(l:List α),(∀x∈l,q x=true->p x=true)->(l.filter q).length<=(l.filter p).length:=by
   intro l
   induction l with
   |nil=>intro _;simp
   |cons x l ih=>
    intro h;have:=ih λx hx=>h x (Xf _ hx);have hx:=h x (Xj ..);rw[Xbi,Xbi];cases hqx:q x with
    |true=>rw[hx hqx];simpa using this
    |false=>cases p x<;>simp<;>omega
  rw[Xbi,Xbi];rcases Xs.1 hy with rfl|hy
  .rw[hp,hq];have:=bd l λx hx=>h x (Xf _ hx);simp;omega
  .have:=Wgu l (λx hx=>h x (Xf _ hx)) ⟨y,hy,hp,hq⟩;have hx:=h x (Xj ..);cases hqx:q x with
   |true=>rw[hx hqx];simpa using this
   |false=>cases p x<;>simp<;>omega
theorem WlM{listed:Array Bool}{i j:Nat}:(listed.setIfInBounds i true).getD j true=(if i=j then true else listed.getD j true):=by
 simp only[Xcq,Xev];split
 .split<;>rfl
 .rfl
theorem Ws1{listed:Array Bool}{i j:Nat}(hi:i<listed.size):(listed.setIfInBounds i true).getD j false=(if i=j then true else listed.getD j false):=by
 simp only[Xcq,Xev];split
 .simp[hi]
 .rfl
theorem Wvi{listed:Array Bool}{i:Nat}(hi:i<listed.size):listed.getD i true=listed.getD i false:=by
 simp[hi]
theorem Wp1{o:Oper}{e:Edge}(he:e∈o.after)(hb:Region.binds .any e=true):e.on∈Wnt o:=
 Xw.2 ⟨e,Xay.2 ⟨by simpa using he,hb⟩,rfl⟩
theorem WpC{ops:Array Oper}(hb:∀(k:Nat) (o:Oper),ops[k]?=some o->∀d∈Wnt o,d<k):∀(fuel t:Nat) (listed:Array Bool),listed.size=ops.size->(unl ops listed).length<=fuel->
  (Region.linearise.go .any ops fuel t listed []).Nodup/\
  (∀i,i∈Region.linearise.go .any ops fuel t listed []↔i∈unl ops listed)/\
  (∀p i s,Region.linearise.go .any ops fuel t listed []=p++i::s->∀o,ops[i]?=some o->∀e∈o.after,Region.binds .any e=true->listed.getD e.on false=true\/e.on∈p)
 |0,t,listed,hs,ad=>by
  have:unl ops listed= []:=Xx (by omega);simp only[Region.linearise.go,List.reverse_nil,this];exact⟨by simp,by simp,λp i s h=>by simp at h⟩
 |fuel+1,t,listed,hs,ad=>by
  have mE:Region.linearise.go .any ops (fuel+1) t listed []=match(Region.ready .any ops listed)[t%(Region.ready .any ops listed).length]? with
   |some i=>Region.linearise.go .any ops fuel (t/(Region.ready .any ops listed).length) (listed.setIfInBounds i true) [i]
   |none=>[]:=rfl
  rw[mE];cases hi:(Region.ready .any ops listed)[t%(Region.ready .any ops listed).length]? with
  |none=>
   have bJ:Region.ready .any ops listed= []:=by
    cases hr:Region.ready .any ops listed with
    |nil=>rfl
    |cons x xs=>
     rw[hr]at hi;have ac:t%(x::xs).length<(x::xs).length:=Nat.mod_lt _ (by simp);simp at hi;simp at ac;omega
   have hu:unl ops listed= []:=by
    have key:∀n i,i<=n->i∉unl ops listed:=by
     intro n
     induction n with
     |zero=>
      intro i dj hm;obtain⟨h1,h2⟩:=Wf6.1 hm;have:i∈Region.ready .any ops listed:=by
       rw[mem_ready];refine⟨h2,ops[i],Xdb h1,λe he lz=>?_⟩;have:=hb i _ (Xdb h1) e.on (Wp1 he lz);omega
      rw[bJ]at this;cases this
     |succ n ih=>
      intro i dj hm;obtain⟨h1,h2⟩:=Wf6.1 hm;have:i∈Region.ready .any ops listed:=by
       rw[mem_ready];refine⟨h2,ops[i],Xdb h1,λe he lz=>?_⟩;have ac:=hb i _ (Xdb h1) e.on (Wp1 he lz);have wn:=ih e.on (by omega);have h3:e.on<ops.size:=by omega
       cases h4:listed.getD e.on true with
       |false=>exact WD (Wf6.2 ⟨h3,h4⟩) wn
       |true=>rw[←Wvi (by omega)];exact h4
      rw[bJ]at this;cases this
    exact Xer.2 λi=>key i i (Xm _)
   rw[hu];exact⟨Xdd,λ_=>Iff.rfl,λp i s h=>by simp at h⟩
  |some i=>
   have wo:=Xas hi;obtain⟨h1,o,ho,h3⟩:=mem_ready.1 wo;have oI:i<ops.size:=(Xbw.1 ho).1;have wq:i∈unl ops listed:=Wf6.2 ⟨oI,h1⟩;simp only[];rw[linearise_go_acc,List.reverse_singleton,List.singleton_append];have ka:(unl ops (listed.setIfInBounds i true)).length<=fuel:=by
    have:(unl ops (listed.setIfInBounds i true)).length<(unl ops listed).length:=by
     refine Wgu _ (λx _ hx=>?_) ⟨i,Xdn.2 oI,by simpa using h1,by rw[WlM];simp⟩;rw[WlM]at hx;split at hx
     .simp at hx
     .exact hx
    omega
   obtain⟨g1,g2,g3⟩:=WpC hb fuel (t/(Region.ready .any ops listed).length) (listed.setIfInBounds i true) (by simp[hs]) ka;have aM:∀j,j∈unl ops (listed.setIfInBounds i true)↔j∈unl ops listed/\j≠i:=λj=>by
    rw[Wf6,Wf6,WlM];constructor
    .rintro⟨q1,q2⟩;split at q2
     .cases q2
     .rename_i bI;exact⟨⟨q1,q2⟩,λe=>bI e.symm⟩
    .rintro⟨⟨q1,q2⟩,bI⟩;exact⟨q1,by rw[Wc (λe=>bI e.symm)];exact q2⟩
   refine⟨Xac.2 ⟨λhm=>?_,g1⟩,λj=>?_,λp j s e o' jb ed nF lz=>?_⟩
   .exact((aM i).1 ((g2 i).1 hm)).2 rfl
   .rw[Xs,g2,aM];constructor
    .rintro(rfl|h)
     .exact wq
     .exact h.1
    .intro h;by_cases he:j=i
     .exact .inl he
     .exact .inr ⟨h,he⟩
   .cases p with
    |nil=>
     simp only[Xbd,List.cons.injEq]at e;obtain⟨rfl,_⟩:=e;rw[ho]at jb;injection jb with jb;subst jb;exact .inl (h3 ed nF lz)
    |cons x p=>
     simp only[Xbc,List.cons.injEq]at e;obtain⟨rfl,e⟩:=e;rcases g3 p j s e o' jb ed nF lz with h|h
     .rw[Ws1 (by omega)]at h;split at h
      .rename_i he;exact .inr (by rw[he];simp)
      .exact .inl h
     .exact .inr (Xf _ h)
theorem Wis{ops:Array Oper}{t:Nat}(hb:∀(k:Nat) (o:Oper),ops[k]?=some o->∀d∈Wnt o,d<k):Order ops (Region.linearise .any ops t):=by
 have hu:∀i,i∈unl ops (Xdi ops.size false)↔i<ops.size:=λi=>by
  rw[Wf6];constructor
  .exactλh=>h.1
  .exactλh=>⟨h,by simp[h]⟩
 obtain⟨h1,h2,h3⟩:=WpC hb ops.size t (Xdi ops.size false) (by simp) (by
  have:=Xej (λi=>!(Xdi ops.size false).getD i true) (Xcu ops.size);rw[Xfl]at this;exact this)
 refine⟨h1,λi=>by unfold Region.linearise;rw[h2,hu],λp i s e o ho d hd=>?_⟩;unfold Wnt at hd;obtain⟨ed,nF,rfl⟩:=Xw.1 hd;obtain⟨nF,lz⟩:=Xay.1 nF;rcases h3 p i s e o ho ed (by simpa using nF) lz with h|h
 .exfalso;rw[Xcq,Array.getElem?_replicate]at h;split at h<;>simp at h
 .exact h
theorem Wj3{ops:Array Oper}{t:Nat}(hb:∀(k:Nat) (o:Oper),ops[k]?=some o->∀d∈Wnt o,d<k):Order ops (Region.schedule true ops t):=by
 unfold Region.schedule;rw[Wf (by simp)];exact Wis hb
end Go.Sx
namespace Go.Sx
set_option linter.unusedVariables false
set_option linter.unusedSimpArgs false
def Ws0(n:Nat)(kept:List Nat)(o:Oper):Bool:=match o.dst with
 |some d=>Nat.blt d n&& !WcB d kept
 |none=>true
def Wdi(n:Nat)(kept:List Nat):Code->Bool
 | .region _ ops _=>ops.toList.all (Ws0 n kept)
 | .seq a b=>Wdi n kept a&&Wdi n kept b
 | .cond _ x y=>Wdi n kept x&&Wdi n kept y
 | .block _ c=>Wdi n kept c
 | .loop c=>Wdi n kept c
 |_=>true
theorem Wov{nt:Slots}{n:Nat}{kept:List Nat}(hn:nt.n=n)(hk:∀p∈nt.kept,p.1∈kept){o:Oper}(h:Ws0 n kept o=true):∀d,o.dst=some d->nt.Ok d:=λd hd=>by
 unfold Ws0 at h;rw[hd]at h;simp only[Xi,Xai]at h;refine⟨by have h1:=h.1;rw[Xhb]at h1;rw[hn];exact h1,λp hp e=>?_⟩;have:=hk p hp;rw[e]at this;rw[(WaR d kept).2 this]at h;exact WD h.2 (by simp)
def Ex.to:Ex->Exit
 | .normal=>.normal
 | .exit id=>.exit id
 | .ret=>.ret
section
variable{w0:World}{F:CS}{nt:Slots}{G0:GH}{P:Program}{T:Tab}{Γ:Ctx}{A:List (Nat×An)}{R:Type}{r:R}
def WrB(w0:World)(F:CS)(nt:Slots)(G0:GH)(k:St->Option R)(r:R)(K:Act->World->Prop):Prop:=
 ∀st a w G ν,Rel w0 F nt G0 G ν st a w->k st=some r->K a w
theorem WoM{G:GH}{ν:Nat->Nu}{st:St}{a:Act}{w:World}(hr:Rel w0 F nt G0 G ν st a w){ops:Array Oper}{j:Nat}{t:Tmp}(ht:(ops[j]?).bind (·.dst)=some t){b:Bool}(hb:(Wn st.env t).bind asB=some b):
  a.tmps[t]?=some (.bool b)/\yielded ops a.tmps j=some b:=by
 cases hl:Wn st.env t with
 |none=>simp[hl]at hb
 |some x=>
  simp only[hl,Xd]at hb;obtain⟨v,hv,hx⟩:=hr.env t x hl;have:=WoG x v b hx hb;subst this;refine⟨hv,?_⟩;unfold yielded;rw[ht];simp[hv]
theorem Wu4(hT:Wai P T)(hΓ:WdJ P Γ){ops:Array Oper}{o:Oper}(hd:∀d,o.dst=some d->nt.Ok d){k:St->Option R}{K:Act->World->Prop}{Q:Exit->Act->World->Prop}(hK:WrB w0 F nt G0 k r K)
  {st:St} {a:Act} {w:World} {G:GH} {ν:Nat->Nu} (hr:Rel w0 F nt G0 G ν st a w) (h:rxg T Γ A ops o st k=some r):
  if Region.wanted o (yielded ops a.tmps)then o.wp P a w K Q else K (a.put o.dst undef) w:=by
 unfold rxg at h;have ii:∀af,Rel w0 F nt G0 G ν af a w->Rel w0 F nt G0 G ν (af.put o.dst (.tup [])) (a.put o.dst undef) w:=λaf ch=>
  ch.put hd ⟨[],rfl,rfl,λj x v hj=>by simp at hj⟩
 have eG:∀b:Bool,AValRel G ν st.nx (one .bool b) (.bool b):=λb=>WN (t:=.bool) (d:=b) (v:=.bool b) rfl;split at h
 .rename_i hg;simp only[Region.wanted,hg,W8];exact Wsg hT hΓ hr hd h (λaf a' w' G' ν' ch hk=>hK _ _ _ _ _ ch hk)
 .rename_i j want hg;split at h
  .rename_i t ht;split at h
   .rename_i hl;obtain⟨v,hv,hx⟩:=hr.env t _ hl;have mC:v=undef:=by
     obtain⟨vs,h1,h2,_⟩:=hx;rw[h1,Xx h2];rfl
    subst mC;have hy:yielded ops a.tmps j=none:=by
     unfold yielded;rw[ht];simp only[Xd,hv];rfl
    simp only[Region.wanted,hg,hy];rw[Wc (by simp)];exact hK _ _ _ _ _ (ii _ hr) h
   .rename_i x _ hl;split at h
    .rename_i b hb;obtain⟨hv,hy⟩:=WoM hr ht (b:=b) (by rw[hl];exact hb);simp only[Region.wanted,hg,hy];have nG:=hr.rebind hv (eG b);cases b with
     |true=>
      simp only[Wb]at h;cases want with
      |true=>
       simp only[W8]at h;simp only[beq_self_eq_true,W8];exact Wsg hT hΓ nG hd h (λaf a' w' G' ν' ch hk=>hK _ _ _ _ _ ch hk)
      |false=>
       simp only[Xap,Wat]at h;rw[Wc (by simp)];exact hK _ _ _ _ _ (ii _ nG) h
     |false=>
      simp only[Wa]at h;cases want with
      |true=>
       simp only[W8]at h;rw[Wc (by simp)];exact hK _ _ _ _ _ (ii _ nG) h
      |false=>
       simp only[Xap,Wat]at h;simp only[beq_self_eq_true,W8];exact Wsg hT hΓ nG hd h (λaf a' w' G' ν' ch hk=>hK _ _ _ _ _ ch hk)
    .cases h
   .cases h
  .cases h
theorem WuM(hT:Wai P T)(hΓ:WdJ P Γ){ops:Array Oper}:∀(l:List Oper),(∀o∈l,∀d,o.dst=some d->nt.Ok d)->∀{k:St->Option R} {Q:Exit->Act->World->Prop},WrB w0 F nt G0 k r (Q .normal)->
  WrB w0 F nt G0 (λst=>rxs T Γ A ops l st k) r (wpList P ops Q l)
 | [],_,k,Q,hK=>λst a w G ν hr h=>hK st a w G ν hr h
 |o::l,hd,k,Q,hK=>λst a w G ν hr h=>by
  have ih:=WuM (ops:=ops) hT hΓ l (λo ho=>hd o (Xf _ ho)) hK;have h:rxg T Γ A ops o st (λaf=>match opG A o af with
   |some (c,bP)=>bif c then rxs T Γ A ops l bP k else none
   |none=>none)=some r:=h
  have ws:WrB w0 F nt G0 (λaf=>match opG A o af with
   |some (c,bP)=>bif c then rxs T Γ A ops l bP k else none
   |none=>none) r (wpList P ops Q l):=λdX a1 w1 G1 ν1 gK h1=>by
   have h1:(match opG A o dX with
    |some (c,bP)=>bif c then rxs T Γ A ops l bP k else none
    |none=>none)=some r:=h1
   split at h1
   .rename_i c an hg;obtain⟨rfl,h1⟩:=W3 h1;have:∃G' ν',Rel w0 F nt G0 G' ν' an a1 w1:=by
     unfold opG at hg;split at hg
     .split at hg
      .injection hg with hg;injection hg with _ hg;subst hg;exact⟨G1,ν1,gK⟩
      .exact Wi4 (.inr rfl) gK hg
     .injection hg with hg;injection hg with _ hg;subst hg;exact⟨G1,ν1,gK⟩
     .injection hg with hg;injection hg with _ hg;subst hg;exact⟨G1,ν1,gK⟩
     .injection hg with hg;injection hg with _ hg;subst hg;exact⟨G1,ν1,gK⟩
     .injection hg with hg;injection hg with _ hg;subst hg;exact⟨G1,ν1,gK⟩
     .exact Wi4 (.inr rfl) gK hg
     .injection hg with hg;injection hg with _ hg;subst hg;exact⟨G1,ν1,gK⟩
    obtain⟨G2,ν2,jc⟩:=this;exact ih an a1 w1 G2 ν2 jc h1
   .cases h1
  have:=Wu4 hT hΓ (hd o (Xj ..)) (Q:=Q) ws hr h;unfold wpList;split
  .rename_i hw;rw[Wf hw]at this;exact .inl this
  .rename_i hw;rw[Wc hw]at this;exact this
end
end Go.Sx
namespace Go.Sx
set_option linter.unusedVariables false
set_option linter.unusedSimpArgs false
section
variable{T:Tab}{Γ:Ctx}{A:List (Nat×An)}{ops:Array Oper}
theorem WlA{R:Type}(o:Oper)(st:St)(k:St->Option R):rx1 T Γ A o st k=(rx1 T Γ A o st some).bind k:=by
 unfold rx1;rw[We6,We6 o st (λx objs nx=>some _),Xfi];rfl
theorem Wic{R:Type}(o:Oper)(st:St)(k:St->Option R):rxg T Γ A ops o st k=(rxg T Γ A ops o st some).bind k:=by
 unfold rxg;cases o.guard with
 |none=>exact WlA o st k
 |some g=>
  obtain⟨j,want⟩:=g;simp only;cases(ops[j]?).bind (·.dst)with
  |none=>rfl
  |some t=>
   simp only;cases Wn st.env t with
   |none=>rfl
   |some x=>
    have main:(match asB x with
      |some b=>bif b
       then(if want then rx1 T Γ A o (st.put (some t) (one .bool true)) k else k ((st.put (some t) (one .bool true)).put o.dst (.tup [])))
       else(if want then k ((st.put (some t) (one .bool false)).put o.dst (.tup []))else rx1 T Γ A o (st.put (some t) (one .bool false)) k)
      |none=>none)=(match asB x with
      |some b=>bif b
       then(if want then rx1 T Γ A o (st.put (some t) (one .bool true)) some else some ((st.put (some t) (one .bool true)).put o.dst (.tup [])))
       else(if want then some ((st.put (some t) (one .bool false)).put o.dst (.tup []))else rx1 T Γ A o (st.put (some t) (one .bool false)) some)
      |none=>none).bind k:=by
     cases asB x with
     |none=>rfl
     |some b=>
      cases b<;>cases want
      .exact WlA _ _ _
      .rfl
      .rfl
      .exact WlA _ _ _
    cases x with
    |s y=>exact main
    |tup l=>
     cases l with
     |nil=>rfl
     |cons y l=>exact main
theorem WgQ{R:Type}{o:Oper}{st:St}{k:St->Option R}{r:R}(h:rxg T Γ A ops o st k=some r):∃af,rxg T Γ A ops o st some=some af/\k af=some r:=by
 rw[Wic]at h;exact Xau.1 h
structure Eff(o:Oper)(v:AVal)(pre:Wab)(am:Nat)(st af:St):Prop where
 env:∀t,Wn af.env t=if o.dst=some t then some v else Wn st.env t
 objs:af.objs=pre++st.objs
 nx:af.nx=am
theorem Wdw(st:St)(dst:Option Tmp)(x:AVal)(t:Nat):Wn (st.put dst x).env t=if dst=some t then some x else Wn st.env t:=by
 cases dst with
 |none=>simp[St.put]
 |some d=>
  simp only[St.put];rw[WG];by_cases h:d=t
  .subst h;simp
  .rw[Wc h,Wc (by simpa using h)]
theorem Wfe{st an:St}{x:Operand}(h:∀t∈WsA x,Wn an.env t=Wn st.env t):ev an x=ev st x:=by
 cases x with
 |tmp t=>exact h t (by simp[WsA])
 |_=>rfl
theorem Whc{st:St}{x:Operand}{v:AVal}:∀(l:List Operand),x∈l->ev st x=some v->∀id∈WaZ v,id∈WeK st l
 | [],h,_,_,_=>by cases h
 |y::l,h,hv,id,bM=>by
  simp only[WeK];rcases Xs.1 h with rfl|h
  .rw[hv];exact Xn _ bM
  .split
   .exact Xg _ (Whc l h hv id bM)
   .exact Whc l h hv id bM
theorem WgR{st an:St}:∀(l:List Operand),(∀x∈l,ev an x=ev st x)->WeK an l=WeK st l
 | [],_=>rfl
 |x::l,h=>by simp only[WeK,h x (Xj ..),WgR l λy hy=>h y (Xf _ hy)]
theorem WrK{o:Oper}{st af an:St}(h:rx1 T Γ A o st some=some af)(he:∀x∈Wac o.op,ev an x=ev st x)
  (hm:WaP o=true->an.objs=st.objs/\an.nx=st.nx) (hf:WaP o=false->∀id∈WcE o st,Wn an.objs id=Wn st.objs id):
  ∃v pre am,Eff o v pre am st af/\(WaP o=false->pre= []/\am=st.nx)/\
   ∃bX,rx1 T Γ A o an some=some bX/\(WaP o=true->Eff o v pre am an bX)/\(WaP o=false->Eff o v [] an.nx an bX):=by
 unfold rx1 at*;rw[We6]at h;obtain⟨⟨v,objs',am⟩,h1,h2⟩:=Xau.1 h;injection h2 with h2;subst h2;cases eD:WaP o with
 |true=>
  obtain⟨e1,e2⟩:=hm eD;obtain⟨pre,rfl⟩:=WkK o st v objs' am h1;refine⟨v,pre,am,⟨λt=>Wdw _ _ _ _,by cases o.dst<;>rfl,by cases o.dst<;>rfl⟩,by simp,?_⟩;have h3:rxe T Γ A o an Wby=some (v,pre++st.objs,am):=by
   obtain⟨rN,uh,nx2⟩:=an;simp only at e1 e2;subst e1 e2;rw[WsV o (env:=rN) (st:=st) Wby he];exact h1
  refine⟨_,?_,λ_=>⟨λt=>Wdw (⟨an.env,pre++st.objs,am⟩) o.dst v t,?_,?_⟩,by simp⟩
  .rw[We6,h3];rfl
  .rw[e1];cases o.dst<;>rfl
  .cases o.dst<;>rfl
 |false=>
  rw[Wn3 eD]at h1;obtain⟨u,h3,h4⟩:=Xau.1 h1;injection h4 with h4;have e1:u=v:=Wm (λp:Out=>p.1) h4;have e2:st.objs=objs':=Wm (λp:Out=>p.2.1) h4;have e3:st.nx=am:=Wm (λp:Out=>p.2.2) h4;subst e1 e2 e3;refine⟨u,[],st.nx,⟨λt=>Wdw _ _ _ _,by cases o.dst<;>rfl,by cases o.dst<;>rfl⟩,by simp,?_⟩;have h5:WuY T o an=some u:=by
   rw[←h3];refine Wqh eD he λwt x hx v hv id bM=>hf eD id ?_;unfold WcE;rw[wt];exact Whc _ hx hv id bM
  refine⟨_,?_,by simp,λ_=>⟨λt=>Wdw (⟨an.env,an.objs,an.nx⟩) o.dst u t,?_,?_⟩⟩
  .rw[We6,Wn3 eD,h5];rfl
  .cases o.dst<;>rfl
  .cases o.dst<;>rfl
theorem Wwc{x:AVal}{b:Bool}(h:asB x=some b):x=one .bool b:=by
 unfold asB at h;split at h
 .injection h with h;subst h;rfl
 .cases h
theorem Weg{st:St}{t:Nat}{x:AVal}(h:Wn st.env t=some x)(t':Nat):Wn (st.put (some t) x).env t'=Wn st.env t':=by
 rw[Wdw];split
 .rename_i e;injection e with e;subst e;exact h.symm
 .rfl
theorem Wa9(st:St)(d:Option Tmp)(x:AVal):(st.put d x).objs=st.objs:=by cases d<;>rfl
theorem WjD(st:St)(d:Option Tmp)(x:AVal):(st.put d x).nx=st.nx:=by cases d<;>rfl
theorem Wgi{o:Oper}{st an:St}(h:∀x∈Wac o.op,ev an x=ev st x):WcE o an=WcE o st:=by
 unfold WcE;rw[WgR _ h]
theorem Ws5{o:Oper}{st af an:St}(h:rxg T Γ A ops o st some=some af)(he:∀t∈WdD ops o,Wn an.env t=Wn st.env t)
  (hm:WaP o=true->an.objs=st.objs/\an.nx=st.nx) (hf:WaP o=false->∀id∈WcE o st,Wn an.objs id=Wn st.objs id):
  ∃v pre am,Eff o v pre am st af/\(WaP o=false->pre= []/\am=st.nx)/\
   ∃bX,rxg T Γ A ops o an some=some bX/\(WaP o=true->Eff o v pre am an bX)/\(WaP o=false->Eff o v [] an.nx an bX):=by
 have ui:∀x∈Wac o.op,ev an x=ev st x:=λx hx=>Wfe λt ht=>he t (by
  unfold WdD;exact Xn _ (Xfr.2 ⟨x,hx,ht⟩))
 unfold rxg at h⊢;cases hg:o.guard with
 |none=>
  rw[hg]at h;exact WrK h ui hm hf
 |some g=>
  obtain⟨j,want⟩:=g;rw[hg]at h;simp only at h⊢;cases ht:(ops[j]?).bind (·.dst)with
  |none=>rw[ht]at h;cases h
  |some t=>
   rw[ht]at h;simp only at h⊢;have iJ:Wn an.env t=Wn st.env t:=he t (by
    unfold WdD;refine Xg _ ?_;rw[hg];simp only;rw[ht];simp)
   rw[iJ];cases hx:Wn st.env t with
   |none=>rw[hx]at h;cases h
   |some x=>
    rw[hx]at h;have skip:∀(s s2:St) (s':St),some (s.put o.dst (.tup []))=some s'->(∀t,Wn s.env t=Wn st.env t)->s.objs=st.objs->s.nx=st.nx->(∀t,Wn s2.env t=Wn an.env t)->s2.objs=an.objs->s2.nx=an.nx->
      ∃v pre am,Eff o v pre am st s'/\(WaP o=false->pre= []/\am=st.nx)/\
       ∃bX,some (s2.put o.dst (.tup []))=some bX/\(WaP o=true->Eff o v pre am an bX)/\(WaP o=false->Eff o v [] an.nx an bX):=by
     intro s s2 s' hs a1 a2 a3 b1 b2 b3;injection hs with hs;subst hs;refine⟨.tup [],[],st.nx,⟨λt=>?_,by rw[Wa9,a2];rfl,by rw[WjD,a3]⟩,λ_=>⟨rfl,rfl⟩,_,rfl,λeD=>⟨λt=>?_,by rw[Wa9,b2];rfl,by rw[WjD,b3];exact(hm eD).2⟩,λ_=>⟨λt=>?_,by rw[Wa9,b2];rfl,by rw[WjD,b3]⟩⟩
     .rw[Wdw,a1]
     .rw[Wdw,b1]
     .rw[Wdw,b1]
    have doit:∀b:Bool,x=one .bool b->rx1 T Γ A o (st.put (some t) (one .bool b)) some=some af->
      ∃v pre am,Eff o v pre am st af/\(WaP o=false->pre= []/\am=st.nx)/\
       ∃bX,rx1 T Γ A o (an.put (some t) (one .bool b)) some=some bX/\(WaP o=true->Eff o v pre am an bX)/\(WaP o=false->Eff o v [] an.nx an bX):=by
     intro b hb h1;subst hb;have l1:=Weg hx;have l2:=Weg (st:=an) (t:=t) (x:=one .bool b) (by rw[iJ];exact hx);have oJ:∀x∈Wac o.op,ev (st.put (some t) (one .bool b)) x=ev st x:=λx hx=>Wfe λt' _=>l1 t';have rO:∀x∈Wac o.op,ev (an.put (some t) (one .bool b)) x=ev an x:=λx hx=>Wfe λt' _=>l2 t';obtain⟨v,pre,am,e1,e2,bX,e3,e4,e5⟩:=WrK (an:=an.put (some t) (one .bool b)) h1 (λx hx=>by rw[rO x hx,oJ x hx,ui x hx])
      (λeD=>hm eD) (λgT id bM=>hf gT id (by rw[←Wgi oJ];exact bM))
     refine⟨v,pre,am,⟨λt'=>by rw[e1.env,l1],e1.objs,e1.nx⟩,e2,bX,e3,λeD=>⟨λt'=>by rw[(e4 eD).env,l2],(e4 eD).objs,(e4 eD).nx⟩,λeD=>⟨λt'=>by rw[(e5 eD).env,l2],(e5 eD).objs,(e5 eD).nx⟩⟩
    have main:(match asB x with
      |some b=>bif b
       then(if want then rx1 T Γ A o (st.put (some t) (one .bool true)) some else some ((st.put (some t) (one .bool true)).put o.dst (.tup [])))
       else(if want then some ((st.put (some t) (one .bool false)).put o.dst (.tup []))else rx1 T Γ A o (st.put (some t) (one .bool false)) some)
      |none=>none)=some af->∃v pre am,Eff o v pre am st af/\(WaP o=false->pre= []/\am=st.nx)/\
       ∃bX,(match asB x with
      |some b=>bif b
       then(if want then rx1 T Γ A o (an.put (some t) (one .bool true)) some else some ((an.put (some t) (one .bool true)).put o.dst (.tup [])))
       else(if want then some ((an.put (some t) (one .bool false)).put o.dst (.tup []))else rx1 T Γ A o (an.put (some t) (one .bool false)) some)
      |none=>none)=some bX/\(WaP o=true->Eff o v pre am an bX)/\(WaP o=false->Eff o v [] an.nx an bX):=by
     intro h;cases hb:asB x with
     |none=>rw[hb]at h;cases h
     |some b=>
      rw[hb]at h;have eG:=Wwc hb;have r1:∀b',b'=b->∀t',Wn (st.put (some t) (one .bool b')).env t'=Wn st.env t':=λb' e=>by subst e;exact Weg (by rw[hx,eG])
      have r2:∀b',b'=b->∀t',Wn (an.put (some t) (one .bool b')).env t'=Wn an.env t':=λb' e=>by subst e;exact Weg (by rw[iJ,hx,eG])
      cases b<;>cases want
      .exact doit false eG h
      .exact skip _ _ _ h (r1 _ rfl) (Wa9 _ _ _) (WjD _ _ _) (r2 _ rfl) (Wa9 _ _ _) (WjD _ _ _)
      .exact skip _ _ _ h (r1 _ rfl) (Wa9 _ _ _) (WjD _ _ _) (r2 _ rfl) (Wa9 _ _ _) (WjD _ _ _)
      .exact doit true eG h
    cases x with
    |s y=>exact main h
    |tup l=>
     cases l with
     |nil=>exact skip st an af h (λ_=>rfl) rfl rfl (λ_=>rfl) rfl rfl
     |cons y l=>exact main h
end
end Go.Sx
namespace Go.Sx
set_option linter.unusedVariables false
set_option linter.unusedSimpArgs false
structure Rc where
 i:Nat
 v:AVal
 pre:Wab
 nx:Nat
 ids:List Nat
 mv:Bool
section
variable{T:Tab}{Γ:Ctx}{A:List (Nat×An)}{ops:Array Oper}
structure StepTo(T:Tab)(Γ:Ctx)(A:List (Nat×An))(ops:Array Oper)(ρ:Rc)(o:Oper)(st af:St):Prop where
 at_:ops[ρ.i]?=some o
 isM:ρ.mv=WaP o
 lk:ρ.mv=false->ρ.ids=WcE o st
 run:rxg T Γ A ops o st some=some af
 env:∀t,Wn af.env t=if o.dst=some t then some ρ.v else Wn st.env t
 objs:af.objs=if ρ.mv then ρ.pre++st.objs else st.objs
 nx:af.nx=if ρ.mv then ρ.nx else st.nx
def Wu6(T:Tab)(Γ:Ctx)(A:List (Nat×An))(ops:Array Oper):List Rc->St->St->Prop
 | [],st,af=>st=af
 |ρ::l,st,af=>∃o dX,StepTo T Γ A ops ρ o st dX/\Wu6 T Γ A ops l dX af
theorem WrO{i:Nat}{o:Oper}{st af:St}(hi:ops[i]?=some o)(h:rxg T Γ A ops o st some=some af):
  ∃ρ:Rc,ρ.i=i/\StepTo T Γ A ops ρ o st af:=by
 obtain⟨v,pre,am,e1,e2,_⟩:=Ws5 (an:=st) h (λ_ _=>rfl) (λ_=>⟨rfl,rfl⟩) (λ_ _ _=>rfl);refine⟨⟨i,v,pre,am,WcE o st,WaP o⟩,rfl,hi,rfl,λ_=>rfl,h,e1.env,?_,?_⟩
 .simp only;cases hm:WaP o with
  |true=>simpa using e1.objs
  |false=>rw[e1.objs,(e2 hm).1];rfl
 .simp only;cases hm:WaP o with
  |true=>simpa using e1.nx
  |false=>rw[e1.nx,(e2 hm).2];rfl
theorem StepTo.move{ρ:Rc}{o:Oper}{st af an:St}(h:StepTo T Γ A ops ρ o st af)(he:∀t∈WdD ops o,Wn an.env t=Wn st.env t)
  (hm:ρ.mv=true->an.objs=st.objs/\an.nx=st.nx) (hf:ρ.mv=false->∀id∈ρ.ids,Wn an.objs id=Wn st.objs id):
  ∃bX,StepTo T Γ A ops ρ o an bX:=by
 obtain⟨v,pre,am,e1,e2,bX,e3,e4,e5⟩:=Ws5 (an:=an) h.run he (λeD=>hm (by rw[h.isM];exact eD)) (λgT id bM=>hf (by rw[h.isM];exact gT) id (by rw[h.lk (by rw[h.isM];exact gT)];exact bM));have hv:∀t,o.dst=some t->v=ρ.v:=λt ht=>by
  have a:=e1.env t;have b:=h.env t;rw[Wf ht]at a b;rw[a]at b;injection b
 have qY:ρ.mv=false->WcE o an=WcE o st:=λ_=>Wgi λx hx=>Wfe λt ht=>he t (by
  unfold WdD;exact Xn _ (Xfr.2 ⟨x,hx,ht⟩))
 cases eD:WaP o with
 |true=>
  have hρ:ρ.mv=true:=by rw[h.isM];exact eD
  have e4:=e4 eD;obtain⟨q1,q2⟩:=hm hρ;refine⟨bX,h.at_,h.isM,λhf=>(by rw[hρ]at hf;cases hf),e3,λt=>?_,?_,?_⟩
  .rw[e4.env];split
   .rename_i ht;rw[hv t ht]
   .rfl
  .rw[e4.objs,hρ];simp only[W8];have a:=e1.objs;have b:=h.objs;rw[hρ]at b;simp only[W8]at b;rw[a]at b;rw[List.append_cancel_right b]
  .rw[e4.nx,hρ];simp only[W8];have a:=e1.nx;have b:=h.nx;rw[hρ]at b;simp only[W8]at b;rw[←a,b]
 |false=>
  have hρ:ρ.mv=false:=by rw[h.isM];exact eD
  have e5:=e5 eD;refine⟨bX,h.at_,h.isM,λhf=>by rw[qY hρ];exact h.lk hρ,e3,λt=>?_,?_,?_⟩
  .rw[e5.env];split
   .rename_i ht;rw[hv t ht]
   .rfl
  .rw[e5.objs,hρ];rfl
  .rw[e5.nx,hρ];rfl
def Wuq(ids:List Nat)(pre:Wab):Prop:=∀id∈ids,id∉WhW pre
def Wxc(B:List (List Nat))(x y:Rc):Prop:=
 (x.mv=false->y.mv=true->WcR B x.i y.i=true\/Wuq x.ids y.pre)/\
 (x.mv=true->y.mv=false->WcR B x.i y.i=true\/Wuq y.ids x.pre)
theorem Wbc{α:Type}:∀(l:List Nat) (k:List Nat->α),Wgy l k=k l
 | [],_=>rfl
 |x::l,k=>by rw[Wgy,Wbc l]
theorem Wge{α:Type}:∀(l:List (List Nat)) (k:List (List Nat)->α),WpR l k=k l
 | [],_=>rfl
 |x::l,k=>by rw[WpR,Wbc,Wge l]
theorem WkE{ids:List Nat}{pre:Wab}(h:Wf2 ids (WhW pre)=true):Wuq ids pre:=λid bM hk=>by
 unfold Wf2 at h;have:=Xad.1 h id bM;rw[(WaR id _).2 hk]at this;cases this
theorem WqK(pre objs:Wab):WpT objs (pre++objs)=WhW pre:=by
 unfold WpT;simp
theorem Wlz{B:List (List Nat)}{R:Type}{k:St->Option R}{r:R}:∀(l:List Nat) (fl mu:List (Nat×List Nat)) (st:St),rdx T Γ A ops B l fl mu st k=some r->
  ∃(rs:List Rc) (af:St),rs.map (·.i)=l/\Wu6 T Γ A ops rs st af/\k af=some r/\rs.Pairwise (Wxc B)/\
   (∀p∈fl,∀ρ∈rs,ρ.mv=true->WcR B p.1 ρ.i=true\/Wuq p.2 ρ.pre)/\
   (∀p∈mu,∀ρ∈rs,ρ.mv=false->WcR B p.1 ρ.i=true\/Wf2 ρ.ids p.2=true)
 | [],fl,mu,st,h=>⟨[],st,rfl,rfl,h,List.Pairwise.nil,by simp,by simp⟩
 |i::l,fl,mu,st,h=>by
  simp only[rdx]at h;cases ho:ops[i]? with
  |none=>rw[ho]at h;cases h
  |some o=>
   rw[ho]at h;simp only at h;cases hm:WaP o with
   |true=>
    simp only[hm,Wb]at h;obtain⟨dX,h1,h2⟩:=WgQ h;rw[Wbc]at h2;obtain⟨ke,h2⟩:=W3 h2;obtain⟨ρ,hi,hs⟩:=WrO ho h1;have hρ:ρ.mv=true:=by rw[hs.isM];exact hm
    have aG:=hs.objs;rw[hρ]at aG;simp only[W8]at aG;rw[aG,WqK]at ke h2;obtain⟨rs,af,q1,q2,q3,q4,q5,q6⟩:=Wlz l _ _ _ h2;refine⟨ρ::rs,af,by simp[hi,q1],⟨o,dX,hs,q2⟩,q3,List.Pairwise.cons (λy hy=>⟨λhf=>(by rw[hρ]at hf;cases hf),λ_ mF=>?_⟩) q4,λp hp y hy mG=>?_,λp hp y hy mF=>?_⟩
    .rcases q6 (i,WhW ρ.pre) (Xj ..) y hy mF with h|h
     .rw[hi];exact .inl h
     .exact .inr (WkE h)
    .rcases Xs.1 hy with rfl|hy
     .have:=Xad.1 ke p hp;rw[Xce]at this;rw[hi];exact this.imp id WkE
     .exact q5 p hp y hy mG
    .rcases Xs.1 hy with rfl|hy
     .rw[hρ]at mF;cases mF
     .exact q6 p (Xf _ hp) y hy mF
   |false=>
    simp only[hm,Wa]at h;rw[Wbc]at h;obtain⟨ke,h⟩:=W3 h;obtain⟨dX,h1,h2⟩:=WgQ h;obtain⟨ρ,hi,hs⟩:=WrO ho h1;have hρ:ρ.mv=false:=by rw[hs.isM];exact hm
    have rP:=hs.lk hρ;rw[←rP]at ke h2;obtain⟨rs,af,q1,q2,q3,q4,q5,q6⟩:=Wlz l _ _ _ h2;refine⟨ρ::rs,af,by simp[hi,q1],⟨o,dX,hs,q2⟩,q3,List.Pairwise.cons (λy hy=>⟨λ_ mG=>?_,λhf=>(by rw[hρ]at hf;cases hf)⟩) q4,λp hp y hy mG=>?_,λp hp y hy mF=>?_⟩
    .rw[hi];exact q5 (i,ρ.ids) (Xj ..) y hy mG
    .rcases Xs.1 hy with rfl|hy
     .rw[hρ]at mG;cases mG
     .exact q5 p (Xf _ hp) y hy mG
    .rcases Xs.1 hy with rfl|hy
     .have:=Xad.1 ke p hp;rw[Xce]at this;rw[hi];exact this
     .exact q6 p hp y hy mF
def Wex(ops:Array Oper)(i:Nat):Option Tmp:=(ops[i]?).bind (·.dst)
def Wqe(ops:Array Oper):List Rc->(Nat->Option AVal)->Nat->Option AVal
 | [],e,t=>e t
 |ρ::a,e,t=>Wqe ops a (λt'=>if Wex ops ρ.i=some t' then some ρ.v else e t') t
def Wh3:List Rc->Wab×Nat->Wab×Nat
 | [],m=>m
 |ρ::a,m=>Wh3 a (if ρ.mv then(ρ.pre++m.1,ρ.nx)else m)
theorem WgZ:∀(rs:List Rc) (st af:St),Wu6 T Γ A ops rs st af->(∀t,Wn af.env t=Wqe ops rs (Wn st.env) t)/\(af.objs,af.nx)=Wh3 rs (st.objs,st.nx)
 | [],st,af,h=>by cases h;exact⟨λ_=>rfl,rfl⟩
 |ρ::rs,st,af,⟨o,dX,hs,h⟩=>by
  obtain⟨h1,h2⟩:=WgZ rs dX af h;have e:(Wn dX.env)= λt'=>if Wex ops ρ.i=some t' then some ρ.v else Wn st.env t':=funext λt=>by
   rw[hs.env];unfold Wex;rw[hs.at_];rfl
  refine⟨λt=>by rw[h1,e];rfl,?_⟩;rw[h2,Wh3];congr 1;rw[hs.objs,hs.nx];split<;>rfl
theorem WkO:∀(a:List Rc) (ρ:Rc) (b:List Rc) (st af:St),Wu6 T Γ A ops (a++ρ::b) st af->∃o dX an,Wu6 T Γ A ops a st dX/\StepTo T Γ A ops ρ o dX an
 | [],ρ,b,st,af,⟨o,dX,hs,h⟩=>⟨o,st,dX,rfl,hs⟩
 |x::a,ρ,b,st,af,⟨o,dX,hs,h⟩=>by
  obtain⟨o',s1,s2,h1,h2⟩:=WkO a ρ b dX af h;exact⟨o',s1,s2,⟨o,dX,hs,h1⟩,h2⟩
theorem WbG:∀(a:List Rc) (m:Wab×Nat),Wh3 a m=Wh3 (a.filter (·.mv)) m
 | [],_=>rfl
 |ρ::a,m=>by
  rw[Wh3,WbG a,Xbi];cases h:ρ.mv with
  |true=>simp only[W8,Wh3,h]
  |false=>simp only[Xap,Wat]
theorem Wem:∀(a b:List Rc) (m:Wab×Nat),Wh3 (a++b) m=Wh3 b (Wh3 a m)
 | [],_,_=>rfl
 |ρ::a,b,m=>by rw[Xbc,Wh3,Wem a b];rfl
theorem Wij{pre objs:Wab}{id:Nat}(h:id∉WhW pre):Wn (pre++objs) id=Wn objs id:=by
 induction pre with
 |nil=>rfl
 |cons p pre ih=>
  obtain⟨j,ob⟩:=p;simp only[WhW,Xaf,Xs,not_or]at h;rw[Xbc,WG,Wc (λe=>h.1 e.symm)];exact ih h.2
theorem Wit{id:Nat}:∀(a:List Rc) (m:Wab×Nat),(∀ρ∈a,ρ.mv=true->id∉WhW ρ.pre)->Wn (Wh3 a m).1 id=Wn m.1 id
 | [],_,_=>rfl
 |ρ::a,m,h=>by
  rw[Wh3,Wit a _ λx hx=>h x (Xf _ hx)];split
  .rename_i hm;exact Wij (h ρ (Xj ..) hm)
  .rfl
def Wme(ops:Array Oper):Prop:=∀i j t,Wex ops i=some t->Wex ops j=some t->i=j
theorem Wgv{t:Nat}:∀(a:List Rc) (e:Nat->Option AVal),(∀ρ∈a,Wex ops ρ.i≠some t)->Wqe ops a e t=e t
 | [],_,_=>rfl
 |ρ::a,e,h=>by
  rw[Wqe,Wgv a _ λx hx=>h x (Xf _ hx),Wc (h ρ (Xj ..))]
theorem WiL{t:Nat}(h1:Wme ops):∀(a:List Rc) (e:Nat->Option AVal),(a.map (·.i)).Nodup->∀ρ∈a,Wex ops ρ.i=some t->Wqe ops a e t=some ρ.v
 | [],_,_,_,h,_=>by cases h
 |x::a,e,hn,ρ,hρ,ht=>by
  rw[Xaf,Xac]at hn;rw[Wqe];rcases Xs.1 hρ with rfl|hρ
  .rw[Wgv a _ λy hy wu=>hn.1 (by rw[h1 _ _ _ ht wu];exact Xw.2 ⟨y,hy,rfl⟩),Wf ht]
  .exact WiL h1 a _ hn.2 ρ hρ ht
theorem WkA{t:Nat}(h1:Wme ops){a b:List Rc}{e:Nat->Option AVal}(ha:(a.map (·.i)).Nodup)(hb:(b.map (·.i)).Nodup)
  (h:∀ρ,Wex ops ρ.i=some t->(ρ∈a↔ρ∈b)):Wqe ops a e t=Wqe ops b e t:=by
 by_cases hx:∃ρ∈a,Wex ops ρ.i=some t
 .obtain⟨ρ,hρ,ht⟩:=hx;rw[WiL h1 a e ha ρ hρ ht,WiL h1 b e hb ρ ((h ρ ht).1 hρ) ht]
 .rw[Wgv a e λρ hρ ht=>hx ⟨ρ,hρ,ht⟩,Wgv b e λρ hρ ht=>hx ⟨ρ,(h ρ ht).2 hρ,ht⟩]
end
end Go.Sx
namespace Go.Sx
set_option linter.unusedVariables false
set_option linter.unusedSimpArgs false
theorem Wf5{α:Type}{x:α}:∀{a c b d:List α},(a++x::b).Nodup->a++x::b=c++x::d->a=c
 | [],[],_,_,_,_=>rfl
 | [],y::c,b,d,hn,h=>by
  simp only[Xbd,Xbc,List.cons.injEq]at h;obtain⟨rfl,h⟩:=h;rw[Xbd,Xac]at hn;exact WD (by rw[h];simp) hn.1
 |y::a,[],b,d,hn,h=>by
  simp only[Xbd,Xbc,List.cons.injEq]at h;obtain⟨rfl,h⟩:=h;rw[Xbc,Xac]at hn;exact WD (by simp) hn.1
 |y::a,z::c,b,d,hn,h=>by
  simp only[Xbc,List.cons.injEq]at h;obtain⟨rfl,h⟩:=h;rw[Xbc,Xac]at hn;rw[Wf5 hn.2 h]
def WaO(ops:Array Oper)(i:Nat):Bool:=match ops[i]? with
 |some o=>WaP o
 |none=>false
theorem Rel.same{w0:World}{F:CS}{nt:Slots}{G0 G:GH}{ν:Nat->Nu}{st an:St}{a:Act}{w:World}(h:Rel w0 F nt G0 G ν st a w)
  (he:∀t,Wn an.env t=Wn st.env t) (ho:an.objs=st.objs) (hn:an.nx=st.nx):Rel w0 F nt G0 G ν an a w:=
 ⟨h.defers,h.ntm,h.par,λi x hx=>by rw[he]at hx;rw[hn];exact h.env i x hx,by rw[ho,hn];exact h.h,h.gx,λx v hv=>by rw[hn];exact h.ex x v hv⟩
theorem WuT:∀(rs:List Rc),(rs.map (·.i)).Nodup->∃rec:Nat->Rc,∀ρ∈rs,rec ρ.i=ρ
 | [],_=>⟨λi=>⟨i,.tup [],[],0,[],false⟩,by simp⟩
 |ρ::rs,h=>by
  rw[Xaf,Xac]at h;obtain⟨rec,hr⟩:=WuT rs h.2;refine⟨λi=>if i=ρ.i then ρ else rec i,λx hx=>?_⟩;rcases Xs.1 hx with rfl|hx
  .simp
  .simp only;rw[Wc (λe=>h.1 (by rw[←e];exact Xw.2 ⟨x,hx,rfl⟩))];exact hr x hx
section
variable{w0:World}{F:CS}{nt:Slots}{G0:GH}{P:Program}{T:Tab}{Γ:Ctx}{A:List (Nat×An)}{ops:Array Oper}{Q:Exit->Act->World->Prop}
theorem Wsp(hT:Wai P T)(hΓ:WdJ P Γ)(hd:∀o∈ops,∀d,o.dst=some d->nt.Ok d){l L:List Nat}(hl:Order ops l)(hL:Order ops L)(eG:Wme ops)
  (hQ:∀(i:Nat) (o:Oper) (t:Nat),ops[i]?=some o->t∈WdD ops o->∀j,Wex ops j=some t->j=i\/WcR (WcU ops.toList []) j i=true\/WcR (WcU ops.toList []) i j=true)
  (hσ:l.filter (WaO ops)=L.filter (WaO ops)) {rs:List Rc} {st af:St} (gL:rs.map (·.i)=L) (kg:Wu6 T Γ A ops rs st af) (cw:rs.Pairwise (Wxc (WcU ops.toList [])))
  (hK:∀a w G ν,Rel w0 F nt G0 G ν af a w->Q .normal a w) {a:Act} {w:World} {G:GH} {ν:Nat->Nu} (hr:Rel w0 F nt G0 G ν st a w):wpOps P ops Q l a w:=by
 have be:(rs.map (·.i)).Nodup:=by rw[gL];exact hL.nodup
 obtain⟨rec,dm⟩:=WuT rs be;have hLr:L.map rec=rs:=by
  rw[←gL,Xdm]
  conv=>rhs;rw[←Xgx rs]
  exact Xeu λρ hρ=>dm ρ hρ
 have iL:∀i,i∈l↔i∈L:=λi=>by rw[←hl.all,hL.all]
 have jd:∀i∈L,(rec i).i=i/\rec i∈rs:=λi hi=>by
  rw[←gL]at hi;obtain⟨ρ,hρ,rfl⟩:=Xw.1 hi;rw[dm ρ hρ];exact⟨rfl,hρ⟩
 have dJ:∀i∈L,∃pre post o dX an,L=pre++i::post/\Wu6 T Γ A ops (pre.map rec) st dX/\StepTo T Γ A ops (rec i) o dX an:=λi hi=>by
  obtain⟨pre,post,e⟩:=Xeb hi;have:rs=pre.map rec++rec i::post.map rec:=by rw[←hLr,e];simp
  rw[this]at kg;obtain⟨o,dX,an,h1,h2⟩:=WkO _ _ _ _ _ kg;exact⟨pre,post,o,dX,an,e,h1,h2⟩
 have gH:∀i∈L,(rec i).mv=WaO ops i:=λi hi=>by
  obtain⟨pre,post,o,dX,an,e,h1,h2⟩:=dJ i hi;rw[h2.isM];have:=h2.at_;rw[(jd i hi).1]at this;unfold WaO;rw[this]
 have fT:∀(p:List Nat),(∀i∈p,i∈L)->(p.map rec).filter (·.mv)=(p.filter (WaO ops)).map rec:=by
  intro p
  induction p with
  |nil=>intro _;rfl
  |cons i p ih=>
   intro h;have:=ih λj hj=>h j (Xf _ hj);rw[Xaf,Xbi,Xbi,gH i (h i (Xj ..))];split
   .rw[Xaf,this]
   .exact this
 have mH:∀(p:List Nat),(∀i∈p,i∈L)->(p.map rec).map (·.i)=p:=by
  intro p h;rw[Xdm]
  conv=>rhs;rw[←Xgx p]
  exact Xeu λi hi=>(jd i (h i hi)).1
 have dj:∀(p:List Nat),(∀i∈p,i∈L)->∀i∈L,(rec i∈p.map rec↔i∈p):=λp hp i hi=>by
  constructor
  .intro h;obtain⟨j,hj,e⟩:=Xw.1 h;have:j=i:=by rw[←(jd j (hp j hj)).1,←(jd i hi).1,e]
   rw[←this];exact hj
  .exactλh=>Xw.2 ⟨i,h,rfl⟩
 have lZ:∀i j pre post,L=pre++i::post->j∈post->Wxc (WcU ops.toList []) (rec i) (rec j):=λi j pre post e hj=>by
  have:rs=pre.map rec++rec i::post.map rec:=by rw[←hLr,e];simp
  rw[this,List.pairwise_append]at cw;exact(List.pairwise_cons.1 cw.2.1).1 _ (Xw.2 ⟨j,hj,rfl⟩)
 suffices main:∀(s p:List Nat),l=p++s->∀(an:St) (a:Act) (w:World) (G:GH) (ν:Nat->Nu),Rel w0 F nt G0 G ν an a w->
   (∀t,Wn an.env t=Wqe ops (p.map rec) (Wn st.env) t)->(an.objs,an.nx)=Wh3 (p.map rec) (st.objs,st.nx)->wpOps P ops Q s a w from
  main l [] rfl st a w G ν hr (λ_=>rfl) rfl
 intro s
 induction s with
 |nil=>
  intro p e an a w G ν jc he hm;rw[Xcp]at e;subst e;obtain⟨f1,f2⟩:=WgZ _ _ _ kg;have oK:∀i∈l,i∈L:=λi hi=>(iL i).1 hi;refine hK a w G ν (jc.same (λt=>?_) ?_ ?_)
  .rw[f1,he];refine WkA eG be (by rw[mH l oK];exact hl.nodup) λρ _=>?_;constructor
   .intro hρ;have hi:ρ.i∈L:=by rw[←gL];exact Xw.2 ⟨ρ,hρ,rfl⟩
    rw[←dm ρ hρ];exact(dj l oK ρ.i hi).2 ((iL _).2 hi)
   .intro hρ;obtain⟨i,hi,rfl⟩:=Xw.1 hρ;exact(jd i (oK i hi)).2
  .have:Wh3 (l.map rec) (st.objs,st.nx)=Wh3 rs (st.objs,st.nx):=by
    rw[WbG,fT l oK,hσ,←fT L (λi hi=>hi),←WbG,hLr]
   rw[this,←f2]at hm;exact(Wm (·.1) hm).symm
  .have:Wh3 (l.map rec) (st.objs,st.nx)=Wh3 rs (st.objs,st.nx):=by
    rw[WbG,fT l oK,hσ,←fT L (λi hi=>hi),←WbG,hLr]
   rw[this,←f2]at hm;exact(Wm (·.2) hm).symm
 |cons i s ih=>
  intro p e an a w G ν jc he hm;have nH:i∈L:=(iL i).1 (by rw[e];simp);have oL:∀j∈p,j∈L:=λj hj=>(iL j).1 (by rw[e];exact Xn _ hj);obtain⟨pre,post,o,dX,ww,eL,h1,h2⟩:=dJ i nH;have iM:∀j∈pre,j∈L:=λj hj=>by rw[eL];exact Xn _ hj
  have qq:ops[i]?=some o:=by have:=h2.at_;rw[(jd i nH).1]at this;exact this
  obtain⟨g1,g2⟩:=WgZ _ _ _ h1;have lA:=hl.nodup;have lB:=hL.nodup;rw[e]at lA;rw[eL]at lB;have oM:i∉p:=λh=>(Xae.1 lA).2.2 i h i (Xj ..) rfl;have iN:i∉pre:=λh=>(Xae.1 lB).2.2 i h i (Xj ..) rfl;have mI:∀t∈WdD ops o,Wn an.env t=Wn dX.env t:=λt ht=>by
   rw[he,g1];refine WkA eG (by rw[mH p oL];exact(Xae.1 lA).1) (by rw[mH pre iM];exact(Xae.1 lB).1) λρ hρt=>?_;have key:∀j∈L,Wex ops j=some t->(j∈p↔j∈pre):=λj hj rx=>by
    rcases hQ i o t qq ht j rx with rfl|hb|hb
    .exact⟨λh=>WD h oM,λh=>WD h iN⟩
    .by_cases oN:j=i
     .subst oN;exact⟨λh=>WD h oM,λh=>WD h iN⟩
     .exact⟨λ_=>hL.bef' eL hb oN,λ_=>hl.bef' e hb oN⟩
    .exact⟨λh=>WD (hl.bef e hb h) oM,λh=>WD (hL.bef eL hb h) iN⟩
   constructor
   .intro hρ;obtain⟨j,hj,rfl⟩:=Xw.1 hρ;have oO:=oL j hj;rw[(jd j oO).1]at hρt;exact Xw.2 ⟨j,(key j oO hρt).1 hj,rfl⟩
   .intro hρ;obtain⟨j,hj,rfl⟩:=Xw.1 hρ;have oO:=iM j hj;rw[(jd j oO).1]at hρt;exact Xw.2 ⟨j,(key j oO hρt).2 hj,rfl⟩
  have uj:Wh3 (p.map rec) (st.objs,st.nx)=Wh3 ((p.filter (WaO ops)).map rec) (st.objs,st.nx):=by rw[WbG,fT p oL]
  have l0:Wh3 (pre.map rec) (st.objs,st.nx)=Wh3 ((pre.filter (WaO ops)).map rec) (st.objs,st.nx):=by rw[WbG,fT pre iM]
  obtain⟨wx,h3⟩:=h2.move (an:=an) mI (λeD=>by
   have qr:WaO ops i=true:=by rw[←gH i nH];exact eD
   have:p.filter (WaO ops)=pre.filter (WaO ops):=by
    have q:=hσ;rw[e,eL,Xcr,Xcr,Xbi,Xbi,Wf qr,Wf qr]at q;refine Wf5 ?_ q;have:=hl.nodup.filter (WaO ops);rw[e,Xcr,Xbi,Wf qr]at this;exact this
   rw[uj,this,←l0,←g2]at hm;exact⟨Wm (·.1) hm,Wm (·.2) hm⟩) (λgT id bM=>by
   have q:(p.filter (WaO ops))<+:l.filter (WaO ops):=by rw[e,Xcr];exact Xgr _ _
   have q2:(pre.filter (WaO ops))<+:l.filter (WaO ops):=by rw[hσ,eL,Xcr];exact Xgr _ _
   have rk:an.objs=(Wh3 ((p.filter (WaO ops)).map rec) (st.objs,st.nx)).1:=by rw[←uj,←hm]
   have qi:dX.objs=(Wh3 ((pre.filter (WaO ops)).map rec) (st.objs,st.nx)).1:=by rw[←l0,←g2]
   rw[rk,qi];rcases List.prefix_or_prefix_of_prefix q q2 with⟨X,hX⟩|⟨X,hX⟩
   .
    rw[←hX,Xz,Wem];refine(Wit _ _ λρ hρ hρm=>?_).symm;obtain⟨m,nI,rfl⟩:=Xw.1 hρ;have ij:m∈pre:=(Xay.1 (by rw[←hX];exact Xg _ nI:m∈pre.filter (WaO ops))).1;have mJ:m∉p:=λaM=>by
     have rQ:WaO ops m=true:=(Xay.1 (by rw[←hX];exact Xg _ nI:m∈pre.filter (WaO ops))).2;have kh:(pre.filter (WaO ops)).Nodup:=(Xae.1 lB).1.filter _;rw[←hX]at kh;exact(Xae.1 kh).2.2 m (Xay.2 ⟨aM,rQ⟩) m nI rfl
    obtain⟨u,v,eu⟩:=Xeb ij;have hf:=lZ m i u (v++i::post) (by rw[eL,eu];simp) (by simp);rcases hf.2 hρm gT with hb|hb
    .rw[(jd m (iM m ij)).1,(jd i nH).1]at hb;exact WD (hl.bef' e hb (λhc=>iN (hc▸ij))) mJ
    .exact hb id bM
   .rw[←hX,Xz,Wem];refine Wit _ _ λρ hρ hρm=>?_;obtain⟨m,nI,rfl⟩:=Xw.1 hρ;have uk:m∈p.filter (WaO ops):=by rw[←hX];exact Xg _ nI
    have lC:m∈p:=(Xay.1 uk).1;have mJ:m∉pre:=λaM=>by
     have rQ:WaO ops m=true:=(Xay.1 uk).2;have kh:(p.filter (WaO ops)).Nodup:=(Xae.1 lA).1.filter _;rw[←hX]at kh;exact(Xae.1 kh).2.2 m (Xay.2 ⟨aM,rQ⟩) m nI rfl
    have um:=oL m lC;have mK:m∈post:=by
     rw[eL]at um;rcases Xo.1 um with h|h
     .exact WD h mJ
     .rcases Xs.1 h with h|h
      .exact WD (h▸lC) oM
      .exact h
    have hf:=lZ i m pre post eL mK;rcases hf.1 gT hρm with hb|hb
    .rw[(jd m (oL m lC)).1,(jd i nH).1]at hb;exact WD (hl.bef e hb lC) oM
    .exact hb id bM)
  have wy:∀d,o.dst=some d->nt.Ok d:=hd o (Array.mem_of_getElem? qq);have qs:=Wu4 (F:=F) (G0:=G0) (w0:=w0) hT hΓ wy (Q:=Q) (k:=some) (r:=wx) (K:=wpOps P ops Q s) (λwz a' w' G' ν' hr4 h4=>by
   injection h4 with h4;subst h4;refine ih (p++ [i]) (by rw[e];simp) wz a' w' G' ν' hr4 (λt=>?_) ?_
   .rw[h3.env];have hv:Wqe ops ((p++ [i]).map rec) (Wn st.env) t=if Wex ops i=some t then some (rec i).v else Wqe ops (p.map rec) (Wn st.env) t:=by
     rw[Xz];have gen:∀(x:List Rc) (y:Rc) (e:Nat->Option AVal),Wqe ops (x++ [y]) e t=if Wex ops y.i=some t then some y.v else Wqe ops x e t:=by
      intro x
      induction x with
      |nil=>intro y e;rfl
      |cons z x ih=>intro y e;rw[Xbc,Wqe,ih];rfl
     rw[List.map_singleton,gen,(jd i nH).1]
    rw[hv,he];have:Wex ops i=o.dst:=by unfold Wex;rw[qq];rfl
    rw[this]
   .rw[Xz,Wem,←hm];simp only[Xaf,Xcg,Wh3];rw[h3.objs,h3.nx];split<;>rfl) jc h3.run
  rw[wpOps_cons];unfold wpOp;rw[qq];simp only;split
  .rename_i hw;rw[Wf hw]at qs;exact .inl qs
  .rename_i hw;rw[Wc hw]at qs;exact qs
end
end Go.Sx
namespace Go.Sx
set_option linter.unusedVariables false
set_option linter.unusedSimpArgs false
theorem WkJ:∀{l:List (Nat×Nat)},Wbw (l.map (·.1))=true->∀p∈l,∀q∈l,p.1=q.1->p=q
 | [],_,p,hp,_,_,_=>by cases hp
 |x::l,h,p,hp,q,hq,e=>by
  have hn:=(Wfs _).1 h;simp only[Xaf,Wbw,Xi]at h;rw[Xaf,Xac]at hn;rcases Xs.1 hp with h1|h1
  .rcases Xs.1 hq with h2|h2
   .rw[h1,h2]
   .exact WD (Xw.2 ⟨q,h2,by rw[←e,h1]⟩) hn.1
  .rcases Xs.1 hq with h2|h2
   .exact WD (Xw.2 ⟨p,h1,by rw[e,h2]⟩) hn.1
   .exact WkJ h.2 p h1 q h2 e
theorem Wkm:∀(l:List Oper) (n k:Nat) (o:Oper) (d:Nat),l[k]?=some o->o.dst=some d->(d,n+k)∈WhM l n
 | [],_,k,o,d,h,_=>by simp at h
 |x::l,n,k,o,d,h,hd=>by
  cases k with
  |zero=>
   simp at h;subst h;simp only[WhM,hd];exact Xj ..
  |succ k=>
   have:=Wkm l (n+1) k o d (by simpa using h) hd;have e:n+(k+1)=n+1+k:=by omega
   rw[e];simp only[WhM];split
   .exact Xf _ this
   .exact this
theorem WhT{ops:Array Oper}{B:List (List Nat)}{D:List (Nat×Nat)}:∀(l:List Oper) (n:Nat),WlZ ops B D l n=true->∀(k:Nat) (o:Oper),l[k]?=some o->∀t∈WdD ops o,∀p∈D,p.1=t->
  p.2=n+k\/WcR B p.2 (n+k)=true\/WcR B (n+k) p.2=true
 | [],_,_,k,o,h=>by simp at h
 |x::l,n,h,k,o,hk=>by
  simp only[WlZ,Xi]at h;cases k with
  |zero=>
   simp at hk;subst hk;intro t ht p hp e;have:=Xad.1 (Xad.1 h.1 t ht) p hp;simp only[Xce,Xai]at this;rcases this with((h1|h1)|h1)|h1
   .rw[e]at h1;simp at h1
   .exact .inl (by simpa using h1)
   .exact .inr (.inl h1)
   .exact .inr (.inr h1)
  |succ k=>
   have:=WhT l (n+1) h.2 k o (by simpa using hk);have e:n+(k+1)=n+1+k:=by omega
   rw[e];exact this
structure RegOk(ops:Array Oper):Prop where
 back:∀(k:Nat) (o:Oper),ops[k]?=some o->∀d∈Wnt o,d<k
 one:Wme ops
 slots:∀(i:Nat) (o:Oper) (t:Nat),ops[i]?=some o->t∈WdD ops o->∀j,Wex ops j=some t->j=i\/WcR (WcU ops.toList []) j i=true\/WcR (WcU ops.toList []) i j=true
theorem Wiq{ops:Array Oper}{j t:Nat}(h:Wex ops j=some t):(t,j)∈WhM ops.toList 0:=by
 unfold Wex at h;obtain⟨o,ho,hd⟩:=Xau.1 h;have:=Wkm ops.toList 0 j o t (by simpa using ho) hd;rw[Xaw]at this;exact this
theorem WqP{ops:Array Oper}(h:WtH ops (WcU ops.toList [])=true):RegOk ops:=by
 simp only[WtH,Xi]at h;obtain⟨⟨h1,h2⟩,h3⟩:=h;refine⟨λk o ho e he=>?_,λi j t hi hj=>?_,λi o t ho ht j hj=>?_⟩
 .have:=WkY (ops:=ops) ops.toList 0 h1 k o (by simpa using ho) e he;omega
 .have:=WkJ h2 _ (Wiq hi) _ (Wiq hj) rfl;exact Wm (·.2) this
 .have:=WhT ops.toList 0 h3 i o (by simpa using ho) t ht _ (Wiq hj) rfl;simpa using this
theorem Wk4{ops:Array Oper}:∀(l done:List Nat),Wix ops l done=true->done.Nodup->(∀i∈done,i<ops.size)->
  (done++l).Nodup/\(∀i∈done++l,i<ops.size)/\(done++l).length=ops.size/\(∀p i s,l=p++i::s->∀o,ops[i]?=some o->∀d∈Wnt o,d∈done++p)
 | [],done,h,hn,ac=>by
  simp only[Wix]at h;exact⟨by simpa using hn,by simpa using ac,by simpa using h,λp i s e=>by simp at e⟩
 |x::l,done,h,hn,ac=>by
  simp only[Wix,Xi,Xai]at h;obtain⟨⟨h1,h2⟩,h3⟩:=h;have hx:x∉done:=λhm=>by rw[(WaR x done).2 hm]at h1;cases h1
  cases ho:ops[x]? with
  |none=>rw[ho]at h2;cases h2
  |some o=>
   rw[ho]at h2;have kV:x<ops.size:=(Xbw.1 ho).1;obtain⟨g1,g2,g3,g4⟩:=Wk4 l (x::done) h3 (Xac.2 ⟨hx,hn⟩) (λi hi=>by
    rcases Xs.1 hi with rfl|hi
    .exact kV
    .exact ac i hi)
   have ki:List.Perm (x::done++l) (done++x::l):=by simpa using(List.perm_middle (a:=x) (l₁:=done) (l₂:=l)).symm
   refine⟨ki.nodup_iff.1 g1,λi hi=>g2 i (ki.mem_iff.2 hi),by rw[←ki.length_eq];exact g3,λp i s e o' jb d hd=>?_⟩;cases p with
   |nil=>
    simp only[Xbd,List.cons.injEq]at e;obtain⟨rfl,_⟩:=e;rw[ho]at jb;injection jb with jb;subst jb;have:=Xad.1 h2 d hd;simpa using(WaR d done).1 this
   |cons y p=>
    simp only[Xbc,List.cons.injEq]at e;obtain⟨rfl,e⟩:=e;have:=g4 p i s e o' jb d hd;simp only[Xbc,Xs,Xo]at this⊢;rcases this with h|h|h
    .exact .inr (.inl h)
    .exact .inl h
    .exact .inr (.inr h)
theorem Wol{l:List Nat}{n:Nat}(hn:l.Nodup)(ac:∀i∈l,i<n)(ad:l.length=n):∀i,i<n->i∈l:=by
 intro i hi;refine Classical.byContradiction λh=>?_;have h1:(i::l).Nodup:=Xac.2 ⟨h,hn⟩;have h2:∀j∈i::l,j∈Xcu n:=λj hj=>by
  rw[Xdn];rcases Xs.1 hj with rfl|hj
  .exact hi
  .exact ac j hj
 have key:∀(a b:List Nat),a.Nodup->(∀x∈a,x∈b)->a.length<=b.length:=by
  intro a
  induction a with
  |nil=>intro b _ _;simp
  |cons x a ih=>
   intro b mL gh;rw[Xac]at mL;have oP:x∈b:=gh x (Xj ..);have:=ih (b.erase x) mL.2 λy hy=>(Xgm (λe=>mL.1 (by rw[←e];exact hy))).2 (gh y (Xf _ hy));rw[Xfv oP]at this;have fL:=Xgc oP;simp;omega
 have:=key _ _ h1 h2;rw[Xfl,Xr]at this;omega
theorem WoU{ops:Array Oper}{l:List Nat}(h:Wix ops l []=true):Order ops l:=by
 obtain⟨h1,h2,h3,h4⟩:=Wk4 l [] h Xdd (by simp);rw[Xbd]at h1 h2 h3;exact⟨h1,λi=>⟨Wol h1 h2 h3 i,h2 i⟩,λp i s e o ho d hd=>by simpa using h4 p i s e o ho d hd⟩
theorem Wk0:∀(l:List Oper) (n i:Nat),i∈WdM l n↔n<=i/\∃o,l[i-n]?=some o/\WaP o=true
 | [],n,i=>by simp[WdM]
 |o::l,n,i=>by
  have ih:=Wk0 l (n+1) i;have oQ:(n<=i/\∃o',(o::l)[i-n]?=some o'/\WaP o'=true)↔(i=n/\WaP o=true)\/(n+1<=i/\∃o',l[i-(n+1)]?=some o'/\WaP o'=true):=by
   by_cases hi:i=n
   .subst hi;constructor
    .rintro⟨_,o',h1,h2⟩;rw[Xcx]at h1;injection h1 with h1;subst h1;exact .inl ⟨rfl,h2⟩
    .rintro(⟨_,h⟩|⟨h,_⟩)
     .exact⟨Xm _,o,by rw[Xcx];rfl,h⟩
     .omega
   .constructor
    .rintro⟨h0,o',h1,h2⟩;have e:i-n=(i-(n+1))+1:=by omega
     rw[e,Xee]at h1;exact .inr ⟨by omega,o',h1,h2⟩
    .rintro(⟨h,_⟩|⟨h0,o',h1,h2⟩)
     .exact WD h hi
     .have e:i-n=(i-(n+1))+1:=by omega
      exact⟨by omega,o',by rw[e,Xee];exact h1,h2⟩
  rw[oQ,←ih];simp only[WdM];cases hm:WaP o with
  |true=>simp
  |false=>simp
theorem Wnv{ops:Array Oper}{i:Nat}:i∈WdM ops.toList 0↔WaO ops i=true:=by
 rw[Wk0];unfold WaO;simp only[Xci,true_and,Xde,Array.getElem?_toList];cases ops[i]? with
 |none=>simp
 |some o=>simp
theorem Wp4{B:List (List Nat)}:∀(σ rem:List Nat) (n:Nat),σ.length<=n->σ.Nodup->(∀i,i∈rem↔i∈σ)->(∀p m s,σ=p++m::s->∀m'∈m::s,WcR B m' m=false)->σ∈Wrx B n rem
 | [],rem,n,hn,be,aM,hb=>by
  have:rem= []:=Xer.2 λi hi=>by have:=(aM i).1 hi;cases this
  subst this;cases n<;>simp[Wrx]
 |m::s,rem,0,hn,_,_,_=>by simp at hn
 |m::s,rem,n+1,hn,be,aM,hb=>by
  have hm:m∈rem:=(aM m).2 (Xj ..);rw[Xac]at be;cases hrem:rem with
  |nil=>rw[hrem]at hm;cases hm
  |cons x xs=>
   rw[←hrem];have fH:Wrx B (n+1) rem=(rem.filter λm=>rem.all λm'=>!WcR B m' m).flatMap λm=>(Wrx B n (rem.filter λx=>!Xav x m)).map (m:: ·):=by rw[hrem];rfl
   rw[fH];refine Xfr.2 ⟨m,Xay.2 ⟨hm,Xad.2 λm' eB=>?_⟩,Xw.2 ⟨s,?_,rfl⟩⟩
   .rw[hb [] m s rfl m' ((aM m').1 eB)];rfl
   .refine Wp4 s _ n (by simpa using hn) be.2 (λi=>?_) (λp q s' e=>hb (m::p) q s' (by rw[e];rfl));rw[Xay,aM,Xs];constructor
    .rintro⟨h1,h2⟩;rcases h1 with rfl|h1
     .simp at h2
     .exact h1
    .intro h;refine⟨.inr h,?_⟩;have bI:i≠m:=λe=>be.1 (e▸h);cases cA:Xav i m with
     |false=>rfl
     |true=>exact WD (Nat.eq_of_beq_eq_true cA) bI
theorem WuK:∀(l m:List Nat),eqN l m=true->l=m
 | [],[],_=>rfl
 | [],_::_,h=>by cases h
 |_::_,[],h=>by cases h
 |i::l,j::m,h=>by
  simp only[eqN,Xi]at h;have:i=j:=by simpa using h.1
  rw[this,WuK l m h.2]
theorem WrH{α:Type}{a b:Option α}{r:α}(h:Wb6 a b=some r):a=some r/\b=some r:=by
 unfold Wb6 at h;split at h
 .rename_i e;exact⟨h,e▸h⟩
 .cases h
section
variable{w0:World}{F:CS}{nt:Slots}{G0:GH}{P:Program}{T:Tab}{Γ:Ctx}{A:List (Nat×An)}{R:Type}{r:R}
theorem Wpt{ops:Array Oper}{B:List (List Nat)}{st:St}{k:St->Option R}:∀(l:List (List Nat)),WvN T Γ A ops B st k l=some r->∀σ∈l,∃L,Wix ops L []=true/\L.filter (λi=>WcB i σ)=σ/\rdx T Γ A ops B L [] [] st k=some r
 | [],_,σ,hσ=>by cases hσ
 |τ::l,h,σ,hσ=>by
  have one:Wgy (WiA ops.toList B ops.size [] τ) (λL=>bif Wix ops L []&&eqN (L.filter λi=>WcB i τ) τ then rdx T Γ A ops B L [] [] st k else none)=some r->∃L,Wix ops L []=true/\L.filter (λi=>WcB i τ)=τ/\rdx T Γ A ops B L [] [] st k=some r:=λh=>by
   rw[Wbc]at h;obtain⟨hc,h⟩:=W3 h;simp only[Xi]at hc;exact⟨_,hc.1,WuK _ _ hc.2,h⟩
  cases l with
  |nil=>
   simp only[WvN]at h;rcases Xs.1 hσ with rfl|hσ
   .exact one h
   .cases hσ
  |cons x l=>
   have h:Wb6 (Wgy (WiA ops.toList B ops.size [] τ) (λL=>bif Wix ops L []&&eqN (L.filter λi=>WcB i τ) τ then rdx T Γ A ops B L [] [] st k else none)) (WvN T Γ A ops B st k (x::l))=some r:=h;obtain⟨h1,h2⟩:=WrH h;rcases Xs.1 hσ with rfl|hσ
   .exact one h1
   .exact Wpt (x::l) h2 σ hσ
theorem Wuf(hM:P.follows .mixedOrders=true)(hT:Wai P T)(hΓ:WdJ P Γ){id:Nat}{ops:Array Oper}(hd:∀o∈ops,∀d,o.dst=some d->nt.Ok d){k:St->Option R}{Q:Exit->Act->World->Prop}(hK:WrB w0 F nt G0 k r (Q .normal)):
  WrB w0 F nt G0 (λst=>WlH T Γ A ops st k) r ((Code.region id ops true).wp P Q):=λst a w G ν hr h=>by
 simp only[WlH,Wge]at h;obtain⟨rR,h⟩:=W3 h;have hR:=WqP rR;refine wp_region_draw λt=>?_;rw[hM];have hl:Order ops (Region.schedule true ops t):=Wj3 hR.back;generalize Region.schedule true ops t=l at hl;have hσ:l.filter (WaO ops)∈Wrx (WcU ops.toList []) ops.size (WdM ops.toList 0):=by
  refine Wp4 _ _ _ ?_ (hl.nodup.filter _) (λi=>?_) (λp m s e m' eB=>?_)
  .refine Xak (Xej _ _) ?_;have eE:l.length<=(Xcu ops.size).length:=by
    have key:∀(a b:List Nat),a.Nodup->(∀x∈a,x∈b)->a.length<=b.length:=by
     intro a
     induction a with
     |nil=>intro b _ _;simp
     |cons x a ih=>
      intro b mL gh;rw[Xac]at mL;have oP:x∈b:=gh x (Xj ..);have:=ih (b.erase x) mL.2 λy hy=>(Xgm (λe=>mL.1 (by rw[←e];exact hy))).2 (gh y (Xf _ hy));rw[Xfv oP]at this;have fL:=Xgc oP;simp;omega
    exact key _ _ hl.nodup λx hx=>Xdn.2 ((hl.all x).2 hx)
   rw[Xfl]at eE;exact eE
  .rw[Wnv,Xay];constructor
   .intro h;refine⟨(hl.all i).1 ?_,h⟩;unfold WaO at h;split at h
    .rename_i o ho;exact(Xbw.1 ho).1
    .cases h
   .exactλh=>h.2
  .cases hb:WcR (WcU ops.toList []) m' m with
   |false=>rfl
   |true=>
    exfalso;have kX:m∈l:=(Xay.1 (by rw[e];simp:m∈l.filter (WaO ops))).1;obtain⟨u,v,eu⟩:=Xeb kX;have hm'u:m'∈u++ [m]:=hl.bef (p:=u++ [m]) (s:=v) (by rw[eu];simp) hb (by simp);have un:WaO ops m=true:=(Xay.1 (by rw[e];simp:m∈l.filter (WaO ops))).2;have oR:=hl.nodup.filter (WaO ops);have e2:l.filter (WaO ops)=u.filter (WaO ops)++m::v.filter (WaO ops):=by rw[eu,Xcr,Xbi,Wf un]
    have wA:p=u.filter (WaO ops):=by
     refine Wf5 (b:=s) (d:=v.filter (WaO ops)) (x:=m) ?_ ?_
     .rw[←e];exact oR
     .rw[←e,e2]
    rcases Xs.1 eB with rfl|hm's
    .
     have:=hl.bef (p:=u++ [m']) (s:=v) (by rw[eu];simp) hb (by simp);have cP:Wnl ops (λj=>j∈u\/(j=m'/\False)):=λi o ho hi d hd=>by
      rcases hi with hi|⟨_,hf⟩
      .exact .inl (hl.closed (p:=u) (s:=m'::v) eu i o ho hi d hd)
      .exact hf.elim
     have back:∀(j i:Nat),WcR (WcU ops.toList []) j i=true->j<i:=λj i oN=>by
      have oS:Wnl ops (λx=>x<i\/(x=i)):=λx o ho hx d hd=>by
       have:d<x:=hR.back x o ho d hd;omega
      refine Classical.byContradiction λhn=>?_;have ac:∀(l:List Oper) (acc:List (List Nat)),(∀(k:Nat) (o:Oper),l[k]?=some o->ops[acc.length+k]?=some o)->(∀i,∀j∈acc.getD i [],j<i)->∀i,∀j∈(WcU l acc).getD i [],j<i:=by
       intro l
       induction l with
       |nil=>intro acc _ h;exact h
       |cons o l ih=>
        intro acc hl h;refine ih _ (λk o' hk=>?_) (λi j hj=>?_)
        .have:=hl (k+1) o' (by simpa using hk);rw[Xaa];have e:acc.length+(k+1)=acc.length+ [Wmx acc (Wnt o) []].length+k:=by simp;omega
         rw[←e];exact this
        .rw[Xbl,Xar]at hj;split at hj
         .exact h i j (by rw[Xbl];exact hj)
         .by_cases he:i=acc.length
          .subst he;simp only[Xcx,Xdg,Xds]at hj;rcases(WiH _ _).1 hj with⟨k,hk,gt⟩|hj
           .have qk:k<acc.length:=hR.back acc.length o (hl 0 o (by simp)) k hk;rcases gt with rfl|gt
            .exact qk
            .have:=h k j gt;omega
           .cases hj
          .have:[Wmx acc (Wnt o) []][i-acc.length]?=none:=Xbp (by simp;omega);rw[this]at hj;cases hj
      exact hn (ac ops.toList [] (λk o hk=>by simpa using hk) (λi j hj=>by simp at hj) i j ((WaR _ _).1 oN))
     have:=back m' m' hb;omega
    .
     have hm'l:m'∈p:=by
      rw[wA];rcases Xo.1 hm'u with h|h
      .refine Xay.2 ⟨h,?_⟩;exact(Xay.1 (by rw[e];simp[hm's]:m'∈l.filter (WaO ops))).2
      .simp at h;subst h;rw[e]at oR;have:=(Xac.1 (Xae.1 oR).2.1).1;exact WD hm's this
     rw[e]at oR;exact(Xae.1 oR).2.2 m' hm'l m' (Xf _ hm's) rfl
 obtain⟨L,g1,g2,g3⟩:=Wpt _ h _ hσ;have hL:=WoU g1;obtain⟨rs,af,q1,q2,q3,q4,_,_⟩:=Wlz _ _ _ _ g3;have hf:l.filter (WaO ops)=L.filter (WaO ops):=by
  rw[←g2];refine List.filter_congr λi hi=>?_;cases hm:WaO ops i with
  |true=>exact(WaR _ _).2 (Xay.2 ⟨(hl.all i).1 ((hL.all i).2 hi),hm⟩)
  |false=>
   cases he:WcB i (l.filter (WaO ops))with
   |false=>rfl
   |true=>
    have:=(Xay.1 ((WaR _ _).1 he)).2;rw[hm]at this;cases this
 have ch:Rel w0 F nt G0 G ν st a {w with drawn:=w.drawn+1}:=⟨hr.defers,hr.ntm,hr.par,hr.env,?_,hr.gx,hr.ex⟩
 .exact Wsp hT hΓ hd hl hL hR.one hR.slots hf q1 q2 q4 (λa w G ν hr=>hK af a w G ν hr q3) ch
 .exact hr.h.drew
end
end Go.Sx
namespace Go.Sx
set_option linter.unusedVariables false
set_option linter.unusedSimpArgs false
section
variable{w0:World}{F:CS}{nt:Slots}{G0:GH}{P:Program}{T:Tab}{Γ:Ctx}{A:List (Nat×An)}{R:Type}{r:R}
theorem WnQ(hM:P.follows .mixedOrders=true)(hT:Wai P T)(hΓ:WdJ P Γ){n:Nat}{kept:List Nat}(hn:nt.n=n)(mM:∀p∈nt.kept,p.1∈kept){ann:Nat->List Ghost}{N:Nat}(fH:(∀x v,¬nt.ex x v)\/∀id,(ann id).all Ghost.quiet=true):∀(c:Code),Wdi n kept c=true->∀{k:Ex->St->Option R} {Q:Exit->Act->World->Prop},
  (∀e,WrB w0 F nt G0 (k e) r (Q e.to))->WrB w0 F nt G0 (λst=>sx T Γ ann N c st k) r (c.wp P Q)
 | .skip,_,k,Q,hK=>λst a w G ν hr h=>wp_skip (hK .normal st a w G ν hr h)
 | .exit id,_,k,Q,hK=>λst a w G ν hr h=>wp_exit (hK (.exit id) st a w G ν hr h)
 | .ret,_,k,Q,hK=>λst a w G ν hr h=>wp_ret (hK .ret st a w G ν hr h)
 | .region id ops draw,ci,k,Q,hK=>λst a w G ν hr h=>by
  have lu:WrB w0 F nt G0 (λaf=>match Wb5 (ann id) af with|some (c,bP)=>bif c then k .normal bP else none|none=>none) r (Q .normal):=λaf a' w' G' ν' ch h'=>by
   simp only at h';split at h'
   .rename_i c bP hg;obtain⟨rfl,h'⟩:=W3 h';obtain⟨G2,ν2,jc⟩:=WdO _ _ _ _ _ (fH.imp_right λh=>h _) ch hg;exact hK .normal _ _ _ _ _ jc h'
   .cases h'
  have oT:∀o∈ops,∀d,o.dst=some d->nt.Ok d:=λo ho=>Wov hn mM (Xad.1 ci o (by simpa using ho));cases draw with
  |true=>exact Wuf hM hT hΓ oT lu st a w G ν hr h
  |false=>exact wp_region_list (WuM hT hΓ ops.toList (λo ho=>oT o (by simpa using ho)) lu st a w G ν hr h)
 | .seq x y,ci,k,Q,hK=>λst a w G ν hr h=>by
  simp only[Wdi,Xi]at ci;refine wp_seq (WnQ hM hT hΓ hn mM fH x ci.1 (Q:=Exit.then (y.wp P Q) Q) (λe=>?_) st a w G ν hr h);cases e with
  |normal=>exact WnQ hM hT hΓ hn mM fH y ci.2 hK
  |exit id=>exact hK (.exit id)
  |ret=>exact hK .ret
 | .cond c x y,ci,k,Q,hK=>λst a w G ν hr h=>by
  simp only[Wdi,Xi]at ci;simp only[sx]at h;split at h
  .rename_i b hb;cases hv:ev st c with
   |none=>simp[hv]at hb
   |some v=>
    simp only[hv,Xd]at hb;have hc:=WoG v _ b (WK hr c v hv) hb;refine wp_cond hc ?_;cases b with
    |true=>exact WnQ hM hT hΓ hn mM fH x ci.1 hK st a w G ν hr h
    |false=>exact WnQ hM hT hΓ hn mM fH y ci.2 hK st a w G ν hr h
  .cases h
 | .block id c,ci,k,Q,hK=>λst a w G ν hr h=>by
  simp only[Wdi]at ci;refine wp_block (WnQ hM hT hΓ hn mM fH c ci (Q:=Exit.inBlock id Q) (λe=>?_) st a w G ν hr h);cases e with
  |normal=>exact hK .normal
  |exit cb=>
   intro af a' w' G' ν' ch h';simp only[Ex.to,Exit.inBlock];split
   .rename_i he;simp only[he,W8]at h';exact hK .normal _ _ _ _ _ ch h'
   .rename_i he;simp only[he,Wat]at h';exact hK (.exit cb) _ _ _ _ _ ch h'
  |ret=>exact hK .ret
 | .loop c,ci,k,Q,hK=>λst a w G ν hr h=>by
  simp only[Wdi]at ci;refine wp_loop_rounds N ?_;have key:∀(m:Nat),WrB w0 F nt G0 (λst=>Wo9 (Wk3 (ann (Wf7 c)) λst k=>sx T Γ ann N c st k) m st k) r (Code.rounds P c Q m):=by
   intro m
   induction m with
   |zero=>intro st a w G ν hr h;cases h
   |succ m ih=>
    intro st a w G ν hr h;rw[rounds_succ];have h:sx T Γ ann N c st (λe af=>match e with
     | .normal=>match Wb5 (ann (Wf7 c)) af with
      |some (b,bP)=>bif b then Wo9 (Wk3 (ann (Wf7 c)) λst k=>sx T Γ ann N c st k) m bP k else none
      |none=>none
     | .exit id=>k (.exit id) af
     | .ret=>k .ret af)=some r:=by
     rw[←h];simp only[Wo9,Wk3];congr 1
    refine WnQ hM hT hΓ hn mM fH c ci (Q:=Exit.then (Code.rounds P c Q m) Q) (λe=>?_) st a w G ν hr h;cases e with
    |normal=>
     intro af a' w' G' ν' ch h';simp only at h';split at h'
     .rename_i b bP hg;obtain⟨rfl,h'⟩:=W3 h';obtain⟨G2,ν2,jc⟩:=WdO _ _ _ _ _ (fH.imp_right λh=>h _) ch hg;exact ih _ _ _ _ _ jc h'
     .cases h'
    |exit id=>exact hK (.exit id)
    |ret=>exact hK .ret
  have h:(match Wb5 (ann (Wf7 c)) st with
   |some (b,af)=>bif b then Wo9 (Wk3 (ann (Wf7 c)) λst k=>sx T Γ ann N c st k) N af k else none
   |none=>none)=some r:=h
  split at h
  .rename_i b af hg;obtain⟨rfl,h⟩:=W3 h;obtain⟨G2,ν2,jc⟩:=WdO _ _ _ _ _ (fH.imp_right λh=>h _) hr hg;exact key N _ _ _ _ _ jc h
  .cases h
 | .scope ..,_,k,Q,hK=>λst a w G ν hr h=>by cases h
 | .label ..,_,k,Q,hK=>λst a w G ν hr h=>by cases h
 | .goto ..,_,k,Q,hK=>λst a w G ν hr h=>by cases h
 | .rangeFunc ..,_,k,Q,hK=>λst a w G ν hr h=>by cases h
 | .refuse ..,_,k,Q,hK=>λst a w G ν hr h=>by cases h
end
end Go.Sx
namespace Go.Sx
set_option linter.unusedVariables false
set_option linter.unusedSimpArgs false
section
variable{w0:World}{F:CS}{nt:Slots}{G0 G G':GH}{ν:Nat->Nu}{φ:Nat->CS}{objs:Wab}{nx am:Nat}{st af:St}{a:Act}{w w':World}{P:Program}{T:Tab}{Γ:Ctx}
theorem WhJ:∀(xs:List AVal) (j i:Nat),Wn (Wcg j xs) i=if j<=i then xs[i-j]? else none
 | [],j,i=>by simp[Wcg,Wn]
 |x::xs,j,i=>by
  simp only[Wcg];rw[WG,WhJ xs (j+1) i];by_cases h:j=i
  .subst h;simp
  .by_cases h2:j<=i
   .have h3:j+1<=i:=by omega
    rw[Wc h,Wf h3,Wf h2,show i-j=(i-(j+1))+1 by omega];rfl
   .rw[Wc h,Wc h2,Wc (by omega)]
theorem WkF:∀(l:List Nat),Wsc (Whb l)=l
 | []=>rfl
 |i::l=>by
  show i::Wsc (Whb l)=i::l;rw[WkF l]
theorem Wkg:∀(ps:List PTy) (d:WfE ps) (objs:Wab) (nx n:Nat),Wk7 ps n=true->∃ids,ids.length=n/\(WP ps d objs nx).1.take n=Whb ids
 |_,_,_,_,0,_=>⟨[],rfl,rfl⟩
 | [],_,_,_,_+1,h=>by cases h
 | .v _ _::_,_,_,_,_+1,h=>by cases h
 | .mut _::_,_,_,_,_+1,h=>by cases h
 | .clos _ _::_,_,_,_,_+1,h=>by cases h
 | .kv _ _::_,_,_,_,_+1,h=>by cases h
 | .rp _::_,_,_,_,_+1,h=>by cases h
 | .vj _::_,_,_,_,_+1,h=>by cases h
 | .boxal _ _::_,_,_,_,_+1,h=>by cases h
 | .box t::ps,d,objs,nx,n+1,h=>by
  obtain⟨ids,h1,h2⟩:=Wkg ps d.2 ((nx,.box (unfold t d.1 (nx+1)).1)::((unfold t d.1 (nx+1)).2.1++objs)) (unfold t d.1 (nx+1)).2.2 n h;refine⟨nx::ids,by simp[h1],?_⟩;simp only[WP,List.take_succ_cons,h2];rfl
theorem Wcw:∀(ps:List PTy) (d:WfE ps) (vs:List Value) (ns:List Pc) (ks:List Nu) (objs:Wab) (nx am:Nat),WcD ps=true->Wbn G w ps d vs ns ks->At ν φ nx ns->nx+ns.length<=am->
  (WP ps d objs nx).2.2=nx+ns.length/\
  (∀id ob,Wn (WP ps d objs nx).2.1 id=some ob->(nx<=id/\id<nx+ns.length/\WcM G ν am w id (φ id) ob)\/Wn objs id=some ob)/\
  (WP ps d objs nx).1.length=vs.length/\∀(j:Nat) (x:AVal) (v:Value),(WP ps d objs nx).1[j]?=some x->vs[j]?=some v->AValRel G ν am x v
 | [],d,vs,ns,ks,objs,nx,am,_,⟨h1,h2,h3⟩,_,_=>by
  subst h1 h2;exact⟨rfl,λid ob h=>.inr h,rfl,λj x v h=>by simp[WP]at h⟩
 | .v t agg::ps,d,vs,ns,ks,objs,nx,am,fI,⟨v,au,n1,n2,h1,h2,h3,h4⟩,hν,hx=>by
  subst h2;obtain⟨us,jj⟩:=Wo8 h3;have bK:=W4 _ _ _ _ jj;have ad:(n1++n2).length=t.owns+n2.length:=by rw[Xaa,bK]
  obtain⟨_,o1⟩:=Wav t d.1 nx us n1 jj hν.left;obtain⟨e1,e2,e3,e4⟩:=Wcw ps d.2 au n2 ks ((unfold t d.1 nx).2.1++objs) (nx+t.owns) am fI h4 (hν.right bK) (by omega);simp only[WP,WaS];refine⟨by rw[e1,ad];omega,λid ob hl=>?_,by rw[h1];simp[e3],λj x u hj hu=>?_⟩
  .rcases e2 id ob hl with⟨g1,g2,g3⟩|g
   .exact .inl ⟨by omega,by omega,g3⟩
   .rcases WM g with g|g
    .obtain⟨g1,g2,e,xs,rfl,g3⟩:=o1 id ob g;exact .inl ⟨g1,by omega,g3⟩
    .exact .inr g
  .rw[h1]at hu;cases j with
   |zero=>simp at hj hu;subst hj hu;exact Wla h3 hν.left (by omega)
   |succ j=>exact e4 j x u (by simpa using hj) (by simpa using hu)
 | .kv t agg::ps,d,vs,ns,ks,objs,nx,am,fI,⟨v,au,n1,n2,aC,h1,h2,_,h3,h4⟩,hν,hx=>by
  subst h2;obtain⟨us,jj⟩:=Wo8 h3;have bK:=W4 _ _ _ _ jj;have ad:(n1++n2).length=t.owns+n2.length:=by rw[Xaa,bK]
  obtain⟨_,o1⟩:=Wav t d.1 nx us n1 jj hν.left;obtain⟨e1,e2,e3,e4⟩:=Wcw ps d.2 au n2 aC ((unfold t d.1 nx).2.1++objs) (nx+t.owns) am fI h4 (hν.right bK) (by omega);simp only[WP,WaS];refine⟨by rw[e1,ad];omega,λid ob hl=>?_,by rw[h1];simp[e3],λj x u hj hu=>?_⟩
  .rcases e2 id ob hl with⟨g1,g2,g3⟩|g
   .exact .inl ⟨by omega,by omega,g3⟩
   .rcases WM g with g|g
    .obtain⟨g1,g2,e,xs,rfl,g3⟩:=o1 id ob g;exact .inl ⟨g1,by omega,g3⟩
    .exact .inr g
  .rw[h1]at hu;cases j with
   |zero=>simp at hj hu;subst hj hu;exact Wla h3 hν.left (by omega)
   |succ j=>exact e4 j x u (by simpa using hj) (by simpa using hu)
 | .box t::ps,d,vs,ns,ks,objs,nx,am,fI,⟨b,o,au,n1,n2,aC,h1,h2,h3,⟨us,bf,aM,gU⟩,h6⟩,hν,hx=>by
  subst h2;have bK:=W4 _ _ _ _ gU;have ad:((⟨Wci b o,rng b o t.size⟩:Pc)::(n1++n2)).length=1+t.owns+n2.length:=by rw[Xr,Xaa,bK];omega
  obtain⟨hν0,hφ0⟩:ν nx=Wci b o/\φ nx=rng b o t.size:=by have:=hν 0 _ rfl;simpa using this
  have hν1:At ν φ (nx+1) (n1++n2):=hν.right (n1:=[⟨Wci b o,rng b o t.size⟩]) rfl;obtain⟨c1,o1⟩:=Wav t d.1 (nx+1) us n1 gU hν1.left;have dr:=Wce t d.1 (nx+1);obtain⟨e1,e2,e3,e4⟩:=Wcw ps d.2 au n2 aC ((nx,.box (unfold t d.1 (nx+1)).1)::((unfold t d.1 (nx+1)).2.1++objs)) (nx+1+t.owns) am fI h6 (hν1.right bK) (by omega);simp only[WP,WaS];refine⟨by rw[e1,ad];omega,λid ob hl=>?_,by rw[h1];simp[e3],λj x u hj hu=>?_⟩
  .rcases e2 id ob hl with⟨g1,g2,g3⟩|g
   .exact .inl ⟨by omega,by omega,g3⟩
   .rw[WG]at g;split at g
    .rename_i e;subst e;injection g with g;subst g;exact .inl ⟨Xm _,by omega,b,us,by rw[hν0];rfl,by rw[hν0,dr];exact bf,by rw[hν0];exact aM,c1 am (by omega),by rw[hν0,dr,hφ0];exactλ_ _ hh=>hh⟩
    .rcases WM g with g|g
     .obtain⟨g1,g2,e,xs,rfl,g3⟩:=o1 id ob g;exact .inl ⟨by omega,by omega,g3⟩
     .exact .inr g
  .rw[h1]at hu;cases j with
   |zero=>
    simp at hj hu;subst hj hu;exact⟨⟨by omega,b,by rw[hν0];rfl,by rw[hν0];rfl⟩,rfl⟩
   |succ j=>exact e4 j x u (by simpa using hj) (by simpa using hu)
 | .vj _::_,_,_,_,_,_,_,_,_,h,_,_=>h.elim
 | .boxal t lf::ps,d,vs,ns,ks,objs,nx,am,fI,⟨b,o,b',pc,au,n1,n2,aC,h1,h2,h3,⟨us,bf,aM,gU⟩,h4,h5,h7,h6⟩,hν,hx=>by
  subst h2;have bK:=W4 _ _ _ _ gU;have ad:((⟨Wci b o,rng b o t.size⟩:Pc)::(n1++n2)).length=1+t.owns+n2.length:=by rw[Xr,Xaa,bK];omega
  obtain⟨hν0,hφ0⟩:ν nx=Wci b o/\φ nx=rng b o t.size:=by have:=hν 0 _ rfl;simpa using this
  have hν1:At ν φ (nx+1) (n1++n2):=hν.right (n1:=[⟨Wci b o,rng b o t.size⟩]) rfl;obtain⟨c1,o1⟩:=Wav t d.1 (nx+1) us n1 gU hν1.left;have dr:=Wce t d.1 (nx+1);have qu:lf<n1.length:=(Xab.1 h4).1;have hνl:ν (nx+1+lf)=pc.nu:=(hν1.left lf pc h4).1;obtain⟨e1,e2,e3,e4⟩:=Wcw ps d.2.2 au n2 aC ((nx,.box (unfold t d.1 (nx+1)).1)::((unfold t d.1 (nx+1)).2.1++objs)) (nx+1+t.owns) am fI h6 (hν1.right bK) (by omega);simp only[WP,WaS];refine⟨by rw[e1,ad];omega,λid ob hl=>?_,by rw[h1];simp[e3],λj x u hj hu=>?_⟩
  .rcases e2 id ob hl with⟨g1,g2,g3⟩|g
   .exact .inl ⟨by omega,by omega,g3⟩
   .rw[WG]at g;split at g
    .rename_i e;subst e;injection g with g;subst g;exact .inl ⟨Xm _,by omega,b,us,by rw[hν0];rfl,by rw[hν0,dr];exact bf,by rw[hν0];exact aM,c1 am (by omega),by rw[hν0,dr,hφ0];exactλ_ _ hh=>hh⟩
    .rcases WM g with g|g
     .obtain⟨g1,g2,e,xs,rfl,g3⟩:=o1 id ob g;exact .inl ⟨by omega,by omega,g3⟩
     .exact .inr g
  .rw[h1]at hu
   match j with
   |0=>
    simp at hj hu;subst hj hu;exact⟨⟨by omega,b,by rw[hν0];rfl,by rw[hν0];rfl⟩,rfl⟩
   |1=>
    simp at hj hu;subst hj hu;exact⟨⟨by omega,by rw[hνl];exact h7,b',by rw[hνl];exact h5,by rw[hνl];rfl⟩,rfl⟩
   |j+2=>exact e4 j x u (by simpa using hj) (by simpa using hu)
 | .rp t::ps,d,vs,ns,ks,objs,nx,am,fI,⟨b,o,us,au,h1,h2,h3,h4⟩,hν,hx=>by
  obtain⟨e1,e2,e3,e4⟩:=Wcw ps d.2 au ns ks objs nx am fI h4 hν hx;simp only[WP];refine⟨e1,e2,by rw[h1];simp[e3],λj x u hj hu=>?_⟩;rw[h1]at hu;cases j with
  |zero=>
   simp at hj hu;subst hj hu;exact⟨⟨b,o,us,by rw[Xbe],h2,h3⟩,rfl⟩
  |succ j=>exact e4 j x u (by simpa using hj) (by simpa using hu)
 | .mut e::ps,d,vs,ns,ks,objs,nx,am,fI,⟨pc,au,n2,aC,h1,h2,h3,h4,h5⟩,hν,hx=>by
  subst h2;have ad:(pc::n2).length=1+n2.length:=by rw[Xr];omega
  obtain⟨hν0,hφ0⟩:ν nx=pc.nu/\φ nx=pc.fp:=by have:=hν 0 _ rfl;simpa using this
  obtain⟨e1,e2,e3,e4⟩:=Wcw ps d.2 au n2 aC ((nx,.arr e d.1)::objs) (nx+1) am fI h5 (hν.right (n1:=[pc]) rfl) (by omega);simp only[WP];refine⟨by rw[e1,ad];omega,λid ob hl=>?_,by rw[h1];simp[e3],λj x u hj hu=>?_⟩
  .rcases e2 id ob hl with⟨g1,g2,g3⟩|g
   .exact .inl ⟨by omega,by omega,g3⟩
   .rw[WG]at g;split at g
    .rename_i e;subst e;injection g with g;subst g;refine .inl ⟨Xm _,by omega,?_⟩;show WbN w (Wy G w _) _ (ν nx) d.1 (φ nx);rw[hν0,hφ0];exact h4
    .exact .inr g
  .rw[h1]at hu;cases j with
   |zero=>
    simp at hj hu;subst hj hu;exact⟨⟨by omega,by rw[hν0]⟩,Wje _⟩
   |succ j=>exact e4 j x u (by simpa using hj) (by simpa using hu)
 | .clos g n::ps,d,vs,ns,ks,objs,nx,am,fI,⟨cvs,au,h1,h2,h3,h4⟩,hν,hx=>by
  simp only[WcD,Xi]at fI;obtain⟨e1,e2,e3,e4⟩:=Wcw ps d (cvs++au) ns ks objs nx am fI.2 h4 hν hx;obtain⟨ids,g1,g2⟩:=Wkg ps d objs nx n fI.1;simp only[WP];rw[g2,WkF];have ad:(WP ps d objs nx).1.length=n+au.length:=by rw[e3,Xaa,h2]
  have rS:∀(j id:Nat),ids[j]?=some id->(WP ps d objs nx).1[j]?=some (AVal.s (.one (.ptr id 0))):=λj id hj=>by
   have ac:j<n:=by rw[←g1];exact(Xab.1 hj).1
   have:((WP ps d objs nx).1.take n)[j]?=some (.s (.one (.ptr id 0))):=by rw[g2];simp[Whb,hj]
   rw[List.getElem?_take,Wf ac]at this;exact this
  refine⟨e1,e2,by rw[h1];simp[ad],λj x u hj hu=>?_⟩;rw[h1]at hu;cases j with
  |zero=>
   simp at hj hu;subst hj hu;refine⟨⟨cvs,rfl,by rw[h2,g1],λj id u hj hu=>?_⟩,rfl⟩;have ac:j<cvs.length:=(Xab.1 hu).1;obtain⟨⟨q1,q2⟩,q3⟩:=e4 j _ u (rS j id hj) (by rw[List.getElem?_append_left ac];exact hu);exact⟨q1,q3,q2⟩
  |succ j=>
   have eF:(WP ps d objs nx).1[n+j]?=some x:=by
    rw[←List.getElem?_drop];simpa using hj
   exact e4 (n+j) x u eF (by rw[Xbv (by omega),h2,Xbu];simpa using hu)
theorem Wdt:∀(ps:List PTy) (d:WfE ps) (vs:List Value) (ns:List Pc) (ks:List Nu),Wbn G w ps d vs ns ks->vs.length<=WbS ps
 | [],d,vs,ns,ks,⟨h1,_,_⟩=>by rw[h1];exact Xm _
 | .v t agg::ps,d,vs,ns,ks,⟨v,au,n1,n2,h1,h2,h3,h4⟩=>by rw[h1,Xr];have:=Wdt ps _ _ _ _ h4;simp only[WbS];omega
 | .box t::ps,d,vs,ns,ks,⟨b,o,au,n1,n2,aC,h1,h2,h3,h4,h6⟩=>by rw[h1,Xr];have:=Wdt ps _ _ _ _ h6;simp only[WbS];omega
 | .mut e::ps,d,vs,ns,ks,⟨pc,au,n2,aC,h1,h2,h3,h4,h5⟩=>by rw[h1,Xr];have:=Wdt ps _ _ _ _ h5;simp only[WbS];omega
 | .clos g n::ps,d,vs,ns,ks,⟨cvs,au,h1,h2,h3,h4⟩=>by rw[h1,Xr];have:=Wdt ps _ _ _ _ h4;simp at this;simp only[WbS];omega
 | .kv t agg::ps,d,vs,ns,ks,⟨v,au,n1,n2,aC,h1,h2,jl,h3,h4⟩=>by rw[h1,Xr];have:=Wdt ps _ _ _ _ h4;simp only[WbS];omega
 | .rp t::ps,d,vs,ns,ks,⟨b,o,us,au,h1,h2,h3,h4⟩=>by rw[h1,Xr];have:=Wdt ps _ _ _ _ h4;simp only[WbS];omega
 | .vj _::_,_,_,_,_,h=>h.elim
 | .boxal t lf::ps,d,vs,ns,ks,⟨b,o,b',pc,au,n1,n2,aC,h1,h2,h3,h4,h5,h6,h7,h8⟩=>by rw[h1,Xr,Xr];have:=Wdt ps _ _ _ _ h8;simp only[WbS];omega
def Wom(i:Nat)(vs:List Value):List (Nat×Value):=match vs with
 |v::_=>[(i,v)]
 | []=>[]
def WI:List PTy->Nat->Nat->List Value->List (Nat×Value)
 | [],_,_,_=>[]
 |_::ps,i,k+1,vs=>WI ps i k vs
 | .v _ _::ps,i,0,vs=>WI ps (i+1) 0 vs.tail
 | .box _::ps,i,0,vs=>Wom i vs++WI ps (i+1) 0 vs.tail
 | .mut _::ps,i,0,vs=>Wom i vs++WI ps (i+1) 0 vs.tail
 | .clos _ n::ps,i,0,vs=>Wom i vs++WI ps (i+1) n vs.tail
 | .kv _ _::ps,i,0,vs=>Wom i vs++WI ps (i+1) 0 vs.tail
 | .rp _::ps,i,0,vs=>WI ps (i+1) 0 vs.tail
 | .vj _::ps,i,0,vs=>WI ps (i+1) 0 vs.tail
 | .boxal _ _::ps,i,0,vs=>Wom i vs++WI ps (i+2) 0 vs.tail.tail
theorem Wbu{i:Nat}{vs:List Value}{p:Nat×Value}(h:p∈Wom i vs):p.1=i/\vs[0]?=some p.2:=by
 unfold Wom at h;split at h
 .simp at h;subst h;exact⟨rfl,rfl⟩
 .cases h
theorem WX:∀(ps:List PTy) (i k:Nat) (vs:List Value),∀p∈WI ps i k vs,p.1∈Weo ps i k
 | [],_,_,_,p,h=>by simp[WI]at h
 | .v _ _::ps,i,k+1,vs,p,h=>WX ps i k vs p h
 | .box _::ps,i,k+1,vs,p,h=>WX ps i k vs p h
 | .mut _::ps,i,k+1,vs,p,h=>WX ps i k vs p h
 | .clos _ _::ps,i,k+1,vs,p,h=>WX ps i k vs p h
 | .v _ _::ps,i,0,vs,p,h=>WX ps (i+1) 0 vs.tail p h
 | .box _::ps,i,0,vs,p,h=>by
  simp only[WI]at h;rcases Xo.1 h with h|h
  .rw[(Wbu h).1];exact Xj ..
  .exact Xf _ (WX ps (i+1) 0 vs.tail p h)
 | .mut _::ps,i,0,vs,p,h=>by
  simp only[WI]at h;rcases Xo.1 h with h|h
  .rw[(Wbu h).1];exact Xj ..
  .exact Xf _ (WX ps (i+1) 0 vs.tail p h)
 | .clos _ n::ps,i,0,vs,p,h=>by
  simp only[WI]at h;rcases Xo.1 h with h|h
  .rw[(Wbu h).1];exact Xj ..
  .exact Xf _ (WX ps (i+1) n vs.tail p h)
 | .kv _ _::ps,i,k+1,vs,p,h=>WX ps i k vs p h
 | .kv _ _::ps,i,0,vs,p,h=>by
  simp only[WI]at h;rcases Xo.1 h with h|h
  .rw[(Wbu h).1];exact Xj ..
  .exact Xf _ (WX ps (i+1) 0 vs.tail p h)
 | .rp _::ps,i,k+1,vs,p,h=>WX ps i k vs p h
 | .rp _::ps,i,0,vs,p,h=>WX ps (i+1) 0 vs.tail p h
 | .vj _::ps,i,k+1,vs,p,h=>WX ps i k vs p h
 | .vj _::ps,i,0,vs,p,h=>WX ps (i+1) 0 vs.tail p h
 | .boxal _ _::ps,i,k+1,vs,p,h=>WX ps i k vs p h
 | .boxal _ _::ps,i,0,vs,p,h=>by
  simp only[WI]at h;rcases Xo.1 h with h|h
  .rw[(Wbu h).1];exact Xj ..
  .exact Xf _ (WX ps (i+2) 0 vs.tail.tail p h)
theorem WO:∀(ps:List PTy) (i k:Nat) (vs:List Value),∀p∈WI ps i k vs,i<=p.1/\vs[p.1-i]?=some p.2
 | [],_,_,_,p,h=>by simp[WI]at h
 | .v _ _::ps,i,k+1,vs,p,h=>WO ps i k vs p h
 | .box _::ps,i,k+1,vs,p,h=>WO ps i k vs p h
 | .mut _::ps,i,k+1,vs,p,h=>WO ps i k vs p h
 | .clos _ _::ps,i,k+1,vs,p,h=>WO ps i k vs p h
 | .v _ _::ps,i,0,vs,p,h=>by
  obtain⟨h1,h2⟩:=WO ps (i+1) 0 vs.tail p h;refine⟨by omega,?_⟩;rw[show p.1-i=(p.1-(i+1))+1 by omega,←Xcf];exact h2
 | .box _::ps,i,0,vs,p,h=>by
  simp only[WI]at h;rcases Xo.1 h with h|h
  .obtain⟨h1,h2⟩:=Wbu h;rw[h1];exact⟨Xm _,by rw[Xcx];exact h2⟩
  .obtain⟨h1,h2⟩:=WO ps (i+1) 0 vs.tail p h;refine⟨by omega,?_⟩;rw[show p.1-i=(p.1-(i+1))+1 by omega,←Xcf];exact h2
 | .mut _::ps,i,0,vs,p,h=>by
  simp only[WI]at h;rcases Xo.1 h with h|h
  .obtain⟨h1,h2⟩:=Wbu h;rw[h1];exact⟨Xm _,by rw[Xcx];exact h2⟩
  .obtain⟨h1,h2⟩:=WO ps (i+1) 0 vs.tail p h;refine⟨by omega,?_⟩;rw[show p.1-i=(p.1-(i+1))+1 by omega,←Xcf];exact h2
 | .clos _ n::ps,i,0,vs,p,h=>by
  simp only[WI]at h;rcases Xo.1 h with h|h
  .obtain⟨h1,h2⟩:=Wbu h;rw[h1];exact⟨Xm _,by rw[Xcx];exact h2⟩
  .obtain⟨h1,h2⟩:=WO ps (i+1) n vs.tail p h;refine⟨by omega,?_⟩;rw[show p.1-i=(p.1-(i+1))+1 by omega,←Xcf];exact h2
 | .kv _ _::ps,i,k+1,vs,p,h=>WO ps i k vs p h
 | .kv _ _::ps,i,0,vs,p,h=>by
  simp only[WI]at h;rcases Xo.1 h with h|h
  .obtain⟨h1,h2⟩:=Wbu h;rw[h1];exact⟨Xm _,by rw[Xcx];exact h2⟩
  .obtain⟨h1,h2⟩:=WO ps (i+1) 0 vs.tail p h;refine⟨by omega,?_⟩;rw[show p.1-i=(p.1-(i+1))+1 by omega,←Xcf];exact h2
 | .rp _::ps,i,k+1,vs,p,h=>WO ps i k vs p h
 | .rp _::ps,i,0,vs,p,h=>by
  obtain⟨h1,h2⟩:=WO ps (i+1) 0 vs.tail p h;refine⟨by omega,?_⟩;rw[show p.1-i=(p.1-(i+1))+1 by omega,←Xcf];exact h2
 | .vj _::ps,i,k+1,vs,p,h=>WO ps i k vs p h
 | .vj _::ps,i,0,vs,p,h=>by
  obtain⟨h1,h2⟩:=WO ps (i+1) 0 vs.tail p h;refine⟨by omega,?_⟩;rw[show p.1-i=(p.1-(i+1))+1 by omega,←Xcf];exact h2
 | .boxal _ _::ps,i,k+1,vs,p,h=>WO ps i k vs p h
 | .boxal _ _::ps,i,0,vs,p,h=>by
  simp only[WI]at h;rcases Xo.1 h with h|h
  .obtain⟨h1,h2⟩:=Wbu h;rw[h1];exact⟨Xm _,by rw[Xcx];exact h2⟩
  .obtain⟨h1,h2⟩:=WO ps (i+2) 0 vs.tail.tail p h;refine⟨by omega,?_⟩;rw[show p.1-i=(p.1-(i+2))+1+1 by omega,←Xcf,←Xcf];exact h2
def Wjv(tmps:Array Value):ResultVar->Sem Value
 | .tmp t=>pure (tmps.getD t undef)
 | .cell b t=>do loadVar t (←asAddr (tmps.getD b undef))
theorem Wid(hT:Wai P T)(hr:Rel w0 F nt G0 G ν st a w):∀(l:List ResultVar) (xs:List AVal),Wdu T st l=some xs->
  ∃vs:List Value,(l.mapM (Wjv a.tmps)).run P w= .ok vs w/\vs.length=xs.length/\
   ∀(j:Nat) (x:AVal) (v:Value),xs[j]?=some x->vs[j]?=some v->AValRel G ν st.nx x v
 | [],xs,h=>by
  simp only[Wdu]at h;injection h with h;subst h;exact⟨[],by simp,rfl,λj x v hj=>by simp at hj⟩
 | .tmp t::l,xs,h=>by
  simp only[Wdu]at h;split at h
  .rename_i x qn h1 h2;injection h with h;subst h;obtain⟨vs,h3,h4,h5⟩:=Wid hT hr l qn h2;obtain⟨v,hv,hx⟩:=hr.env t x h1;refine⟨v::vs,?_,by simp[h4],λj y u hj hu=>?_⟩
   .have mN:a.tmps.getD t undef=v:=by simp[Xcq,hv]
    simp only[Xey,Sem.run_bind,Wjv,Sem.run_pure,Result.andThen_ok,h3,mN]
   .cases j with
    |zero=>simp at hj hu;subst hj hu;exact hx
    |succ j=>exact h5 j y u (by simpa using hj) (by simpa using hu)
  .cases h
 | .cell b t::l,xs,h=>by
  simp only[Wdu]at h;split at h
  .rename_i x qn h1 h2;injection h with h;subst h;obtain⟨vs,h3,h4,h5⟩:=Wid hT hr l qn h2;cases hb:Wn st.env b with
   |none=>simp[hb]at h1
   |some y=>
    simp only[hb,Xd]at h1;obtain⟨v,hv,hx⟩:=hr.env b y hb;obtain⟨u,hu,wB⟩:=WhK hT hr.h hx h1;refine⟨u::vs,?_,by simp[h4],λj z q hj hq=>?_⟩
    .have mN:a.tmps.getD b undef=v:=by simp[Xcq,hv]
     unfold Instr.loadAt at hu;rw[Sem.run_bind]at hu;obtain⟨p,rfl⟩:∃p,v= .pointer (some p):=by
      unfold Instr.sureAddr at hu;split at hu
      .exact⟨_,rfl⟩
      .simp[stuck]at hu
     simp only[Instr.sureAddr,Sem.run_pure,Result.andThen_ok]at hu;have ha:(asAddr (.pointer (some p))).run P w= .ok p w:=rfl;simp only[Xey,Sem.run_bind,Wjv,Sem.run_pure,Result.andThen_ok,mN,ha,hu,h3]
    .cases j with
     |zero=>simp at hj hq;subst hj hq;exact wB
     |succ j=>exact h5 j z q (by simpa using hj) (by simpa using hq)
  .cases h
theorem Weh(h:HR w0 F G ν φ objs nx w)(hg:GLe G G'):∀(rs:List PTy) (xs:List AVal) (vs:List Value) (A:Outs (WgX rs)),vs.length=xs.length->
  (∀(j:Nat) (x:AVal) (v:Value),xs[j]?=some x->vs[j]?=some v->AValRel G ν nx x v)->Lent G' w φ objs A.lent->A.moved.Nodup->Wa8 rs xs objs=some A->
  ∃ns,WgH G' w rs A.d vs ns/\Sep (fps ns)/\(∀q∈ns,CS.le q.fp (FromL φ objs A.moved))/\(∀i∈A.moved,Live objs i)
 | [],xs,vs,A,ad,hx,hl,be,hf=>by
  simp only[Wa8]at hf;split at hf
  .injection hf with hf;subst hf;have fO:vs= []:=Xx (by simpa using ad);exact⟨[],⟨fO,rfl⟩,List.Pairwise.nil,by simp,by simp⟩
  .cases hf
 | .v t agg::rs,xs,vs,A,ad,hx,hl,be,hf=>by
  simp only[Wa8]at hf;split at hf
  .rename_i x xs;split at hf
   .rename_i d m l A' h1 h2;injection hf with hf;subst hf
    match vs,ad with
    |v::vs,ad=>
     cases hc:cellsOf agg x with
     |none=>simp[hc]at h1
     |some cs=>
      simp[hc]at h1;obtain⟨k1,k2,k3⟩:=Xae.1 be;obtain⟨n1,g1,g2,g3,g4,_⟩:=WlQ h hg (hx 0 x v rfl rfl) (hl.mono (λi hi=>Xn _ hi)) k1 hc h1;obtain⟨n2,g5,g6,g7,g8⟩:=Weh h hg rs xs vs A' (by simpa using ad) (λj y u hj hu=>hx (j+1) y u (by simpa using hj) (by simpa using hu)) (hl.mono (λi hi=>Xg _ hi)) k2 h2;refine⟨n1++n2,⟨v,vs,n1,n2,rfl,rfl,g1,g5⟩,Wcl h g2 g6 g3 g7 (λi hi hj=>k3 i hi i hj rfl),λq hq=>?_,λi hi=>?_⟩
      .rcases Xo.1 hq with hq|hq
       .exactλb o hh=>FromL.mono (λi hi=>Xn _ hi) b o (g3 q hq b o hh)
       .exactλb o hh=>FromL.mono (λi hi=>Xg _ hi) b o (g7 q hq b o hh)
      .rcases Xo.1 hi with hi|hi
       .exact g4 i hi
       .exact g8 i hi
   .cases hf
  .cases hf
 | .box t::rs,xs,vs,A,ad,hx,hl,be,hf=>by
  simp only[Wa8]at hf;split at hf
  .rename_i id xs;split at hf
   .rename_i cs br;split at hf
    .rename_i d m l A' h1 h2;injection hf with hf;subst hf
     match vs,ad with
     |v::vs,ad=>
      obtain⟨k0,k1⟩:=Xac.1 be;obtain⟨k2,k3,k4⟩:=Xae.1 k1;obtain⟨⟨_,b,hνb,rfl⟩,_⟩:=hx 0 _ v rfl rfl;have aQ:Live objs id:=⟨_,br,by simp⟩;obtain⟨b'',us,lD,bf,aM,bN,fG⟩:WcM G ν nx w id (φ id) (.box cs):=h.ob _ _ br;rw[hνb]at lD;injection lD with lD;subst lD;obtain⟨n1,g1,g2,g3,g4,_⟩:=Wae h hg t cs us d m l bN (hl.mono (λi hi=>Xn _ hi)) k2 h1;have dr:cs.length=t.size:=by rw[←bN.1];exact WH _ _ _ _ g1
      obtain⟨n2,g5,g6,g7,g8⟩:=Weh h hg rs xs vs A' (by simpa using ad) (λj y u hj hu=>hx (j+1) y u (by simpa using hj) (by simpa using hu)) (hl.mono (λi hi=>Xg _ hi)) k3 h2;rw[dr]at bf fG;refine⟨⟨Wci b ((ν id).off+0),rng b ((ν id).off+0) t.size⟩::(n1++n2),⟨b,(ν id).off+0,vs,n1,n2,rfl,rfl,⟨us,bf,aM,g1⟩,g5⟩,?_,λq hq=>?_,λi hi=>?_⟩
      .refine Wcl h (n1:=[⟨Wci b ((ν id).off+0),rng b ((ν id).off+0) t.size⟩]) (m:=[id]) (l:=m++A'.moved) (Xbm _ _) (Wcl h g2 g6 g3 g7 (λi hi hj=>k4 i hi i hj rfl)) (λq hq=>?_) (λq hq=>?_) (λi hi hj=>k0 (by rw[←Xag.1 hi];exact hj))
       .rw[Xag.1 hq];exactλb o hh=>⟨id,by simp,aQ,fG b o hh⟩
       .rcases Xo.1 hq with hq|hq
        .exactλb o hh=>FromL.mono (λi hi=>Xn _ hi) b o (g3 q hq b o hh)
        .exactλb o hh=>FromL.mono (λi hi=>Xg _ hi) b o (g7 q hq b o hh)
      .rcases Xs.1 hq with rfl|hq
       .exactλb o hh=>⟨id,by simp,aQ,fG b o hh⟩
       .rcases Xo.1 hq with hq|hq
        .exactλb o hh=>FromL.mono (λi hi=>Xf _ (Xn _ hi)) b o (g3 q hq b o hh)
        .exactλb o hh=>FromL.mono (λi hi=>Xf _ (Xg _ hi)) b o (g7 q hq b o hh)
      .rcases Xs.1 hi with rfl|hi
       .exact aQ
       .rcases Xo.1 hi with hi|hi
        .exact g4 i hi
        .exact g8 i hi
    .cases hf
   .cases hf
  .cases hf
 | .mut _::_,_,_,_,_,_,_,_,h=>by simp only[Wa8]at h;cases h
 | .clos _ _::_,_,_,_,_,_,_,_,h=>by simp only[Wa8]at h;cases h
 | .kv _ _::_,_,_,_,_,_,_,_,h=>by simp only[Wa8]at h;cases h
 | .rp _::_,_,_,_,_,_,_,_,h=>by simp only[Wa8]at h;cases h
 | .vj t::rs,xs,vs,A,ad,hx,hl,be,hf=>by
  simp only[Wa8]at hf;split at hf
  .rename_i cs xs;split at hf
   .rename_i cP;split at hf
    .rename_i d m l A' h1 h2;injection hf with hf;subst hf
     match vs,ad with
     |v::vs,ad=>
      obtain⟨k1,k2,k3⟩:=Xae.1 be;obtain⟨us,rfl,bN⟩:=hx 0 _ v rfl rfl;obtain⟨n1,g1,g2,g3,g4,_⟩:=Wae h hg t (cs.take t.size) (us.take t.size) d m l (bN.take t.size) (hl.mono (λi hi=>Xn _ hi)) k1 h1;obtain⟨n2,g5,g6,g7,g8⟩:=Weh h hg rs xs vs A' (by simpa using ad) (λj y u hj hu=>hx (j+1) y u (by simpa using hj) (by simpa using hu)) (hl.mono (λi hi=>Xg _ hi)) k2 h2;have dr:us.length=t.size+1:=by rw[bN.1,cP]
      have ac:t.size<us.length:=by omega
      have e0:us=us.take t.size++ [us[t.size]]:=by
       rw[←List.take_succ_eq_append_getElem ac,Xdj (by omega)]
      have ho:=(bN.2 t.size (cs[t.size]'(by omega)) us[t.size] (Xq (by omega)) (Xq ac)).2;refine⟨n1++n2,⟨us.take t.size,us[t.size],vs,n1,n2,by rw[←e0],ho,rfl,g1,g5⟩,Wcl h g2 g6 g3 g7 (λi hi hj=>k3 i hi i hj rfl),λq hq=>?_,λi hi=>?_⟩
      .rcases Xo.1 hq with hq|hq
       .exactλb o hh=>FromL.mono (λi hi=>Xn _ hi) b o (g3 q hq b o hh)
       .exactλb o hh=>FromL.mono (λi hi=>Xg _ hi) b o (g7 q hq b o hh)
      .rcases Xo.1 hi with hi|hi
       .exact g4 i hi
       .exact g8 i hi
    .cases hf
   .cases hf
  .cases hf
 | .boxal _ _::_,_,_,_,_,_,_,_,h=>by simp only[Wa8]at h;cases h
theorem Wpb{p:PTy}{ps:List PTy}{k:Nat}(h:Wk7 (p::ps) (k+1)=true):(∃t,p= .box t)/\Wk7 ps k=true:=by
 cases p with
 |box t=>exact⟨⟨t,rfl⟩,h⟩
 |_=>cases h
theorem WgK(hr:Rel w0 F nt G0 G ν st a w){i:Nat}{u:Value}(hp:a.tmps[i]?=some u):(Wn st.env i).getD (.tup [])= .tup []\/AValRel G ν st.nx ((Wn st.env i).getD (.tup [])) u:=by
 cases he:Wn st.env i with
 |none=>exact .inl rfl
 |some y=>
  obtain⟨v,hv,hx⟩:=hr.env i y he;rw[hp]at hv;injection hv with hv;subst hv;exact .inr hx
theorem WaG{wb:World}{Gb:GH}(hr:Rel w0 F nt G0 G ν st a w):∀(ps:List PTy) (d:WfE ps) (vs:List Value) (ns:List Pc) (ks:List Nu) (i k:Nat),Wbn Gb wb ps d vs ns ks->WcD ps=true->Wk7 ps k=true->k<=vs.length->
  (∀p∈WI ps i k (vs.drop k),a.tmps[p.1]?=some p.2)->(WA ps i k st).length+k=vs.length/\
  ∀(j:Nat) (x:AVal) (v:Value),(WA ps i k st)[j]?=some x->vs[k+j]?=some v->x= .tup []\/AValRel G ν st.nx x v
 | [],d,vs,ns,ks,i,k,⟨h1,_,_⟩,_,_,hk,_=>by
  subst h1;have:k=0:=by simpa using hk
  subst this;exact⟨rfl,λj x v hj=>by simp[WA]at hj⟩
 |p::ps,d,vs,ns,ks,i,k+1,h,hc,hb,hk,hp=>by
  obtain⟨⟨t,rfl⟩,cA⟩:=Wpb hb;obtain⟨b,o,au,n1,n2,aC,h1,h2,h3,h4,h6⟩:=h;subst h1;have fY:WcD ps=true:=hc;obtain⟨e1,e2⟩:=WaG hr ps d.2 au n2 aC i k h6 fY cA (by simpa using hk) (by simpa [WI]using hp);refine⟨by simp only[WA,Xr];omega,λj x v hj hv=>e2 j x v (by simpa [WA]using hj) ?_⟩;rw[show k+1+j=(k+j)+1 by omega]at hv;simpa using hv
 | .v t agg::ps,d,vs,ns,ks,i,0,⟨v,au,n1,n2,h1,h2,h3,h4⟩,hc,_,_,hp=>by
  subst h1;obtain⟨e1,e2⟩:=WaG hr ps d.2 au n2 ks (i+1) 0 h4 hc (by cases ps<;>rfl) (Xci _) (by simpa [WI]using hp);refine⟨by simp only[WA,Xr];omega,λj x u hj hu=>?_⟩;cases j with
  |zero=>simp[WA]at hj;exact .inl hj.symm
  |succ j=>exact e2 j x u (by simpa [WA]using hj) (by simpa using hu)
 | .rp t::ps,d,vs,ns,ks,i,0,⟨b,o,us,au,h1,h2,h3,h4⟩,hc,_,_,hp=>by
  subst h1;obtain⟨e1,e2⟩:=WaG hr ps d.2 au ns ks (i+1) 0 h4 hc (by cases ps<;>rfl) (Xci _) (by simpa [WI]using hp);refine⟨by simp only[WA,Xr];omega,λj x u hj hu=>?_⟩;cases j with
  |zero=>simp[WA]at hj;exact .inl hj.symm
  |succ j=>exact e2 j x u (by simpa [WA]using hj) (by simpa using hu)
 | .box t::ps,d,vs,ns,ks,i,0,⟨b,o,au,n1,n2,aC,h1,h2,h3,h4,h6⟩,hc,_,_,hp=>by
  subst h1;simp only[WI,Xbk,Xed]at hp;obtain⟨e1,e2⟩:=WaG hr ps d.2 au n2 aC (i+1) 0 h6 hc (by cases ps<;>rfl) (Xci _) (λp hJ=>hp p (Xg _ (by simpa using hJ)));refine⟨by simp only[WA,Xr];omega,λj x u hj hu=>?_⟩;cases j with
  |zero=>
   simp[WA]at hj hu;subst hj hu;exact WgK hr (hp (i,_) (Xn _ (Xj ..)))
  |succ j=>exact e2 j x u (by simpa [WA]using hj) (by simpa using hu)
 | .vj _::_,_,_,_,_,_,_,h,_,_,_,_=>h.elim
 | .boxal t lf::ps,d,vs,ns,ks,i,0,⟨b,o,b',pc,au,n1,n2,aC,h1,h2,h3,h4,h5,h6,h7,h8⟩,hc,_,_,hp=>by
  subst h1;simp only[WI,Xbk,Xed]at hp;obtain⟨e1,e2⟩:=WaG hr ps d.2.2 au n2 aC (i+2) 0 h8 hc (by cases ps<;>rfl) (Xci _) (λp hJ=>hp p (Xg _ (by simpa using hJ)));refine⟨by simp only[WA,Xr];omega,λj x u hj hu=>?_⟩
  match j with
  |0=>
   simp[WA]at hj hu;subst hj hu;exact WgK hr (hp (i,_) (Xn _ (Xj ..)))
  |1=>simp[WA]at hj;exact .inl hj.symm
  |j+2=>exact e2 j x u (by simpa [WA]using hj) (by simpa using hu)
 | .mut e::ps,d,vs,ns,ks,i,0,⟨pc,au,n2,aC,h1,h2,h3,h4,h5⟩,hc,_,_,hp=>by
  subst h1;simp only[WI,Xbk,Xed]at hp;obtain⟨e1,e2⟩:=WaG hr ps d.2 au n2 aC (i+1) 0 h5 hc (by cases ps<;>rfl) (Xci _) (λp hJ=>hp p (Xg _ (by simpa using hJ)));refine⟨by simp only[WA,Xr];omega,λj x u hj hu=>?_⟩;cases j with
  |zero=>
   simp[WA]at hj hu;subst hj hu;exact WgK hr (hp (i,_) (Xn _ (Xj ..)))
  |succ j=>exact e2 j x u (by simpa [WA]using hj) (by simpa using hu)
 | .clos g n::ps,d,vs,ns,ks,i,0,⟨cvs,au,h1,h2,h3,h4⟩,hc,_,_,hp=>by
  subst h1;simp only[WcD,Xi]at hc;simp only[WI,Xbk,Xed]at hp;obtain⟨e1,e2⟩:=WaG hr ps d (cvs++au) ns ks (i+1) n h4 hc.2 hc.1 (by simp[h2]) (λp hJ=>hp p (Xg _ (by rw[List.drop_left' h2]at hJ;exact hJ)));refine⟨by simp only[WA,Xr];simp at e1;omega,λj x u hj hu=>?_⟩;cases j with
  |zero=>
   simp[WA]at hj hu;subst hj hu;exact WgK hr (hp (i,_) (Xn _ (Xj ..)))
  |succ j=>exact e2 j x u (by simpa [WA]using hj) (by rw[Xbv (by omega),h2,Xbu];simpa using hu)
 | .kv t agg::ps,d,vs,ns,ks,i,0,⟨v,au,n1,n2,aC,h1,h2,jl,h3,h4⟩,hc,_,_,hp=>by
  subst h1;simp only[WI,Xbk,Xed]at hp;obtain⟨e1,e2⟩:=WaG hr ps d.2 au n2 aC (i+1) 0 h4 hc (by cases ps<;>rfl) (Xci _) (λp hJ=>hp p (Xg _ (by simpa using hJ)));refine⟨by simp only[WA,Xr];omega,λj x u hj hu=>?_⟩;cases j with
  |zero=>
   simp[WA]at hj hu;subst hj hu;exact WgK hr (hp (i,_) (Xn _ (Xj ..)))
  |succ j=>exact e2 j x u (by simpa [WA]using hj) (by simpa using hu)
theorem Wpu{G G':GH}{wb w:World}{nu oU:Nu}{e:Ty}{xs ys:List e.den}{S S':CS}(h4:WbN wb (Wy G wb e) e.size nu xs S)(aR:WbN w (Wy G' w e) e.size oU ys S')(hx:nu.hdr=oU.hdr):WbN w (Wy G' w e) e.size nu ys S':=by
 unfold Nu.hdr at hx;cases hb:oU.blk with
 |none=>
  cases cA:nu.blk with
  |some b=>simp[hb,cA]at hx
  |none=>
   have k1:=Wcr h4 cA;have k2:=Wcr aR hb;refine⟨by rw[k2,←h4.1,k1],h4.2.1,?_⟩;simp only[cA];exact k2
 |some b=>
  cases cA:nu.blk with
  |none=>simp[hb,cA]at hx
  |some b'=>
   simp only[hb,cA]at hx;injection hx with x1 x2 x3;injection x1 with x1;injection x1 with x1 x4 _;have e1:=h4.2.1;have e2:=aR.2.1;have:nu=oU:=by
    obtain⟨a1,a2,a3,a4,a5⟩:=nu;obtain⟨b1,b2,b3,b4,b5⟩:=oU;simp only at hb cA x1 x2 x3 x4 e1 e2;subst hb cA x1 x2 x3 x4;rw[e1,e2]
   rw[this];exact aR
theorem Wfk{G G':GH}{wb w:World}:∀(t:Ty) (d0 d:t.den) (us:List Value) (n1 n2:List Pc),Wy G wb t d0 us n1->Wy G' w t d us n2->∃n3,Wy G' w t d us n3/\nus n3=nus n1/\fps n3=fps n2
 | .own e,d0,d,us,n1,n2,⟨pc,h1,h2,h3⟩,⟨eI,g1,g2,g3⟩=>by
  subst h1 g1;have hx:pc.nu.hdr=eI.nu.hdr:=by rw[h2]at g2;simpa using g2
  exact⟨[⟨pc.nu,eI.fp⟩],⟨_,rfl,h2,Wpu h3 g3 hx⟩,rfl,rfl⟩
 | .prod a b,d0,d,us,n1,n2,⟨v1,v2,m1,m2,h1,h2,h3,h4⟩,⟨u1,u2,k1,k2,g1,g2,g3,g4⟩=>by
  have l1:=WH a _ _ _ h3;have l2:=WH a _ _ _ g3;obtain⟨q1,q2⟩:=List.append_inj (h1.symm.trans g1) (by rw[l1,l2]);subst q1 q2 h2 g2;obtain⟨a1,a2,a3,a4⟩:=Wfk a _ _ _ _ _ h3 g3;obtain⟨b1,b2,b3,b4⟩:=Wfk b _ _ _ _ _ h4 g4;exact⟨a1++b1,⟨_,_,a1,b1,h1,rfl,a2,b2⟩,by unfold nus at a3 b3⊢;rw[Xz,Xz,a3,b3],by unfold fps at a4 b4⊢;rw[Xz,Xz,a4,b4]⟩
 | .int _,d0,d,us,n1,n2,h,g=>by obtain⟨h1,_⟩:=h;obtain⟨g1,g2⟩:=g;subst h1 g1;exact⟨[],⟨rfl,g2⟩,rfl,rfl⟩
 | .bool,d0,d,us,n1,n2,h,g=>by obtain⟨h1,_⟩:=h;obtain⟨g1,g2⟩:=g;subst h1 g1;exact⟨[],⟨rfl,g2⟩,rfl,rfl⟩
 | .str,d0,d,us,n1,n2,h,g=>by obtain⟨h1,_⟩:=h;obtain⟨g1,g2⟩:=g;subst h1 g1;exact⟨[],⟨rfl,g2⟩,rfl,rfl⟩
 | .slice _,d0,d,us,n1,n2,h,g=>by obtain⟨h1,_⟩:=h;obtain⟨g1,g2⟩:=g;subst h1 g1;exact⟨[],⟨rfl,g2⟩,rfl,rfl⟩
theorem Wtd{G G':GH}{wb w:World}{t:Ty}{agg:Bool}{d0 d:t.den}{v:Value}{n1 n2:List Pc}(h:WjL G wb t agg d0 v n1)(g:WjL G' w t agg d v n2):∃us n3,Wy G' w t d us n3/\nus n3=nus n1/\fps n3=fps n2:=by
 unfold WjL at h g;split at h
 .rename_i ha;rw[Wf ha]at g;obtain⟨us,h1,h2⟩:=h;obtain⟨wC,g1,g2⟩:=g;have:us=wC:=by
   rw[h1]at g1;injection g1 with g1;have:=Wm Array.toList g1;simpa using this
  subst this;exact⟨us,Wfk _ _ _ _ _ _ h2 g2⟩
 .rename_i ha;rw[Wc ha]at g;exact⟨_,Wfk _ _ _ _ _ _ h g⟩
structure OOk(G':GH)(φ:Nat->CS)(objs:Wab)(w:World)(ps:List PTy)(B:OutK (Wgb ps))(ks:List Nu)(kf:List CS)(ms:List Pc):Prop where
 outs:WbE G' w ps B.d ks kf ms
 sepk:Sep kf
 sepm:Sep (fps ms)
 kf:∀S∈kf,CS.le S (FromL φ objs B.kept)
 ms:∀q∈ms,CS.le q.fp (FromL φ objs B.moved)
theorem Ww4(h:HR w0 F G ν φ objs nx w){k1 k2:List CS}{m l:List Nat}(h1:Sep k1)(h2:Sep k2)(g1:∀S∈k1,CS.le S (FromL φ objs m))(g2:∀S∈k2,CS.le S (FromL φ objs l))(hd:∀i∈m,i∉l):Sep (k1++k2):=
 Woh h1 h2 (A:=FromL φ objs m) (B:=FromL φ objs l) g1 g2 (FromL.disj h hd)
theorem Whw{wb:World}{Gb:GH}(hg:GLe G G')(h:HR w0 F G ν φ objs nx w){t:Ty}{ps:List PTy}{id b o:Nat}{cs:List Cell}{dd:t.den}{m l:List Nat}{A:OutK (Wgb ps)}{ks:List Nu}{kf:List CS}{ms:List Pc}
  (hx:CellRel G ν nx (.ptr id 0) (.pointer (some ⟨b,o,none⟩))) (ho:Wn objs id=some (.box cs)) (g1:Wax t cs objs=some (dd,m,l)) (hl:Lent G' w φ objs l) (hk:(id::A.kept).Nodup) (hm:(m++A.moved).Nodup) (hA:OOk G' φ objs w ps A ks kf ms):
  ∃nn,WfN G' w t dd b o nn/\Sep (rng b o t.size::kf)/\Sep (fps (nn++ms))/\(∀S∈rng b o t.size::kf,CS.le S (FromL φ objs (id::A.kept)))/\(∀q∈nn++ms,CS.le q.fp (FromL φ objs (m++A.moved))):=by
 obtain⟨_,b',wD,ik⟩:=hx;injection ik with ik;injection ik with ik;injection ik with ik j8 _;subst ik j8;have aQ:Live objs id:=⟨_,ho,by simp⟩;obtain⟨b'',us,qv,bf,aM,bN,fG⟩:WcM G ν nx w id (φ id) (.box cs):=h.ob _ _ ho;rw[wD]at qv;injection qv with qv;subst qv;obtain⟨k1,k2⟩:=Xac.1 hk;obtain⟨k3,k4,k5⟩:=Xae.1 hm;obtain⟨nn,e1,e2,e3,_⟩:=Wae h hg t cs us dd m l bN hl k3 g1;have dr:cs.length=t.size:=by rw[←bN.1];exact WH _ _ _ _ e1
 rw[dr]at bf fG;have gG:CS.le (rng b ((ν id).off+0) t.size) (FromL φ objs [id]):=λb o hh=>⟨id,by simp,aQ,fG b o hh⟩;refine⟨nn,⟨us,bf,aM,e1⟩,?_,Wcl h e2 hA.sepm e3 hA.ms (λi hi hj=>k5 i hi i hj rfl),λS hS=>?_,λq hq=>?_⟩
 .exact Ww4 h (k1:=[rng b ((ν id).off+0) t.size]) (m:=[id]) (Xbm _ _) hA.sepk (λS hS=>by rw[Xag.1 hS];exact gG) hA.kf (λi hi hj=>k1 (by rw[←Xag.1 hi];exact hj))
 .rcases Xs.1 hS with rfl|hS
  .exactλb o hh=>FromL.mono (λi hi=>by rw[Xag.1 hi];exact Xj ..) b o (gG b o hh)
  .exactλb o hh=>FromL.mono (λi hi=>Xf _ hi) b o (hA.kf S hS b o hh)
 .rcases Xo.1 hq with hq|hq
  .exactλb o hh=>FromL.mono (λi hi=>Xn _ hi) b o (e3 q hq b o hh)
  .exactλb o hh=>FromL.mono (λi hi=>Xg _ hi) b o (hA.ms q hq b o hh)
theorem WaX{wb:World}{Gb:GH}(hg:GLe G G')(h:HR w0 F G ν φ objs nx w):∀(ps:List PTy) (d:WfE ps) (vs:List Value) (ns:List Pc) (ks:List Nu) (xs:List AVal) (B:OutK (Wgb ps)),Wbn Gb wb ps d vs ns ks->xs.length=vs.length->
  (∀(j:Nat) (x:AVal) (v:Value),xs[j]?=some x->vs[j]?=some v->x= .tup []\/AValRel G ν nx x v)->Lent G' w φ objs B.lent->B.kept.Nodup->B.moved.Nodup->W2 ps xs objs=some B->
  ∃kf ms,OOk G' φ objs w ps B ks kf ms
 | [],d,vs,ns,ks,xs,B,⟨_,_,hk⟩,_,_,_,_,_,hf=>by
  simp only[W2]at hf;injection hf with hf;subst hf;exact⟨[],[],⟨hk,rfl,rfl⟩,List.Pairwise.nil,List.Pairwise.nil,by simp,by simp⟩
 | .v t agg::ps,d,vs,ns,ks,xs,B,⟨v,au,n1,n2,h1,h2,h3,h4⟩,ad,hp,hl,hk,hm,hf=>by
  subst h1;simp only[W2]at hf;cases hA:W2 ps xs.tail objs with
  |none=>simp[hA]at hf
  |some A=>
   simp[hA]at hf;subst hf
   match xs,ad with
   |x::xs,ad=>
    obtain⟨kf,ms,hO⟩:=WaX hg h ps d.2 au n2 ks xs A h4 (by simpa using ad) (λj y u hj hu=>hp (j+1) y u (by simpa using hj) (by simpa using hu)) hl hk hm hA;exact⟨kf,ms,hO.outs,hO.sepk,hO.sepm,hO.kf,hO.ms⟩
 | .rp t::ps,d,vs,ns,ks,xs,B,⟨b,o,us,au,h1,h2,h3,h4⟩,ad,hp,hl,hk,hm,hf=>by
  subst h1;simp only[W2]at hf;cases hA:W2 ps xs.tail objs with
  |none=>simp[hA]at hf
  |some A=>
   simp[hA]at hf;subst hf
   match xs,ad with
   |x::xs,ad=>
    obtain⟨kf,ms,hO⟩:=WaX hg h ps d.2 au ns ks xs A h4 (by simpa using ad) (λj y u hj hu=>hp (j+1) y u (by simpa using hj) (by simpa using hu)) hl hk hm hA;exact⟨kf,ms,hO.outs,hO.sepk,hO.sepm,hO.kf,hO.ms⟩
 | .box t::ps,d,vs,ns,ks,xs,B,⟨b,o,au,n1,n2,aC,h1,h2,h3,h4,h6⟩,ad,hp,hl,hk,hm,hf=>by
  subst h1;simp only[W2]at hf;split at hf
  .rename_i id xs;split at hf
   .rename_i cs ho;split at hf
    .rename_i dd m l A g1 g2;injection hf with hf;subst hf;have hx:=((hp 0 _ _ rfl rfl).resolve_left (λe=>by cases e)).1;obtain⟨kf,ms,hO⟩:=WaX hg h ps d.2 au n2 aC xs A h6 (by simpa using ad) (λj y u hj hu=>hp (j+1) y u (by simpa using hj) (by simpa using hu)) (hl.mono λj hj=>Xg _ hj) (Xac.1 hk).2 (Xae.1 hm).2.1 g2;obtain⟨nn,e1,e2,e3,e4,e5⟩:=Whw (wb:=wb) (Gb:=Gb) hg h hx ho g1 (hl.mono λj hj=>Xn _ hj) hk hm hO;exact⟨_,nn++ms,⟨b,o,aC,kf,nn,ms,h3,rfl,rfl,e1,hO.outs⟩,e2,e3,e4,e5⟩
    .cases hf
   .cases hf
  .cases hf
 | .vj _::_,_,_,_,_,_,_,h,_,_,_,_,_,_=>h.elim
 | .boxal t lf::ps,d,vs,ns,ks,xs,B,⟨b,o,b',pc,au,n1,n2,aC,h1,h2,h3,h4,h5,h6,h7,h8⟩,ad,hp,hl,hk,hm,hf=>by
  subst h1;simp only[W2]at hf;split at hf
  .rename_i id y xs;split at hf
   .rename_i cs ho;split at hf
    .rename_i dd m l A g1 g2;injection hf with hf;subst hf;have hx:=((hp 0 _ _ rfl rfl).resolve_left (λe=>by cases e)).1;obtain⟨kf,ms,hO⟩:=WaX hg h ps d.2.2 au n2 aC xs A h8 (by simpa using ad) (λj y u hj hu=>hp (j+2) y u (by simpa using hj) (by simpa using hu)) (hl.mono λj hj=>Xg _ hj) (Xac.1 hk).2 (Xae.1 hm).2.1 g2;obtain⟨nn,e1,e2,e3,e4,e5⟩:=Whw (wb:=wb) (Gb:=Gb) hg h hx ho g1 (hl.mono λj hj=>Xn _ hj) hk hm hO;exact⟨_,nn++ms,⟨b,o,aC,kf,nn,ms,h3,rfl,rfl,e1,hO.outs⟩,e2,e3,e4,e5⟩
    .cases hf
   .cases hf
  .cases hf
 | .mut e::ps,d,vs,ns,ks,xs,B,⟨pc,au,n2,aC,h1,h2,h3,h4,h5⟩,ad,hp,hl,hk,hm,hf=>by
  subst h1;simp only[W2]at hf;split at hf
  .rename_i id xs;split at hf
   .rename_i e' ys ho;split at hf
    .rename_i dd A g1 g2;injection hf with hf;subst hf;obtain⟨je,hd⟩:=Waw g1;subst je;simp only at hd;subst hd;obtain⟨⟨_,hx⟩,_⟩:=(hp 0 _ _ rfl rfl).resolve_left (λe=>by cases e);have aQ:Live objs id:=⟨_,ho,by simp⟩;have aR:WbN w (Wy G w e') e'.size (ν id) ys (φ id):=h.ob _ _ ho;have fQ:=Wdd hg (Same.refl _ w) (λ_ _ hh=>hh) aR;obtain⟨k1,k2⟩:=Xac.1 hk;obtain⟨kf,ms,hO⟩:=WaX hg h ps d.2 au n2 aC xs A h5 (by simpa using ad) (λj y u hj hu=>hp (j+1) y u (by simpa using hj) (by simpa using hu)) hl k2 hm g2;refine⟨φ id::kf,ms,⟨⟨pc.nu,φ id⟩,aC,kf,h3,rfl,Wpu h4 fQ hx,hO.outs⟩,?_,hO.sepm,λS hS=>?_,hO.ms⟩
     .exact Ww4 h (k1:=[φ id]) (m:=[id]) (Xbm _ _) hO.sepk (λS hS=>by rw[Xag.1 hS];exact FromL.one (by simp) aQ) hO.kf (λi hi hj=>k1 (by rw[←Xag.1 hi];exact hj))
     .rcases Xs.1 hS with rfl|hS
      .exact FromL.one (Xj ..) aQ
      .exactλb o hh=>FromL.mono (λi hi=>Xf _ hi) b o (hO.kf S hS b o hh)
    .cases hf
   .cases hf
  .cases hf
 | .clos g n::ps,d,vs,ns,ks,xs,B,⟨cvs,au,h1,h2,h3,h4⟩,ad,hp,hl,hk,hm,hf=>by
  subst h1;simp only[W2]at hf;split at hf
  .rename_i g' caps xs;split at hf
   .rename_i hc;obtain⟨rfl,cP⟩:=hc;cases hA:W2 ps (Whb caps++xs) objs with
    |none=>simp[hA]at hf
    |some A=>
     simp[hA]at hf;subst hf;obtain⟨⟨us,rT,uq,wE⟩,_⟩:=(hp 0 _ _ rfl rfl).resolve_left (λe=>by cases e);have jj:us=cvs:=by
      injection rT with _ _ rT;have:=Wm Array.toList rT;simpa using this.symm
     subst jj;obtain⟨kf,ms,hO⟩:=WaX hg h ps d (us++au) ns ks (Whb caps++xs) A h4 (by simp[Whb,uq];simpa using ad) (λj y u hj hu=>by
      rw[Xar]at hj hu;simp only[Whb,List.length_map]at hj;rw[uq]at hu;split at hj
      .rename_i ac;rw[Wf ac]at hu;rw[Xaj]at hj;obtain⟨id,bM,rfl⟩:=Xt.1 hj;obtain⟨q1,q3,q2⟩:=wE _ id u bM hu;exact .inr ⟨⟨q1,q2⟩,q3⟩
      .rename_i ac;rw[Wc ac]at hu;exact hp (j-caps.length+1) y u (by simpa using hj) (by simpa using hu)) hl hk hm hA
     exact⟨kf,ms,hO.outs,hO.sepk,hO.sepm,hO.kf,hO.ms⟩
   .cases hf
  .cases hf
 | .kv t agg::ps,d,vs,ns,ks,xs,B,⟨v,au,n1,n2,aC,h1,h2,jl,h3,h4⟩,ad,hp,hl,hk,hm,hf=>by
  subst h1;simp only[W2]at hf;split at hf
  .rename_i x xs;split at hf
   .rename_i dd m l A g1 g2;split at hf
    .rename_i gI;injection hf with hf;subst hf;cases hc:cellsOf agg x with
     |none=>simp[hc]at g1
     |some cs=>
      simp[hc]at g1;obtain⟨k1,k2,k3⟩:=Xae.1 hk;have hx:=(hp 0 _ _ rfl rfl).resolve_left (λe=>by subst e;cases hc);have bK:Lent G' w φ objs l:=hl.mono λj hj=>Xn _ hj;obtain⟨_,_,_,_,q4,_⟩:=WlQ h hg hx bK k1 hc g1;obtain⟨v1,_⟩:=Wnh h hg hx bK hc g1 gI;obtain⟨us,n3,r1,r2,r3⟩:=Wtd h3 v1;obtain⟨kf,ms,hO⟩:=WaX hg h ps d.2 au n2 aC xs A h4 (by simpa using ad) (λj y u hj hu=>hp (j+1) y u (by simpa using hj) (by simpa using hu)) (hl.mono λj hj=>Xg _ hj) k2 hm g2;have gp:∀S∈fps n3,CS.le S (FromL φ objs m):=λS hS=>by
       rw[r3,WoZ]at hS;obtain⟨i,hi,rfl⟩:=Xw.1 hS;exact FromL.one hi (q4 i hi)
      have gs:Sep (fps n3):=by
       rw[r3,WoZ];refine List.pairwise_map.2 (k1.imp_of_mem λ{i j} hi hj bI=>?_)
       exactλb o h1 h2=>bI (h.inj i j b o (q4 i hi) (q4 j hj) h1 h2)
      refine⟨fps n3++kf,ms,⟨n3,aC,kf,us,by rw[jl,r2],rfl,r1,hO.outs⟩,Ww4 h gs hO.sepk gp hO.kf (λi hi hj=>k3 i hi i hj rfl),hO.sepm,λS hS=>?_,hO.ms⟩;rcases Xo.1 hS with hS|hS
      .exactλb o hh=>FromL.mono (λi hi=>Xn _ hi) b o (gp S hS b o hh)
      .exactλb o hh=>FromL.mono (λi hi=>Xg _ hi) b o (hO.kf S hS b o hh)
    .cases hf
   .cases hf
  .cases hf
end
end Go.Sx
namespace Go.Sx
set_option linter.unusedVariables false
set_option linter.unusedSimpArgs false
section
variable{P:Program}{T:Tab}{Γ:Ctx}
theorem WuB{sg:Sig}{d:WfE sg.ps}{G:GH}{w:World}{vs:List Value}{ns:List Pc}{ks:List Nu}{n:Nat}(hn:WbS sg.ps<=n)(fI:WcD sg.ps=true)(aP:Wbn G w sg.ps d vs ns ks)(jf:Sep (fps ns))
  (cR:∀q∈ns,∀b off,q.fp b off->G b off=none/\b<w.heap.size) (hg:∀b o v,G b o=some v->w.cell? ⟨b,o,none⟩=some v):
  ∃ν,Rel w (Of ns) ⟨n,WI sg.ps 0 0 vs,λ_ _=>False⟩ G G ν {env:=Wcg 0 (WP sg.ps d [] 0).1,objs:=(WP sg.ps d [] 0).2.1,nx:=(WP sg.ps d [] 0).2.2}
   {tmps:=vs.toArray++Xdi (n-vs.toArray.size) undef,defers:=[]} w:=by
 obtain⟨ν,hν⟩:∃ν:Nat->Nu,ν= λi=>((nus ns)[i]?).getD ⟨none,0,0,0,0⟩:=⟨_,rfl⟩;obtain⟨φ,hφ⟩:∃φ:Nat->CS,φ= λi=>((fps ns)[i]?).getD (λ_ _=>False):=⟨_,rfl⟩;have hAt:At ν φ 0 ns:=λj pc hj=>by
  have e1:(nus ns)[j]?=some pc.nu:=by unfold nus;rw[Xaj,hj];rfl
  have e2:(fps ns)[j]?=some pc.fp:=by unfold fps;rw[Xaj,hj];rfl
  rw[hν,hφ];simp only[Xaw,e1,e2];exact⟨rfl,rfl⟩
 obtain⟨h1,h2,h3,h4⟩:=Wcw (ν:=ν) (φ:=φ) sg.ps d vs ns ks [] 0 (0+ns.length) fI aP hAt (Xm _);have qb:=Wdt _ _ _ _ _ aP;have eC:∀id,Live (WP sg.ps d [] 0).2.1 id->id<ns.length:=λid ⟨ob,ho,_⟩=>by
  rcases h2 id ob ho with⟨_,h,_⟩|h
  .simpa using h
  .cases h
 have bz:∀id b o,φ id b o->∃q,ns[id]?=some q/\(fps ns)[id]?=some q.fp/\q.fp b o:=λid b o hp=>by
  rw[hφ]at hp
  try simp only at hp
  cases hq:ns[id]? with
  |none=>
   have:(fps ns)[id]?=none:=by unfold fps;rw[Xaj,hq];rfl
   rw[this]at hp;exact hp.elim
  |some q=>
   have:(fps ns)[id]?=some q.fp:=by unfold fps;rw[Xaj,hq];rfl
   rw[this]at hp;exact⟨q,rfl,this,hp⟩
 have ur:∀(i:Nat) (v:Value),vs[i]?=some v->(vs.toArray++Xdi (n-vs.toArray.size) undef)[i]?=some v:=λi v hi=>by
  have ac:=(Xab.1 hi).1;rw[Xfe (by simpa using ac)];simpa using hi
 refine⟨ν,rfl,by simp;omega,λp hp=>?_,λi x hx=>?_,⟨φ,?_⟩,⟨λ_ _ _ hh=>hh,λ_ _ _ hh=>.inl hh⟩,λ_ _ h=>h.elim⟩
 .obtain⟨_,g2⟩:=WO _ _ _ _ p hp;exact ur _ _ (by simpa using g2)
 .simp only at hx;rw[WhJ]at hx;simp only[Xci,W8,Xde]at hx;have ac:=(Xab.1 hx).1;rw[h3]at ac;have hv:=Xq ac;refine⟨_,ur i _ hv,?_⟩;have:=h4 i x _ hx hv;simp only[h1];exact this
 .exact{
   g:=hg
   ob:=λid ob ho=>by
    rcases h2 id ob ho with⟨_,_,h⟩|h
    .simp only[h1];exact h
    .cases h
   gf:=λid b o hl hp=>by
    obtain⟨q,g1,_,g2⟩:=bz id b o hp;exact(cR q (Xas g1) b o g2).1
   inj:=λid cb b o hl dH hp eV=>by
    obtain⟨q,_,g1,g2⟩:=bz id b o hp;obtain⟨q',_,wF,wG⟩:=bz cb b o eV;exact Wmg jf g1 wF g2 wG
   own:=λid b o hl hp=>by
    obtain⟨q,g1,_,g2⟩:=bz id b o hp;exact .inr ⟨q,Xas g1,g2⟩
   lt:=λid hl=>by simp only[h1];have:=eC id hl;omega
   bl:=λid b o hl hp=>by
    obtain⟨q,g1,_,g2⟩:=bz id b o hp;exact(cR q (Xas g1) b o g2).2
   le:=WLe.refl _ w}
theorem WsP(hT:Wai P T){f:Func}{sg:Sig}{d:WfE sg.ps}{G:GH}{w:World}{vs:List Value}{ns:List Pc}{ks:List Nu}{n:Nat}(fI:WcD sg.ps=true)(aP:Wbn G w sg.ps d vs ns ks)
  {st:St} {a:Act} {w':World} {G1:GH} {ν:Nat->Nu} (hr:Rel w (Of ns) ⟨n,WI sg.ps 0 0 vs,λ_ _=>False⟩ G G1 ν st a w') {xs:List AVal} (hx:Wdu T st f.results.toList=some xs)
  {A:Outs (WgX sg.rs)} (hA:Wa8 sg.rs xs st.objs=some A) {B:OutK (Wgb sg.ps)} (hB:W2 sg.ps (WA sg.ps 0 0 st) st.objs=some B)
  (be:Wbw (B.kept++(B.moved++A.moved))=true) (lv:Wf2 (A.lent++B.lent) (B.kept++(B.moved++A.moved))=true):
  ∃rv kf ms cZ G',(results f a.tmps).run P w'= .ok (Wjq rv) w'/\After sg (B.d,A.d) G w ns ks rv kf ms cZ G' w':=by
 have be:=(Wfs _).1 be;have lv:=Wni lv;obtain⟨φ,hφ⟩:=hr.h;have rU:=hφ.addG_le (A.lent++B.lent);have wH:=hφ.addG_w (A.lent++B.lent);have ma:Lent (Wrv G1 w' (FromL φ st.objs (A.lent++B.lent))) w' φ st.objs (A.lent++B.lent):=λid bM hl=>(Wjl _).mono (FromL.one bM hl);obtain⟨k1,k2,k3⟩:=Xae.1 be;obtain⟨k4,k5,k6⟩:=Xae.1 k2;obtain⟨rv,mO,mP,mQ⟩:=Wid hT hr _ xs hx;obtain⟨cZ,q1,q2,q3,q4⟩:=Weh hφ rU sg.rs xs rv A mP mQ (ma.mono λi hi=>Xn _ hi) k5 hA;obtain⟨hQ,dI⟩:=WaG hr sg.ps d vs ns ks 0 0 aP fI (by cases sg.ps<;>rfl) (Xci _) (by simpa using hr.par);obtain⟨kf,ms,hO⟩:=WaX rU hφ sg.ps d vs ns ks _ B aP hQ (λj x v hj hv=>dI j x v hj (by simpa using hv)) (ma.mono λi hi=>Xg _ hi) k1 k4 hB;have fS:∀S∈kf++fps (ms++cZ),CS.le S (FromL φ st.objs (B.kept++(B.moved++A.moved))):=λS hS=>by
  rcases Xo.1 hS with hS|hS
  .exactλb o hh=>FromL.mono (λi hi=>Xn _ hi) b o (hO.kf S hS b o hh)
  .obtain⟨q,hq,rfl⟩:=Xw.1 hS;rcases Xo.1 hq with hq|hq
   .exactλb o hh=>FromL.mono (λi hi=>Xg _ (Xn _ hi)) b o (hO.ms q hq b o hh)
   .exactλb o hh=>FromL.mono (λi hi=>Xg _ (Xg _ hi)) b o (q3 q hq b o hh)
 refine⟨rv,kf,ms,cZ,Wrv G1 w' (FromL φ st.objs (A.lent++B.lent)),?_,?_⟩
 .show(do let vs←f.results.mapM (Wjv a.tmps);pure (if h:vs.size=1 then vs[0]else .tuple vs):Sem Value).run P w'=_;have gL:(f.results.mapM (Wjv a.tmps)).run P w'= .ok rv.toArray w':=by
   rw[Xdz,Sem.run_map,mO];rfl
  rw[Sem.run_bind,gL];simp only[Result.andThen_ok,Sem.run_pure];congr 1;unfold Wjq
  match rv with
  | []=>rfl
  | [v]=>rfl
  |u::v::l=>simp
 .exact{
   res:=q1
   outs:=hO.outs
   sep:=by
    refine Ww4 hφ hO.sepk (Wcl hφ hO.sepm q2 hO.ms q3 (λi hi hj=>k6 i hi i hj rfl)) hO.kf (l:=B.moved++A.moved) (λS hS=>?_) (λi hi hj=>k3 i hi i hj rfl);obtain⟨q,hq,rfl⟩:=Xw.1 hS;rcases Xo.1 hq with hq|hq
    .exactλb o hh=>FromL.mono (λi hi=>Xn _ hi) b o (hO.ms q hq b o hh)
    .exactλb o hh=>FromL.mono (λi hi=>Xg _ hi) b o (q3 q hq b o hh)
   own:=λS hS b off hh=>by
    obtain⟨i,hi,h1,h2⟩:=fS S hS b off hh;refine⟨?_,(hφ.own i b off h1 h2).symm,hφ.bl i b off h1 h2⟩;rw[Wdv (λ⟨j,hj,h3,h4⟩=>by
     have:=hφ.inj i j b off h1 h3 h2 h4;subst this;exact lv _ hj hi)]
    exact hφ.gf i b off h1 h2
   gx:=by
    refine⟨λb o v hv=>rU b o v (hr.gx.le b o v hv),λb off v hv=>?_⟩;by_cases hb:FromL φ st.objs (A.lent++B.lent) b off
    .obtain⟨j,hj,h1,h2⟩:=hb;exact .inr (hφ.own j b off h1 h2)
    .rw[Wdv hb]at hv;exact hr.gx.new b off v hv
   g:=wH
   le:=hφ.le}
theorem Wvh(hM:P.follows .mixedOrders=true)(hT:Wai P T)(hΓ:WdJ P Γ){f:Func}{k:FuncId}{c:Code}(hf:P.funcs[k]?=some f)(hb:f.body=some c){sg:Sig}(ci:Wdi f.ntmps (Weo sg.ps 0 0) c=true)(fI:WcD sg.ps=true)
  (hn:WbS sg.ps<=f.ntmps) {ann:Nat->List Ghost} (h:∀d o,sg.run d=some o->∃N,den T Γ ann N sg f d some=some o):Wwi P k sg:=by
 intro d o bh G w vs ns ks aP jf cR hg;obtain⟨N,il⟩:=h d o bh;unfold den at il;simp only[hb]at il;obtain⟨ν,wJ⟩:=WuB hn fI aP jf cR hg;split at il
 case h_2=>cases il
 rename_i c' b st0 fY wK;injection fY with fY;subst fY;obtain⟨rfl,il⟩:=W3 il;obtain⟨G0',ν0',hr⟩:=WdO _ _ _ _ _ (.inl λ_ _ h=>h) wJ wK;refine calls_of_wp hf hb ?_
 suffices hk:∀e,WrB w (Of ns) ⟨f.ntmps,WI sg.ps 0 0 vs,λ_ _=>False⟩ G (WxB T sg f.results.toList some e) o (bodyPost P f (λe w'=>∃rv kf ms cZ G',e= .returned (Wjq rv)/\After sg o G w ns ks rv kf ms cZ G' w') e.to)from
  WnQ (nt:=⟨f.ntmps,WI sg.ps 0 0 vs,λ_ _=>False⟩) hM hT hΓ (n:=f.ntmps) rfl (WX sg.ps 0 0 vs) (.inl λ_ _ h=>h) c ci hk _ _ _ _ _ hr il
 intro e st a w' G1 ν1 gK hk;have eJ:(∃xs,Wdu T st f.results.toList=some xs/\∃A B,Wa8 sg.rs xs st.objs=some A/\W2 sg.ps (WA sg.ps 0 0 st) st.objs=some B/\Wbw (B.kept++(B.moved++A.moved))=true/\Wf2 (A.lent++B.lent) (B.kept++(B.moved++A.moved))=true/\(B.d,A.d)=o)->
   a.defers= []/\∃v,(results f a.tmps).run P w'= .ok v w'/\∃rv kf ms cZ G',Ending.returned v= .returned (Wjq rv)/\After sg o G w ns ks rv kf ms cZ G' w':=by
  rintro⟨xs,hx,A,B,hA,hB,h1,h2,rfl⟩;obtain⟨rv,kf,ms,cZ,G',h3,h4⟩:=WsP hT (f:=f) fI aP gK hx hA hB h1 h2;exact⟨gK.defers,_,h3,rv,kf,ms,cZ,G',rfl,h4⟩
 have mE:(match Wdu T st f.results.toList with
   |some xs=>match Wa8 sg.rs xs st.objs,W2 sg.ps (WA sg.ps 0 0 st) st.objs with
    |some A,some B=>if Wbw (B.kept++(B.moved++A.moved))&&Wf2 (A.lent++B.lent) (B.kept++(B.moved++A.moved))then some (B.d,A.d)else none
    |_,_=>none
   |none=>none)=some o->(∃xs,Wdu T st f.results.toList=some xs/\∃A B,Wa8 sg.rs xs st.objs=some A/\W2 sg.ps (WA sg.ps 0 0 st) st.objs=some B/\Wbw (B.kept++(B.moved++A.moved))=true/\Wf2 (A.lent++B.lent) (B.kept++(B.moved++A.moved))=true/\(B.d,A.d)=o):=λhk=>by
  split at hk
  .rename_i xs hx;split at hk
   .rename_i A B hA hB;obtain⟨hc,hk⟩:=Wb4 hk;simp only[Xi]at hc;injection hk with hk;exact⟨xs,hx,A,B,hA,hB,hc.1,hc.2,hk⟩
   .cases hk
  .cases hk
 cases e with
 |normal=>exact eJ (mE hk)
 |ret=>exact eJ (mE hk)
 |exit id=>cases hk
end
end Go.Sx
namespace Go.Sx
set_option linter.unusedVariables false
set_option linter.unusedSimpArgs false
def zv1:Value->Value->Bool
 | .int k n,.int k' n'=>decide (k=k')&&decide (n=n')
 | .bool b,.bool b'=>b==b'
 | .string s,.string s'=>match s.data.toList,s'.data.toList with
  | [],[]=>true
  |_,_=>false
 | .slice none 0 0,.slice none 0 0=>true
 | .pointer none,.pointer none=>true
 |_,_=>false
theorem Wux(x y:Value)(h:zv1 x y=true):x=y:=by
 unfold zv1 at h;split at h
 .simp only[Xi,Wi]at h;obtain⟨rfl,rfl⟩:=h;rfl
 .have:=eq_of_beq h;subst this;rfl
 .rename_i s s';split at h
  .rename_i e1 e2;have:s=s':=by
    cases s with|mk a=>cases s' with|mk b=>
    congr 1;apply Array.ext';simp only at e1 e2;rw[e1,e2]
   rw[this]
  .cases h
 .rfl
 .rfl
 .cases h
def Ww7:List Value->List Value->Bool
 | [],[]=>true
 |x::l,y::m=>zv1 x y&&Ww7 l m
 |_,_=>false
theorem WnO:∀(l m:List Value),Ww7 l m=true->l=m
 | [],[],_=>rfl
 | [],_::_,h=>by cases h
 |_::_,[],h=>by cases h
 |x::l,y::m,h=>by
  simp only[Ww7,Xi]at h;rw[Wux x y h.1,WnO l m h.2]
def Wgm:List Field->List (Nat×TypeId)->Bool
 | [],[]=>true
 |f::l,p::m=>Xav f.offset p.1&&Xav f.type p.2&&(f.name != "_")&&Wgm l m
 |_,_=>false
def Ws9(P:Program)(T:Tab)(t:TypeId)(te:TE):Bool:=match te.shape with
 | .basic=>!te.agg&&(match te.ty with
  | .int k=>match P.underlying t with|some (.int k')=>decide (k'=k)|_=>false
  | .bool=>match P.underlying t with|some .bool=>true|_=>false
  | .str=>match P.underlying t with|some .string=>true|_=>false
  |_=>false)
 | .slice e=>!te.agg&&(match P.underlying t with|some (.slice e')=>Xav e' e|_=>false)&&(match Wn T e with|some dW=>decide (te.ty= .slice dW.ty)|none=>false)
 | .struct fs=>te.agg&&(match P.underlying t with|some (.struct fields)=>Wgm fields.toList fs|_=>false)&& !P.stoodInHeld t&& !P.eqGuardType P.depth t
 | .ptr e=>!te.agg&&(match P.underlying t with|some (.pointer e')=>Xav e' e|_=>false)
 | .arr n e=>te.agg&&(match P.underlying t with|some (.array n' e')=>Xav n' n&&Xav e' e|_=>false)&&(match Wn T e with|some dW=>decide (dW.ty=te.ty)&&dW.plain|none=>false)
def WoC(P:Program)(t:TypeId)(te:TE):Bool:=match P.info? t with
 |some i=>match i.zero with
  |some z=>Xav i.size te.size&&Ww7 z.cells.toList te.cells&&Xhf i.bytes 4096
  |none=>false
 |none=>false
def WmV(P:Program)(T:Tab):Tab->Bool
 | []=>true
 |(t,te)::l=>Ws9 P T t te&&WoC P t te&&WmV P T l
theorem WfB:∀(l:List Field) (m:List (Nat×TypeId)),Wgm l m=true→l.map (λf=>(f.offset,f.type))=m∧∀f∈l,f.name≠ "_"
 | [],[],_=>⟨rfl,by simp⟩
 | [],_::_,h=>by cases h
 |_::_,[],h=>by cases h
 |f::l,p::m,h=>by
  simp only[Wgm,Xi,bne_iff_ne,ne_eq]at h;obtain⟨⟨⟨h1,h2⟩,h3⟩,h4⟩:=h;obtain⟨h5,h6⟩:=WfB l m h4;have h1:f.offset=p.1:=by simpa using h1
  have h2:f.type=p.2:=by simpa using h2
  refine⟨by rw[Xaf,h5,h1,h2],λg hg=>?_⟩;rcases Xs.1 hg with hg|hg
  .subst hg;exact h3
  .exact h6 g hg
theorem Wou{P:Program}{T:Tab}{t:TypeId}{te:TE}(h:Ws9 P T t te=true)(hi:WoC P t te=true):TEok P T t te:=by
 obtain⟨ty,agg,shape⟩:=te;refine⟨?_,?_⟩
 .unfold Ws9 at h;cases shape with
  |basic=>
   simp only[Xi,Xai]at h⊢;refine⟨h.1,?_⟩;have h:=h.2;cases ty with
   |int k=>
    simp only at h⊢;split at h
    .rename_i k' hu;simp only[Wi]at h;rw[hu,h]
    .cases h
   |bool=>
    simp only at h⊢;split at h
    .assumption
    .cases h
   |str=>
    simp only at h⊢;split at h
    .assumption
    .cases h
   |slice e=>cases h
   |own e=>cases h
   |prod a b=>cases h
  |slice e=>
   simp only[Xi,Xai]at h⊢;obtain⟨⟨h1,h2⟩,h3⟩:=h;refine⟨h1,?_,?_⟩
   .split at h2
    .rename_i e' hu;rw[hu];have:e'=e:=by simpa using h2
     rw[this]
    .cases h2
   .split at h3
    .rename_i dW hl;exact⟨dW,hl,by simpa using h3⟩
    .cases h3
  |struct fs=>
   simp only[Xi,Xai]at h⊢;obtain⟨⟨⟨h1,h2⟩,h3⟩,h4⟩:=h;refine⟨h1,?_⟩;split at h2
   .rename_i fields hu;obtain⟨h5,h6⟩:=WfB _ _ h2;exact⟨fields,hu,h5,λf hf=>h6 f (by simpa using hf),h3,h4⟩
   .cases h2
  |ptr e=>
   simp only[Xi,Xai]at h⊢;refine⟨h.1,?_⟩;have h:=h.2;split at h
   .rename_i e' hu;rw[hu];have:e'=e:=by simpa using h
    rw[this]
   .cases h
  |arr n e=>
   simp only[Xi]at h⊢;obtain⟨⟨h1,h2⟩,h3⟩:=h;refine⟨h1,?_,?_⟩
   .split at h2
    .rename_i n' e' hu;simp only[Xi]at h2;have e1:n'=n:=by simpa using h2.1
     have e2:e'=e:=by simpa using h2.2
     rw[hu,e1,e2]
    .cases h2
   .split at h3
    .rename_i dW hl;simp only[Xi,Wi]at h3;refine⟨dW,hl,h3.1,λm f hs=>?_⟩;have:=h3.2;unfold TE.plain at this;rw[hs]at this;cases this
    .cases h3
 .unfold WoC at hi;split at hi
  .rename_i i wM;split at hi
   .rename_i z hz;simp only[Xi]at hi;obtain⟨⟨h1,h2⟩,h3⟩:=hi;exact⟨i,z,wM,by simpa using h1,hz,WnO _ _ h2,Xel h3⟩
   .cases hi
  .cases hi
theorem Wwy{P:Program}{T:Tab}(h:WmV P T T=true):Wai P T:=by
 have key:∀l,WmV P T l=true->∀t te,Wn l t=some te->TEok P T t te:=by
  intro l
  induction l with
  |nil=>intro _ t te hl;cases hl
  |cons p l ih=>
   intro hc t te hl;obtain⟨t',dW⟩:=p;simp only[WmV,Xi]at hc;rw[WG]at hl;split at hl
   .rename_i e;subst e;injection hl with hl;subst hl;exact Wou hc.1.1 hc.1.2
   .exact ih hc.2 t te hl
 exact key T h
theorem Wpn{P:Program}:WdJ P []:=λk sg h=>by cases h
theorem Wxi{P:Program}{k:FuncId}{s:Sig}(hi:s.inl=none)(h:Wwi P k s):WoJ P k s:=by
 unfold WoJ;rw[hi];exact h
theorem WtM{P:Program}{Γ:Ctx}{k:FuncId}{sg:Sig}(hg:WoJ P k sg)(hc:WgS P k)(h:WdJ P Γ):WdJ P ((k,sg)::Γ):=λk' wN hl=>by
 simp only[Wn]at hl;split at hl
 .rename_i e;have:k=k':=by simpa using e
  subst this;injection hl with hl;subst hl;exact⟨hg,hc⟩
 .exact h k' wN hl
def Wo4(f:Func):Bool:=f.body.isSome&& !(f.name== "runtime.NumGoroutine")
theorem Wd2{P:Program}{k:FuncId}{f:Func}(hf:P.funcs[k]?=some f)(h:Wo4 f=true):WgS P k:=by
 simp only[Wo4,Xi,Xai]at h;refine⟨f,hf,?_,h.2⟩;cases hb:f.body with
 |none=>rw[hb]at h;cases h.1
 |some c=>rfl
def WjE(f:Func)(ps:List PTy):Bool:=match f.body with
 |some c=>Wdi f.ntmps (Weo ps 0 0) c&&Xhf (WbS ps) f.ntmps&&WcD ps
 |none=>false
theorem Wse{P:Program}{T:Tab}{Γ:Ctx}(hM:P.follows .mixedOrders=true)(hT:Wai P T)(hΓ:WdJ P Γ){f:Func}{k:FuncId}(hf:P.funcs[k]?=some f){sg:Sig}(ci:WjE f sg.ps=true){ann:Nat->List Ghost}
  (h:∀d o,sg.run d=some o->∃N,den T Γ ann N sg f d some=some o):Wwi P k sg:=by
 unfold WjE at ci;split at ci
 .rename_i c hb;simp only[Xi]at ci;exact Wvh hM hT hΓ hf hb ci.1.1 ci.2 (Xel ci.1.2) h
 .cases ci
end Go.Sx
namespace Go.Sx
def WfQ:Code->List Code
 | .seq a b=>WfQ a++WfQ b
 | .cond _ a b=>WfQ a++WfQ b
 | .block _ c=>WfQ c
 | .loop c=>c::WfQ c
 |_=>[]
def Wop(f:Func):Code:=match f.body with
 |some c=>c
 |none=>.skip
def WrJ(f:Func)(i:Nat):Code:=(WfQ (Wop f)).getD i .skip
noncomputable def Wvw{R:Type}(T:Tab)(Γ:Ctx)(ann:Nat->List Ghost)(N:Nat):Code->List Nat->(Ex->St->Option R)->Ex->St->Option R
 | .seq a b,p,k=>match p with
  |0::p=>Wvw T Γ ann N a p λe af=>match e with
   | .normal=>sx T Γ ann N b af k
   | .exit id=>k (.exit id) af
   | .ret=>k .ret af
  |_::p=>Wvw T Γ ann N b p k
  | []=>k
 | .cond _ x y,p,k=>match p with
  |0::p=>Wvw T Γ ann N x p k
  |_::p=>Wvw T Γ ann N y p k
  | []=>k
 | .block id c,p,k=>match p with
  |_::p=>Wvw T Γ ann N c p λe af=>match e with
   | .exit cb=>if cb=id then k .normal af else k (.exit cb) af
   | .normal=>k .normal af
   | .ret=>k .ret af
  | []=>k
 |_,_,k=>k
def Wxz{R:Type}(gs:List Ghost)(L:St->(Ex->St->Option R)->Option R)(K:Ex->St->Option R):Ex->St->Option R:=λe st=>match e with
 | .normal=>match Wb5 gs st with
  |some (c,af)=>bif c then L af K else none
  |none=>none
 | .exit id=>K (.exit id) st
 | .ret=>K .ret st
abbrev vI(x:Int):AVal:=.s (.one (.val (.int .i64) x))
abbrev vB(x:Bool):AVal:=.s (.one (.val .bool x))
abbrev vV(t:Ty)(x:t.den):AVal:=.s (.one (.val t x))
abbrev vO(i:Nat):AVal:=.s (.one (.own i))
abbrev vP(i o:Nat):AVal:=.s (.one (.ptr i o))
abbrev Qs(s:Sig):=Wgb s.ps×WgX s.rs
structure Fn where
 F:Func
 a:Nat->List Ghost
 s:Nat->Sig
 c:Nat->Ctx
def Wv:Nat->List Ghost:=λ_=>[]
def WR:Nat->Ctx:=λ_=>[]
noncomputable def lpM{R:Type}(T:Tab)(Γ:Ctx)(ann:Nat->List Ghost)(N:Nat)(F:Func)(i k n:Nat)(st:St)(K:Ex->St->Option R):Option R:=Wo9 (Wk3 (ann k) λst k=>sx T Γ ann N (WrJ F i) st k) n st K
noncomputable def cxF(T:Tab)(Γ:Ctx)(ann:Nat->List Ghost)(N:Nat)(sg:Sig)(F:Func)(p:List Nat):Ex->St->Option (Qs sg):=Wvw (R:=Qs sg) T Γ ann N (Wop F) p (WxB T sg F.results.toList some)
noncomputable def cxL{R:Type}(T:Tab)(Γ:Ctx)(ann:Nat->List Ghost)(N:Nat)(F:Func)(i k:Nat)(p:List Nat)(n:Nat)(K:Ex->St->Option R):Ex->St->Option R:=Wvw T Γ ann N (WrJ F i) p (Wxz (ann k) (lpM T Γ ann N F i k n) K)
end Go.Sx
namespace Go.Sx
set_option linter.unusedVariables false
set_option linter.unusedSimpArgs false
def Wts{R:Type}(T:Tab)(rv:List ResultVar)(k:KV R)(e:Ex)(st:St):Option R:=match e with
 | .exit _=>none
 |_=>match Wdu T st rv with
  |some [x]=>k x st.objs st.nx
  |_=>none
def Ghost.opens:Ghost->Bool
 | .unfC _ _ _=>true
 |_=>false
def Wfz(ann:Nat->List Ghost):Code->Bool
 | .skip| .ret=>true
 | .region id ops draw=>(ann id).all Ghost.opens&&(!draw||decide ((Wrx (WcU ops.toList []) ops.size (WdM ops.toList 0)).length<=1))
 | .seq a b=>Wfz ann a&&Wfz ann b
 |_=>false
section
variable{T:Tab}{Γ:Ctx}{A:List (Nat×An)}{ops:Array Oper}{ann:Nat->List Ghost}{N:Nat}
theorem via{S R R':Type}{X:(Q:Type)->(S->Option Q)->Option Q}(hX:∀Q k,X Q k=(X S some).bind k){f:S->Option R}{g:S->Option R'}{h:R'->Option R}(e:∀s,f s=(g s).bind h):X R f=(X R' g).bind h:=by
 rw[hX R f,hX R' g,Xfi];congr 1;funext s;exact e s
theorem Wmc{R:Type}:∀(l:List Oper) (st:St) (k:St->Option R),rxs T Γ A ops l st k=(rxs T Γ A ops l st some).bind k
 | [],st,k=>rfl
 |o::l,st,k=>by
  simp only[rxs];refine via (X:=λQ k=>rxg T Γ A ops o st k) (λQ k=>Wic o st k) λaf=>?_;cases opG A o af with
  |none=>rfl
  |some p=>
   obtain⟨c,s⟩:=p;cases c with
   |false=>rfl
   |true=>exact Wmc l s k
theorem WlL{R:Type}{B:List (List Nat)}:∀(l:List Nat) (fl mu:List (Nat×List Nat)) (st:St) (k:St->Option R),rdx T Γ A ops B l fl mu st k=(rdx T Γ A ops B l fl mu st some).bind k
 | [],_,_,st,k=>rfl
 |i::l,fl,mu,st,k=>by
  simp only[rdx];cases ops[i]? with
  |none=>rfl
  |some o=>
   dsimp only;cases WaP o with
   |true=>
    simp only[Wb,Wbc];refine via (X:=λQ k=>rxg T Γ A ops o st k) (λQ k=>Wic o st k) λaf=>?_;generalize fl.all (λp=>WcR B p.1 i||Wf2 p.2 (WpT st.objs af.objs))=c;cases c with
    |false=>rfl
    |true=>exact WlL l _ _ af k
   |false=>
    simp only[Wa,Wbc];generalize mu.all (λp=>WcR B p.1 i||Wf2 (WcE o st) p.2)=c;cases c with
    |false=>rfl
    |true=>
     simp only[Wb];refine via (X:=λQ k=>rxg T Γ A ops o st k) (λQ k=>Wic o st k) λaf=>?_;exact WlL l _ _ af k
theorem Wk6{R:Type}(h:(Wrx (WcU ops.toList []) ops.size (WdM ops.toList 0)).length<=1)(st:St)(k:St->Option R):WlH T Γ A ops st k=(WlH T Γ A ops st some).bind k:=by
 simp only[WlH,Wge];generalize WtH ops (WcU ops.toList [])=c;cases c with
 |false=>rfl
 |true=>
  simp only[Wb];generalize Wrx (WcU ops.toList []) ops.size (WdM ops.toList 0)=l at h
  match l,h with
  | [],_=>rfl
  | [σ],_=>
   simp only[WvN,Wbc];generalize (Wix ops (WiA ops.toList (WcU ops.toList []) ops.size [] σ) []&&_)=c;cases c with
   |false=>rfl
   |true=>exact WlL _ _ _ _ _
theorem Wik{R:Type}:∀(c:Code),Wfz ann c=true->∀(st:St) (k:Ex->St->Option R),sx T Γ ann N c st k=(sx T Γ ann N c st λe s=>some (e,s)).bind λp=>k p.1 p.2
 | .skip,_,st,k=>rfl
 | .ret,_,st,k=>rfl
 | .seq a b,h,st,k=>by
  simp only[Wfz,Xi]at h;simp only[sx];refine via (X:=λQ k=>sx T Γ ann N a st λe s=>k (e,s)) (λQ k=>Wik a h.1 st λe s=>k (e,s)) (f:=λp=>match p.1 with
   | .normal=>sx T Γ ann N b p.2 k
   | .exit id=>k (.exit id) p.2
   | .ret=>k .ret p.2) (g:=λp=>match p.1 with
   | .normal=>sx T Γ ann N b p.2 λe s=>some (e,s)
   | .exit id=>some (.exit id,p.2)
   | .ret=>some (.ret,p.2)) λp=>?_
  obtain⟨e,s⟩:=p;cases e with
  |normal=>exact Wik b h.2 s k
  |exit _=>rfl
  |ret=>rfl
 | .region id ops draw,h,st,k=>by
  simp only[Wfz,Xi,Xce,Xai,Wi]at h;simp only[sx];have e:∀af:St,(match Wb5 (ann id) af with|some (c,bP)=>bif c then k .normal bP else none|none=>none)
    =(match Wb5 (ann id) af with|some (c,bP)=>bif c then some (Ex.normal,bP)else none|none=>none).bind λp=>k p.1 p.2:=λaf=>by
   cases Wb5 (ann id) af with
   |none=>rfl
   |some p=>
    obtain⟨c,s⟩:=p;cases c<;>rfl
  cases draw with
  |true=>
   simp only[Wb];exact via (X:=λQ k=>WlH T Γ (WjI (ann id)) ops st k) (λQ k=>Wk6 (h.2.resolve_left (by simp)) st k) e
  |false=>
   simp only[Wa];exact via (X:=λQ k=>rxs T Γ (WjI (ann id)) ops ops.toList st k) (λQ k=>Wmc _ st k) e
 | .cond ..,h,_,_| .block ..,h,_,_| .loop ..,h,_,_| .exit ..,h,_,_| .scope ..,h,_,_| .label ..,h,_,_| .goto ..,h,_,_| .rangeFunc ..,h,_,_| .refuse ..,h,_,_=>by cases h
def Fw(st af:St):Prop:=∃pre,af.objs=pre++st.objs
theorem Fw.refl(st:St):Fw st st:=⟨[],rfl⟩
theorem Fw.trans{a b c:St}(h:Fw a b)(g:Fw b c):Fw a c:=by
 obtain⟨p,h⟩:=h;obtain⟨q,g⟩:=g;exact⟨q++p,by rw[g,h,List.append_assoc]⟩
theorem WrY{o:Oper}{st af:St}(h:rx1 T Γ A o st some=some af):Fw st af:=by
 unfold rx1 at h;rw[We6]at h;obtain⟨p,h1,h2⟩:=Xau.1 h;obtain⟨pre,h3⟩:=WkK _ _ _ _ _ h1;injection h2 with h2;subst h2;exact⟨pre,by cases o.dst<;>exact h3⟩
theorem Wsm{o:Oper}{st af:St}(h:rxg T Γ A ops o st some=some af):Fw st af:=by
 unfold rxg at h;split at h
 .exact WrY h
 .split at h
  .split at h
   .injection h with h;subst h;exact⟨[],by rw[Wa9];rfl⟩
   .rename_i t _ x _ _;split at h
    .rename_i b _;cases b
     .simp only[Wa]at h;split at h
      .injection h with h;subst h;exact⟨[],by rw[Wa9,Wa9];rfl⟩
      .obtain⟨pre,hp⟩:=WrY h;exact⟨pre,by rw[hp,Wa9]⟩
     .simp only[Wb]at h;split at h
      .obtain⟨pre,hp⟩:=WrY h;exact⟨pre,by rw[hp,Wa9]⟩
      .injection h with h;subst h;exact⟨[],by rw[Wa9,Wa9];rfl⟩
    .cases h
   .cases h
  .cases h
theorem WrX{st af:St}{r:Nat}{ix:Option Nat}{c:Bool}(h:Wkl st r ix=some (c,af)):Fw st af:=by
 unfold Wkl at h;split at h
 .obtain⟨s,h1,h2⟩:=Xt.1 h;injection h2 with _ h2;subst h2;unfold WkV at h1;split at h1
  .injection h1 with h1;subst h1;exact⟨_::_::_,rfl⟩
  .cases h1
 .cases h
theorem Wt1{g:Ghost}(hq:g.opens=true){st af:St}{c:Bool}(h:Wen g st=some (c,af)):Fw st af:=by
 cases g<;>simp only[Ghost.opens,Xap]at hq;simp only[Wen]at h;split at h
 .split at h
  .split at h
   .exact WrX h
   .cases h
  .cases h
 .cases h
theorem Wnw:∀(l:List Ghost) (st af:St) (c:Bool),l.all Ghost.opens=true->Wb5 l st=some (c,af)->Fw st af
 | [],st,af,c,_,h=>by injection h with h;injection h with _ h;subst h;exact .refl _
 |g::l,st,af,c,hq,h=>by
  simp only[Xcc,Xi]at hq;simp only[Wb5]at h;split at h
  .rename_i c1 s hg;split at h
   .rename_i c2 s2 hl;injection h with h;injection h with _ h;subst h;exact(Wt1 hq.1 hg).trans (Wnw l _ _ _ hq.2 hl)
   .cases h
  .cases h
theorem WkG:∀(l:List Ghost),l.all Ghost.opens=true->WjI l= []
 | [],_=>rfl
 |g::l,h=>by
  simp only[Xcc,Xi]at h;cases g<;>simp only[Ghost.opens,Xap,false_and]at h;exact WkG l h.2
theorem WuW:∀(l:List Oper) (st af:St),rxs T Γ [] ops l st some=some af->Fw st af
 | [],st,af,h=>by injection h with h;subst h;exact .refl _
 |o::l,st,af,h=>by
  simp only[rxs]at h;obtain⟨s,h1,h2⟩:=WgQ h;have e:opG [] o s=some (true,s):=by unfold opG;cases hd:o.dst<;>simp[Wwx,hd,Wn]
  rw[e]at h2;exact(Wsm h1).trans (WuW l s af h2)
theorem Ws7{B:List (List Nat)}:∀(l:List Nat) (fl mu:List (Nat×List Nat)) (st af:St),rdx T Γ A ops B l fl mu st some=some af->Fw st af
 | [],_,_,st,af,h=>by injection h with h;subst h;exact .refl _
 |i::l,fl,mu,st,af,h=>by
  simp only[rdx]at h;split at h
  .rename_i o _;cases hm:WaP o with
   |true=>
    rw[hm]at h;simp only[Wb]at h;obtain⟨s,h1,h2⟩:=WgQ h;rw[Wbc]at h2;obtain⟨_,h2⟩:=W3 h2;exact(Wsm h1).trans (Ws7 l _ _ s af h2)
   |false=>
    rw[hm]at h;simp only[Wa,Wbc]at h;obtain⟨_,h⟩:=W3 h;obtain⟨s,h1,h2⟩:=WgQ h;exact(Wsm h1).trans (Ws7 l _ _ s af h2)
  .cases h
theorem WtQ(hl:(Wrx (WcU ops.toList []) ops.size (WdM ops.toList 0)).length<=1){st af:St}(h:WlH T Γ A ops st some=some af):Fw st af:=by
 simp only[WlH,Wge]at h;obtain⟨_,h⟩:=W3 h;generalize Wrx (WcU ops.toList []) ops.size (WdM ops.toList 0)=l at hl h
 match l,hl with
 | [],_=>cases h
 | [σ],_=>
  simp only[WvN,Wbc]at h;obtain⟨_,h⟩:=W3 h;exact Ws7 _ _ _ _ _ h
theorem Wv5:∀(c:Code),Wfz ann c=true->∀(st af:St) (e:Ex),sx T Γ ann N c st (λe s=>some (e,s))=some (e,af)->Fw st af
 | .skip,_,st,af,e,h=>by injection h with h;injection h with _ h;subst h;exact .refl _
 | .ret,_,st,af,e,h=>by injection h with h;injection h with _ h;subst h;exact .refl _
 | .seq a b,hl,st,af,e,h=>by
  simp only[Wfz,Xi]at hl;simp only[sx]at h;rw[Wik a hl.1]at h;obtain⟨⟨e1,s⟩,h1,h2⟩:=Xau.1 h;refine(Wv5 a hl.1 _ _ _ h1).trans ?_;cases e1 with
  |normal=>exact Wv5 b hl.2 _ _ _ h2
  |exit id=>injection h2 with h2;injection h2 with _ h2;subst h2;exact .refl _
  |ret=>injection h2 with h2;injection h2 with _ h2;subst h2;exact .refl _
 | .region id ops draw,hl,st,af,e,h=>by
  simp only[Wfz,Xi,Xce,Xai,Wi]at hl;simp only[sx,WkG _ hl.1]at h;have key:∀s:St,(match Wb5 (ann id) s with|some (c,bP)=>bif c then some (Ex.normal,bP)else none|none=>none)=some (e,af)->Fw s af:=λs h=>by
   split at h
   .rename_i c s2 hg;obtain⟨_,h⟩:=W3 h;injection h with h;injection h with _ h;subst h;exact Wnw _ _ _ _ hl.1 hg
   .cases h
  cases draw with
  |true=>
   simp only[Wb]at h;have h1:=hl.2.resolve_left (by simp);rw[Wk6 h1]at h;obtain⟨s,h2,h3⟩:=Xau.1 h;exact(WtQ h1 h2).trans (key s h3)
  |false=>
   simp only[Wa]at h;rw[Wmc]at h;obtain⟨s,h2,h3⟩:=Xau.1 h;exact(WuW _ _ _ h2).trans (key s h3)
 | .cond ..,h,_,_,_,_| .block ..,h,_,_,_,_| .loop ..,h,_,_,_,_| .exit ..,h,_,_,_,_| .scope ..,h,_,_,_,_| .label ..,h,_,_,_,_| .goto ..,h,_,_,_,_| .rangeFunc ..,h,_,_,_,_| .refuse ..,h,_,_,_,_=>by cases h
theorem Ws4{R:Type}{rv:List ResultVar}(k:KV R)(e:Ex)(st:St):Wts T rv k e st=(Wts T rv Wby e st).bind λp=>k p.1 p.2.1 p.2.2:=by
 unfold Wts;cases e with
 |exit _=>rfl
 |normal|ret=>all_goals
  cases Wdu T st rv with
  |none=>rfl
  |some l=>match l with
   | []=>rfl
   | [x]=>rfl
   |_::_::_=>rfl
end
noncomputable def Wtb(T:Tab)(ann:Nat->List Ghost)(n:Nat)(c:Code)(rv:List ResultVar)(R:Type)(st:St)(k:KV R):Option R:=
 bif Xhf st.env.length n then sx T [] ann 0 c st (Wts T rv k)else none
noncomputable def Inl.of(T:Tab)(ann:Nat->List Ghost)(n:Nat)(c:Code)(rv:List ResultVar)(h:Wfz ann c=true):Inl where
 fn:=Wtb T ann n c rv
 law R st k:=by
  unfold Wtb;cases Xhf st.env.length n with
  |false=>rfl
  |true=>
   simp only[Wb];exact via (X:=λQ k=>sx T [] ann 0 c st λe s=>k (e,s)) (λQ k=>Wik c h st λe s=>k (e,s)) (f:=λp=>Wts T rv k p.1 p.2) (g:=λp=>Wts T rv Wby p.1 p.2) λp=>Ws4 _ _ _
 suf st x objs nx hh:=by
  unfold Wtb at hh;obtain⟨_,hh⟩:=W3 hh;rw[Wik c h]at hh;obtain⟨⟨e,s⟩,h1,h2⟩:=Xau.1 hh;obtain⟨pre,h3⟩:=Wv5 c h _ _ _ h1;refine⟨pre,?_⟩;rw[←h3];simp only[Wts]at h2;split at h2
  .cases h2
  .split at h2
   .injection h2 with h2;exact(Wm (λp:Out=>p.2.1) h2).symm
   .cases h2
noncomputable def Sig.inline(i:Inl):Sig:=⟨[],[],λ_ _ _=>none,λ_=>none,λ_ _ _=>rfl,some i⟩
theorem Ghost.opens_quiet{l:List Ghost}(h:l.all Ghost.opens=true):l.all Ghost.quiet=true:=by
 rw[Xad]at h⊢;intro g hg;have:=h g hg;cases g<;>simp_all [Ghost.opens,Ghost.quiet]
theorem WtX{P:Program}{T:Tab}(hM:P.follows .mixedOrders=true)(hT:Wai P T){f:Func}{k:FuncId}{c:Code}{ann:Nat->List Ghost}(hf:P.funcs[k]?=some f)(hb:f.body=some c)
  (ci:Wdi f.ntmps [] c=true) (hl:Wfz ann c=true) (ha:∀id,(ann id).all Ghost.opens=true):WwC P k (Inl.of T ann f.ntmps c f.results.toList hl):=by
 intro st vs out bh ad w0 F G0 G ν ex w henv hh gx fH;have bh:Wtb T ann f.ntmps c f.results.toList Out st Wby=some out:=bh;unfold Wtb at bh;obtain⟨hn,bh⟩:=W3 bh;have hn:=Xel hn;refine calls_of_wp hf hb ?_;have hr:Rel w0 F ⟨f.ntmps,[],ex⟩ G0 G ν st {tmps:=vs.toArray++Xdi (f.ntmps-vs.toArray.size) undef,defers:=[]} w:=
  ⟨rfl,by simp;omega,λp hp=>by simp at hp,λi x hx=>by
   obtain⟨v,hv,hx⟩:=henv i x hx;refine⟨v,?_,hx⟩;have ac:=(Xab.1 hv).1;rw[Xfe (by simpa using ac)];simpa using hv,hh,gx,fH⟩
 suffices hk:∀e,WrB w0 F ⟨f.ntmps,[],ex⟩ G0 (Wts T f.results.toList Wby e) out (bodyPost P f (λe w'=>∃rv G' ν',e= .returned rv/\AValRel G' ν' out.2.2 out.1 rv/\HRel w0 F G' ν' out.2.1 out.2.2 w'/\GExt w0.heap.size F G0 G'/\∀x v,ex x v->AValRel G' ν' out.2.2 x v) e.to)from
  WnQ (nt:=⟨f.ntmps,[],ex⟩) hM hT Wpn (n:=f.ntmps) rfl (λp hp=>by simp at hp) (.inr λid=>Ghost.opens_quiet (ha id)) c ci hk _ _ _ _ _ hr bh
 intro e af a w' G1 ν1 gK hk;have eJ:∀x,Wdu T af f.results.toList=some [x]->Wby x af.objs af.nx=some out->a.defers= []/\∃v,(results f a.tmps).run P w'= .ok v w'/\∃rv G' ν',Ending.returned v= .returned rv/\AValRel G' ν' out.2.2 out.1 rv/\HRel w0 F G' ν' out.2.1 out.2.2 w'/\GExt w0.heap.size F G0 G'/\∀x v,ex x v->AValRel G' ν' out.2.2 x v:=λx hx ho=>by
  injection ho with ho;subst ho;obtain⟨rv,mO,mP,mQ⟩:=Wid hT gK _ _ hx;obtain⟨v,rfl⟩:∃v,rv= [v]:=by
   match rv,mP with
   | [v],_=>exact⟨v,rfl⟩
  refine⟨gK.defers,v,?_,v,G1,ν1,rfl,mQ 0 x v rfl rfl,gK.h,gK.gx,gK.ex⟩;show(do let vs←f.results.mapM (Wjv a.tmps);pure (if h:vs.size=1 then vs[0]else .tuple vs):Sem Value).run P w'=_;have gL:(f.results.mapM (Wjv a.tmps)).run P w'= .ok [v].toArray w':=by
   rw[Xdz,Sem.run_map,mO];rfl
  rw[Sem.run_bind,gL];simp only[Result.andThen_ok,Sem.run_pure];rfl
 cases e with
 |exit id=>cases hk
 |normal|ret=>all_goals
  simp only[Wts]at hk;split at hk
  .rename_i x hx;exact eJ x hx hk
  .cases hk
end Go.Sx
namespace Go.Sx
open Go.ChangeShapes Go.WideShapes Go.ChangeAt Go.RowKit
set_option linter.unusedVariables false
set_option linter.unusedSimpArgs false
def Wfd:(t:Ty)->t.den->Prop
 | .int k,n=>(Lit.int k n).wf=true
 | .bool,_=>True
 | .str,s=>Xb s<=maxLen
 | .slice e,l=>Xb l<=maxLen/\∀x,List.Mem x l->Wfd e x
 | .own _,_=>False
 | .prod a b,d=>Wfd a d.1/\Wfd b d.2
def WgU:(t:Ty)->t.den->Nat
 | .int _,_=>1
 | .bool,_=>1
 | .str,s=>Xb s+1
 | .slice e,l=>(List.map (WgU e) l).sum+1
 | .own _,_=>0
 | .prod a b,d=>WgU a d.1+WgU b d.2
structure Bulk{H:Type}(β:DataW H->Nat):Prop where
 lit:∀l,1<=β (.lit l)
 str:∀s,s.length+1<=β (.lit (.string s))
 nil:1<=β .nil
 slice:∀es sp,(es.map β).sum+1<=β (.slice es sp)
 agg:∀ps,(ps.map β).sum<=β (.agg ps)
def Wkp(T:Tab):List (Nat×TypeId)->Nat->Option (List Ty)
 | [],_=>some []
 |(o,ft)::fs,off=>match Wn T ft with
  |some te=>bif Xav o off&&te.plain then(Wkp T fs (off+te.ty.size)).map (te.ty:: ·)else none
  |none=>none
def Wet:List Ty->Ty
 | []=>.bool
 | [t]=>t
 |t::ts=>.prod t (Wet ts)
def WoS(T:Tab):Nat->TypeId->Bool
 |0,_=>false
 |n+1,t=>match Wn T t with
  |some te=>match te.shape with
   | .basic=>match te.ty with
    | .int _=>true
    | .bool=>true
    | .str=>true
    | .slice _=>false
    | .own _=>false
    | .prod _ _=>false
   | .slice e=>WoS T n e&&(match Wn T e with|some dW=>dW.plain|none=>false)
   | .struct fs=>fs.all (λf=>WoS T n f.2)&&(match Wkp T fs 0 with
    |some (t::ts)=>decide (te.ty=Wet (t::ts))
    |_=>false)
   | .ptr _=>false
   | .arr _ _=>false
  |none=>false
section
variable{P:Program}{T:Tab}{H:Type}{enc:TypeId×Value->H}{β:DataW H->Nat}{w:World}
theorem Wg7{t:TypeId}{te:TE}(h:TEok P T t te):P.cellsOf t=te.size:=by
 obtain⟨i,z,hi,hs,_⟩:=h.info;unfold Program.cellsOf;rw[hi];exact hs
def Wjp(w:World):GH:=λb o=>w.cell? ⟨b,o,none⟩
theorem WsT{b:Nat}{a:Addr}{n:Nat}{cs:List Value}(h:w.cells? b a n=some cs):cs.length=n/\∀(j:Nat) (v:Value),cs[j]?=some v->w.cell? (a.add j)=some v:=by
 unfold World.cells? at h;split at h
 .refine⟨by simpa using mapM_some_length h,λj v hj=>?_⟩;have ac:j<n:=by
   have:=mapM_some_length h;have h2:=(Xab.1 hj).1;simp at this;omega
  have:=mapM_some_get h j j (by simp[ac]);rw[this];exact hj
 .cases h
theorem Wp8{e:Ty}{a:Addr}(n:Nat)(hn:0<n):∀(k:Nat) (i0:Nat) (el:Nat->Option (DataW H×List MemPlace)) (f:List Value->Option (DataW H×List MemPlace)),
  (∀cs y,f cs=some y->∃d:e.den,Enc (Wjp w) e d cs/\Wfd e d/\WgU e d<=β y.1)->
  (∀i,i0<=i->i<i0+k->∃y cs,w.cells? 0 (a.add (i*n)) n=some cs/\f cs=some y/\el i=some y)->
  ∃(l:List e.den) (cs:List Value),l.length=k/\Wef (Enc (Wjp w) e) l cs/\(∀x∈l,Wfd e x)/\(∀(j:Nat) (v:Value),cs[j]?=some v->w.cell? (a.add (i0*n+j))=some v)/\
   cs.length=k*n/\(l.map (WgU e)).sum<=((Xcu k).map λi=>match el (i0+i)with|some y=>β y.1|none=>0).sum
 |0,i0,el,f,hf,he=>⟨[],[],rfl,rfl,by simp,by simp,by simp,by simp⟩
 |k+1,i0,el,f,hf,he=>by
  obtain⟨y,c1,h1,h2,h3⟩:=he i0 (Xm _) (by omega);obtain⟨d,rV,kc,hd3⟩:=hf _ _ h2;obtain⟨l,cs,g1,g2,g3,g4,g5,g6⟩:=Wp8 n hn k (i0+1) el f hf (λi hi1 rW=>he i (by omega) (by omega));obtain⟨hl,hg⟩:=WsT h1;refine⟨d::l,c1++cs,by simp[g1],⟨c1,cs,rfl,rV,g2⟩,λx hx=>?_,λj v hj=>?_,?_,?_⟩
  .rcases Xs.1 hx with rfl|hx
   .exact kc
   .exact g3 x hx
  .rw[Xar]at hj;split at hj
   .have:=hg j v hj;rw[Addr.add_add]at this;exact this
   .rename_i ac;have:=g4 _ v hj;rw[hl]at this ac;have e:(i0+1)*n+(j-n)=i0*n+j:=by rw[Xcs];omega
    rw[e]at this;exact this
  .rw[Xaa,hl,g5,Xcs];omega
  .rw[List.range_succ_eq_map,Xaf,Xaf,Xcn,Xcn,Xdm];simp only[Xbe,h3];have:((λi=>match el (i0+i)with|some y=>β y.1|none=>0)∘Nat.succ)= λi=>match el (i0+1+i)with|some y=>β y.1|none=>0:=by
    funext i;simp only[Function.comp,Nat.succ_eq_add_one];rw[show i0+(i+1)=i0+1+i by omega]
   rw[this];omega
theorem WvT{β':DataW H×List MemPlace->Nat}(xs:List (DataW H×List MemPlace)):((Xcu xs.length).map λi=>match xs[0+i]? with|some y=>β' y|none=>0).sum=(xs.map β').sum:=by
 congr 1;apply List.ext_getElem
 .simp
 .intro i h1 h2;simp at h1;simp[h1]
theorem Wot{t:Ty}{ts:List Ty}(h:ts≠ []):Wet (t::ts)= .prod t (Wet ts):=by
 cases ts with
 |nil=>exact WD rfl h
 |cons _ _=>rfl
theorem WkI(hT:Wai P T)(hβ:Bulk β)(f:TypeId->List Value->Option (DataW H×List MemPlace)){cs:List Value}:∀(fs:List (Nat×TypeId)) (off:Nat) (ts:List Ty) (ys:List (DataW H×List MemPlace)),ts≠ []->Wkp T fs off=some ts->
  (∀fd∈fs,∀te cs y,Wn T fd.2=some te->f fd.2 cs=some y->∃d:te.ty.den,Enc (Wjp w) te.ty d cs/\Wfd te.ty d/\WgU te.ty d<=β y.1)->
  ys.length=fs.length->(∀(i:Nat) (fd:Nat×TypeId),fs[i]?=some fd->f fd.2 ((cs.drop fd.1).take (P.cellsOf fd.2))=ys[i]?)->cs.length=off+(Wet ts).size->
  ∃d:(Wet ts).den,Enc (Wjp w) (Wet ts) d (cs.drop off)/\Wfd (Wet ts) d/\WgU (Wet ts) d<=(ys.map λy=>β y.1).sum
 | [],off,ts,ys,bI,iJ,_,_,_,_=>by injection iJ with iJ;exact WD iJ.symm bI
 |(o,ft)::fs,off,ts,ys,bI,iJ,hf,ad,ut,bN=>by
  cases ys with
  |nil=>simp at ad
  |cons y ys=>
   simp only[Wkp]at iJ;split at iJ
   .rename_i te hl;obtain⟨hc,iJ⟩:=W3 iJ;simp only[Xi]at hc;have ho:o=off:=by simpa using hc.1
    obtain⟨uu,eK,rfl⟩:=Xt.1 iJ;have cj:P.cellsOf ft=te.ty.size:=by rw[Wg7 (hT _ _ hl),WY hc.2]
    have h0:=ut 0 (o,ft) rfl;simp only[Xdg,cj,ho]at h0;obtain⟨d1,e1,e2,e3⟩:=hf (o,ft) (Xj ..) te _ y hl h0;cases eY:fs with
    |nil=>
     subst eY;simp only[Wkp]at eK;injection eK with eK;subst eK;have rX:ys= []:=by cases ys with
      |nil=>rfl
      |cons _ _=>simp at ad
     subst rX;have rS:(cs.drop off).take te.ty.size=cs.drop off:=Xdj (by rw[List.length_drop,bN];simp[Wet]);rw[rS]at e1;exact⟨d1,e1,e2,by rw[Xaf,Xcg,Xcn,List.sum_nil,Xbe];exact e3⟩
    |cons g gs=>
     have oV:uu≠ []:=by
      rw[eY]at eK;obtain⟨o2,ft2⟩:=g;simp only[Wkp]at eK;split at eK
      .obtain⟨_,eK⟩:=W3 eK;obtain⟨x,_,rfl⟩:=Xt.1 eK;simp
      .cases eK
     have uv:=Wot (t:=te.ty) oV;obtain⟨d2,f1,f2,f3⟩:=WkI hT hβ f (cs:=cs) fs (off+te.ty.size) uu ys oV eK (λfd iB=>hf fd (Xf _ iB)) (by simpa using ad)
      (λi fd hi=>by have:=ut (i+1) fd (by simpa using hi);simpa using this) (by rw[bN,uv,Ty.size];omega)
     rw[uv];refine⟨(d1,d2),⟨_,_,?_,e1,f1⟩,⟨e2,f2⟩,?_⟩
     .rw[←List.drop_drop];exact(List.take_append_drop _ _).symm
     .simp only[WgU,Xaf,Xcn];omega
   .cases iJ
theorem WlN(hT:Wai P T)(hβ:Bulk β):∀(n fuel:Nat) (t:TypeId) (te:TE) (cs:List Value) (x:DataW H×List MemPlace),WoS T n t=true->Wn T t=some te->
  DataW.trod enc P w 0 (λ_=>true) true fuel t cs=some x->∃d:te.ty.den,Enc (Wjp w) te.ty d cs/\Wfd te.ty d/\WgU te.ty d<=β x.1
 |0,_,_,_,_,_,h,_,_=>by cases h
 |n+1,fuel,t,te,cs,x,h,hl,hx=>by
  have bQ:=hT _ _ hl;simp only[WoS,hl]at h;obtain⟨ty,agg,shape⟩:=te;cases shape with
  |basic=>
   have hu:=bQ.und.2;cases ty with
   |int k=>
    obtain⟨m,rfl,rfl,hw⟩:=DataW.trod_int hu hx;exact⟨m,rfl,hw,hβ.lit _⟩
   |bool=>
    obtain⟨b,rfl,rfl⟩:=DataW.trod_bool hu hx;exact⟨b,rfl,trivial,hβ.lit _⟩
   |str=>
    obtain⟨s,rfl,rfl,hs⟩:=DataW.trod_string hu hx;refine⟨s.data.toList,by simp[Enc],?_,hβ.str _⟩;show s.data.toList.length<=maxLen;rw[Array.length_toList];exact hs
   |slice e=>cases h
   |own e=>cases h
   |prod a b=>cases h
  |slice e=>
   simp only[Xi]at h;obtain⟨ha,hu,dW,bd,gU⟩:=bQ.und;simp only at gU;subst gU;have hp:dW.plain=true:=by have:=h.2;rw[bd]at this;exact this
   have cj:P.cellsOf e=dW.ty.size:=by rw[Wg7 (hT _ _ bd),WY hp]
   rcases DataW.trod_slice hu hx with⟨rfl,rfl⟩|⟨a,len,cap,elems,rest,m,rfl,rfl,rfl,hb,wO,iZ,rY,ot,gr,_⟩
   .exact⟨([]:List dW.ty.den),⟨_,rfl,.inl ⟨rfl,rfl⟩⟩,⟨by simp,λx hx=>by cases hx⟩,by simpa [WgU]using hβ.nil⟩
   .have key:=Wp8 (w:=w) (β:=β) (e:=dW.ty) (a:=a) dW.ty.size (WbW _) len 0 (λi=>elems[i]?) (λcs=>DataW.trod enc P w 0 (λ_=>true) true m e cs)
     (λcs y hy=>WlN hT hβ n m e dW cs y h.1 bd hy) (λi _ hi=>by
      rw[Xaw]at hi;have:=ot i hi;rw[cj]at this;have ac:i<elems.length:=by omega
      rw[Xq ac]at this;obtain⟨cs,h1,h2⟩:=Xau.1 this;exact⟨elems[i],cs,h1,h2,Xq ac⟩)
    obtain⟨l,cs,g1,g2,g3,g4,g5,g6⟩:=key;refine⟨l,⟨_,rfl,?_⟩,⟨by rw[g1];omega,g3⟩,?_⟩
    .by_cases h0:len=0
     .subst h0;exact .inr (.inr ⟨a,cap,rfl,Xx g1⟩)
     .have rc:0<cs.length:=by rw[g5];exact Nat.mul_pos (by omega) (WbW _)
      have oW:=g4 0 _ (Xq rc);have oX:a.spot=none:=by
       rw[Xeq,Xbe]at oW;have:=World.cell?_spot oW;simpa [Addr.add]using this
      obtain⟨b,off,spot⟩:=a;subst oX;refine .inr (.inl ⟨b,off,cap,cs,by rw[g1],by rw[g1];exact wO,iZ,g2,λj v hj=>?_⟩);have:=g4 j v hj;rw[Xeq,Xaw,Wa5]at this;exact this
    .have h1:=hβ.slice (elems.map (·.1)) (rest.map (·.1));have h2:((Xcu len).map λi=>match elems[0+i]? with|some y=>β y.1|none=>0).sum=(elems.map λy=>β y.1).sum:=by
      rw[←rY];exact WvT elems
     rw[h2]at g6;rw[Xdm]at h1;simp only[WgU];have h3:(List.map (β∘λx=>x.1) elems)=elems.map λy=>β y.1:=rfl;rw[h3]at h1;show(List.map (WgU dW.ty) l).sum+1<=_;omega
  |struct fs=>
   simp only[Xi]at h;obtain⟨ha,fields,hu,eY,uw,_⟩:=bQ.und;have h2:=h.2;split at h2
   .rename_i t1 ts wP;have gU:ty=Wet (t1::ts):=WaT h2;subst gU;obtain⟨xs,m,rfl,rfl,cP,gS,kV⟩:=DataW.trod_struct hu hx;have cj:P.cellsOf t=(Wet (t1::ts)).size:=by rw[Wg7 bQ];rfl
    have key:=WkI (w:=w) (P:=P) hT hβ (λt cs=>DataW.trod enc P w 0 (λ_=>true) true m t cs) (cs:=cs) fs 0 (t1::ts) xs (by simp) wP
     (λfd iB te cs y qu hy=>WlN hT hβ n m fd.2 te cs y (Xad.1 h.1 fd iB) qu hy) (by rw[gS,←eY];simp)
     (λi fd hi=>by
      rw[←eY]at hi;rw[Xaj]at hi;obtain⟨fl,gT,he⟩:=Xt.1 hi;subst he;exact kV i fl (by simpa using gT)) (by rw[cP,cj,Xaw])
    obtain⟨d,g1,g2,g3⟩:=key;rw[Xbk]at g1;refine⟨d,g1,g2,Xak g3 ?_⟩;have:=hβ.agg (xs.map (·.1));rw[Xdm]at this;exact this
   .cases h2
  |ptr e=>cases h
  |arr m e=>cases h
theorem WeE{G:GH}{w:World}:∀(t:Ty) (d:t.den) (vs:List Value),Enc G t d vs->Wy G w t d vs []
 | .int _,_,_,h=>⟨rfl,h⟩
 | .bool,_,_,h=>⟨rfl,h⟩
 | .str,_,_,h=>⟨rfl,h⟩
 | .slice _,_,_,h=>⟨rfl,h⟩
 | .own _,_,_,h=>h.elim
 | .prod a b,d,vs,⟨c1,c2,he,h1,h2⟩=>⟨c1,c2,[],[],he,rfl,WeE a _ _ h1,WeE b _ _ h2⟩
def Wqc:(ps:List PTy)->WfE ps->Prop
 | [],_=>True
 | .v t _::ps,d=>Wfd t d.1/\Wqc ps d.2
 | .box _::_,_=>False
 | .mut _::_,_=>False
 | .clos _ _::_,_=>False
 | .kv _ _::_,_=>False
 | .rp _::_,_=>False
 | .vj _::_,_=>False
 | .boxal _ _::_,_=>False
def WgC:(ps:List PTy)->WfE ps->Nat
 | [],_=>0
 | .v t _::ps,d=>WgU t d.1+WgC ps d.2
 | .box _::_,_=>0
 | .mut _::_,_=>0
 | .clos _ _::_,_=>0
 | .kv _ _::_,_=>0
 | .rp _::_,_=>0
 | .vj _::_,_=>0
 | .boxal _ _::_,_=>0
def Wwk(P:Program)(T:Tab):List TypeId->List PTy->Bool
 | [],[]=>true
 |t::ts,p::ps=>(match p with
  | .v ty agg=>(match Wn T t with|some te=>decide (te.ty=ty)&&(te.agg==agg)|none=>false)&&WoS T 20 t&&P.readableRec t&&Nat.blt t P.types.size&&Wwk P T ts ps
  | .box _=>false
  | .mut _=>false
  | .clos _ _=>false
  | .kv _ _=>false
  | .rp _=>false
  | .vj _=>false
  | .boxal _ _=>false)
 |_,_=>false
theorem Woa(hT:Wai P T)(hβ:Bulk β):∀(ts:List TypeId) (ps:List PTy) (vs:List Value) (ds:List (DataW H)) (pl:List MemPlace),Wwk P T ts ps=true->DataW.TrodAll enc P w 0 (λ_=>true) true ts vs ds pl->
  (∀(j:Nat) (t:TypeId) (v:Value),ts[j]?=some t->vs[j]?=some v->∃base,Value.okWide P w .any base t v)->
  ∃d:WfE ps,Wbn (Wjp w) w ps d vs [] []/\Wqc ps d/\WgC ps d<=(ds.map β).sum
 | [],[],vs,ds,pl,_,h,_=>by
  obtain⟨rfl,rfl,_⟩:=trodAll_nil h;exact⟨(),⟨rfl,rfl,rfl⟩,trivial,by simp[WgC]⟩
 | [],_::_,_,_,_,h,_,_=>by cases h
 |_::_,[],_,_,_,h,_,_=>by cases h
 |t::ts,.box _::ps,_,_,_,h,_,_=>by cases h
 |t::ts,.mut _::ps,_,_,_,h,_,_=>by cases h
 |t::ts,.clos _ _::ps,_,_,_,h,_,_=>by cases h
 |t::ts,.kv _ _::ps,_,_,_,h,_,_=>by cases h
 |t::ts,.rp _::ps,_,_,_,h,_,_=>by cases h
 |t::ts,.vj _::ps,_,_,_,h,_,_=>by cases h
 |t::ts,.boxal _ _::ps,_,_,_,h,_,_=>by cases h
 |t::ts,.v ty agg::ps,vs,ds,pl,hp,h,gB=>by
  obtain⟨v,au,d,oY,p,q,rfl,rfl,rfl,h0,hr⟩:=trodAll_cons h;simp only[Wwk,Xi]at hp;obtain⟨⟨⟨⟨h1,h2⟩,h3⟩,h4⟩,h5⟩:=hp;split at h1
  .rename_i te hl;simp only[Xi]at h1;have e1:te.ty=ty:=WaT h1.1;have e2:te.agg=agg:=eq_of_beq h1.2;subst e1 e2;obtain⟨fuel,hx⟩:=h0;obtain⟨x,oZ,ux,rZ⟩:=WlN hT hβ 20 fuel t te _ (d,p) h2 hl hx;obtain⟨base,ci⟩:=gB 0 t v rfl rfl;obtain⟨dd,g1,g2,g3⟩:=Woa hT hβ ts ps au oY q h5 hr (λj t v hj hv=>gB (j+1) t v (by simpa using hj) (by simpa using hv));refine⟨(x,dd),⟨v,au,[],[],rfl,rfl,?_,g1⟩,⟨ux,g2⟩,?_⟩
   .have hu:=(hT _ _ hl).und;unfold WjL;obtain⟨ty,ag,shape⟩:=te;simp only at oZ ux rZ⊢;have eG:∀u:Value,u.cells= #[u]->u=v->v.cells.toList= [v]:=λu h e=>by rw[←e,h]
    cases shape with
    |basic=>
     obtain⟨ha,hu⟩:=hu;simp only at ha;subst ha;simp only[Xap,Wat];have:v.cells.toList= [v]:=by
      cases ty with
      |int k=>obtain⟨n,rfl⟩:=okWide_int hu ci;rfl
      |bool=>obtain⟨n,rfl⟩:=okWide_bool hu ci;rfl
      |str=>obtain⟨n,rfl⟩:=okWide_string hu ci;rfl
      |slice e=>cases hu
      |own e=>cases hu
      |prod a b=>cases hu
     rw[this]at oZ;exact WeE _ _ _ oZ
    |slice e=>
     obtain⟨ha,hu,_⟩:=hu;simp only at ha;subst ha;simp only[Xap,Wat];obtain⟨a,l,c,rfl⟩:=okWide_slice hu ci;exact WeE _ _ _ oZ
    |struct fs=>
     obtain⟨ha,fields,hu,_⟩:=hu;simp only at ha;subst ha;simp only[W8];obtain⟨cs,rfl,_⟩:=okWide_struct hu ci;exact⟨cs.toList,by simp,WeE _ _ _ oZ⟩
    |ptr e=>simp only[WoS,hl]at h2;cases h2
    |arr m e=>simp only[WoS,hl]at h2;cases h2
   .have rZ:WgU te.ty x<=β d:=rZ;simp only[WgC,Xaf,Xcn];omega
  .cases h1
theorem Wnz:∀(ts:List TypeId) (vs:List Value) (ds:List (DataW H)) (pl:List MemPlace),DataW.TrodAll enc P w 0 (λ_=>true) true ts vs ds pl->ds.length=ts.length
 | [],vs,ds,pl,h=>by obtain⟨_,rfl,_⟩:=trodAll_nil h;rfl
 |t::ts,vs,ds,pl,h=>by
  obtain⟨v,au,d,oY,p,q,rfl,rfl,rfl,h0,hr⟩:=trodAll_cons h;simp[Wnz ts au oY q hr]
theorem Wm5(iO:laidOutB P=true){W W':World}(hb:Below W.heap.size W W'){sp:Nat->Bool}:∀(ts:List TypeId) (ps:List PTy) (vs:List Value) (ds:List (DataW H)) (pl:List MemPlace),Wwk P T ts ps=true->
  DataW.TrodAll enc P W 0 (λ_=>true) true ts vs ds pl->(∀p∈pl,p.block<W.heap.size)->(∀p∈pl,sp p.block=true)->DataW.TrodAll enc P W' 0 sp true ts vs ds pl
 | [],ps,vs,ds,pl,_,h,_,_=>by
  obtain⟨rfl,rfl,rfl⟩:=trodAll_nil h;exact trodAll_mk0
 |t::ts,[],_,_,_,h,_,_,_=>by cases h
 |t::ts,.box _::ps,_,_,_,h,_,_,_=>by cases h
 |t::ts,.mut _::ps,_,_,_,h,_,_,_=>by cases h
 |t::ts,.clos _ _::ps,_,_,_,h,_,_,_=>by cases h
 |t::ts,.kv _ _::ps,_,_,_,h,_,_,_=>by cases h
 |t::ts,.rp _::ps,_,_,_,h,_,_,_=>by cases h
 |t::ts,.vj _::ps,_,_,_,h,_,_,_=>by cases h
 |t::ts,.boxal _ _::ps,_,_,_,h,_,_,_=>by cases h
 |t::ts,.v ty agg::ps,vs,ds,pl,hp,h,ac,gr=>by
  obtain⟨v,au,d,oY,p,q,rfl,rfl,rfl,h0,hr⟩:=trodAll_cons h;simp only[Wwk,Xi]at hp;obtain⟨⟨⟨⟨h1,h2⟩,h3⟩,h4⟩,h5⟩:=hp;have bf:t<P.types.size:=by rw[Xhb]at h4;exact h4
  exact⟨p,q,WideElems.Trod_stays iO h3 bf h0 (λx hx=>hb.same (ac x (Xn _ hx))) (λx hx=>gr x (Xn _ hx)),
   Wm5 iO hb ts ps au oY q h5 hr (λx hx=>ac x (Xg _ hx)) (λx hx=>gr x (Xg _ hx)),rfl⟩
theorem Wt7{f:Func}{s:ChangeSpec}{Wjb fresh gi again:Bool}{W W':World}{args:Array Value}{v:Value}{ds gs:List (DataW H)}{before pa pv:List MemPlace}
  (hW:DataW.Whole enc P f.params.toList s.vars Wjb W args.toList ds gs before)
  (ie:∀(b:Nat) (sp:Nat->Bool) (hd:Bool),DataW.TrodAll enc P W' b sp hd f.resultTypes.toList (v.resultList f.resultTypes.size) (s.fn H (ds++gs)).results [])
  (aP:∀sp:Nat->Bool,(∀p∈before,sp p.block=true)->DataW.TrodAll enc P W' 0 sp true f.params.toList args.toList (s.fn H (ds++gs)).args pa)
  (mb:∀sp:Nat->Bool,(∀p∈before,sp p.block=true)->DataW.TrodVars enc P W' sp s.vars (s.fn H (ds++gs)).vars pv)
  (co:before=pa++pv) (hk:W.keptBut W' (· ∈before)) (o0:∀a,a.block<W.heap.size->W'.frozen? a=W.frozen? a)
  (ci:∀(j:Nat) (t:TypeId) (r:Value),f.resultTypes[j]?=some t->(v.resultList f.resultTypes.size)[j]?=some r->Value.okWide P W' .any 0 t r):
  s.post enc P f Wjb fresh gi again W args v W':=by
 have gF:∀p∈before,(λb=>decide (b<W.heap.size)) p.block=true:=λp hp=>by simpa using hW.lt p hp
 refine⟨ds,gs,before,[],pa,pv,hW,ie _ _ _,aP _ gF,mb _ gF,World.keptBut_mono (λp hp=>⟨hp,?_⟩) hk,λ_=>?_⟩
 .rw[co,Xo]at hp;exact Or.inr hp
 .have ac:=hW.lt;obtain⟨_,_,_,_,_,hz,hn⟩:=hW;refine⟨ci,_,_,([]++pa)++pv,⟨[]++pa,pv,trodAll_append (aP _ (λ_ _=>rfl)) (ie _ _ _),mb _ (λ_ _=>rfl),rfl,?_,?_⟩,?_⟩
  .intro b off hp;have eV:MemPlace.cell b off∈before:=by rw[co];simpa using hp
   rw[o0 ⟨b,off,none⟩ (ac _ eV)];exact hz b off eV
  .intro ha;have:=hn ha;rw[co]at this;simpa using this
  .intro p hp _;rw[co];simpa using hp
theorem law_row(hT:Wai P T)(iO:laidOutB P=true){f:Func}{k:FuncId}{s:ChangeSpec}(dI:s.vars= [])(hs:∀ds:List (DataW H),ds.length=f.params.toList.length->s.fn H ds={results:=[.lit (.bool true)],args:=ds})
  {ps:List PTy} (co:Wwk P T f.params.toList ps=true) {tb:TypeId} (ie:f.resultTypes= #[tb]) (uy:P.underlying tb=some .bool) {run:Nat->WfE ps->Option (Wgb ps×WgX [.v .bool false])}
  (db:∀N,Wwi P k (Sig.of ps [.v .bool false] (run N))) (hβ:Bulk β) {ok:List (DataW H)->Prop} {M:Nat->Prop} (pd:∀ds m,ok ds->m<=(ds.map β).sum->M m)
  (r9:∀d:WfE ps,Wqc ps d->M (WgC ps d)->∃N o,run N d=some (o,(true,()))) {Wjb fresh gi again:Bool}
  (W:World) (base:Nat) (args:Array Value) (ds gs:List (DataW H)) (before:List MemPlace)
  (gB:∀(j:Nat) t v,f.params[j]?=some t->args[j]?=some v->Value.okWide P W .any base t v)
  (hW:DataW.Whole enc P f.params.toList s.vars Wjb W args.toList ds gs before) (hk:ok ds):
  Calls P k args W λe W'=>∃v,e= .returned v/\s.post enc P f Wjb fresh gi again W args v W':=by
 have hW':=hW;have ac:=hW.lt;obtain⟨p,q,hA,hV,uz,o0,be⟩:=hW;rw[dI]at hV;obtain⟨wQ,hq⟩:=trodVars_none hV;subst wQ hq;rw[Xcp]at uz;subst uz;obtain⟨d,h1,h2,h3⟩:=Woa (w:=W) hT hβ f.params.toList ps args.toList ds before co hA (λj t v hj hv=>⟨base,gB j t v (by simpa using hj) (by simpa using hv)⟩);obtain⟨N,o,ho⟩:=r9 d h2 (pd ds _ hk h3);have hc:=db N d (o,(true,())) ho (Wjp W) W args.toList [] [] h1 List.Pairwise.nil (by simp) (λb o v hv=>hv);have aP:args.toList.toArray=args:=by simp
 rw[aP]at hc;refine hc.mono λe W' ⟨rv,kf,ms,cZ,G',he,ha⟩=>?_;have hb:Below W.heap.size W W':=⟨ha.le.os,ha.le.tape,ha.le.output,ha.le.size,λb hb=>ha.le.whole b hb (λo ⟨q,hq,_⟩=>by simp at hq)⟩;obtain⟨v,au,n1,n2,e1,e2,e3,e4⟩:=ha.res;obtain⟨e5,_⟩:=e4;subst e5;have hv:v= .bool true:=by
  unfold WjL at e3;simp only[Xap,Wat]at e3;have:=e3.2;simpa [Enc]using this
 subst hv;have kY:Wjq rv= .bool true:=by rw[e1];rfl
 rw[kY]at he;refine⟨.bool true,he,?_⟩;have ad:=Wnz _ _ _ _ hA;have sa:=hs (ds++ []) (by rw[Xcp];exact ad);refine Wt7 (pa:=before) (pv:=[]) hW' ?_ ?_ ?_ (by simp) (hb.frame _) (λa ha=>hb.frozen ha) (ok_one ie rfl (okWide_bool_mk uy _))
 .intro b sp hd;rw[sa,ie];exact trodAll_cons_mk (shut_bool uy _) trodAll_mk0
 .intro sp gr;rw[sa,Xcp];exact Wm5 iO hb _ _ _ _ _ co hA ac gr
 .intro sp gr;rw[sa,dI];rfl
end
end Go.Sx
namespace Go.Sx
set_option linter.unusedVariables false
end Go.Sx
namespace Go.Sx
set_option linter.unusedVariables false
def WlI{α:Type}(r:α->α->Bool):List α->Bool
 | []=>true
 |x::l=>l.all (r x)&&WlI r l
def WeG{α:Type}(cf:α->α->Int)(x y:α):Bool:=decide (cf x y<0)
def Wjb{α:Type}(cf:α->α->Int)(x y:α):Bool:=WeG cf x y||WeG cf y x
def Wev{α:Type}(cf:α->α->Int)(xs:List α):List α:=xs.mergeSort λx y=>!WeG cf y x
def Zqd{α:Type}(rng:α->Bool)(cf:α->α->Int)(N:Nat)(xs:List α):Option ((List α×Unit)×Unit):=
 bif xs.all rng&&(WlI (Wjb cf) xs&&decide (xs.length<4611686018427387904))then some ((Wev cf xs,()),())else none
structure SwoOn{α:Type}(rng:α->Bool)(cf:α->α->Int):Prop where
 irr:∀x,rng x=true->¬cf x x<0
 tr:∀x y z,rng x=true->rng y=true->rng z=true->cf x y<0->cf y z<0->cf x z<0
 nt:∀x y z,rng x=true->rng y=true->rng z=true->¬cf x y<0->¬cf y z<0->¬cf x z<0
theorem Wpm{α:Type}{rng:α->Bool}{cf:α->α->Int}{N:Nat}{xs:List α}{o:(List α×Unit)×Unit}(h:Zqd rng cf N xs=some o):
  (∀x∈xs,rng x=true)/\WlI (Wjb cf) xs=true/\xs.length<4611686018427387904/\o=((Wev cf xs,()),()):=by
 unfold Zqd at h;cases hb:xs.all rng&&(WlI (Wjb cf) xs&&decide (xs.length<4611686018427387904))
 .rw[hb]at h;cases h
 .rw[hb]at h;simp only[Wb]at h;injection h with h;simp only[Xi,Wi]at hb;exact⟨Xad.1 hb.1,hb.2.1,hb.2.2,h.symm⟩
theorem WnG{α:Type}{r:α->α->Bool}:∀{l:List α},WlI r l=true->∀(i j:Nat) (hi:i<l.length) (hj:j<l.length),i<j->r l[i] l[j]=true
 | [],_,i,_,hi,_,_=>by simp at hi
 |x::l,h,0,j+1,hi,hj,nJ=>by
  simp only[WlI,Xi]at h;exact Xad.1 h.1 _ (List.getElem_mem _)
 |x::l,h,i+1,j+1,hi,hj,nJ=>by
  simp only[WlI,Xi]at h;simpa using WnG h.2 i j (by simpa using hi) (by simpa using hj) (by omega)
def Wu2(k:Int):Bool:=decide (-1000000000<=k)&&decide (k<=1000000000)
def WwR(a:Int×Int×Int):Bool:=Wu2 a.1
def cfE(a b:Int×Int×Int):Int:=a.1-b.1
def WvO(a:Int×Int×Int):Bool:=Wu2 a.1&&Wu2 a.2.1
def cfH(a b:Int×Int×Int):Int:=bif a.2.1==b.2.1 then a.1-b.1 else a.2.1-b.2.1
theorem Whh{k:Int}(h:Wu2 k=true):-1000000000<=k/\k<=1000000000:=by unfold Wu2 at h;simpa using h
theorem WxL:SwoOn WwR cfE:=⟨λx _=>by unfold cfE;omega,λx y z _ _ _=>by unfold cfE;omega,λx y z _ _ _=>by unfold cfE;omega⟩
theorem Wbk{a b:Int×Int×Int}:cfH a b<0↔(a.2.1<b.2.1\/(a.2.1=b.2.1/\a.1<b.1)):=by
 unfold cfH;by_cases h:a.2.1=b.2.1
 .have:(a.2.1==b.2.1)=true:=by simpa using h
  rw[this];simp only[Wb];omega
 .have:(a.2.1==b.2.1)=false:=by simpa using h
  rw[this];simp only[Wa];omega
theorem WwG{a b:Int×Int×Int}(h:(a.2.1 !=b.2.1)=false):a.1-b.1=cfH a b:=by
 have h:a.2.1=b.2.1:=bne_eq_false_iff_eq.1 h;unfold cfH;rw[beq_iff_eq.2 h];rfl
theorem WwY{a b:Int×Int×Int}(h:(a.2.1 !=b.2.1)=true):a.2.1-b.2.1=cfH a b:=by
 have h:a.2.1≠b.2.1:=bne_iff_ne.1 h;unfold cfH;rw[beq_eq_false_iff_ne.2 h];rfl
theorem WxJ:SwoOn WvO cfH:=⟨λx _=>by rw[Wbk];omega,λx y z _ _ _=>by rw[Wbk,Wbk,Wbk];omega,λx y z _ _ _=>by rw[Wbk,Wbk,Wbk];omega⟩
end Go.Sx
