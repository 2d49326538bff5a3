/- The abstract machine, part 3: a reflective interpreter of the program's code over data, with its soundness over the model. -/
import Derived.Test.YtjcmdagkabkicaaGreatEng2
open Option renaming bind_assoc→Xfl,map→Xfn,bind_some→Xd,getD_some→Xdu,bind_eq_some_iff→Xav,map_eq_some_iff→Xt
open Bool renaming not_true→Xk,and_eq_true→Xi,not_eq_true'→Xaj,false_eq_true→Xai,or_eq_true→Xcd
open List renaming mem_map→Xw,mem_cons_of_mem→Xf,mem_append_left→Xn,mem_append_right→Xg,mem_cons→Xs,mem_cons_self→Xj,length_append→Xaa,getD_eq_getElem?_getD→Xbm,getElem?_append→Xas,getElem?_cons_zero→Xdg,getElem?_eq_none→Xbq,all_eq_true→Xad,append_of_mem→Xec,mem_append→Xo,range→Xcu,mem_filter→Xax,mem_range→Xdn,filter_cons→Xbj,eq_nil_of_length_eq_zero→Xx,eq_nil_iff_forall_not_mem→Xeo,nodup_nil→Xdd,mem_of_getElem?→Xar,nodup_cons→Xac,nil_append→Xbe,cons_append→Xbd,length_filter_le→Xem,length_range→Xfj,mem_flatMap→Xfv,map_cons→Xaf,map_map→Xdp,map_id→Xgx,map_congr_left→Xev,append_nil→Xcq,nodup_append→Xae,filter_append→Xcr,prefix_append→Xgr,map_append→Xz,map_nil→Xcg,mem_erase_of_ne→Xgn,length_erase_of_mem→Xfu,length_pos_of_mem→Xgc,length_cons→Xr,getElem?_cons_succ→Xef,getElem?_eq_some_iff→Xab,getElem?_append_right→Xbx,getElem?_tail→Xcf,mapM_cons→Xey,pairwise_singleton→Xbn,mem_singleton→Xag,take_of_length_le→Xdk,getElem?_eq_getElem→Xq,drop_zero→Xbk,tail_cons→Xed,getElem?_map→Xak,all_cons→Xbr,length→Xb,sum_cons→Xcn
open Nat renaming sub_self→Xcx,blt_eq→Xhd,le_refl→Xm,zero_add→Xau,zero_le→Xch,sub_zero→Xdf,beq→Xaw,le_trans→Xal,add_zero→Xbb,add_sub_cancel_left→Xbv,ble→Xhf,le_of_ble_eq_true→Xel,add_mul→Xcs,zero_mul→Xep
open Array renaming getD_eq_getD_getElem?→Xcp,getElem?_setIfInBounds→Xex,getElem?_eq_getElem→Xdb,getElem?_eq_some_iff→Xbw,replicate→Xdi,getElem?_append_left→Xff,mapM_eq_mapM_toList→Xdz
namespace Go.Sx
set_option linter.unusedVariables false
set_option linter.unusedSimpArgs false
section
variable{T:Tab}{Γ:Ctx}{A:List (Nat×An)}
theorem Wa0{α β:Type}{c:Prop}[Decidable c]{x:Option α}{f:α->Option β}:(if c then x else none).bind f=if c then x.bind f else none:=by split<;>rfl
theorem Wcq{α β:Type}{c:Bool}{x:Option α}{f:α->Option β}:(bif c then x else none).bind f=bif c then x.bind f else none:=by cases c<;>rfl
theorem Wf3{R:Type}(sg:Sig)(st:St)(xs:List AVal)(k:KV R):WfM sg st xs k=(WfM sg st xs WbF).bind λp=>k p.1 p.2.1 p.2.2:=by
 unfold WfM;split
 .split
  .rw[sg.law,sg.law,Xfl];rfl
  .rfl
 .rfl
theorem WqT{R:Type}(sg:Sig)(st:St)(xs:List AVal)(k:KV R):Wns sg st xs k=(Wns sg st xs WbF).bind λp=>k p.1 p.2.1 p.2.2:=by
 unfold Wns;cases sg.fresh with
 |true=>exact Wf3 _ _ _ _
 |false=>
  simp only[Wa];split
  .split
   .exact Wf3 _ _ _ _
   .exact Wf3 _ _ _ _
  .rfl
theorem Wm0{R:Type}(st:St)(te:Ty)(s x:AVal)(k:KV R):WeT st te s x k=(WeT st te s x WbF).bind λp=>k p.1 p.2.1 p.2.2:=by
 unfold WeT;split
 .split
  .split
   .split
    .rw[Wcq];rfl
    .rfl
   .rfl
  .rfl
 .split
  .split
   .split
    .rw[Wa0,Wcq];rfl
    .rfl
   .rfl
  .rfl
 .rfl
theorem WnC{R:Type}(st:St)(e:Ty)(ps:List (Nat×AVal))(k:KV R):WdI st e ps k=(WdI st e ps WbF).bind λp=>k p.1 p.2.1 p.2.2:=by
 unfold WdI;split
 .rw[Wa0];split
  .split
   .split
    .rw[Wa0];rfl
    .rfl
   .rfl
  .rfl
 .rfl
theorem Wo9{R:Type}(st:St)(te:Ty)(id:Nat)(l h:Option Int)(k:KV R):WfT st te id l h k=(WfT st te id l h WbF).bind λp=>k p.1 p.2.1 p.2.2:=by
 unfold WfT;split
 .rw[Wa0,Wcq];rfl
 .rfl
theorem Wmt{R:Type}(st:St)(t t2:TypeId)(s x:AVal)(k:KV R):Wem T st t t2 s x k=(Wem T st t t2 s x WbF).bind λp=>k p.1 p.2.1 p.2.2:=by
 unfold Wem;split
 .split
  .split
   .cases Wt9 st s x with
    |false=>exact Wm0 _ _ _ _ _
    |true=>
    simp only[Xk,Wa];split
    .rw[Wcq];rfl
    .split
     .split
      .rw[Wcq];rfl
      .rfl
     .rfl
    .split
     .split
      .rw[Wcq];rfl
      .rfl
     .rfl
    .rfl
   .rfl
  .rfl
 .rfl
theorem Wwx{R:Type}(p:Option (Bool×AVal))(objs:Waa)(nx:Nat)(k:KV R):(match p with|some (c,v)=>bif c then k v objs nx else none|none=>none)=(match p with|some (c,v)=>bif c then WbF v objs nx else none|none=>none).bind λp=>k p.1 p.2.1 p.2.2:=by
 rcases p with _|⟨c,v⟩
 .rfl
 .cases c<;>rfl
theorem Wfn{R:Type}(o:Oper)(st:St)(k:KV R):rxe T Γ A o st k=(rxe T Γ A o st WbF).bind λp=>k p.1 p.2.1 p.2.2:=by
 unfold rxe;split
 .split
  .rw[Wa0];rfl
  .rw[Wa0];rfl
  .rfl
 .split<;>rfl
 .split
  .split
   .split<;>rfl
   .rfl
  .rfl
 .split
  .split
   .split
    .rw[Wa0];split
     .exact WnC _ _ _ _
     .rfl
    .split
     .rw[Wa0];rfl
     .rfl
   .rfl
  .rfl
 .split
  .split
   .split
    .rw[Wa0,Wcq];rfl
    .rw[Wa0,Wcq];rfl
   .rfl
  .rfl
 .split
  .split
   .split<;>rfl
   .rfl
  .rfl
 .split
  .split
   .split
    .split
     .rw[Wa0];split
      .exact Wo9 _ _ _ _ _ _
      .rfl
     .split
      .rw[Wa0,Wcq];rfl
      .rw[Wa0,Wcq];rfl
      .rfl
    .rfl
   .rfl
  .exact Wwx _ _ _ _
 .split
  .split
   .exact Wmt _ _ _ _ _ _
   .rfl
  .split
   .split
    .split
     .rw[Wa0];rfl
     .rfl
    .rfl
   .rfl
  .exact Wwx _ _ _ _
  .split
   .split
    .split
     .exact WqT _ _ _ _
     .exact‹Inl›.law _ _ _
    .rfl
   .rfl
  .rfl
 .exact Wwx _ _ _ _
end
section
variable{T:Tab}{Γ:Ctx}{A:List (Nat×An)}
theorem WpD{st:St}{env:List (Nat×AVal)}{t:TypeId}{x v:AVal}:Wda T {env:=env,objs:=st.objs,nx:=st.nx} t x v=(Wda T st t x v).map λs=>{env:=env,objs:=s.objs,nx:=s.nx}:=by
 unfold Wda;generalize Wp T t=q;generalize Whe v=z;rcases q with _|te
 .rfl
 rcases z with _|ds
 .rcases x with(c|cs)|xs
  .cases c<;>rfl
  .rfl
  .rfl
 rcases x with(c|cs)|xs
 .cases c with
  |ptr id off=>
   show(match Wp st.objs id with|some (.box cs)=>_|_=>_)=Xfn _ (match Wp st.objs id with|some (.box cs)=>_|_=>_);generalize Wp st.objs id=ob;rcases ob with _|ob
   .rfl
   cases ob with
   |box cs=>
    show(if _ then _ else _)=Xfn _ (if _ then _ else _);split<;>rfl
   |arr e xs=>rfl
   |hole e xs i p=>rfl
   |dead=>rfl
  |eptr id i off=>
   show(match Wp st.objs id with|some (.arr e xs)=>_|_=>_)=Xfn _ (match Wp st.objs id with|some (.arr e xs)=>_|_=>_);generalize Wp st.objs id=ob;rcases ob with _|ob
   .rfl
   cases ob with
   |box cs=>rfl
   |hole e xs i p=>rfl
   |dead=>rfl
   |arr e xs=>
    show(if _ then _ else _)=Xfn _ (if _ then _ else _);by_cases hc:(decide (te.ty.size=ds.length)&&te.plain&&decide (off+ds.length<=e.size)&&e.data)=true
    .rw[Wf hc,Wf hc];generalize Waw e (Weu (split e (List.getD xs i e.dflt)) off ds) st.objs=r;rcases r with _|⟨d,m,l⟩
     .rfl
     .cases m<;>cases l<;>rfl
    .rw[Wc hc,Wc hc];by_cases mJ:(decide (te.ty.size=ds.length)&&te.plain&&decide (off=0)&&decide (ds.length=e.size))=true
     .rw[Wf mJ,Wf mJ];generalize Waw e ds st.objs=r;rcases r with _|⟨d,m,l⟩
      .rfl
      .cases l with
       |nil=>
        show(if _ then _ else _)=Xfn _ (if _ then _ else _);split<;>rfl
       |cons _ _=>rfl
     .rw[Wc mJ,Wc mJ];rfl
  |_=>rfl
 .rfl
 .rfl
theorem WsA{R:Type}(o:Oper){st:St}{env:List (Nat×AVal)}(k:KV R)(he:∀x∈Wab o.op,ev {env:=env,objs:=st.objs,nx:=st.nx} x=ev st x):
  rxe T Γ A o {env:=env,objs:=st.objs,nx:=st.nx} k=rxe T Γ A o st k:=by
 have bN:(∀t x l h m,o.op≠ .slice t x l h m)->Wae T {env:=env,objs:=st.objs,nx:=st.nx} o.op=Wae T st o.op:=λhm=>WhC o.op hm he (λ_ _ _ _ _ _ _=>rfl);obtain⟨dst,op,type,pos,after,guard⟩:=o;simp only at he bN;cases op with
 |alloc t=>rfl
 |box t x=>simp only[rxe,he x (by simp[Wab])]
 |build t parts=>simp only[rxe,WcX (st:=st) parts.toList λp hp=>he p.2 (by simp only[Wab];exact Xw.2 ⟨p,hp,rfl⟩)]
 |buildSlice t n parts=>
  have e1:∀e ps,WdI {env:=env,objs:=st.objs,nx:=st.nx} e ps k=WdI st e ps k:=λ_ _=>rfl;simp only[rxe,e1,WcX (st:=st) parts.toList λp hp=>he p.2 (by simp only[Wab];exact Xw.2 ⟨p,hp,rfl⟩)]
 |makeSlice t n c=>simp only[rxe,he n (by simp[Wab]),he c (by simp[Wab])]
 |store t a x=>
  simp only[rxe,he a (by simp[Wab]),he x (by simp[Wab])];split
  .rename_i p v _ _;have e:=WpD (T:=T) (st:={env:=st.env,objs:=Wei st.objs (Wf6 st.objs p v),nx:=st.nx}) (env:=env) (t:=t) (x:=p) (v:=WhQ st.objs (Wf6 st.objs p v) v);simp only at e;rw[e];cases Wda T {env:=st.env,objs:=Wei st.objs (Wf6 st.objs p v),nx:=st.nx} t p (WhQ st.objs (Wf6 st.objs p v) v)<;>rfl
  .rfl
 |slice t x lo hi m=>
  have hx:=he x (by simp[Wab]);have bt:=Wlg (st:=st) (an:={env:=env,objs:=st.objs,nx:=st.nx}) lo λy hy=>he y (by simp only[Wab];exact Xf _ (Xn _ hy));have pQ:=Wlg (st:=st) (an:={env:=env,objs:=st.objs,nx:=st.nx}) hi λy hy=>he y (by simp only[Wab];exact Xf _ (Xg _ (Xn _ hy)));cases m with
  |none=>
   have hp:Wae T {env:=env,objs:=st.objs,nx:=st.nx} (.slice t x lo hi none)=Wae T st (.slice t x lo hi none):=by
    simp only[Wae,hx];refine Wcc λv _=>?_;simp only[Wlt,bt,pQ]
   have e1:∀te id l h,WfT {env:=env,objs:=st.objs,nx:=st.nx} te id l h k=WfT st te id l h k:=λ_ _ _ _=>rfl;simp only[rxe,hx,bt,pQ,hp,e1]
  |some y=>rfl
 |call c=>
  have aR:=WmY (st:=st) (an:={env:=env,objs:=st.objs,nx:=st.nx}) c.args.toList λx hx=>he x (by simp only[Wab];exact Xg _ hx);have hp:=bN (λ_ _ _ _ _ h=>by cases h);simp only[rxe];split
  .rename_i s x t t2 hc ha dV;have h1:ev {env:=env,objs:=st.objs,nx:=st.nx} s=ev st s:=he s (by simp only[Wab];rw[ha];exact Xg _ (by simp));have h2:ev {env:=env,objs:=st.objs,nx:=st.nx} x=ev st x:=he x (by simp only[Wab];rw[ha];exact Xg _ (by simp));rw[h1,h2];rfl
  .rename_i x t hc ha dV;have h1:ev {env:=env,objs:=st.objs,nx:=st.nx} x=ev st x:=he x (by simp only[Wab];rw[ha];exact Xg _ (by simp));rw[h1]
  .rw[hp]
  .rename_i f hc;have h1:ev {env:=env,objs:=st.objs,nx:=st.nx} f=ev st f:=he f (by simp only[Wab];rw[hc];exact Xn _ (by simp));rw[h1,aR];rfl
  .rfl
 |move x=>simp only[rxe,bN (λ_ _ _ _ _ h=>by cases h)]
 |assign x=>simp only[rxe,bN (λ_ _ _ _ _ h=>by cases h)]
 |pick c a b=>simp only[rxe,bN (λ_ _ _ _ _ h=>by cases h)]
 |load t a=>simp only[rxe,bN (λ_ _ _ _ _ h=>by cases h)]
 |nilCheck x=>simp only[rxe,bN (λ_ _ _ _ _ h=>by cases h)]
 |binOp op t x y z=>simp only[rxe,bN (λ_ _ _ _ _ h=>by cases h)]
 |unOp op t x=>simp only[rxe,bN (λ_ _ _ _ _ h=>by cases h)]
 |convert s d x=>simp only[rxe,bN (λ_ _ _ _ _ h=>by cases h)]
 |fieldAddr s x f=>simp only[rxe,bN (λ_ _ _ _ _ h=>by cases h)]
 |field t x f=>simp only[rxe,bN (λ_ _ _ _ _ h=>by cases h)]
 |indexAddr t x i=>simp only[rxe,bN (λ_ _ _ _ _ h=>by cases h)]
 |index t x i=>simp only[rxe,bN (λ_ _ _ _ _ h=>by cases h)]
 |extract t ix=>simp only[rxe,bN (λ_ _ _ _ _ h=>by cases h)]
 |makeFunc f first captured=>simp only[rxe,bN (λ_ _ _ _ _ h=>by cases h)]
 |_=>rfl
def Wve(T:Tab)(o:Oper)(st:St):Option AVal:=match o.op with
 | .build t parts=>match Wp T t,WcO st parts.toList with
  |some ⟨ty,true,.struct fs⟩,some ps=>
   if fs.all (λf=>match Wp T f.2 with|some te=>te.plain|none=>false)then
    match Wnd T fs ps (WeZ ty)with
    |some cs=>some (.s (.agg cs))
    |none=>none
   else none
  |_,_=>none
 |op=>match Wae T st op with
  |some (c,v)=>bif c then some v else none
  |none=>none
theorem WwN(p:Option (Bool×AVal))(objs:Waa)(nx:Nat):(match p with|some (c,v)=>bif c then WbF v objs nx else none|none=>none)=(match p with|some (c,v)=>bif c then some v else none|none=>none).bind λv=>WbF v objs nx:=by
 rcases p with _|⟨c,v⟩
 .rfl
 .cases c<;>rfl
theorem WnK{o:Oper}(hm:WaP o=false)(st:St):rxe T Γ A o st WbF=(Wve T o st).bind λv=>WbF v st.objs st.nx:=by
 obtain⟨dst,op,type,pos,after,guard⟩:=o;cases op with
 |alloc t=>cases hm
 |box t x=>cases hm
 |buildSlice t n parts=>cases hm
 |makeSlice t n c=>cases hm
 |store t a x=>cases hm
 |slice t x lo hi m=>cases hm
 |build t parts=>
  simp only[rxe,Wve];generalize Wp T t=q;generalize WcO st parts.toList=z;rcases q with _|⟨ty,agg,shape⟩
  .rfl
  rcases z with _|ps
  .cases agg<;>cases shape<;>rfl
  cases agg with
  |false=>rfl
  |true=>
   cases shape with
   |struct fs=>
    show(if _ then _ else _)=Option.bind (if _ then _ else _) _;rw[Wa0];cases Wnd T fs ps (WeZ ty)<;>rfl
   |_=>rfl
 |call c=>
  simp only[rxe,Wve];split
  .rename_i hc _ _;simp only[WaP,hc]at hm;cases hm
  .rename_i hc _ _;simp only[WaP,hc]at hm;cases hm
  .exact WwN _ _ _
  .rename_i hc;simp only[WaP,hc]at hm;cases hm
  .rename_i h0 h1 h2 h3;have:Wae T st (.call c)=none:=by
    simp only[Wae];split
    .rename_i hc _ _;first|exact WE hc (h0 _)|exact WE hc (h1 _)|exact WE hc (h2 _)|exact WE hc (h3 _)
    .rename_i hc _ _;first|exact WE hc (h0 _)|exact WE hc (h1 _)|exact WE hc (h2 _)|exact WE hc (h3 _)
    .rename_i hc _ _;first|exact WE hc (h0 _)|exact WE hc (h1 _)|exact WE hc (h2 _)|exact WE hc (h3 _)
    .rfl
   rw[this];rfl
 |_=>first|rfl|exact WwN (Wae T st _) st.objs st.nx
theorem Wrv{o:Oper}(hm:WaP o=false){st an:St}(he:∀x∈Wab o.op,ev an x=ev st x)(hl:Www o.op=true->∀x∈Wab o.op,∀v,ev st x=some v->Wet st an v):Wve T o an=Wve T o st:=by
 have bN:(∀t x l h m,o.op≠ .slice t x l h m)->Wae T an o.op=Wae T st o.op:=λhm=>WhC o.op hm he hl;obtain⟨dst,op,type,pos,after,guard⟩:=o;simp only at he bN;cases op with
 |slice t x lo hi m=>cases hm
 |build t parts=>simp only[Wve,WcX (st:=st) parts.toList λp hp=>he p.2 (by simp only[Wab];exact Xw.2 ⟨p,hp,rfl⟩)]
 |_=>simp only[Wve,bN (λ_ _ _ _ _ h=>by cases h)]
theorem Wdc(objs:Waa):∀l,∃pre,kill objs l=pre++objs
 | []=>⟨[],rfl⟩
 |i::l=>by
  obtain⟨pre,h⟩:=Wdc objs l;exact⟨(i,.dead)::pre,by simp only[kill,h];rfl⟩
theorem Wac:∀(ps:List PTy) (o:Wgh ps) (ids:List Kp) (objs:Waa) (nx:Nat),∃pre,(Wah ps o ids objs nx).1=pre++objs
 | [],_,_,objs,_=>⟨[],rfl⟩
 | .v _ _::ps,o,ids,objs,nx=>Wac ps o ids objs nx
 | .rp _::ps,o,ids,objs,nx=>Wac ps o ids objs nx
 | .box t::ps,o,ids,objs,nx=>by
  cases ids with
  |nil=>exact⟨[],rfl⟩
  |cons k ids=>
   obtain⟨pre,h⟩:=Wac ps o.2 ids ((k.id,WhU (Wp objs k.id) k.off (unfold t o.1 nx).1)::((unfold t o.1 nx).2.1++objs)) (unfold t o.1 nx).2.2;exact⟨pre++(k.id,WhU (Wp objs k.id) k.off (unfold t o.1 nx).1)::(unfold t o.1 nx).2.1,by simp only[Wah,h];simp⟩
 | .vj _::ps,o,ids,objs,nx=>Wac ps o ids objs nx
 | .boxal t _::ps,o,ids,objs,nx=>by
  cases ids with
  |nil=>exact⟨[],rfl⟩
  |cons k ids=>
   obtain⟨pre,h⟩:=Wac ps o.2 ids ((k.id,WhU (Wp objs k.id) k.off (unfold t o.1 nx).1)::((unfold t o.1 nx).2.1++objs)) (unfold t o.1 nx).2.2;exact⟨pre++(k.id,WhU (Wp objs k.id) k.off (unfold t o.1 nx).1)::(unfold t o.1 nx).2.1,by simp only[Wah,h];simp⟩
 | .mut e::ps,o,ids,objs,nx=>by
  cases ids with
  |nil=>exact⟨[],rfl⟩
  |cons k ids=>
   obtain⟨pre,h⟩:=Wac ps o.2 ids ((k.id,.arr e o.1)::objs) nx;exact⟨pre++ [(k.id,.arr e o.1)],by simp only[Wah,h];simp⟩
 | .clos _ _::ps,o,ids,objs,nx=>Wac ps o ids objs nx
 | .kv t _::ps,o,ids,objs,nx=>by
  obtain⟨pre,h⟩:=Wac ps o.2 (ids.drop t.owns) (WcM t o.1 ((ids.take t.owns).map Kp.id)++objs) nx;exact⟨pre++WcM t o.1 ((ids.take t.owns).map Kp.id),by simp only[Wah,h];simp⟩
theorem Wau:∀(rs:List PTy) (d:Whr rs) (objs:Waa) (nx:Nat),∃pre,(Wbr rs d objs nx).2.1=pre++objs
 | [],_,objs,_=>⟨[],rfl⟩
 | .v t agg::rs,d,objs,nx=>by
  obtain⟨pre,h⟩:=Wau rs d.2 ((unfold t d.1 nx).2.1++objs) (unfold t d.1 nx).2.2;exact⟨pre++(unfold t d.1 nx).2.1,by simp only[Wbr,h];simp⟩
 | .box t::rs,d,objs,nx=>by
  obtain⟨pre,h⟩:=Wau rs d.2 ((nx,.box (unfold t d.1 (nx+1)).1)::((unfold t d.1 (nx+1)).2.1++objs)) (unfold t d.1 (nx+1)).2.2;exact⟨pre++(nx,.box (unfold t d.1 (nx+1)).1)::(unfold t d.1 (nx+1)).2.1,by simp only[Wbr,h];simp⟩
 | .mut _::rs,d,objs,nx=>Wau rs d objs nx
 | .clos _ _::rs,d,objs,nx=>Wau rs d objs nx
 | .kv _ _::rs,d,objs,nx=>Wau rs d objs nx
 | .rp _::rs,d,objs,nx=>Wau rs d objs nx
 | .vj t::rs,d,objs,nx=>by
  obtain⟨pre,h⟩:=Wau rs d.2 ((unfold t d.1 nx).2.1++objs) (unfold t d.1 nx).2.2;exact⟨pre++(unfold t d.1 nx).2.1,by simp only[Wbr,h];simp⟩
 | .boxal _ _::rs,d,objs,nx=>Wau rs d objs nx
def Suf(objs:Waa)(r:Option Out):Prop:=∀x objs' nx,r=some (x,objs',nx)->∃pre,objs'=pre++objs
theorem Suf.none{objs:Waa}:Suf objs none:=λ_ _ _ h=>by cases h
theorem Suf.out{objs pre:Waa}{x:AVal}{nx:Nat}:Suf objs (WbF x (pre++objs) nx):=λ_ _ _ h=>by
 injection h with h;have:=Wn (λp:Out=>p.2.1) h;exact⟨pre,this.symm⟩
theorem Suf.ite{objs:Waa}{c:Prop}[Decidable c]{r:Option Out}(h:Suf objs r):Suf objs (if c then r else Option.none):=by split;exact h;exact .none
theorem Suf.bif{objs:Waa}{c:Bool}{r:Option Out}(h:Suf objs r):Suf objs (bif c then r else Option.none):=by cases c;exact .none;exact h
theorem Wj2{st af:St}{t:TypeId}{x v:AVal}(h:Wda T st t x v=some af):∃pre,af.objs=pre++st.objs:=by
 unfold Wda at h;split at h
 .split at h
  .split at h
   .injection h with h;subst h;exact⟨[_],rfl⟩
   .cases h
  .cases h
 .split at h
  .split at h
   .split at h
    .injection h with h;subst h;exact⟨[_],rfl⟩
    .cases h
   .split at h
    .split at h
     .rename_i m _;split at h
      .injection h with h;subst h;obtain⟨pre,hp⟩:=Wdc st.objs m;exact⟨_::pre,by simp only[hp];rfl⟩
      .cases h
     .cases h
    .cases h
  .cases h
 .cases h
theorem Wpq(p:Option (Bool×AVal))(objs:Waa)(nx:Nat):Suf objs (match p with|some (c,v)=>bif c then WbF v objs nx else none|none=>none):=by
 rcases p with _|⟨c,v⟩
 .exact .none
 .exact Suf.bif (Suf.out (pre:=[]))
theorem Wef(sg:Sig)(st:St)(xs:List AVal):Suf st.objs (WfM sg st xs WbF):=by
 unfold WfM;split
 .rename_i A _;split
  .intro x objs' nx h;rw[sg.law]at h;cases hr:sg.run A.d with
   |none=>rw[hr]at h;cases h
   |some out=>
    rw[hr]at h;simp only[Xd]at h;injection h with h;have h2:=Wn (λp:Out=>p.2.1) h;simp only at h2;obtain⟨p1,e1⟩:=Wdc st.objs A.moved;obtain⟨p2,e2⟩:=Wac sg.ps out.1 A.kept (kill st.objs A.moved) st.nx;obtain⟨p3,e3⟩:=Wau sg.rs out.2 (Wah sg.ps out.1 A.kept (kill st.objs A.moved) st.nx).1 (Wah sg.ps out.1 A.kept (kill st.objs A.moved) st.nx).2;refine⟨p3++(p2++p1),?_⟩;rw[←h2,e3,e2,e1];simp
  .exact .none
 .exact .none
theorem Suf.over{objs:Waa}{l:List Nat}{r:Option Out}(h:Suf (kill objs l) r):Suf objs r:=λx objs' nx hr=>by
 obtain⟨p1,e1⟩:=h x objs' nx hr;obtain⟨p2,e2⟩:=Wdc objs l;exact⟨p1++p2,by rw[e1,e2];simp⟩
theorem Wn7(sg:Sig)(st:St)(xs:List AVal):Suf st.objs (Wns sg st xs WbF):=by
 unfold Wns;cases sg.fresh with
 |true=>exact Wef _ _ _
 |false=>
  simp only[Wa];split
  .split
   .exact Wef _ _ _
   .exact Suf.over (Wef sg {env:=st.env,objs:=kill st.objs _,nx:=st.nx} _)
  .exact .none
theorem Wo3{objs:Waa}{x:AVal}{p:Nat×Ob}{l:List Nat}{nx:Nat}:Suf objs (WbF x (p::kill objs l) nx):=by
 obtain⟨pre,h⟩:=Wdc objs l;rw[h];exact Suf.out (pre:=p::pre)
theorem WjT(st:St)(te:Ty)(s x:AVal):Suf st.objs (WeT st te s x WbF):=by
 unfold WeT;split
 .split
  .split
   .split
    .exact Suf.bif Wo3
    .exact .none
   .exact .none
  .exact .none
 .split
  .split
   .split
    .exact Suf.ite (Suf.bif Wo3)
    .exact .none
   .exact .none
  .exact .none
 .exact .none
theorem WjZ(st:St)(e:Ty)(ps:List (Nat×AVal)):Suf st.objs (WdI st e ps WbF):=by
 unfold WdI;split
 .refine Suf.ite ?_;split
  .split
   .exact Suf.ite (Suf.over Wo3)
   .exact .none
  .exact .none
 .exact .none
theorem Wmj(st:St)(te:Ty)(id:Nat)(l h:Option Int):Suf st.objs (WfT st te id l h WbF):=by
 unfold WfT;split
 .exact Suf.ite (Suf.bif (Suf.out (pre:=[])))
 .exact .none
theorem Wkz(o:Oper)(st:St):Suf st.objs (rxe T Γ A o st WbF):=by
 unfold rxe;split
 .split
  .exact Suf.ite (Suf.out (pre:=[_]))
  .exact Suf.ite (Suf.out (pre:=[_]))
  .exact .none
 .split
  .exact Suf.out (pre:=[_])
  .exact .none
 .split
  .split
   .split
    .exact Suf.out (pre:=[])
    .exact .none
   .exact .none
  .exact .none
 .split
  .split
   .split
    .exact Suf.ite (WjZ _ _ _)
    .split
     .exact Suf.ite (Suf.over (Suf.out (pre:=[_])))
     .exact .none
   .exact .none
  .exact .none
 .split
  .split
   .split
    .exact Suf.ite (Suf.bif (Suf.out (pre:=[_])))
    .exact Suf.ite (Suf.bif (Suf.out (pre:=[_])))
   .exact .none
  .exact .none
 .split
  .split
   .rename_i af hs;split
    .obtain⟨pre,h⟩:=Wj2 hs;rw[h];exact Suf.over Suf.out
    .exact .none
   .exact .none
  .exact .none
 .split
  .split
   .split
    .split
     .exact Suf.ite (Wmj _ _ _ _ _)
     .split
      .exact Suf.ite (Suf.bif (Suf.out (pre:=[_,_])))
      .exact Suf.ite (Suf.bif (Suf.out (pre:=[_,_,_])))
      .exact .none
    .exact .none
   .exact .none
  .exact Wpq _ _ _
 .split
  .split
   .unfold Wem;split
    .split
     .split
      .cases Wt9 st _ _ with
       |false=>exact WjT _ _ _ _
       |true=>
       simp only[Xk,Wa];split
       .exact Suf.bif (Suf.out (pre:=[_]))
       .split
        .split
         .exact Suf.bif (Suf.out (pre:=[_,_]))
         .exact .none
        .exact .none
       .split
        .split
         .exact Suf.bif (Suf.out (pre:=[_,_]))
         .exact .none
        .exact .none
       .exact .none
      .exact .none
     .exact .none
    .exact .none
   .exact .none
  .split
   .split
    .split
     .exact Suf.ite (Suf.out (pre:=[_]))
     .exact .none
    .exact .none
   .exact .none
  .exact Wpq _ _ _
  .split
   .split
    .split
     .exact Wn7 _ _ _
     .exactλx objs' nx h=>by have q:=(‹Inl›).suf _ x objs' nx h;exact q
    .exact .none
   .exact .none
  .exact .none
 .exact Wpq _ _ _
end
end Go.Sx
namespace Go.Sx
set_option linter.unusedVariables false
set_option linter.unusedSimpArgs false
theorem WpU{x y:Nat}{l:List Nat}:y∈Wxp x l↔y=x\/y∈l:=by
 unfold Wxp;cases h:Wcv x l with
 |true=>
  have:=(WaT x l).1 h;simp only[Wb];exact⟨.inr,λh=>h.elim (λe=>e▸this) id⟩
 |false=>simp
theorem WkZ{y:Nat}:∀(m l:List Nat),y∈WnR m l↔y∈m\/y∈l
 | [],l=>by simp[WnR]
 |x::m,l=>by
  rw[WnR,WkZ m,WpU,Xs];constructor
  .rintro(h|h|h)
   .exact .inl (.inr h)
   .exact .inl (.inl h)
   .exact .inr h
  .rintro((h|h)|h)
   .exact .inr (.inl h)
   .exact .inl h
   .exact .inr (.inr h)
theorem WiB{acc:List (List Nat)}{y:Nat}:∀(ds l:List Nat),y∈WlE acc ds l↔(∃j∈ds,y=j\/y∈acc.getD j [])\/y∈l
 | [],l=>by simp[WlE]
 |j::ds,l=>by
  rw[WlE,WiB ds,WkZ,WpU];constructor
  .rintro(⟨k,hk,h⟩|h|h|h)
   .exact .inl ⟨k,Xf _ hk,h⟩
   .exact .inl ⟨j,Xj ..,.inr h⟩
   .exact .inl ⟨j,Xj ..,.inl h⟩
   .exact .inr h
  .rintro(⟨k,hk,h⟩|h)
   .rcases Xs.1 hk with rfl|hk
    .exact .inr (h.elim (λh=>.inr (.inl h)) .inl)
    .exact .inl ⟨k,hk,h⟩
   .exact .inr (.inr (.inr h))
def Wna(ops:Array Oper)(S:Nat->Prop):Prop:=∀i o,ops[i]?=some o->S i->∀d∈WmU o,S d
theorem WkI{ops:Array Oper}{S:Nat->Prop}(hS:Wna ops S):∀(l:List Oper) (acc:List (List Nat)),(∀(k:Nat) (o:Oper),l[k]?=some o->ops[acc.length+k]?=some o)->
  (∀i,S i->∀j∈acc.getD i [],S j)->∀i,S i->∀j∈(WcZ l acc).getD i [],S j
 | [],acc,_,h=>h
 |o::l,acc,hl,h=>by
  refine WkI hS l _ (λk o' hk=>?_) (λi hi j hj=>?_)
  .have:=hl (k+1) o' (by simpa using hk);rw[Xaa];have e:acc.length+(k+1)=acc.length+ [WlE acc (WmU o) []].length+k:=by simp;omega
   rw[←e];exact this
  .rw[Xbm,Xas]at hj;split at hj
   .exact h i hi j (by rw[Xbm];exact hj)
   .rename_i ac;by_cases he:i=acc.length
    .subst he;simp only[Xcx,Xdg,Xdu]at hj;rcases(WiB _ _).1 hj with⟨k,hk,gR⟩|hj
     .have hSk:=hS _ o (hl 0 o (by simp)) hi k hk;rcases gR with rfl|gR
      .exact hSk
      .exact h k hSk j gR
     .cases hj
    .have:[WlE acc (WmU o) []][i-acc.length]?=none:=Xbq (by simp;omega);rw[this]at hj;cases hj
theorem Wry{ops:Array Oper}{S:Nat->Prop}(hS:Wna ops S){i j:Nat}(h:WcW (WcZ ops.toList []) j i=true)(hi:S i):S j:=
 WkI hS ops.toList [] (λk o hk=>by simpa using hk) (λi _ j hj=>by simp at hj) i hi j ((WaT _ _).1 h)
theorem WkY{ops:Array Oper}:∀(l:List Oper) (n:Nat),Wu0 l n=true->∀(k:Nat) (o:Oper),l[k]?=some o->∀d∈WmU o,d<n+k
 | [],_,_,k,o,hk=>by simp at hk
 |o'::l,n,h,k,o,hk=>by
  simp only[Wu0,Xi,Xad]at h;cases k with
  |zero=>
   simp at hk;subst hk;intro e he;have:=h.1 e he;rw[Xhd]at this;omega
  |succ k=>
   have:=WkY (ops:=ops) l (n+1) h.2 k o (by simpa using hk);intro e he;have:=this e he;omega
structure Order(ops:Array Oper)(l:List Nat):Prop where
 nodup:l.Nodup
 all:∀i,i<ops.size↔i∈l
 dep:∀p i s,l=p++i::s->∀o,ops[i]?=some o->∀d∈WmU o,d∈p
theorem Order.closed{ops:Array Oper}{l:List Nat}(h:Order ops l){p s:List Nat}(e:l=p++s):Wna ops (· ∈p):=λi o ho hi d hd=>by
 obtain⟨a,b,rfl⟩:=Xec hi;have:=h.dep a i (b++s) (by rw[e];simp) o ho d hd;simp[this]
theorem Order.bef{ops:Array Oper}{l:List Nat}(h:Order ops l){p s:List Nat}{i j:Nat}(e:l=p++s)(hb:WcW (WcZ ops.toList []) j i=true)(hi:i∈p):j∈p:=
 Wry (h.closed e) hb hi
theorem Order.bef'{ops:Array Oper}{l:List Nat}(h:Order ops l){p s:List Nat}{i j:Nat}(e:l=p++i::s)(hb:WcW (WcZ ops.toList []) j i=true)(bQ:j≠i):j∈p:=by
 have:=h.bef (p:=p++ [i]) (s:=s) (by rw[e];simp) hb (by simp);rcases Xo.1 this with h|h
 .exact h
 .simp at h;exact WE h bQ
def unl(ops:Array Oper)(listed:Array Bool):List Nat:=(Xcu ops.size).filter λi=>!listed.getD i true
theorem Wf7{ops:Array Oper}{listed:Array Bool}{i:Nat}:i∈unl ops listed↔i<ops.size/\listed.getD i true=false:=by
 unfold unl;rw[Xax,Xdn];simp
theorem WgQ{α:Type}{p q:α->Bool}:∀(l:List α),(∀x∈l,q x=true->p x=true)->(∃x∈l,p x=true/\q x=false)->(l.filter q).length<(l.filter p).length
 | [],_,⟨x,hx,_⟩=>by cases hx
 |x::l,h,⟨y,hy,hp,hq⟩=>by
  have bg:∀(l:List α),(∀x∈l,q x=true->p x=true)->(l.filter q).length<=(l.filter p).length:=by
   intro l
   induction l with
   |nil=>intro _;simp
   |cons x l ih=>
    intro h;have:=ih λx hx=>h x (Xf _ hx);have hx:=h x (Xj ..);rw[Xbj,Xbj];cases hqx:q x with
    |true=>rw[hx hqx];simpa using this
    |false=>cases p x<;>simp<;>omega
  rw[Xbj,Xbj];rcases Xs.1 hy with rfl|hy
  .rw[hp,hq];have:=bg l λx hx=>h x (Xf _ hx);simp;omega
  .have:=WgQ l (λx hx=>h x (Xf _ hx)) ⟨y,hy,hp,hq⟩;have hx:=h x (Xj ..);cases hqx:q x with
   |true=>rw[hx hqx];simpa using this
   |false=>cases p x<;>simp<;>omega
theorem WlO{listed:Array Bool}{i j:Nat}:(listed.setIfInBounds i true).getD j true=(if i=j then true else listed.getD j true):=by
 simp only[Xcp,Xex];split
 .split<;>rfl
 .rfl
theorem WtB{listed:Array Bool}{i j:Nat}(hi:i<listed.size):(listed.setIfInBounds i true).getD j false=(if i=j then true else listed.getD j false):=by
 simp only[Xcp,Xex];split
 .simp[hi]
 .rfl
theorem WvN{listed:Array Bool}{i:Nat}(hi:i<listed.size):listed.getD i true=listed.getD i false:=by
 simp[hi]
theorem Wqf{o:Oper}{e:Edge}(he:e∈o.after)(hb:Region.binds .any e=true):e.on∈WmU o:=
 Xw.2 ⟨e,Xax.2 ⟨by simpa using he,hb⟩,rfl⟩
theorem Wqo{ops:Array Oper}(hb:∀(k:Nat) (o:Oper),ops[k]?=some o->∀d∈WmU o,d<k):∀(fuel t:Nat) (listed:Array Bool),listed.size=ops.size->(unl ops listed).length<=fuel->
  (Region.linearise.go .any ops fuel t listed []).Nodup/\
  (∀i,i∈Region.linearise.go .any ops fuel t listed []↔i∈unl ops listed)/\
  (∀p i s,Region.linearise.go .any ops fuel t listed []=p++i::s->∀o,ops[i]?=some o->∀e∈o.after,Region.binds .any e=true->listed.getD e.on false=true\/e.on∈p)
 |0,t,listed,hs,ad=>by
  have:unl ops listed= []:=Xx (by omega);simp only[Region.linearise.go,List.reverse_nil,this];exact⟨by simp,by simp,λp i s h=>by simp at h⟩
 |fuel+1,t,listed,hs,ad=>by
  have ol:Region.linearise.go .any ops (fuel+1) t listed []=match(Region.ready .any ops listed)[t%(Region.ready .any ops listed).length]? with
   |some i=>Region.linearise.go .any ops fuel (t/(Region.ready .any ops listed).length) (listed.setIfInBounds i true) [i]
   |none=>[]:=rfl
  rw[ol];cases hi:(Region.ready .any ops listed)[t%(Region.ready .any ops listed).length]? with
  |none=>
   have bR:Region.ready .any ops listed= []:=by
    cases hr:Region.ready .any ops listed with
    |nil=>rfl
    |cons x xs=>
     rw[hr]at hi;have ac:t%(x::xs).length<(x::xs).length:=Nat.mod_lt _ (by simp);simp at hi;simp at ac;omega
   have hu:unl ops listed= []:=by
    have key:∀n i,i<=n->i∉unl ops listed:=by
     intro n
     induction n with
     |zero=>
      intro i dB hm;obtain⟨h1,h2⟩:=Wf7.1 hm;have:i∈Region.ready .any ops listed:=by
       rw[mem_ready];refine⟨h2,ops[i],Xdb h1,λe he mS=>?_⟩;have:=hb i _ (Xdb h1) e.on (Wqf he mS);omega
      rw[bR]at this;cases this
     |succ n ih=>
      intro i dB hm;obtain⟨h1,h2⟩:=Wf7.1 hm;have:i∈Region.ready .any ops listed:=by
       rw[mem_ready];refine⟨h2,ops[i],Xdb h1,λe he mS=>?_⟩;have ac:=hb i _ (Xdb h1) e.on (Wqf he mS);have yT:=ih e.on (by omega);have h3:e.on<ops.size:=by omega
       cases h4:listed.getD e.on true with
       |false=>exact WE (Wf7.2 ⟨h3,h4⟩) yT
       |true=>rw[←WvN (by omega)];exact h4
      rw[bR]at this;cases this
    exact Xeo.2 λi=>key i i (Xm _)
   rw[hu];exact⟨Xdd,λ_=>Iff.rfl,λp i s h=>by simp at h⟩
  |some i=>
   have yU:=Xar hi;obtain⟨h1,o,ho,h3⟩:=mem_ready.1 yU;have qN:i<ops.size:=(Xbw.1 ho).1;have yV:i∈unl ops listed:=Wf7.2 ⟨qN,h1⟩;simp only[];rw[linearise_go_acc,List.reverse_singleton,List.singleton_append];have kP:(unl ops (listed.setIfInBounds i true)).length<=fuel:=by
    have:(unl ops (listed.setIfInBounds i true)).length<(unl ops listed).length:=by
     refine WgQ _ (λx _ hx=>?_) ⟨i,Xdn.2 qN,by simpa using h1,by rw[WlO];simp⟩;rw[WlO]at hx;split at hx
     .simp at hx
     .exact hx
    omega
   obtain⟨g1,g2,g3⟩:=Wqo hb fuel (t/(Region.ready .any ops listed).length) (listed.setIfInBounds i true) (by simp[hs]) kP;have aM:∀j,j∈unl ops (listed.setIfInBounds i true)↔j∈unl ops listed/\j≠i:=λj=>by
    rw[Wf7,Wf7,WlO];constructor
    .rintro⟨q1,q2⟩;split at q2
     .cases q2
     .rename_i bQ;exact⟨⟨q1,q2⟩,λe=>bQ e.symm⟩
    .rintro⟨⟨q1,q2⟩,bQ⟩;exact⟨q1,by rw[Wc (λe=>bQ e.symm)];exact q2⟩
   refine⟨Xac.2 ⟨λhm=>?_,g1⟩,λj=>?_,λp j s e o' jM ed pS mS=>?_⟩
   .exact((aM i).1 ((g2 i).1 hm)).2 rfl
   .rw[Xs,g2,aM];constructor
    .rintro(rfl|h)
     .exact yV
     .exact h.1
    .intro h;by_cases he:j=i
     .exact .inl he
     .exact .inr ⟨h,he⟩
   .cases p with
    |nil=>
     simp only[Xbe,List.cons.injEq]at e;obtain⟨rfl,_⟩:=e;rw[ho]at jM;injection jM with jM;subst jM;exact .inl (h3 ed pS mS)
    |cons x p=>
     simp only[Xbd,List.cons.injEq]at e;obtain⟨rfl,e⟩:=e;rcases g3 p j s e o' jM ed pS mS with h|h
     .rw[WtB (by omega)]at h;split at h
      .rename_i he;exact .inr (by rw[he];simp)
      .exact .inl h
     .exact .inr (Xf _ h)
theorem WiI{ops:Array Oper}{t:Nat}(hb:∀(k:Nat) (o:Oper),ops[k]?=some o->∀d∈WmU o,d<k):Order ops (Region.linearise .any ops t):=by
 have hu:∀i,i∈unl ops (Xdi ops.size false)↔i<ops.size:=λi=>by
  rw[Wf7];constructor
  .exactλh=>h.1
  .exactλh=>⟨h,by simp[h]⟩
 obtain⟨h1,h2,h3⟩:=Wqo hb ops.size t (Xdi ops.size false) (by simp) (by
  have:=Xem (λi=>!(Xdi ops.size false).getD i true) (Xcu ops.size);rw[Xfj]at this;exact this)
 refine⟨h1,λi=>by unfold Region.linearise;rw[h2,hu],λp i s e o ho d hd=>?_⟩;unfold WmU at hd;obtain⟨ed,pS,rfl⟩:=Xw.1 hd;obtain⟨pS,mS⟩:=Xax.1 pS;rcases h3 p i s e o ho ed (by simpa using pS) mS with h|h
 .exfalso;rw[Xcp,Array.getElem?_replicate]at h;split at h<;>simp at h
 .exact h
theorem Wj4{ops:Array Oper}{t:Nat}(hb:∀(k:Nat) (o:Oper),ops[k]?=some o->∀d∈WmU o,d<k):Order ops (Region.schedule true ops t):=by
 unfold Region.schedule;rw[Wf (by simp)];exact WiI hb
end Go.Sx
namespace Go.Sx
set_option linter.unusedVariables false
set_option linter.unusedSimpArgs false
def Ws2(n:Nat)(kept:List Nat)(o:Oper):Bool:=match o.dst with
 |some d=>Nat.blt d n&& !Wcv d kept
 |none=>true
def Wdx(n:Nat)(kept:List Nat):Code->Bool
 | .region _ ops _=>ops.toList.all (Ws2 n kept)
 | .seq a b=>Wdx n kept a&&Wdx n kept b
 | .cond _ x y=>Wdx n kept x&&Wdx n kept y
 | .block _ c=>Wdx n kept c
 | .loop c=>Wdx n kept c
 |_=>true
theorem Wo6{nt:Slots}{n:Nat}{kept:List Nat}(hn:nt.n=n)(hk:∀p∈nt.kept,p.1∈kept){o:Oper}(h:Ws2 n kept o=true):∀d,o.dst=some d->nt.Ok d:=λd hd=>by
 unfold Ws2 at h;rw[hd]at h;simp only[Xi,Xaj]at h;refine⟨by have h1:=h.1;rw[Xhd]at h1;rw[hn];exact h1,λp hp e=>?_⟩;have:=hk p hp;rw[e]at this;rw[(WaT d kept).2 this]at h;exact WE h.2 (by simp)
def Ex.to:Ex->Exit
 | .normal=>.normal
 | .exit id=>.exit id
 | .ret=>.ret
section
variable{w0:World}{F:CS}{nt:Slots}{G0:GH}{P:Program}{T:Tab}{Γ:Ctx}{A:List (Nat×An)}{R:Type}{r:R}
def WrT(w0:World)(F:CS)(nt:Slots)(G0:GH)(k:St->Option R)(r:R)(K:Act->World->Prop):Prop:=
 ∀st a w G ν,Rel w0 F nt G0 G ν st a w->k st=some r->K a w
theorem WoO{G:GH}{ν:Nat->Nu}{st:St}{a:Act}{w:World}(hr:Rel w0 F nt G0 G ν st a w){ops:Array Oper}{j:Nat}{t:Tmp}(ht:(ops[j]?).bind (·.dst)=some t){b:Bool}(hb:(Wp st.env t).bind asB=some b):
  a.tmps[t]?=some (.bool b)/\yielded ops a.tmps j=some b:=by
 cases hl:Wp st.env t with
 |none=>simp[hl]at hb
 |some x=>
  simp only[hl,Xd]at hb;obtain⟨v,hv,hx⟩:=hr.env t x hl;have:=Wot x v b hx hb;subst this;refine⟨hv,?_⟩;unfold yielded;rw[ht];simp[hv]
theorem Wvp(hT:Waj P T)(hΓ:WdT P Γ){ops:Array Oper}{o:Oper}(hd:∀d,o.dst=some d->nt.Ok d){k:St->Option R}{K:Act->World->Prop}{Q:Exit->Act->World->Prop}(hK:WrT w0 F nt G0 k r K)
  {st:St} {a:Act} {w:World} {G:GH} {ν:Nat->Nu} (hr:Rel w0 F nt G0 G ν st a w) (h:rxg T Γ A ops o st k=some r):
  if Region.wanted o (yielded ops a.tmps)then o.wp P a w K Q else K (a.put o.dst undef) w:=by
 unfold rxg at h;have iX:∀af,Rel w0 F nt G0 G ν af a w->Rel w0 F nt G0 G ν (af.put o.dst (.tup [])) (a.put o.dst undef) w:=λaf cr=>
  cr.put hd ⟨[],rfl,rfl,λj x v hj=>by simp at hj⟩
 have fe:∀b:Bool,AValRel G ν st.nx (one .bool b) (.bool b):=λb=>WN (t:=.bool) (d:=b) (v:=.bool b) rfl;split at h
 .rename_i hg;simp only[Region.wanted,hg,W4];exact Wst hT hΓ hr hd h (λaf a' w' G' ν' cr hk=>hK _ _ _ _ _ cr hk)
 .rename_i j want hg;split at h
  .rename_i t ht;split at h
   .rename_i hl;obtain⟨v,hv,hx⟩:=hr.env t _ hl;have oi:v=undef:=by
     obtain⟨vs,h1,h2,_⟩:=hx;rw[h1,Xx h2];rfl
    subst oi;have hy:yielded ops a.tmps j=none:=by
     unfold yielded;rw[ht];simp only[Xd,hv];rfl
    simp only[Region.wanted,hg,hy];rw[Wc (by simp)];exact hK _ _ _ _ _ (iX _ hr) h
   .rename_i x _ hl;split at h
    .rename_i b hb;obtain⟨hv,hy⟩:=WoO hr ht (b:=b) (by rw[hl];exact hb);simp only[Region.wanted,hg,hy];have pT:=hr.rebind hv (fe b);cases b with
     |true=>
      simp only[Wb]at h;cases want with
      |true=>
       simp only[W4]at h;simp only[beq_self_eq_true,W4];exact Wst hT hΓ pT hd h (λaf a' w' G' ν' cr hk=>hK _ _ _ _ _ cr hk)
      |false=>
       simp only[Xai,W7]at h;rw[Wc (by simp)];exact hK _ _ _ _ _ (iX _ pT) h
     |false=>
      simp only[Wa]at h;cases want with
      |true=>
       simp only[W4]at h;rw[Wc (by simp)];exact hK _ _ _ _ _ (iX _ pT) h
      |false=>
       simp only[Xai,W7]at h;simp only[beq_self_eq_true,W4];exact Wst hT hΓ pT hd h (λaf a' w' G' ν' cr hk=>hK _ _ _ _ _ cr hk)
    .cases h
   .cases h
  .cases h
theorem Wvq(hT:Waj P T)(hΓ:WdT P Γ){ops:Array Oper}:∀(l:List Oper),(∀o∈l,∀d,o.dst=some d->nt.Ok d)->∀{k:St->Option R} {Q:Exit->Act->World->Prop},WrT w0 F nt G0 k r (Q .normal)->
  WrT w0 F nt G0 (λst=>rxs T Γ A ops l st k) r (wpList P ops Q l)
 | [],_,k,Q,hK=>λst a w G ν hr h=>hK st a w G ν hr h
 |o::l,hd,k,Q,hK=>λst a w G ν hr h=>by
  have ih:=Wvq (ops:=ops) hT hΓ l (λo ho=>hd o (Xf _ ho)) hK;have h:rxg T Γ A ops o st (λaf=>match opG A o af with
   |some (c,bY)=>bif c then rxs T Γ A ops l bY k else none
   |none=>none)=some r:=h
  have yW:WrT w0 F nt G0 (λaf=>match opG A o af with
   |some (c,bY)=>bif c then rxs T Γ A ops l bY k else none
   |none=>none) r (wpList P ops Q l):=λeH a1 w1 G1 ν1 hZ h1=>by
   have h1:(match opG A o eH with
    |some (c,bY)=>bif c then rxs T Γ A ops l bY k else none
    |none=>none)=some r:=h1
   split at h1
   .rename_i c an hg;obtain⟨rfl,h1⟩:=W3 h1;have:∃G' ν',Rel w0 F nt G0 G' ν' an a1 w1:=by
     unfold opG at hg;split at hg
     .split at hg
      .injection hg with hg;injection hg with _ hg;subst hg;exact⟨G1,ν1,hZ⟩
      .exact Wju (.inr rfl) hZ hg
     .injection hg with hg;injection hg with _ hg;subst hg;exact⟨G1,ν1,hZ⟩
     .injection hg with hg;injection hg with _ hg;subst hg;exact⟨G1,ν1,hZ⟩
     .injection hg with hg;injection hg with _ hg;subst hg;exact⟨G1,ν1,hZ⟩
     .injection hg with hg;injection hg with _ hg;subst hg;exact⟨G1,ν1,hZ⟩
     .exact Wju (.inr rfl) hZ hg
     .injection hg with hg;injection hg with _ hg;subst hg;exact⟨G1,ν1,hZ⟩
    obtain⟨G2,ν2,jN⟩:=this;exact ih an a1 w1 G2 ν2 jN h1
   .cases h1
  have:=Wvp hT hΓ (hd o (Xj ..)) (Q:=Q) yW hr h;unfold wpList;split
  .rename_i hw;rw[Wf hw]at this;exact .inl this
  .rename_i hw;rw[Wc hw]at this;exact this
end
end Go.Sx
namespace Go.Sx
set_option linter.unusedVariables false
set_option linter.unusedSimpArgs false
section
variable{T:Tab}{Γ:Ctx}{A:List (Nat×An)}{ops:Array Oper}
theorem Wlh{R:Type}(o:Oper)(st:St)(k:St->Option R):rx1 T Γ A o st k=(rx1 T Γ A o st some).bind k:=by
 unfold rx1;rw[Wfn,Wfn o st (λx objs nx=>some _),Xfl];rfl
theorem Wih{R:Type}(o:Oper)(st:St)(k:St->Option R):rxg T Γ A ops o st k=(rxg T Γ A ops o st some).bind k:=by
 unfold rxg;cases o.guard with
 |none=>exact Wlh o st k
 |some g=>
  obtain⟨j,want⟩:=g;simp only;cases(ops[j]?).bind (·.dst)with
  |none=>rfl
  |some t=>
   simp only;cases Wp st.env t with
   |none=>rfl
   |some x=>
    have main:(match asB x with
      |some b=>bif b
       then(if want then rx1 T Γ A o (st.put (some t) (one .bool true)) k else k ((st.put (some t) (one .bool true)).put o.dst (.tup [])))
       else(if want then k ((st.put (some t) (one .bool false)).put o.dst (.tup []))else rx1 T Γ A o (st.put (some t) (one .bool false)) k)
      |none=>none)=(match asB x with
      |some b=>bif b
       then(if want then rx1 T Γ A o (st.put (some t) (one .bool true)) some else some ((st.put (some t) (one .bool true)).put o.dst (.tup [])))
       else(if want then some ((st.put (some t) (one .bool false)).put o.dst (.tup []))else rx1 T Γ A o (st.put (some t) (one .bool false)) some)
      |none=>none).bind k:=by
     cases asB x with
     |none=>rfl
     |some b=>
      cases b<;>cases want
      .exact Wlh _ _ _
      .rfl
      .rfl
      .exact Wlh _ _ _
    cases x with
    |s y=>exact main
    |tup l=>
     cases l with
     |nil=>rfl
     |cons y l=>exact main
theorem WgH{R:Type}{o:Oper}{st:St}{k:St->Option R}{r:R}(h:rxg T Γ A ops o st k=some r):∃af,rxg T Γ A ops o st some=some af/\k af=some r:=by
 rw[Wih]at h;exact Xav.1 h
structure Eff(o:Oper)(v:AVal)(pre:Waa)(am:Nat)(st af:St):Prop where
 env:∀t,Wp af.env t=if o.dst=some t then some v else Wp st.env t
 objs:af.objs=pre++st.objs
 nx:af.nx=am
theorem Wdq(st:St)(dst:Option Tmp)(x:AVal)(t:Nat):Wp (st.put dst x).env t=if dst=some t then some x else Wp st.env t:=by
 cases dst with
 |none=>simp[St.put]
 |some d=>
  simp only[St.put];rw[WG];by_cases h:d=t
  .subst h;simp
  .rw[Wc h,Wc (by simpa using h)]
theorem Wfh{st an:St}{x:Operand}(h:∀t∈WsB x,Wp an.env t=Wp st.env t):ev an x=ev st x:=by
 cases x with
 |tmp t=>exact h t (by simp[WsB])
 |_=>rfl
theorem Whc{st:St}{x:Operand}{v:AVal}:∀(l:List Operand),x∈l->ev st x=some v->∀id∈Wa6 v,id∈WeS st l
 | [],h,_,_,_=>by cases h
 |y::l,h,hv,id,bU=>by
  simp only[WeS];rcases Xs.1 h with rfl|h
  .rw[hv];exact Xn _ bU
  .split
   .exact Xg _ (Whc l h hv id bU)
   .exact Whc l h hv id bU
theorem Wg3{st an:St}:∀(l:List Operand),(∀x∈l,ev an x=ev st x)->WeS an l=WeS st l
 | [],_=>rfl
 |x::l,h=>by simp only[WeS,h x (Xj ..),Wg3 l λy hy=>h y (Xf _ hy)]
theorem Wr1{o:Oper}{st af an:St}(h:rx1 T Γ A o st some=some af)(he:∀x∈Wab o.op,ev an x=ev st x)
  (hm:WaP o=true->an.objs=st.objs/\an.nx=st.nx) (hf:WaP o=false->∀id∈WcL o st,Wp an.objs id=Wp st.objs id):
  ∃v pre am,Eff o v pre am st af/\(WaP o=false->pre= []/\am=st.nx)/\
   ∃ch,rx1 T Γ A o an some=some ch/\(WaP o=true->Eff o v pre am an ch)/\(WaP o=false->Eff o v [] an.nx an ch):=by
 unfold rx1 at*;rw[Wfn]at h;obtain⟨⟨v,objs',am⟩,h1,h2⟩:=Xav.1 h;injection h2 with h2;subst h2;cases eY:WaP o with
 |true=>
  obtain⟨e1,e2⟩:=hm eY;obtain⟨pre,rfl⟩:=Wkz o st v objs' am h1;refine⟨v,pre,am,⟨λt=>Wdq _ _ _ _,by cases o.dst<;>rfl,by cases o.dst<;>rfl⟩,by simp,?_⟩;have h3:rxe T Γ A o an WbF=some (v,pre++st.objs,am):=by
   obtain⟨ur,xa,nx2⟩:=an;simp only at e1 e2;subst e1 e2;rw[WsA o (env:=ur) (st:=st) WbF he];exact h1
  refine⟨_,?_,λ_=>⟨λt=>Wdq (⟨an.env,pre++st.objs,am⟩) o.dst v t,?_,?_⟩,by simp⟩
  .rw[Wfn,h3];rfl
  .rw[e1];cases o.dst<;>rfl
  .cases o.dst<;>rfl
 |false=>
  rw[WnK eY]at h1;obtain⟨u,h3,h4⟩:=Xav.1 h1;injection h4 with h4;have e1:u=v:=Wn (λp:Out=>p.1) h4;have e2:st.objs=objs':=Wn (λp:Out=>p.2.1) h4;have e3:st.nx=am:=Wn (λp:Out=>p.2.2) h4;subst e1 e2 e3;refine⟨u,[],st.nx,⟨λt=>Wdq _ _ _ _,by cases o.dst<;>rfl,by cases o.dst<;>rfl⟩,by simp,?_⟩;have h5:Wve T o an=some u:=by
   rw[←h3];refine Wrv eY he λyX x hx v hv id bU=>hf eY id ?_;unfold WcL;rw[yX];exact Whc _ hx hv id bU
  refine⟨_,?_,by simp,λ_=>⟨λt=>Wdq (⟨an.env,an.objs,an.nx⟩) o.dst u t,?_,?_⟩⟩
  .rw[Wfn,WnK eY,h5];rfl
  .cases o.dst<;>rfl
  .cases o.dst<;>rfl
theorem WvM{x:AVal}{b:Bool}(h:asB x=some b):x=one .bool b:=by
 unfold asB at h;split at h
 .injection h with h;subst h;rfl
 .cases h
theorem Wd8{st:St}{t:Nat}{x:AVal}(h:Wp st.env t=some x)(t':Nat):Wp (st.put (some t) x).env t'=Wp st.env t':=by
 rw[Wdq];split
 .rename_i e;injection e with e;subst e;exact h.symm
 .rfl
theorem Wbb(st:St)(d:Option Tmp)(x:AVal):(st.put d x).objs=st.objs:=by cases d<;>rfl
theorem WiJ(st:St)(d:Option Tmp)(x:AVal):(st.put d x).nx=st.nx:=by cases d<;>rfl
theorem WgN{o:Oper}{st an:St}(h:∀x∈Wab o.op,ev an x=ev st x):WcL o an=WcL o st:=by
 unfold WcL;rw[Wg3 _ h]
theorem Wsw{o:Oper}{st af an:St}(h:rxg T Γ A ops o st some=some af)(he:∀t∈WdG ops o,Wp an.env t=Wp st.env t)
  (hm:WaP o=true->an.objs=st.objs/\an.nx=st.nx) (hf:WaP o=false->∀id∈WcL o st,Wp an.objs id=Wp st.objs id):
  ∃v pre am,Eff o v pre am st af/\(WaP o=false->pre= []/\am=st.nx)/\
   ∃ch,rxg T Γ A ops o an some=some ch/\(WaP o=true->Eff o v pre am an ch)/\(WaP o=false->Eff o v [] an.nx an ch):=by
 have xb:∀x∈Wab o.op,ev an x=ev st x:=λx hx=>Wfh λt ht=>he t (by
  unfold WdG;exact Xn _ (Xfv.2 ⟨x,hx,ht⟩))
 unfold rxg at h⊢;cases hg:o.guard with
 |none=>
  rw[hg]at h;exact Wr1 h xb hm hf
 |some g=>
  obtain⟨j,want⟩:=g;rw[hg]at h;simp only at h⊢;cases ht:(ops[j]?).bind (·.dst)with
  |none=>rw[ht]at h;cases h
  |some t=>
   rw[ht]at h;simp only at h⊢;have jw:Wp an.env t=Wp st.env t:=he t (by
    unfold WdG;refine Xg _ ?_;rw[hg];simp only;rw[ht];simp)
   rw[jw];cases hx:Wp st.env t with
   |none=>rw[hx]at h;cases h
   |some x=>
    rw[hx]at h;have skip:∀(s s2:St) (s':St),some (s.put o.dst (.tup []))=some s'->(∀t,Wp s.env t=Wp st.env t)->s.objs=st.objs->s.nx=st.nx->(∀t,Wp s2.env t=Wp an.env t)->s2.objs=an.objs->s2.nx=an.nx->
      ∃v pre am,Eff o v pre am st s'/\(WaP o=false->pre= []/\am=st.nx)/\
       ∃ch,some (s2.put o.dst (.tup []))=some ch/\(WaP o=true->Eff o v pre am an ch)/\(WaP o=false->Eff o v [] an.nx an ch):=by
     intro s s2 s' hs a1 a2 a3 b1 b2 b3;injection hs with hs;subst hs;refine⟨.tup [],[],st.nx,⟨λt=>?_,by rw[Wbb,a2];rfl,by rw[WiJ,a3]⟩,λ_=>⟨rfl,rfl⟩,_,rfl,λeY=>⟨λt=>?_,by rw[Wbb,b2];rfl,by rw[WiJ,b3];exact(hm eY).2⟩,λ_=>⟨λt=>?_,by rw[Wbb,b2];rfl,by rw[WiJ,b3]⟩⟩
     .rw[Wdq,a1]
     .rw[Wdq,b1]
     .rw[Wdq,b1]
    have doit:∀b:Bool,x=one .bool b->rx1 T Γ A o (st.put (some t) (one .bool b)) some=some af->
      ∃v pre am,Eff o v pre am st af/\(WaP o=false->pre= []/\am=st.nx)/\
       ∃ch,rx1 T Γ A o (an.put (some t) (one .bool b)) some=some ch/\(WaP o=true->Eff o v pre am an ch)/\(WaP o=false->Eff o v [] an.nx an ch):=by
     intro b hb h1;subst hb;have l1:=Wd8 hx;have l2:=Wd8 (st:=an) (t:=t) (x:=one .bool b) (by rw[jw];exact hx);have qO:∀x∈Wab o.op,ev (st.put (some t) (one .bool b)) x=ev st x:=λx hx=>Wfh λt' _=>l1 t';have ut:∀x∈Wab o.op,ev (an.put (some t) (one .bool b)) x=ev an x:=λx hx=>Wfh λt' _=>l2 t';obtain⟨v,pre,am,e1,e2,ch,e3,e4,e5⟩:=Wr1 (an:=an.put (some t) (one .bool b)) h1 (λx hx=>by rw[ut x hx,qO x hx,xb x hx])
      (λeY=>hm eY) (λil id bU=>hf il id (by rw[←WgN qO];exact bU))
     refine⟨v,pre,am,⟨λt'=>by rw[e1.env,l1],e1.objs,e1.nx⟩,e2,ch,e3,λeY=>⟨λt'=>by rw[(e4 eY).env,l2],(e4 eY).objs,(e4 eY).nx⟩,λeY=>⟨λt'=>by rw[(e5 eY).env,l2],(e5 eY).objs,(e5 eY).nx⟩⟩
    have main:(match asB x with
      |some b=>bif b
       then(if want then rx1 T Γ A o (st.put (some t) (one .bool true)) some else some ((st.put (some t) (one .bool true)).put o.dst (.tup [])))
       else(if want then some ((st.put (some t) (one .bool false)).put o.dst (.tup []))else rx1 T Γ A o (st.put (some t) (one .bool false)) some)
      |none=>none)=some af->∃v pre am,Eff o v pre am st af/\(WaP o=false->pre= []/\am=st.nx)/\
       ∃ch,(match asB x with
      |some b=>bif b
       then(if want then rx1 T Γ A o (an.put (some t) (one .bool true)) some else some ((an.put (some t) (one .bool true)).put o.dst (.tup [])))
       else(if want then some ((an.put (some t) (one .bool false)).put o.dst (.tup []))else rx1 T Γ A o (an.put (some t) (one .bool false)) some)
      |none=>none)=some ch/\(WaP o=true->Eff o v pre am an ch)/\(WaP o=false->Eff o v [] an.nx an ch):=by
     intro h;cases hb:asB x with
     |none=>rw[hb]at h;cases h
     |some b=>
      rw[hb]at h;have fe:=WvM hb;have r1:∀b',b'=b->∀t',Wp (st.put (some t) (one .bool b')).env t'=Wp st.env t':=λb' e=>by subst e;exact Wd8 (by rw[hx,fe])
      have r2:∀b',b'=b->∀t',Wp (an.put (some t) (one .bool b')).env t'=Wp an.env t':=λb' e=>by subst e;exact Wd8 (by rw[jw,hx,fe])
      cases b<;>cases want
      .exact doit false fe h
      .exact skip _ _ _ h (r1 _ rfl) (Wbb _ _ _) (WiJ _ _ _) (r2 _ rfl) (Wbb _ _ _) (WiJ _ _ _)
      .exact skip _ _ _ h (r1 _ rfl) (Wbb _ _ _) (WiJ _ _ _) (r2 _ rfl) (Wbb _ _ _) (WiJ _ _ _)
      .exact doit true fe h
    cases x with
    |s y=>exact main h
    |tup l=>
     cases l with
     |nil=>exact skip st an af h (λ_=>rfl) rfl rfl (λ_=>rfl) rfl rfl
     |cons y l=>exact main h
end
end Go.Sx
namespace Go.Sx
set_option linter.unusedVariables false
set_option linter.unusedSimpArgs false
structure Rc where
 i:Nat
 v:AVal
 pre:Waa
 nx:Nat
 ids:List Nat
 mv:Bool
section
variable{T:Tab}{Γ:Ctx}{A:List (Nat×An)}{ops:Array Oper}
structure StepTo(T:Tab)(Γ:Ctx)(A:List (Nat×An))(ops:Array Oper)(ρ:Rc)(o:Oper)(st af:St):Prop where
 at_:ops[ρ.i]?=some o
 isM:ρ.mv=WaP o
 lk:ρ.mv=false->ρ.ids=WcL o st
 run:rxg T Γ A ops o st some=some af
 env:∀t,Wp af.env t=if o.dst=some t then some ρ.v else Wp st.env t
 objs:af.objs=if ρ.mv then ρ.pre++st.objs else st.objs
 nx:af.nx=if ρ.mv then ρ.nx else st.nx
def WvW(T:Tab)(Γ:Ctx)(A:List (Nat×An))(ops:Array Oper):List Rc->St->St->Prop
 | [],st,af=>st=af
 |ρ::l,st,af=>∃o eH,StepTo T Γ A ops ρ o st eH/\WvW T Γ A ops l eH af
theorem Wso{i:Nat}{o:Oper}{st af:St}(hi:ops[i]?=some o)(h:rxg T Γ A ops o st some=some af):
  ∃ρ:Rc,ρ.i=i/\StepTo T Γ A ops ρ o st af:=by
 obtain⟨v,pre,am,e1,e2,_⟩:=Wsw (an:=st) h (λ_ _=>rfl) (λ_=>⟨rfl,rfl⟩) (λ_ _ _=>rfl);refine⟨⟨i,v,pre,am,WcL o st,WaP o⟩,rfl,hi,rfl,λ_=>rfl,h,e1.env,?_,?_⟩
 .simp only;cases hm:WaP o with
  |true=>simpa using e1.objs
  |false=>rw[e1.objs,(e2 hm).1];rfl
 .simp only;cases hm:WaP o with
  |true=>simpa using e1.nx
  |false=>rw[e1.nx,(e2 hm).2];rfl
theorem StepTo.move{ρ:Rc}{o:Oper}{st af an:St}(h:StepTo T Γ A ops ρ o st af)(he:∀t∈WdG ops o,Wp an.env t=Wp st.env t)
  (hm:ρ.mv=true->an.objs=st.objs/\an.nx=st.nx) (hf:ρ.mv=false->∀id∈ρ.ids,Wp an.objs id=Wp st.objs id):
  ∃ch,StepTo T Γ A ops ρ o an ch:=by
 obtain⟨v,pre,am,e1,e2,ch,e3,e4,e5⟩:=Wsw (an:=an) h.run he (λeY=>hm (by rw[h.isM];exact eY)) (λil id bU=>hf (by rw[h.isM];exact il) id (by rw[h.lk (by rw[h.isM];exact il)];exact bU));have hv:∀t,o.dst=some t->v=ρ.v:=λt ht=>by
  have a:=e1.env t;have b:=h.env t;rw[Wf ht]at a b;rw[a]at b;injection b
 have tF:ρ.mv=false->WcL o an=WcL o st:=λ_=>WgN λx hx=>Wfh λt ht=>he t (by
  unfold WdG;exact Xn _ (Xfv.2 ⟨x,hx,ht⟩))
 cases eY:WaP o with
 |true=>
  have hρ:ρ.mv=true:=by rw[h.isM];exact eY
  have e4:=e4 eY;obtain⟨q1,q2⟩:=hm hρ;refine⟨ch,h.at_,h.isM,λhf=>(by rw[hρ]at hf;cases hf),e3,λt=>?_,?_,?_⟩
  .rw[e4.env];split
   .rename_i ht;rw[hv t ht]
   .rfl
  .rw[e4.objs,hρ];simp only[W4];have a:=e1.objs;have b:=h.objs;rw[hρ]at b;simp only[W4]at b;rw[a]at b;rw[List.append_cancel_right b]
  .rw[e4.nx,hρ];simp only[W4];have a:=e1.nx;have b:=h.nx;rw[hρ]at b;simp only[W4]at b;rw[←a,b]
 |false=>
  have hρ:ρ.mv=false:=by rw[h.isM];exact eY
  have e5:=e5 eY;refine⟨ch,h.at_,h.isM,λhf=>by rw[tF hρ];exact h.lk hρ,e3,λt=>?_,?_,?_⟩
  .rw[e5.env];split
   .rename_i ht;rw[hv t ht]
   .rfl
  .rw[e5.objs,hρ];rfl
  .rw[e5.nx,hρ];rfl
def Wt7(ids:List Nat)(pre:Waa):Prop:=∀id∈ids,id∉WhL pre
def WxM(B:List (List Nat))(x y:Rc):Prop:=
 (x.mv=false->y.mv=true->WcW B x.i y.i=true\/Wt7 x.ids y.pre)/\
 (x.mv=true->y.mv=false->WcW B x.i y.i=true\/Wt7 y.ids x.pre)
theorem Wbe{α:Type}:∀(l:List Nat) (k:List Nat->α),Wgr l k=k l
 | [],_=>rfl
 |x::l,k=>by rw[Wgr,Wbe l]
theorem Wgz{α:Type}:∀(l:List (List Nat)) (k:List (List Nat)->α),WpZ l k=k l
 | [],_=>rfl
 |x::l,k=>by rw[WpZ,Wbe,Wgz l]
theorem Wk1{ids:List Nat}{pre:Waa}(h:Wgg ids (WhL pre)=true):Wt7 ids pre:=λid bU hk=>by
 unfold Wgg at h;have:=Xad.1 h id bU;rw[(WaT id _).2 hk]at this;cases this
theorem Wrc(pre objs:Waa):Wqb objs (pre++objs)=WhL pre:=by
 unfold Wqb;simp
theorem WlB{B:List (List Nat)}{R:Type}{k:St->Option R}{r:R}:∀(l:List Nat) (fl mu:List (Nat×List Nat)) (st:St),rdx T Γ A ops B l fl mu st k=some r->
  ∃(rs:List Rc) (af:St),rs.map (·.i)=l/\WvW T Γ A ops rs st af/\k af=some r/\rs.Pairwise (WxM B)/\
   (∀p∈fl,∀ρ∈rs,ρ.mv=true->WcW B p.1 ρ.i=true\/Wt7 p.2 ρ.pre)/\
   (∀p∈mu,∀ρ∈rs,ρ.mv=false->WcW B p.1 ρ.i=true\/Wgg ρ.ids p.2=true)
 | [],fl,mu,st,h=>⟨[],st,rfl,rfl,h,List.Pairwise.nil,by simp,by simp⟩
 |i::l,fl,mu,st,h=>by
  simp only[rdx]at h;cases ho:ops[i]? with
  |none=>rw[ho]at h;cases h
  |some o=>
   rw[ho]at h;simp only at h;cases hm:WaP o with
   |true=>
    simp only[hm,Wb]at h;obtain⟨eH,h1,h2⟩:=WgH h;rw[Wbe]at h2;obtain⟨kS,h2⟩:=W3 h2;obtain⟨ρ,hi,hs⟩:=Wso ho h1;have hρ:ρ.mv=true:=by rw[hs.isM];exact hm
    have aH:=hs.objs;rw[hρ]at aH;simp only[W4]at aH;rw[aH,Wrc]at kS h2;obtain⟨rs,af,q1,q2,q3,q4,q5,q6⟩:=WlB l _ _ _ h2;refine⟨ρ::rs,af,by simp[hi,q1],⟨o,eH,hs,q2⟩,q3,List.Pairwise.cons (λy hy=>⟨λhf=>(by rw[hρ]at hf;cases hf),λ_ om=>?_⟩) q4,λp hp y hy oo=>?_,λp hp y hy om=>?_⟩
    .rcases q6 (i,WhL ρ.pre) (Xj ..) y hy om with h|h
     .rw[hi];exact .inl h
     .exact .inr (Wk1 h)
    .rcases Xs.1 hy with rfl|hy
     .have:=Xad.1 kS p hp;rw[Xcd]at this;rw[hi];exact this.imp id Wk1
     .exact q5 p hp y hy oo
    .rcases Xs.1 hy with rfl|hy
     .rw[hρ]at om;cases om
     .exact q6 p (Xf _ hp) y hy om
   |false=>
    simp only[hm,Wa]at h;rw[Wbe]at h;obtain⟨kS,h⟩:=W3 h;obtain⟨eH,h1,h2⟩:=WgH h;obtain⟨ρ,hi,hs⟩:=Wso ho h1;have hρ:ρ.mv=false:=by rw[hs.isM];exact hm
    have uu:=hs.lk hρ;rw[←uu]at kS h2;obtain⟨rs,af,q1,q2,q3,q4,q5,q6⟩:=WlB l _ _ _ h2;refine⟨ρ::rs,af,by simp[hi,q1],⟨o,eH,hs,q2⟩,q3,List.Pairwise.cons (λy hy=>⟨λ_ oo=>?_,λhf=>(by rw[hρ]at hf;cases hf)⟩) q4,λp hp y hy oo=>?_,λp hp y hy om=>?_⟩
    .rw[hi];exact q5 (i,ρ.ids) (Xj ..) y hy oo
    .rcases Xs.1 hy with rfl|hy
     .rw[hρ]at oo;cases oo
     .exact q5 p (Xf _ hp) y hy oo
    .rcases Xs.1 hy with rfl|hy
     .have:=Xad.1 kS p hp;rw[Xcd]at this;rw[hi];exact this
     .exact q6 p hp y hy om
def WeB(ops:Array Oper)(i:Nat):Option Tmp:=(ops[i]?).bind (·.dst)
def Wqi(ops:Array Oper):List Rc->(Nat->Option AVal)->Nat->Option AVal
 | [],e,t=>e t
 |ρ::a,e,t=>Wqi ops a (λt'=>if WeB ops ρ.i=some t' then some ρ.v else e t') t
def Wh6:List Rc->Waa×Nat->Waa×Nat
 | [],m=>m
 |ρ::a,m=>Wh6 a (if ρ.mv then(ρ.pre++m.1,ρ.nx)else m)
theorem Whg:∀(rs:List Rc) (st af:St),WvW T Γ A ops rs st af->(∀t,Wp af.env t=Wqi ops rs (Wp st.env) t)/\(af.objs,af.nx)=Wh6 rs (st.objs,st.nx)
 | [],st,af,h=>by cases h;exact⟨λ_=>rfl,rfl⟩
 |ρ::rs,st,af,⟨o,eH,hs,h⟩=>by
  obtain⟨h1,h2⟩:=Whg rs eH af h;have e:(Wp eH.env)= λt'=>if WeB ops ρ.i=some t' then some ρ.v else Wp st.env t':=funext λt=>by
   rw[hs.env];unfold WeB;rw[hs.at_];rfl
  refine⟨λt=>by rw[h1,e];rfl,?_⟩;rw[h2,Wh6];congr 1;rw[hs.objs,hs.nx];split<;>rfl
theorem Wkv:∀(a:List Rc) (ρ:Rc) (b:List Rc) (st af:St),WvW T Γ A ops (a++ρ::b) st af->∃o eH an,WvW T Γ A ops a st eH/\StepTo T Γ A ops ρ o eH an
 | [],ρ,b,st,af,⟨o,eH,hs,h⟩=>⟨o,st,eH,rfl,hs⟩
 |x::a,ρ,b,st,af,⟨o,eH,hs,h⟩=>by
  obtain⟨o',s1,s2,h1,h2⟩:=Wkv a ρ b eH af h;exact⟨o',s1,s2,⟨o,eH,hs,h1⟩,h2⟩
theorem WbB:∀(a:List Rc) (m:Waa×Nat),Wh6 a m=Wh6 (a.filter (·.mv)) m
 | [],_=>rfl
 |ρ::a,m=>by
  rw[Wh6,WbB a,Xbj];cases h:ρ.mv with
  |true=>simp only[W4,Wh6,h]
  |false=>simp only[Xai,W7]
theorem Wd7:∀(a b:List Rc) (m:Waa×Nat),Wh6 (a++b) m=Wh6 b (Wh6 a m)
 | [],_,_=>rfl
 |ρ::a,b,m=>by rw[Xbd,Wh6,Wd7 a b];rfl
theorem Wja{pre objs:Waa}{id:Nat}(h:id∉WhL pre):Wp (pre++objs) id=Wp objs id:=by
 induction pre with
 |nil=>rfl
 |cons p pre ih=>
  obtain⟨j,ob⟩:=p;simp only[WhL,Xaf,Xs,not_or]at h;rw[Xbd,WG,Wc (λe=>h.1 e.symm)];exact ih h.2
theorem Wiv{id:Nat}:∀(a:List Rc) (m:Waa×Nat),(∀ρ∈a,ρ.mv=true->id∉WhL ρ.pre)->Wp (Wh6 a m).1 id=Wp m.1 id
 | [],_,_=>rfl
 |ρ::a,m,h=>by
  rw[Wh6,Wiv a _ λx hx=>h x (Xf _ hx)];split
  .rename_i hm;exact Wja (h ρ (Xj ..) hm)
  .rfl
def Wlj(ops:Array Oper):Prop:=∀i j t,WeB ops i=some t->WeB ops j=some t->i=j
theorem WgY{t:Nat}:∀(a:List Rc) (e:Nat->Option AVal),(∀ρ∈a,WeB ops ρ.i≠some t)->Wqi ops a e t=e t
 | [],_,_=>rfl
 |ρ::a,e,h=>by
  rw[Wqi,WgY a _ λx hx=>h x (Xf _ hx),Wc (h ρ (Xj ..))]
theorem Wip{t:Nat}(h1:Wlj ops):∀(a:List Rc) (e:Nat->Option AVal),(a.map (·.i)).Nodup->∀ρ∈a,WeB ops ρ.i=some t->Wqi ops a e t=some ρ.v
 | [],_,_,_,h,_=>by cases h
 |x::a,e,hn,ρ,hρ,ht=>by
  rw[Xaf,Xac]at hn;rw[Wqi];rcases Xs.1 hρ with rfl|hρ
  .rw[WgY a _ λy hy yY=>hn.1 (by rw[h1 _ _ _ ht yY];exact Xw.2 ⟨y,hy,rfl⟩),Wf ht]
  .exact Wip h1 a _ hn.2 ρ hρ ht
theorem Wkn{t:Nat}(h1:Wlj ops){a b:List Rc}{e:Nat->Option AVal}(ha:(a.map (·.i)).Nodup)(hb:(b.map (·.i)).Nodup)
  (h:∀ρ,WeB ops ρ.i=some t->(ρ∈a↔ρ∈b)):Wqi ops a e t=Wqi ops b e t:=by
 by_cases hx:∃ρ∈a,WeB ops ρ.i=some t
 .obtain⟨ρ,hρ,ht⟩:=hx;rw[Wip h1 a e ha ρ hρ ht,Wip h1 b e hb ρ ((h ρ ht).1 hρ) ht]
 .rw[WgY a e λρ hρ ht=>hx ⟨ρ,hρ,ht⟩,WgY b e λρ hρ ht=>hx ⟨ρ,(h ρ ht).2 hρ,ht⟩]
end
end Go.Sx
namespace Go.Sx
set_option linter.unusedVariables false
set_option linter.unusedSimpArgs false
theorem Wgb{α:Type}{x:α}:∀{a c b d:List α},(a++x::b).Nodup->a++x::b=c++x::d->a=c
 | [],[],_,_,_,_=>rfl
 | [],y::c,b,d,hn,h=>by
  simp only[Xbe,Xbd,List.cons.injEq]at h;obtain⟨rfl,h⟩:=h;rw[Xbe,Xac]at hn;exact WE (by rw[h];simp) hn.1
 |y::a,[],b,d,hn,h=>by
  simp only[Xbe,Xbd,List.cons.injEq]at h;obtain⟨rfl,h⟩:=h;rw[Xbd,Xac]at hn;exact WE (by simp) hn.1
 |y::a,z::c,b,d,hn,h=>by
  simp only[Xbd,List.cons.injEq]at h;obtain⟨rfl,h⟩:=h;rw[Xbd,Xac]at hn;rw[Wgb hn.2 h]
def WaQ(ops:Array Oper)(i:Nat):Bool:=match ops[i]? with
 |some o=>WaP o
 |none=>false
theorem Rel.same{w0:World}{F:CS}{nt:Slots}{G0 G:GH}{ν:Nat->Nu}{st an:St}{a:Act}{w:World}(h:Rel w0 F nt G0 G ν st a w)
  (he:∀t,Wp an.env t=Wp st.env t) (ho:an.objs=st.objs) (hn:an.nx=st.nx):Rel w0 F nt G0 G ν an a w:=
 ⟨h.defers,h.ntm,h.par,λi x hx=>by rw[he]at hx;rw[hn];exact h.env i x hx,by rw[ho,hn];exact h.h,h.gx,λx v hv=>by rw[hn];exact h.ex x v hv⟩
theorem Wu9:∀(rs:List Rc),(rs.map (·.i)).Nodup->∃rec:Nat->Rc,∀ρ∈rs,rec ρ.i=ρ
 | [],_=>⟨λi=>⟨i,.tup [],[],0,[],false⟩,by simp⟩
 |ρ::rs,h=>by
  rw[Xaf,Xac]at h;obtain⟨rec,hr⟩:=Wu9 rs h.2;refine⟨λi=>if i=ρ.i then ρ else rec i,λx hx=>?_⟩;rcases Xs.1 hx with rfl|hx
  .simp
  .simp only;rw[Wc (λe=>h.1 (by rw[←e];exact Xw.2 ⟨x,hx,rfl⟩))];exact hr x hx
section
variable{w0:World}{F:CS}{nt:Slots}{G0:GH}{P:Program}{T:Tab}{Γ:Ctx}{A:List (Nat×An)}{ops:Array Oper}{Q:Exit->Act->World->Prop}
theorem Wtq(hT:Waj P T)(hΓ:WdT P Γ)(hd:∀o∈ops,∀d,o.dst=some d->nt.Ok d){l L:List Nat}(hl:Order ops l)(hL:Order ops L)(fe:Wlj ops)
  (iN:∀(i:Nat) (o:Oper) (t:Nat),ops[i]?=some o->t∈WdG ops o->∀j,WeB ops j=some t->j=i\/WcW (WcZ ops.toList []) j i=true\/WcW (WcZ ops.toList []) i j=true)
  (hσ:l.filter (WaQ ops)=L.filter (WaQ ops)) {rs:List Rc} {st af:St} (ia:rs.map (·.i)=L) (kT:WvW T Γ A ops rs st af) (cG:rs.Pairwise (WxM (WcZ ops.toList [])))
  (hK:∀a w G ν,Rel w0 F nt G0 G ν af a w->Q .normal a w) {a:Act} {w:World} {G:GH} {ν:Nat->Nu} (hr:Rel w0 F nt G0 G ν st a w):wpOps P ops Q l a w:=by
 have bh:(rs.map (·.i)).Nodup:=by rw[ia];exact hL.nodup
 obtain⟨rec,dC⟩:=Wu9 rs bh;have hLr:L.map rec=rs:=by
  rw[←ia,Xdp]
  conv=>rhs;rw[←Xgx rs]
  exact Xev λρ hρ=>dC ρ hρ
 have jx:∀i,i∈l↔i∈L:=λi=>by rw[←hl.all,hL.all]
 have jO:∀i∈L,(rec i).i=i/\rec i∈rs:=λi hi=>by
  rw[←ia]at hi;obtain⟨ρ,hρ,rfl⟩:=Xw.1 hi;rw[dC ρ hρ];exact⟨rfl,hρ⟩
 have d9:∀i∈L,∃pre post o eH an,L=pre++i::post/\WvW T Γ A ops (pre.map rec) st eH/\StepTo T Γ A ops (rec i) o eH an:=λi hi=>by
  obtain⟨pre,post,e⟩:=Xec hi;have:rs=pre.map rec++rec i::post.map rec:=by rw[←hLr,e];simp
  rw[this]at kT;obtain⟨o,eH,an,h1,h2⟩:=Wkv _ _ _ _ _ kT;exact⟨pre,post,o,eH,an,e,h1,h2⟩
 have hJ:∀i∈L,(rec i).mv=WaQ ops i:=λi hi=>by
  obtain⟨pre,post,o,eH,an,e,h1,h2⟩:=d9 i hi;rw[h2.isM];have:=h2.at_;rw[(jO i hi).1]at this;unfold WaQ;rw[this]
 have gq:∀(p:List Nat),(∀i∈p,i∈L)->(p.map rec).filter (·.mv)=(p.filter (WaQ ops)).map rec:=by
  intro p
  induction p with
  |nil=>intro _;rfl
  |cons i p ih=>
   intro h;have:=ih λj hj=>h j (Xf _ hj);rw[Xaf,Xbj,Xbj,hJ i (h i (Xj ..))];split
   .rw[Xaf,this]
   .exact this
 have oq:∀(p:List Nat),(∀i∈p,i∈L)->(p.map rec).map (·.i)=p:=by
  intro p h;rw[Xdp]
  conv=>rhs;rw[←Xgx p]
  exact Xev λi hi=>(jO i (h i hi)).1
 have dB:∀(p:List Nat),(∀i∈p,i∈L)->∀i∈L,(rec i∈p.map rec↔i∈p):=λp hp i hi=>by
  constructor
  .intro h;obtain⟨j,hj,e⟩:=Xw.1 h;have:j=i:=by rw[←(jO j (hp j hj)).1,←(jO i hi).1,e]
   rw[←this];exact hj
  .exactλh=>Xw.2 ⟨i,h,rfl⟩
 have ny:∀i j pre post,L=pre++i::post->j∈post->WxM (WcZ ops.toList []) (rec i) (rec j):=λi j pre post e hj=>by
  have:rs=pre.map rec++rec i::post.map rec:=by rw[←hLr,e];simp
  rw[this,List.pairwise_append]at cG;exact(List.pairwise_cons.1 cG.2.1).1 _ (Xw.2 ⟨j,hj,rfl⟩)
 suffices main:∀(s p:List Nat),l=p++s->∀(an:St) (a:Act) (w:World) (G:GH) (ν:Nat->Nu),Rel w0 F nt G0 G ν an a w->
   (∀t,Wp an.env t=Wqi ops (p.map rec) (Wp st.env) t)->(an.objs,an.nx)=Wh6 (p.map rec) (st.objs,st.nx)->wpOps P ops Q s a w from
  main l [] rfl st a w G ν hr (λ_=>rfl) rfl
 intro s
 induction s with
 |nil=>
  intro p e an a w G ν jN he hm;rw[Xcq]at e;subst e;obtain⟨f1,f2⟩:=Whg _ _ _ kT;have qP:∀i∈l,i∈L:=λi hi=>(jx i).1 hi;refine hK a w G ν (jN.same (λt=>?_) ?_ ?_)
  .rw[f1,he];refine Wkn fe bh (by rw[oq l qP];exact hl.nodup) λρ _=>?_;constructor
   .intro hρ;have hi:ρ.i∈L:=by rw[←ia];exact Xw.2 ⟨ρ,hρ,rfl⟩
    rw[←dC ρ hρ];exact(dB l qP ρ.i hi).2 ((jx _).2 hi)
   .intro hρ;obtain⟨i,hi,rfl⟩:=Xw.1 hρ;exact(jO i (qP i hi)).2
  .have:Wh6 (l.map rec) (st.objs,st.nx)=Wh6 rs (st.objs,st.nx):=by
    rw[WbB,gq l qP,hσ,←gq L (λi hi=>hi),←WbB,hLr]
   rw[this,←f2]at hm;exact(Wn (·.1) hm).symm
  .have:Wh6 (l.map rec) (st.objs,st.nx)=Wh6 rs (st.objs,st.nx):=by
    rw[WbB,gq l qP,hσ,←gq L (λi hi=>hi),←WbB,hLr]
   rw[this,←f2]at hm;exact(Wn (·.2) hm).symm
 |cons i s ih=>
  intro p e an a w G ν jN he hm;have pU:i∈L:=(jx i).1 (by rw[e];simp);have qQ:∀j∈p,j∈L:=λj hj=>(jx j).1 (by rw[e];exact Xn _ hj);obtain⟨pre,post,o,eH,yZ,eL,h1,h2⟩:=d9 i pU;have jy:∀j∈pre,j∈L:=λj hj=>by rw[eL];exact Xn _ hj
  have sT:ops[i]?=some o:=by have:=h2.at_;rw[(jO i pU).1]at this;exact this
  obtain⟨g1,g2⟩:=Whg _ _ _ h1;have mT:=hl.nodup;have mU:=hL.nodup;rw[e]at mT;rw[eL]at mU;have qR:i∉p:=λh=>(Xae.1 mT).2.2 i h i (Xj ..) rfl;have jz:i∉pre:=λh=>(Xae.1 mU).2.2 i h i (Xj ..) rfl;have ot:∀t∈WdG ops o,Wp an.env t=Wp eH.env t:=λt ht=>by
   rw[he,g1];refine Wkn fe (by rw[oq p qQ];exact(Xae.1 mT).1) (by rw[oq pre jy];exact(Xae.1 mU).1) λρ hρt=>?_;have key:∀j∈L,WeB ops j=some t->(j∈p↔j∈pre):=λj hj ua=>by
    rcases iN i o t sT ht j ua with rfl|hb|hb
    .exact⟨λh=>WE h qR,λh=>WE h jz⟩
    .by_cases qS:j=i
     .subst qS;exact⟨λh=>WE h qR,λh=>WE h jz⟩
     .exact⟨λ_=>hL.bef' eL hb qS,λ_=>hl.bef' e hb qS⟩
    .exact⟨λh=>WE (hl.bef e hb h) qR,λh=>WE (hL.bef eL hb h) jz⟩
   constructor
   .intro hρ;obtain⟨j,hj,rfl⟩:=Xw.1 hρ;have qT:=qQ j hj;rw[(jO j qT).1]at hρt;exact Xw.2 ⟨j,(key j qT hρt).1 hj,rfl⟩
   .intro hρ;obtain⟨j,hj,rfl⟩:=Xw.1 hρ;have qT:=jy j hj;rw[(jO j qT).1]at hρt;exact Xw.2 ⟨j,(key j qT hρt).2 hj,rfl⟩
  have xc:Wh6 (p.map rec) (st.objs,st.nx)=Wh6 ((p.filter (WaQ ops)).map rec) (st.objs,st.nx):=by rw[WbB,gq p qQ]
  have nz:Wh6 (pre.map rec) (st.objs,st.nx)=Wh6 ((pre.filter (WaQ ops)).map rec) (st.objs,st.nx):=by rw[WbB,gq pre jy]
  obtain⟨y0,h3⟩:=h2.move (an:=an) ot (λeY=>by
   have sU:WaQ ops i=true:=by rw[←hJ i pU];exact eY
   have:p.filter (WaQ ops)=pre.filter (WaQ ops):=by
    have q:=hσ;rw[e,eL,Xcr,Xcr,Xbj,Xbj,Wf sU,Wf sU]at q;refine Wgb ?_ q;have:=hl.nodup.filter (WaQ ops);rw[e,Xcr,Xbj,Wf sU]at this;exact this
   rw[xc,this,←nz,←g2]at hm;exact⟨Wn (·.1) hm,Wn (·.2) hm⟩) (λil id bU=>by
   have q:(p.filter (WaQ ops))<+:l.filter (WaQ ops):=by rw[e,Xcr];exact Xgr _ _
   have q2:(pre.filter (WaQ ops))<+:l.filter (WaQ ops):=by rw[hσ,eL,Xcr];exact Xgr _ _
   have tU:an.objs=(Wh6 ((p.filter (WaQ ops)).map rec) (st.objs,st.nx)).1:=by rw[←xc,←hm]
   have sH:eH.objs=(Wh6 ((pre.filter (WaQ ops)).map rec) (st.objs,st.nx)).1:=by rw[←nz,←g2]
   rw[tU,sH];rcases List.prefix_or_prefix_of_prefix q q2 with⟨X,hX⟩|⟨X,hX⟩
   .
    rw[←hX,Xz,Wd7];refine(Wiv _ _ λρ hρ hρm=>?_).symm;obtain⟨m,pV,rfl⟩:=Xw.1 hρ;have iY:m∈pre:=(Xax.1 (by rw[←hX];exact Xg _ pV:m∈pre.filter (WaQ ops))).1;have ou:m∉p:=λaM=>by
     have uv:WaQ ops m=true:=(Xax.1 (by rw[←hX];exact Xg _ pV:m∈pre.filter (WaQ ops))).2;have kU:(pre.filter (WaQ ops)).Nodup:=(Xae.1 mU).1.filter _;rw[←hX]at kU;exact(Xae.1 kU).2.2 m (Xax.2 ⟨aM,uv⟩) m pV rfl
    obtain⟨u,v,eu⟩:=Xec iY;have hf:=ny m i u (v++i::post) (by rw[eL,eu];simp) (by simp);rcases hf.2 hρm il with hb|hb
    .rw[(jO m (jy m iY)).1,(jO i pU).1]at hb;exact WE (hl.bef' e hb (λhc=>jz (hc▸iY))) ou
    .exact hb id bU
   .rw[←hX,Xz,Wd7];refine Wiv _ _ λρ hρ hρm=>?_;obtain⟨m,pV,rfl⟩:=Xw.1 hρ;have xd:m∈p.filter (WaQ ops):=by rw[←hX];exact Xg _ pV
    have mV:m∈p:=(Xax.1 xd).1;have ou:m∉pre:=λaM=>by
     have uv:WaQ ops m=true:=(Xax.1 xd).2;have kU:(p.filter (WaQ ops)).Nodup:=(Xae.1 mT).1.filter _;rw[←hX]at kU;exact(Xae.1 kU).2.2 m (Xax.2 ⟨aM,uv⟩) m pV rfl
    have xe:=qQ m mV;have ov:m∈post:=by
     rw[eL]at xe;rcases Xo.1 xe with h|h
     .exact WE h ou
     .rcases Xs.1 h with h|h
      .exact WE (h▸mV) qR
      .exact h
    have hf:=ny i m pre post eL ov;rcases hf.1 il hρm with hb|hb
    .rw[(jO m (qQ m mV)).1,(jO i pU).1]at hb;exact WE (hl.bef e hb mV) qR
    .exact hb id bU)
  have y5:∀d,o.dst=some d->nt.Ok d:=hd o (Array.mem_of_getElem? sT);have sW:=Wvp (F:=F) (G0:=G0) (w0:=w0) hT hΓ y5 (Q:=Q) (k:=some) (r:=y0) (K:=wpOps P ops Q s) (λy6 a' w' G' ν' hr4 h4=>by
   injection h4 with h4;subst h4;refine ih (p++ [i]) (by rw[e];simp) y6 a' w' G' ν' hr4 (λt=>?_) ?_
   .rw[h3.env];have hv:Wqi ops ((p++ [i]).map rec) (Wp st.env) t=if WeB ops i=some t then some (rec i).v else Wqi ops (p.map rec) (Wp st.env) t:=by
     rw[Xz];have gen:∀(x:List Rc) (y:Rc) (e:Nat->Option AVal),Wqi ops (x++ [y]) e t=if WeB ops y.i=some t then some y.v else Wqi ops x e t:=by
      intro x
      induction x with
      |nil=>intro y e;rfl
      |cons z x ih=>intro y e;rw[Xbd,Wqi,ih];rfl
     rw[List.map_singleton,gen,(jO i pU).1]
    rw[hv,he];have:WeB ops i=o.dst:=by unfold WeB;rw[sT];rfl
    rw[this]
   .rw[Xz,Wd7,←hm];simp only[Xaf,Xcg,Wh6];rw[h3.objs,h3.nx];split<;>rfl) jN h3.run
  rw[wpOps_cons];unfold wpOp;rw[sT];simp only;split
  .rename_i hw;rw[Wf hw]at sW;exact .inl sW
  .rename_i hw;rw[Wc hw]at sW;exact sW
end
end Go.Sx
namespace Go.Sx
set_option linter.unusedVariables false
set_option linter.unusedSimpArgs false
theorem WkG:∀{l:List (Nat×Nat)},Wby (l.map (·.1))=true->∀p∈l,∀q∈l,p.1=q.1->p=q
 | [],_,p,hp,_,_,_=>by cases hp
 |x::l,h,p,hp,q,hq,e=>by
  have hn:=(Wff _).1 h;simp only[Xaf,Wby,Xi]at h;rw[Xaf,Xac]at hn;rcases Xs.1 hp with h1|h1
  .rcases Xs.1 hq with h2|h2
   .rw[h1,h2]
   .exact WE (Xw.2 ⟨q,h2,by rw[←e,h1]⟩) hn.1
  .rcases Xs.1 hq with h2|h2
   .exact WE (Xw.2 ⟨p,h1,by rw[e,h2]⟩) hn.1
   .exact WkG h.2 p h1 q h2 e
theorem Wkr:∀(l:List Oper) (n k:Nat) (o:Oper) (d:Nat),l[k]?=some o->o.dst=some d->(d,n+k)∈WhJ l n
 | [],_,k,o,d,h,_=>by simp at h
 |x::l,n,k,o,d,h,hd=>by
  cases k with
  |zero=>
   simp at h;subst h;simp only[WhJ,hd];exact Xj ..
  |succ k=>
   have:=Wkr l (n+1) k o d (by simpa using h) hd;have e:n+(k+1)=n+1+k:=by omega
   rw[e];simp only[WhJ];split
   .exact Xf _ this
   .exact this
theorem WhP{ops:Array Oper}{B:List (List Nat)}{D:List (Nat×Nat)}:∀(l:List Oper) (n:Nat),Wl2 ops B D l n=true->∀(k:Nat) (o:Oper),l[k]?=some o->∀t∈WdG ops o,∀p∈D,p.1=t->
  p.2=n+k\/WcW B p.2 (n+k)=true\/WcW B (n+k) p.2=true
 | [],_,_,k,o,h=>by simp at h
 |x::l,n,h,k,o,hk=>by
  simp only[Wl2,Xi]at h;cases k with
  |zero=>
   simp at hk;subst hk;intro t ht p hp e;have:=Xad.1 (Xad.1 h.1 t ht) p hp;simp only[Xcd,Xaj]at this;rcases this with((h1|h1)|h1)|h1
   .rw[e]at h1;simp at h1
   .exact .inl (by simpa using h1)
   .exact .inr (.inl h1)
   .exact .inr (.inr h1)
  |succ k=>
   have:=WhP l (n+1) h.2 k o (by simpa using hk);have e:n+(k+1)=n+1+k:=by omega
   rw[e];exact this
structure RegOk(ops:Array Oper):Prop where
 back:∀(k:Nat) (o:Oper),ops[k]?=some o->∀d∈WmU o,d<k
 one:Wlj ops
 slots:∀(i:Nat) (o:Oper) (t:Nat),ops[i]?=some o->t∈WdG ops o->∀j,WeB ops j=some t->j=i\/WcW (WcZ ops.toList []) j i=true\/WcW (WcZ ops.toList []) i j=true
theorem WiL{ops:Array Oper}{j t:Nat}(h:WeB ops j=some t):(t,j)∈WhJ ops.toList 0:=by
 unfold WeB at h;obtain⟨o,ho,hd⟩:=Xav.1 h;have:=Wkr ops.toList 0 j o t (by simpa using ho) hd;rw[Xau]at this;exact this
theorem Wq3{ops:Array Oper}(h:WuL ops (WcZ ops.toList [])=true):RegOk ops:=by
 simp only[WuL,Xi]at h;obtain⟨⟨h1,h2⟩,h3⟩:=h;refine⟨λk o ho e he=>?_,λi j t hi hj=>?_,λi o t ho ht j hj=>?_⟩
 .have:=WkY (ops:=ops) ops.toList 0 h1 k o (by simpa using ho) e he;omega
 .have:=WkG h2 _ (WiL hi) _ (WiL hj) rfl;exact Wn (·.2) this
 .have:=WhP ops.toList 0 h3 i o (by simpa using ho) t ht _ (WiL hj) rfl;simpa using this
theorem WkL{ops:Array Oper}:∀(l done:List Nat),WjH ops l done=true->done.Nodup->(∀i∈done,i<ops.size)->
  (done++l).Nodup/\(∀i∈done++l,i<ops.size)/\(done++l).length=ops.size/\(∀p i s,l=p++i::s->∀o,ops[i]?=some o->∀d∈WmU o,d∈done++p)
 | [],done,h,hn,ac=>by
  simp only[WjH]at h;exact⟨by simpa using hn,by simpa using ac,by simpa using h,λp i s e=>by simp at e⟩
 |x::l,done,h,hn,ac=>by
  simp only[WjH,Xi,Xaj]at h;obtain⟨⟨h1,h2⟩,h3⟩:=h;have hx:x∉done:=λhm=>by rw[(WaT x done).2 hm]at h1;cases h1
  cases ho:ops[x]? with
  |none=>rw[ho]at h2;cases h2
  |some o=>
   rw[ho]at h2;have mt:x<ops.size:=(Xbw.1 ho).1;obtain⟨g1,g2,g3,g4⟩:=WkL l (x::done) h3 (Xac.2 ⟨hx,hn⟩) (λi hi=>by
    rcases Xs.1 hi with rfl|hi
    .exact mt
    .exact ac i hi)
   have kV:List.Perm (x::done++l) (done++x::l):=by simpa using(List.perm_middle (a:=x) (l₁:=done) (l₂:=l)).symm
   refine⟨kV.nodup_iff.1 g1,λi hi=>g2 i (kV.mem_iff.2 hi),by rw[←kV.length_eq];exact g3,λp i s e o' jM d hd=>?_⟩;cases p with
   |nil=>
    simp only[Xbe,List.cons.injEq]at e;obtain⟨rfl,_⟩:=e;rw[ho]at jM;injection jM with jM;subst jM;have:=Xad.1 h2 d hd;simpa using(WaT d done).1 this
   |cons y p=>
    simp only[Xbd,List.cons.injEq]at e;obtain⟨rfl,e⟩:=e;have:=g4 p i s e o' jM d hd;simp only[Xbd,Xs,Xo]at this⊢;rcases this with h|h|h
    .exact .inr (.inl h)
    .exact .inl h
    .exact .inr (.inr h)
theorem Wpo{l:List Nat}{n:Nat}(hn:l.Nodup)(ac:∀i∈l,i<n)(ad:l.length=n):∀i,i<n->i∈l:=by
 intro i hi;refine Classical.byContradiction λh=>?_;have h1:(i::l).Nodup:=Xac.2 ⟨h,hn⟩;have h2:∀j∈i::l,j∈Xcu n:=λj hj=>by
  rw[Xdn];rcases Xs.1 hj with rfl|hj
  .exact hi
  .exact ac j hj
 have key:∀(a b:List Nat),a.Nodup->(∀x∈a,x∈b)->a.length<=b.length:=by
  intro a
  induction a with
  |nil=>intro b _ _;simp
  |cons x a ih=>
   intro b ow gH;rw[Xac]at ow;have qU:x∈b:=gH x (Xj ..);have:=ih (b.erase x) ow.2 λy hy=>(Xgn (λe=>ow.1 (by rw[←e];exact hy))).2 (gH y (Xf _ hy));rw[Xfu qU]at this;have fZ:=Xgc qU;simp;omega
 have:=key _ _ h1 h2;rw[Xfj,Xr]at this;omega
theorem Wpe{ops:Array Oper}{l:List Nat}(h:WjH ops l []=true):Order ops l:=by
 obtain⟨h1,h2,h3,h4⟩:=WkL l [] h Xdd (by simp);rw[Xbe]at h1 h2 h3;exact⟨h1,λi=>⟨Wpo h1 h2 h3 i,h2 i⟩,λp i s e o ho d hd=>by simpa using h4 p i s e o ho d hd⟩
theorem Wky:∀(l:List Oper) (n i:Nat),i∈WdS l n↔n<=i/\∃o,l[i-n]?=some o/\WaP o=true
 | [],n,i=>by simp[WdS]
 |o::l,n,i=>by
  have ih:=Wky l (n+1) i;have qV:(n<=i/\∃o',(o::l)[i-n]?=some o'/\WaP o'=true)↔(i=n/\WaP o=true)\/(n+1<=i/\∃o',l[i-(n+1)]?=some o'/\WaP o'=true):=by
   by_cases hi:i=n
   .subst hi;constructor
    .rintro⟨_,o',h1,h2⟩;rw[Xcx]at h1;injection h1 with h1;subst h1;exact .inl ⟨rfl,h2⟩
    .rintro(⟨_,h⟩|⟨h,_⟩)
     .exact⟨Xm _,o,by rw[Xcx];rfl,h⟩
     .omega
   .constructor
    .rintro⟨h0,o',h1,h2⟩;have e:i-n=(i-(n+1))+1:=by omega
     rw[e,Xef]at h1;exact .inr ⟨by omega,o',h1,h2⟩
    .rintro(⟨h,_⟩|⟨h0,o',h1,h2⟩)
     .exact WE h hi
     .have e:i-n=(i-(n+1))+1:=by omega
      exact⟨by omega,o',by rw[e,Xef];exact h1,h2⟩
  rw[qV,←ih];simp only[WdS];cases hm:WaP o with
  |true=>simp
  |false=>simp
theorem Wok{ops:Array Oper}{i:Nat}:i∈WdS ops.toList 0↔WaQ ops i=true:=by
 rw[Wky];unfold WaQ;simp only[Xch,true_and,Xdf,Array.getElem?_toList];cases ops[i]? with
 |none=>simp
 |some o=>simp
theorem Wqr{B:List (List Nat)}:∀(σ rem:List Nat) (n:Nat),σ.length<=n->σ.Nodup->(∀i,i∈rem↔i∈σ)->(∀p m s,σ=p++m::s->∀m'∈m::s,WcW B m' m=false)->σ∈WrR B n rem
 | [],rem,n,hn,bh,aM,hb=>by
  have:rem= []:=Xeo.2 λi hi=>by have:=(aM i).1 hi;cases this
  subst this;cases n<;>simp[WrR]
 |m::s,rem,0,hn,_,_,_=>by simp at hn
 |m::s,rem,n+1,hn,bh,aM,hb=>by
  have hm:m∈rem:=(aM m).2 (Xj ..);rw[Xac]at bh;cases hrem:rem with
  |nil=>rw[hrem]at hm;cases hm
  |cons x xs=>
   rw[←hrem];have fV:WrR B (n+1) rem=(rem.filter λm=>rem.all λm'=>!WcW B m' m).flatMap λm=>(WrR B n (rem.filter λx=>!Xaw x m)).map (m:: ·):=by rw[hrem];rfl
   rw[fV];refine Xfv.2 ⟨m,Xax.2 ⟨hm,Xad.2 λm' eW=>?_⟩,Xw.2 ⟨s,?_,rfl⟩⟩
   .rw[hb [] m s rfl m' ((aM m').1 eW)];rfl
   .refine Wqr s _ n (by simpa using hn) bh.2 (λi=>?_) (λp q s' e=>hb (m::p) q s' (by rw[e];rfl));rw[Xax,aM,Xs];constructor
    .rintro⟨h1,h2⟩;rcases h1 with rfl|h1
     .simp at h2
     .exact h1
    .intro h;refine⟨.inr h,?_⟩;have bQ:i≠m:=λe=>bh.1 (e▸h);cases cJ:Xaw i m with
     |false=>rfl
     |true=>exact WE (Nat.eq_of_beq_eq_true cJ) bQ
theorem Wu1:∀(l m:List Nat),eqN l m=true->l=m
 | [],[],_=>rfl
 | [],_::_,h=>by cases h
 |_::_,[],h=>by cases h
 |i::l,j::m,h=>by
  simp only[eqN,Xi]at h;have:i=j:=by simpa using h.1
  rw[this,Wu1 l m h.2]
theorem WsR{α:Type}{a b:Option α}{r:α}(h:Wb8 a b=some r):a=some r/\b=some r:=by
 unfold Wb8 at h;split at h
 .rename_i e;exact⟨h,e▸h⟩
 .cases h
section
variable{w0:World}{F:CS}{nt:Slots}{G0:GH}{P:Program}{T:Tab}{Γ:Ctx}{A:List (Nat×An)}{R:Type}{r:R}
theorem WpO{ops:Array Oper}{B:List (List Nat)}{st:St}{k:St->Option R}:∀(l:List (List Nat)),Wv4 T Γ A ops B st k l=some r->∀σ∈l,∃L,WjH ops L []=true/\L.filter (λi=>Wcv i σ)=σ/\rdx T Γ A ops B L [] [] st k=some r
 | [],_,σ,hσ=>by cases hσ
 |τ::l,h,σ,hσ=>by
  have one:Wgr (WiY ops.toList B ops.size [] τ) (λL=>bif WjH ops L []&&eqN (L.filter λi=>Wcv i τ) τ then rdx T Γ A ops B L [] [] st k else none)=some r->∃L,WjH ops L []=true/\L.filter (λi=>Wcv i τ)=τ/\rdx T Γ A ops B L [] [] st k=some r:=λh=>by
   rw[Wbe]at h;obtain⟨hc,h⟩:=W3 h;simp only[Xi]at hc;exact⟨_,hc.1,Wu1 _ _ hc.2,h⟩
  cases l with
  |nil=>
   simp only[Wv4]at h;rcases Xs.1 hσ with rfl|hσ
   .exact one h
   .cases hσ
  |cons x l=>
   have h:Wb8 (Wgr (WiY ops.toList B ops.size [] τ) (λL=>bif WjH ops L []&&eqN (L.filter λi=>Wcv i τ) τ then rdx T Γ A ops B L [] [] st k else none)) (Wv4 T Γ A ops B st k (x::l))=some r:=h;obtain⟨h1,h2⟩:=WsR h;rcases Xs.1 hσ with rfl|hσ
   .exact one h1
   .exact WpO (x::l) h2 σ hσ
theorem WtT(hM:P.follows .mixedOrders=true)(hT:Waj P T)(hΓ:WdT P Γ){id:Nat}{ops:Array Oper}(hd:∀o∈ops,∀d,o.dst=some d->nt.Ok d){k:St->Option R}{Q:Exit->Act->World->Prop}(hK:WrT w0 F nt G0 k r (Q .normal)):
  WrT w0 F nt G0 (λst=>Wl6 T Γ A ops st k) r ((Code.region id ops true).wp P Q):=λst a w G ν hr h=>by
 simp only[Wl6,Wgz]at h;obtain⟨uw,h⟩:=W3 h;have hR:=Wq3 uw;refine wp_region_draw λt=>?_;rw[hM];have hl:Order ops (Region.schedule true ops t):=Wj4 hR.back;generalize Region.schedule true ops t=l at hl;have hσ:l.filter (WaQ ops)∈WrR (WcZ ops.toList []) ops.size (WdS ops.toList 0):=by
  refine Wqr _ _ _ ?_ (hl.nodup.filter _) (λi=>?_) (λp m s e m' eW=>?_)
  .refine Xal (Xem _ _) ?_;have fa:l.length<=(Xcu ops.size).length:=by
    have key:∀(a b:List Nat),a.Nodup->(∀x∈a,x∈b)->a.length<=b.length:=by
     intro a
     induction a with
     |nil=>intro b _ _;simp
     |cons x a ih=>
      intro b ow gH;rw[Xac]at ow;have qU:x∈b:=gH x (Xj ..);have:=ih (b.erase x) ow.2 λy hy=>(Xgn (λe=>ow.1 (by rw[←e];exact hy))).2 (gH y (Xf _ hy));rw[Xfu qU]at this;have fZ:=Xgc qU;simp;omega
    exact key _ _ hl.nodup λx hx=>Xdn.2 ((hl.all x).2 hx)
   rw[Xfj]at fa;exact fa
  .rw[Wok,Xax];constructor
   .intro h;refine⟨(hl.all i).1 ?_,h⟩;unfold WaQ at h;split at h
    .rename_i o ho;exact(Xbw.1 ho).1
    .cases h
   .exactλh=>h.2
  .cases hb:WcW (WcZ ops.toList []) m' m with
   |false=>rfl
   |true=>
    exfalso;have mx:m∈l:=(Xax.1 (by rw[e];simp:m∈l.filter (WaQ ops))).1;obtain⟨u,v,eu⟩:=Xec mx;have hm'u:m'∈u++ [m]:=hl.bef (p:=u++ [m]) (s:=v) (by rw[eu];simp) hb (by simp);have xf:WaQ ops m=true:=(Xax.1 (by rw[e];simp:m∈l.filter (WaQ ops))).2;have qW:=hl.nodup.filter (WaQ ops);have e2:l.filter (WaQ ops)=u.filter (WaQ ops)++m::v.filter (WaQ ops):=by rw[eu,Xcr,Xbj,Wf xf]
    have y7:p=u.filter (WaQ ops):=by
     refine Wgb (b:=s) (d:=v.filter (WaQ ops)) (x:=m) ?_ ?_
     .rw[←e];exact qW
     .rw[←e,e2]
    rcases Xs.1 eW with rfl|hm's
    .
     have:=hl.bef (p:=u++ [m']) (s:=v) (by rw[eu];simp) hb (by simp);have c7:Wna ops (λj=>j∈u\/(j=m'/\False)):=λi o ho hi d hd=>by
      rcases hi with hi|⟨_,hf⟩
      .exact .inl (hl.closed (p:=u) (s:=m'::v) eu i o ho hi d hd)
      .exact hf.elim
     have back:∀(j i:Nat),WcW (WcZ ops.toList []) j i=true->j<i:=λj i qS=>by
      have qX:Wna ops (λx=>x<i\/(x=i)):=λx o ho hx d hd=>by
       have:d<x:=hR.back x o ho d hd;omega
      refine Classical.byContradiction λhn=>?_;have ac:∀(l:List Oper) (acc:List (List Nat)),(∀(k:Nat) (o:Oper),l[k]?=some o->ops[acc.length+k]?=some o)->(∀i,∀j∈acc.getD i [],j<i)->∀i,∀j∈(WcZ l acc).getD i [],j<i:=by
       intro l
       induction l with
       |nil=>intro acc _ h;exact h
       |cons o l ih=>
        intro acc hl h;refine ih _ (λk o' hk=>?_) (λi j hj=>?_)
        .have:=hl (k+1) o' (by simpa using hk);rw[Xaa];have e:acc.length+(k+1)=acc.length+ [WlE acc (WmU o) []].length+k:=by simp;omega
         rw[←e];exact this
        .rw[Xbm,Xas]at hj;split at hj
         .exact h i j (by rw[Xbm];exact hj)
         .by_cases he:i=acc.length
          .subst he;simp only[Xcx,Xdg,Xdu]at hj;rcases(WiB _ _).1 hj with⟨k,hk,gR⟩|hj
           .have sL:k<acc.length:=hR.back acc.length o (hl 0 o (by simp)) k hk;rcases gR with rfl|gR
            .exact sL
            .have:=h k j gR;omega
           .cases hj
          .have:[WlE acc (WmU o) []][i-acc.length]?=none:=Xbq (by simp;omega);rw[this]at hj;cases hj
      exact hn (ac ops.toList [] (λk o hk=>by simpa using hk) (λi j hj=>by simp at hj) i j ((WaT _ _).1 qS))
     have:=back m' m' hb;omega
    .
     have hm'l:m'∈p:=by
      rw[y7];rcases Xo.1 hm'u with h|h
      .refine Xax.2 ⟨h,?_⟩;exact(Xax.1 (by rw[e];simp[hm's]:m'∈l.filter (WaQ ops))).2
      .simp at h;subst h;rw[e]at qW;have:=(Xac.1 (Xae.1 qW).2.1).1;exact WE hm's this
     rw[e]at qW;exact(Xae.1 qW).2.2 m' hm'l m' (Xf _ hm's) rfl
 obtain⟨L,g1,g2,g3⟩:=WpO _ h _ hσ;have hL:=Wpe g1;obtain⟨rs,af,q1,q2,q3,q4,_,_⟩:=WlB _ _ _ _ g3;have hf:l.filter (WaQ ops)=L.filter (WaQ ops):=by
  rw[←g2];refine List.filter_congr λi hi=>?_;cases hm:WaQ ops i with
  |true=>exact(WaT _ _).2 (Xax.2 ⟨(hl.all i).1 ((hL.all i).2 hi),hm⟩)
  |false=>
   cases he:Wcv i (l.filter (WaQ ops))with
   |false=>rfl
   |true=>
    have:=(Xax.1 ((WaT _ _).1 he)).2;rw[hm]at this;cases this
 have cr:Rel w0 F nt G0 G ν st a {w with drawn:=w.drawn+1}:=⟨hr.defers,hr.ntm,hr.par,hr.env,?_,hr.gx,hr.ex⟩
 .exact Wtq hT hΓ hd hl hL hR.one hR.slots hf q1 q2 q4 (λa w G ν hr=>hK af a w G ν hr q3) cr
 .exact hr.h.drew
end
end Go.Sx
namespace Go.Sx
set_option linter.unusedVariables false
set_option linter.unusedSimpArgs false
section
variable{w0:World}{F:CS}{nt:Slots}{G0:GH}{P:Program}{T:Tab}{Γ:Ctx}{A:List (Nat×An)}{R:Type}{r:R}
theorem Woc(hM:P.follows .mixedOrders=true)(hT:Waj P T)(hΓ:WdT P Γ){n:Nat}{kept:List Nat}(hn:nt.n=n)(oz:∀p∈nt.kept,p.1∈kept){ann:Nat->List Ghost}{N:Nat}(fV:(∀x v,¬nt.ex x v)\/∀id,(ann id).all Ghost.quiet=true):∀(c:Code),Wdx n kept c=true->∀{k:Ex->St->Option R} {Q:Exit->Act->World->Prop},
  (∀e,WrT w0 F nt G0 (k e) r (Q e.to))->WrT w0 F nt G0 (λst=>sx T Γ ann N c st k) r (c.wp P Q)
 | .skip,_,k,Q,hK=>λst a w G ν hr h=>wp_skip (hK .normal st a w G ν hr h)
 | .exit id,_,k,Q,hK=>λst a w G ν hr h=>wp_exit (hK (.exit id) st a w G ν hr h)
 | .ret,_,k,Q,hK=>λst a w G ν hr h=>wp_ret (hK .ret st a w G ν hr h)
 | .region id ops draw,bI,k,Q,hK=>λst a w G ν hr h=>by
  have mN:WrT w0 F nt G0 (λaf=>match Wb9 (ann id) af with|some (c,bY)=>bif c then k .normal bY else none|none=>none) r (Q .normal):=λaf a' w' G' ν' cr h'=>by
   simp only at h';split at h'
   .rename_i c bY hg;obtain⟨rfl,h'⟩:=W3 h';obtain⟨G2,ν2,jN⟩:=WdR _ _ _ _ _ (fV.imp_right λh=>h _) cr hg;exact hK .normal _ _ _ _ _ jN h'
   .cases h'
  have qY:∀o∈ops,∀d,o.dst=some d->nt.Ok d:=λo ho=>Wo6 hn oz (Xad.1 bI o (by simpa using ho));cases draw with
  |true=>exact WtT hM hT hΓ qY mN st a w G ν hr h
  |false=>exact wp_region_list (Wvq hT hΓ ops.toList (λo ho=>qY o (by simpa using ho)) mN st a w G ν hr h)
 | .seq x y,bI,k,Q,hK=>λst a w G ν hr h=>by
  simp only[Wdx,Xi]at bI;refine wp_seq (Woc hM hT hΓ hn oz fV x bI.1 (Q:=Exit.then (y.wp P Q) Q) (λe=>?_) st a w G ν hr h);cases e with
  |normal=>exact Woc hM hT hΓ hn oz fV y bI.2 hK
  |exit id=>exact hK (.exit id)
  |ret=>exact hK .ret
 | .cond c x y,bI,k,Q,hK=>λst a w G ν hr h=>by
  simp only[Wdx,Xi]at bI;simp only[sx]at h;split at h
  .rename_i b hb;cases hv:ev st c with
   |none=>simp[hv]at hb
   |some v=>
    simp only[hv,Xd]at hb;have hc:=Wot v _ b (WL hr c v hv) hb;refine wp_cond hc ?_;cases b with
    |true=>exact Woc hM hT hΓ hn oz fV x bI.1 hK st a w G ν hr h
    |false=>exact Woc hM hT hΓ hn oz fV y bI.2 hK st a w G ν hr h
  .cases h
 | .block id c,bI,k,Q,hK=>λst a w G ν hr h=>by
  simp only[Wdx]at bI;refine wp_block (Woc hM hT hΓ hn oz fV c bI (Q:=Exit.inBlock id Q) (λe=>?_) st a w G ν hr h);cases e with
  |normal=>exact hK .normal
  |exit cl=>
   intro af a' w' G' ν' cr h';simp only[Ex.to,Exit.inBlock];split
   .rename_i he;simp only[he,W4]at h';exact hK .normal _ _ _ _ _ cr h'
   .rename_i he;simp only[he,W7]at h';exact hK (.exit cl) _ _ _ _ _ cr h'
  |ret=>exact hK .ret
 | .loop c,bI,k,Q,hK=>λst a w G ν hr h=>by
  simp only[Wdx]at bI;refine wp_loop_rounds N ?_;have key:∀(m:Nat),WrT w0 F nt G0 (λst=>Wpy (Wkw (ann (Wga c)) λst k=>sx T Γ ann N c st k) m st k) r (Code.rounds P c Q m):=by
   intro m
   induction m with
   |zero=>intro st a w G ν hr h;cases h
   |succ m ih=>
    intro st a w G ν hr h;rw[rounds_succ];have h:sx T Γ ann N c st (λe af=>match e with
     | .normal=>match Wb9 (ann (Wga c)) af with
      |some (b,bY)=>bif b then Wpy (Wkw (ann (Wga c)) λst k=>sx T Γ ann N c st k) m bY k else none
      |none=>none
     | .exit id=>k (.exit id) af
     | .ret=>k .ret af)=some r:=by
     rw[←h];simp only[Wpy,Wkw];congr 1
    refine Woc hM hT hΓ hn oz fV c bI (Q:=Exit.then (Code.rounds P c Q m) Q) (λe=>?_) st a w G ν hr h;cases e with
    |normal=>
     intro af a' w' G' ν' cr h';simp only at h';split at h'
     .rename_i b bY hg;obtain⟨rfl,h'⟩:=W3 h';obtain⟨G2,ν2,jN⟩:=WdR _ _ _ _ _ (fV.imp_right λh=>h _) cr hg;exact ih _ _ _ _ _ jN h'
     .cases h'
    |exit id=>exact hK (.exit id)
    |ret=>exact hK .ret
  have h:(match Wb9 (ann (Wga c)) st with
   |some (b,af)=>bif b then Wpy (Wkw (ann (Wga c)) λst k=>sx T Γ ann N c st k) N af k else none
   |none=>none)=some r:=h
  split at h
  .rename_i b af hg;obtain⟨rfl,h⟩:=W3 h;obtain⟨G2,ν2,jN⟩:=WdR _ _ _ _ _ (fV.imp_right λh=>h _) hr hg;exact key N _ _ _ _ _ jN h
  .cases h
 | .scope ..,_,k,Q,hK=>λst a w G ν hr h=>by cases h
 | .label ..,_,k,Q,hK=>λst a w G ν hr h=>by cases h
 | .goto ..,_,k,Q,hK=>λst a w G ν hr h=>by cases h
 | .rangeFunc ..,_,k,Q,hK=>λst a w G ν hr h=>by cases h
 | .refuse ..,_,k,Q,hK=>λst a w G ν hr h=>by cases h
end
end Go.Sx
namespace Go.Sx
set_option linter.unusedVariables false
set_option linter.unusedSimpArgs false
section
variable{w0:World}{F:CS}{nt:Slots}{G0 G G':GH}{ν:Nat->Nu}{φ:Nat->CS}{objs:Waa}{nx am:Nat}{st af:St}{a:Act}{w w':World}{P:Program}{T:Tab}{Γ:Ctx}
theorem Wh5:∀(xs:List AVal) (j i:Nat),Wp (Wcb j xs) i=if j<=i then xs[i-j]? else none
 | [],j,i=>by simp[Wcb,Wp]
 |x::xs,j,i=>by
  simp only[Wcb];rw[WG,Wh5 xs (j+1) i];by_cases h:j=i
  .subst h;simp
  .by_cases h2:j<=i
   .have h3:j+1<=i:=by omega
    rw[Wc h,Wf h3,Wf h2,show i-j=(i-(j+1))+1 by omega];rfl
   .rw[Wc h,Wc h2,Wc (by omega)]
theorem WkH:∀(l:List Nat),Wsa (Whd l)=l
 | []=>rfl
 |i::l=>by
  show i::Wsa (Whd l)=i::l;rw[WkH l]
theorem WkC:∀(ps:List PTy) (d:WfJ ps) (objs:Waa) (nx n:Nat),WkP ps n=true->∃ids,ids.length=n/\(WP ps d objs nx).1.take n=Whd ids
 |_,_,_,_,0,_=>⟨[],rfl,rfl⟩
 | [],_,_,_,_+1,h=>by cases h
 | .v _ _::_,_,_,_,_+1,h=>by cases h
 | .mut _::_,_,_,_,_+1,h=>by cases h
 | .clos _ _::_,_,_,_,_+1,h=>by cases h
 | .kv _ _::_,_,_,_,_+1,h=>by cases h
 | .rp _::_,_,_,_,_+1,h=>by cases h
 | .vj _::_,_,_,_,_+1,h=>by cases h
 | .boxal _ _::_,_,_,_,_+1,h=>by cases h
 | .box t::ps,d,objs,nx,n+1,h=>by
  obtain⟨ids,h1,h2⟩:=WkC ps d.2 ((nx,.box (unfold t d.1 (nx+1)).1)::((unfold t d.1 (nx+1)).2.1++objs)) (unfold t d.1 (nx+1)).2.2 n h;refine⟨nx::ids,by simp[h1],?_⟩;simp only[WP,List.take_succ_cons,h2];rfl
theorem WcE:∀(ps:List PTy) (d:WfJ ps) (vs:List Value) (ns:List Pc) (ks:List Nu) (objs:Waa) (nx am:Nat),Wct ps=true->Wbl G w ps d vs ns ks->At ν φ nx ns->nx+ns.length<=am->
  (WP ps d objs nx).2.2=nx+ns.length/\
  (∀id ob,Wp (WP ps d objs nx).2.1 id=some ob->(nx<=id/\id<nx+ns.length/\WcP G ν am w id (φ id) ob)\/Wp objs id=some ob)/\
  (WP ps d objs nx).1.length=vs.length/\∀(j:Nat) (x:AVal) (v:Value),(WP ps d objs nx).1[j]?=some x->vs[j]?=some v->AValRel G ν am x v
 | [],d,vs,ns,ks,objs,nx,am,_,⟨h1,h2,h3⟩,_,_=>by
  subst h1 h2;exact⟨rfl,λid ob h=>.inr h,rfl,λj x v h=>by simp[WP]at h⟩
 | .v t agg::ps,d,vs,ns,ks,objs,nx,am,fW,⟨v,au,n1,n2,h1,h2,h3,h4⟩,hν,hx=>by
  subst h2;obtain⟨us,jV⟩:=Wov h3;have bS:=W5 _ _ _ _ jV;have ad:(n1++n2).length=t.owns+n2.length:=by rw[Xaa,bS]
  obtain⟨_,o1⟩:=Wax t d.1 nx us n1 jV hν.left;obtain⟨e1,e2,e3,e4⟩:=WcE ps d.2 au n2 ks ((unfold t d.1 nx).2.1++objs) (nx+t.owns) am fW h4 (hν.right bS) (by omega);simp only[WP,WaR];refine⟨by rw[e1,ad];omega,λid ob hl=>?_,by rw[h1];simp[e3],λj x u hj hu=>?_⟩
  .rcases e2 id ob hl with⟨g1,g2,g3⟩|g
   .exact .inl ⟨by omega,by omega,g3⟩
   .rcases WM g with g|g
    .obtain⟨g1,g2,e,xs,rfl,g3⟩:=o1 id ob g;exact .inl ⟨g1,by omega,g3⟩
    .exact .inr g
  .rw[h1]at hu;cases j with
   |zero=>simp at hj hu;subst hj hu;exact WlN h3 hν.left (by omega)
   |succ j=>exact e4 j x u (by simpa using hj) (by simpa using hu)
 | .kv t agg::ps,d,vs,ns,ks,objs,nx,am,fW,⟨v,au,n1,n2,aC,h1,h2,_,h3,h4⟩,hν,hx=>by
  subst h2;obtain⟨us,jV⟩:=Wov h3;have bS:=W5 _ _ _ _ jV;have ad:(n1++n2).length=t.owns+n2.length:=by rw[Xaa,bS]
  obtain⟨_,o1⟩:=Wax t d.1 nx us n1 jV hν.left;obtain⟨e1,e2,e3,e4⟩:=WcE ps d.2 au n2 aC ((unfold t d.1 nx).2.1++objs) (nx+t.owns) am fW h4 (hν.right bS) (by omega);simp only[WP,WaR];refine⟨by rw[e1,ad];omega,λid ob hl=>?_,by rw[h1];simp[e3],λj x u hj hu=>?_⟩
  .rcases e2 id ob hl with⟨g1,g2,g3⟩|g
   .exact .inl ⟨by omega,by omega,g3⟩
   .rcases WM g with g|g
    .obtain⟨g1,g2,e,xs,rfl,g3⟩:=o1 id ob g;exact .inl ⟨g1,by omega,g3⟩
    .exact .inr g
  .rw[h1]at hu;cases j with
   |zero=>simp at hj hu;subst hj hu;exact WlN h3 hν.left (by omega)
   |succ j=>exact e4 j x u (by simpa using hj) (by simpa using hu)
 | .box t::ps,d,vs,ns,ks,objs,nx,am,fW,⟨b,o,au,n1,n2,aC,h1,h2,h3,⟨us,bi,aM,im⟩,h6⟩,hν,hx=>by
  subst h2;have bS:=W5 _ _ _ _ im;have ad:((⟨Wck b o,rng b o t.size⟩:Pc)::(n1++n2)).length=1+t.owns+n2.length:=by rw[Xr,Xaa,bS];omega
  obtain⟨hν0,hφ0⟩:ν nx=Wck b o/\φ nx=rng b o t.size:=by have:=hν 0 _ rfl;simpa using this
  have hν1:At ν φ (nx+1) (n1++n2):=hν.right (n1:=[⟨Wck b o,rng b o t.size⟩]) rfl;obtain⟨c1,o1⟩:=Wax t d.1 (nx+1) us n1 im hν1.left;have dH:=Wcl t d.1 (nx+1);obtain⟨e1,e2,e3,e4⟩:=WcE ps d.2 au n2 aC ((nx,.box (unfold t d.1 (nx+1)).1)::((unfold t d.1 (nx+1)).2.1++objs)) (nx+1+t.owns) am fW h6 (hν1.right bS) (by omega);simp only[WP,WaR];refine⟨by rw[e1,ad];omega,λid ob hl=>?_,by rw[h1];simp[e3],λj x u hj hu=>?_⟩
  .rcases e2 id ob hl with⟨g1,g2,g3⟩|g
   .exact .inl ⟨by omega,by omega,g3⟩
   .rw[WG]at g;split at g
    .rename_i e;subst e;injection g with g;subst g;exact .inl ⟨Xm _,by omega,b,us,by rw[hν0];rfl,by rw[hν0,dH];exact bi,by rw[hν0];exact aM,c1 am (by omega),by rw[hν0,dH,hφ0];exactλ_ _ hh=>hh⟩
    .rcases WM g with g|g
     .obtain⟨g1,g2,e,xs,rfl,g3⟩:=o1 id ob g;exact .inl ⟨by omega,by omega,g3⟩
     .exact .inr g
  .rw[h1]at hu;cases j with
   |zero=>
    simp at hj hu;subst hj hu;exact⟨⟨by omega,b,by rw[hν0];rfl,by rw[hν0];rfl⟩,rfl⟩
   |succ j=>exact e4 j x u (by simpa using hj) (by simpa using hu)
 | .vj _::_,_,_,_,_,_,_,_,_,h,_,_=>h.elim
 | .boxal t lf::ps,d,vs,ns,ks,objs,nx,am,fW,⟨b,o,b',pc,au,n1,n2,aC,h1,h2,h3,⟨us,bi,aM,im⟩,h4,h5,h7,h6⟩,hν,hx=>by
  subst h2;have bS:=W5 _ _ _ _ im;have ad:((⟨Wck b o,rng b o t.size⟩:Pc)::(n1++n2)).length=1+t.owns+n2.length:=by rw[Xr,Xaa,bS];omega
  obtain⟨hν0,hφ0⟩:ν nx=Wck b o/\φ nx=rng b o t.size:=by have:=hν 0 _ rfl;simpa using this
  have hν1:At ν φ (nx+1) (n1++n2):=hν.right (n1:=[⟨Wck b o,rng b o t.size⟩]) rfl;obtain⟨c1,o1⟩:=Wax t d.1 (nx+1) us n1 im hν1.left;have dH:=Wcl t d.1 (nx+1);have sX:lf<n1.length:=(Xab.1 h4).1;have hνl:ν (nx+1+lf)=pc.nu:=(hν1.left lf pc h4).1;obtain⟨e1,e2,e3,e4⟩:=WcE ps d.2.2 au n2 aC ((nx,.box (unfold t d.1 (nx+1)).1)::((unfold t d.1 (nx+1)).2.1++objs)) (nx+1+t.owns) am fW h6 (hν1.right bS) (by omega);simp only[WP,WaR];refine⟨by rw[e1,ad];omega,λid ob hl=>?_,by rw[h1];simp[e3],λj x u hj hu=>?_⟩
  .rcases e2 id ob hl with⟨g1,g2,g3⟩|g
   .exact .inl ⟨by omega,by omega,g3⟩
   .rw[WG]at g;split at g
    .rename_i e;subst e;injection g with g;subst g;exact .inl ⟨Xm _,by omega,b,us,by rw[hν0];rfl,by rw[hν0,dH];exact bi,by rw[hν0];exact aM,c1 am (by omega),by rw[hν0,dH,hφ0];exactλ_ _ hh=>hh⟩
    .rcases WM g with g|g
     .obtain⟨g1,g2,e,xs,rfl,g3⟩:=o1 id ob g;exact .inl ⟨by omega,by omega,g3⟩
     .exact .inr g
  .rw[h1]at hu
   match j with
   |0=>
    simp at hj hu;subst hj hu;exact⟨⟨by omega,b,by rw[hν0];rfl,by rw[hν0];rfl⟩,rfl⟩
   |1=>
    simp at hj hu;subst hj hu;exact⟨⟨by omega,by rw[hνl];exact h7,b',by rw[hνl];exact h5,by rw[hνl];rfl⟩,rfl⟩
   |j+2=>exact e4 j x u (by simpa using hj) (by simpa using hu)
 | .rp t::ps,d,vs,ns,ks,objs,nx,am,fW,⟨b,o,us,au,h1,h2,h3,h4⟩,hν,hx=>by
  obtain⟨e1,e2,e3,e4⟩:=WcE ps d.2 au ns ks objs nx am fW h4 hν hx;simp only[WP];refine⟨e1,e2,by rw[h1];simp[e3],λj x u hj hu=>?_⟩;rw[h1]at hu;cases j with
  |zero=>
   simp at hj hu;subst hj hu;exact⟨⟨b,o,us,by rw[Xbb],h2,h3⟩,rfl⟩
  |succ j=>exact e4 j x u (by simpa using hj) (by simpa using hu)
 | .mut e::ps,d,vs,ns,ks,objs,nx,am,fW,⟨pc,au,n2,aC,h1,h2,h3,h4,h5⟩,hν,hx=>by
  subst h2;have ad:(pc::n2).length=1+n2.length:=by rw[Xr];omega
  obtain⟨hν0,hφ0⟩:ν nx=pc.nu/\φ nx=pc.fp:=by have:=hν 0 _ rfl;simpa using this
  obtain⟨e1,e2,e3,e4⟩:=WcE ps d.2 au n2 aC ((nx,.arr e d.1)::objs) (nx+1) am fW h5 (hν.right (n1:=[pc]) rfl) (by omega);simp only[WP];refine⟨by rw[e1,ad];omega,λid ob hl=>?_,by rw[h1];simp[e3],λj x u hj hu=>?_⟩
  .rcases e2 id ob hl with⟨g1,g2,g3⟩|g
   .exact .inl ⟨by omega,by omega,g3⟩
   .rw[WG]at g;split at g
    .rename_i e;subst e;injection g with g;subst g;refine .inl ⟨Xm _,by omega,?_⟩;show WbP w (Wy G w _) _ (ν nx) d.1 (φ nx);rw[hν0,hφ0];exact h4
    .exact .inr g
  .rw[h1]at hu;cases j with
   |zero=>
    simp at hj hu;subst hj hu;exact⟨⟨by omega,by rw[hν0]⟩,WiW _⟩
   |succ j=>exact e4 j x u (by simpa using hj) (by simpa using hu)
 | .clos g n::ps,d,vs,ns,ks,objs,nx,am,fW,⟨cvs,au,h1,h2,h3,h4⟩,hν,hx=>by
  simp only[Wct,Xi]at fW;obtain⟨e1,e2,e3,e4⟩:=WcE ps d (cvs++au) ns ks objs nx am fW.2 h4 hν hx;obtain⟨ids,g1,g2⟩:=WkC ps d objs nx n fW.1;simp only[WP];rw[g2,WkH];have ad:(WP ps d objs nx).1.length=n+au.length:=by rw[e3,Xaa,h2]
  have ux:∀(j id:Nat),ids[j]?=some id->(WP ps d objs nx).1[j]?=some (AVal.s (.one (.ptr id 0))):=λj id hj=>by
   have ac:j<n:=by rw[←g1];exact(Xab.1 hj).1
   have:((WP ps d objs nx).1.take n)[j]?=some (.s (.one (.ptr id 0))):=by rw[g2];simp[Whd,hj]
   rw[List.getElem?_take,Wf ac]at this;exact this
  refine⟨e1,e2,by rw[h1];simp[ad],λj x u hj hu=>?_⟩;rw[h1]at hu;cases j with
  |zero=>
   simp at hj hu;subst hj hu;refine⟨⟨cvs,rfl,by rw[h2,g1],λj id u hj hu=>?_⟩,rfl⟩;have ac:j<cvs.length:=(Xab.1 hu).1;obtain⟨⟨q1,q2⟩,q3⟩:=e4 j _ u (ux j id hj) (by rw[List.getElem?_append_left ac];exact hu);exact⟨q1,q3,q2⟩
  |succ j=>
   have fb:(WP ps d objs nx).1[n+j]?=some x:=by
    rw[←List.getElem?_drop];simpa using hj
   exact e4 (n+j) x u fb (by rw[Xbx (by omega),h2,Xbv];simpa using hu)
theorem Wdo:∀(ps:List PTy) (d:WfJ ps) (vs:List Value) (ns:List Pc) (ks:List Nu),Wbl G w ps d vs ns ks->vs.length<=WbR ps
 | [],d,vs,ns,ks,⟨h1,_,_⟩=>by rw[h1];exact Xm _
 | .v t agg::ps,d,vs,ns,ks,⟨v,au,n1,n2,h1,h2,h3,h4⟩=>by rw[h1,Xr];have:=Wdo ps _ _ _ _ h4;simp only[WbR];omega
 | .box t::ps,d,vs,ns,ks,⟨b,o,au,n1,n2,aC,h1,h2,h3,h4,h6⟩=>by rw[h1,Xr];have:=Wdo ps _ _ _ _ h6;simp only[WbR];omega
 | .mut e::ps,d,vs,ns,ks,⟨pc,au,n2,aC,h1,h2,h3,h4,h5⟩=>by rw[h1,Xr];have:=Wdo ps _ _ _ _ h5;simp only[WbR];omega
 | .clos g n::ps,d,vs,ns,ks,⟨cvs,au,h1,h2,h3,h4⟩=>by rw[h1,Xr];have:=Wdo ps _ _ _ _ h4;simp at this;simp only[WbR];omega
 | .kv t agg::ps,d,vs,ns,ks,⟨v,au,n1,n2,aC,h1,h2,jX,h3,h4⟩=>by rw[h1,Xr];have:=Wdo ps _ _ _ _ h4;simp only[WbR];omega
 | .rp t::ps,d,vs,ns,ks,⟨b,o,us,au,h1,h2,h3,h4⟩=>by rw[h1,Xr];have:=Wdo ps _ _ _ _ h4;simp only[WbR];omega
 | .vj _::_,_,_,_,_,h=>h.elim
 | .boxal t lf::ps,d,vs,ns,ks,⟨b,o,b',pc,au,n1,n2,aC,h1,h2,h3,h4,h5,h6,h7,h8⟩=>by rw[h1,Xr,Xr];have:=Wdo ps _ _ _ _ h8;simp only[WbR];omega
def WoP(i:Nat)(vs:List Value):List (Nat×Value):=match vs with
 |v::_=>[(i,v)]
 | []=>[]
def WI:List PTy->Nat->Nat->List Value->List (Nat×Value)
 | [],_,_,_=>[]
 |_::ps,i,k+1,vs=>WI ps i k vs
 | .v _ _::ps,i,0,vs=>WI ps (i+1) 0 vs.tail
 | .box _::ps,i,0,vs=>WoP i vs++WI ps (i+1) 0 vs.tail
 | .mut _::ps,i,0,vs=>WoP i vs++WI ps (i+1) 0 vs.tail
 | .clos _ n::ps,i,0,vs=>WoP i vs++WI ps (i+1) n vs.tail
 | .kv _ _::ps,i,0,vs=>WoP i vs++WI ps (i+1) 0 vs.tail
 | .rp _::ps,i,0,vs=>WI ps (i+1) 0 vs.tail
 | .vj _::ps,i,0,vs=>WI ps (i+1) 0 vs.tail
 | .boxal _ _::ps,i,0,vs=>WoP i vs++WI ps (i+2) 0 vs.tail.tail
theorem Wbv{i:Nat}{vs:List Value}{p:Nat×Value}(h:p∈WoP i vs):p.1=i/\vs[0]?=some p.2:=by
 unfold WoP at h;split at h
 .simp at h;subst h;exact⟨rfl,rfl⟩
 .cases h
theorem WX:∀(ps:List PTy) (i k:Nat) (vs:List Value),∀p∈WI ps i k vs,p.1∈Wey ps i k
 | [],_,_,_,p,h=>by simp[WI]at h
 | .v _ _::ps,i,k+1,vs,p,h=>WX ps i k vs p h
 | .box _::ps,i,k+1,vs,p,h=>WX ps i k vs p h
 | .mut _::ps,i,k+1,vs,p,h=>WX ps i k vs p h
 | .clos _ _::ps,i,k+1,vs,p,h=>WX ps i k vs p h
 | .v _ _::ps,i,0,vs,p,h=>WX ps (i+1) 0 vs.tail p h
 | .box _::ps,i,0,vs,p,h=>by
  simp only[WI]at h;rcases Xo.1 h with h|h
  .rw[(Wbv h).1];exact Xj ..
  .exact Xf _ (WX ps (i+1) 0 vs.tail p h)
 | .mut _::ps,i,0,vs,p,h=>by
  simp only[WI]at h;rcases Xo.1 h with h|h
  .rw[(Wbv h).1];exact Xj ..
  .exact Xf _ (WX ps (i+1) 0 vs.tail p h)
 | .clos _ n::ps,i,0,vs,p,h=>by
  simp only[WI]at h;rcases Xo.1 h with h|h
  .rw[(Wbv h).1];exact Xj ..
  .exact Xf _ (WX ps (i+1) n vs.tail p h)
 | .kv _ _::ps,i,k+1,vs,p,h=>WX ps i k vs p h
 | .kv _ _::ps,i,0,vs,p,h=>by
  simp only[WI]at h;rcases Xo.1 h with h|h
  .rw[(Wbv h).1];exact Xj ..
  .exact Xf _ (WX ps (i+1) 0 vs.tail p h)
 | .rp _::ps,i,k+1,vs,p,h=>WX ps i k vs p h
 | .rp _::ps,i,0,vs,p,h=>WX ps (i+1) 0 vs.tail p h
 | .vj _::ps,i,k+1,vs,p,h=>WX ps i k vs p h
 | .vj _::ps,i,0,vs,p,h=>WX ps (i+1) 0 vs.tail p h
 | .boxal _ _::ps,i,k+1,vs,p,h=>WX ps i k vs p h
 | .boxal _ _::ps,i,0,vs,p,h=>by
  simp only[WI]at h;rcases Xo.1 h with h|h
  .rw[(Wbv h).1];exact Xj ..
  .exact Xf _ (WX ps (i+2) 0 vs.tail.tail p h)
theorem WO:∀(ps:List PTy) (i k:Nat) (vs:List Value),∀p∈WI ps i k vs,i<=p.1/\vs[p.1-i]?=some p.2
 | [],_,_,_,p,h=>by simp[WI]at h
 | .v _ _::ps,i,k+1,vs,p,h=>WO ps i k vs p h
 | .box _::ps,i,k+1,vs,p,h=>WO ps i k vs p h
 | .mut _::ps,i,k+1,vs,p,h=>WO ps i k vs p h
 | .clos _ _::ps,i,k+1,vs,p,h=>WO ps i k vs p h
 | .v _ _::ps,i,0,vs,p,h=>by
  obtain⟨h1,h2⟩:=WO ps (i+1) 0 vs.tail p h;refine⟨by omega,?_⟩;rw[show p.1-i=(p.1-(i+1))+1 by omega,←Xcf];exact h2
 | .box _::ps,i,0,vs,p,h=>by
  simp only[WI]at h;rcases Xo.1 h with h|h
  .obtain⟨h1,h2⟩:=Wbv h;rw[h1];exact⟨Xm _,by rw[Xcx];exact h2⟩
  .obtain⟨h1,h2⟩:=WO ps (i+1) 0 vs.tail p h;refine⟨by omega,?_⟩;rw[show p.1-i=(p.1-(i+1))+1 by omega,←Xcf];exact h2
 | .mut _::ps,i,0,vs,p,h=>by
  simp only[WI]at h;rcases Xo.1 h with h|h
  .obtain⟨h1,h2⟩:=Wbv h;rw[h1];exact⟨Xm _,by rw[Xcx];exact h2⟩
  .obtain⟨h1,h2⟩:=WO ps (i+1) 0 vs.tail p h;refine⟨by omega,?_⟩;rw[show p.1-i=(p.1-(i+1))+1 by omega,←Xcf];exact h2
 | .clos _ n::ps,i,0,vs,p,h=>by
  simp only[WI]at h;rcases Xo.1 h with h|h
  .obtain⟨h1,h2⟩:=Wbv h;rw[h1];exact⟨Xm _,by rw[Xcx];exact h2⟩
  .obtain⟨h1,h2⟩:=WO ps (i+1) n vs.tail p h;refine⟨by omega,?_⟩;rw[show p.1-i=(p.1-(i+1))+1 by omega,←Xcf];exact h2
 | .kv _ _::ps,i,k+1,vs,p,h=>WO ps i k vs p h
 | .kv _ _::ps,i,0,vs,p,h=>by
  simp only[WI]at h;rcases Xo.1 h with h|h
  .obtain⟨h1,h2⟩:=Wbv h;rw[h1];exact⟨Xm _,by rw[Xcx];exact h2⟩
  .obtain⟨h1,h2⟩:=WO ps (i+1) 0 vs.tail p h;refine⟨by omega,?_⟩;rw[show p.1-i=(p.1-(i+1))+1 by omega,←Xcf];exact h2
 | .rp _::ps,i,k+1,vs,p,h=>WO ps i k vs p h
 | .rp _::ps,i,0,vs,p,h=>by
  obtain⟨h1,h2⟩:=WO ps (i+1) 0 vs.tail p h;refine⟨by omega,?_⟩;rw[show p.1-i=(p.1-(i+1))+1 by omega,←Xcf];exact h2
 | .vj _::ps,i,k+1,vs,p,h=>WO ps i k vs p h
 | .vj _::ps,i,0,vs,p,h=>by
  obtain⟨h1,h2⟩:=WO ps (i+1) 0 vs.tail p h;refine⟨by omega,?_⟩;rw[show p.1-i=(p.1-(i+1))+1 by omega,←Xcf];exact h2
 | .boxal _ _::ps,i,k+1,vs,p,h=>WO ps i k vs p h
 | .boxal _ _::ps,i,0,vs,p,h=>by
  simp only[WI]at h;rcases Xo.1 h with h|h
  .obtain⟨h1,h2⟩:=Wbv h;rw[h1];exact⟨Xm _,by rw[Xcx];exact h2⟩
  .obtain⟨h1,h2⟩:=WO ps (i+2) 0 vs.tail.tail p h;refine⟨by omega,?_⟩;rw[show p.1-i=(p.1-(i+2))+1+1 by omega,←Xcf,←Xcf];exact h2
def Wjv(tmps:Array Value):ResultVar->Sem Value
 | .tmp t=>pure (tmps.getD t undef)
 | .cell b t=>do loadVar t (←asAddr (tmps.getD b undef))
theorem Wig(hT:Waj P T)(hr:Rel w0 F nt G0 G ν st a w):∀(l:List ResultVar) (xs:List AVal),Wds T st l=some xs->
  ∃vs:List Value,(l.mapM (Wjv a.tmps)).run P w= .ok vs w/\vs.length=xs.length/\
   ∀(j:Nat) (x:AVal) (v:Value),xs[j]?=some x->vs[j]?=some v->AValRel G ν st.nx x v
 | [],xs,h=>by
  simp only[Wds]at h;injection h with h;subst h;exact⟨[],by simp,rfl,λj x v hj=>by simp at hj⟩
 | .tmp t::l,xs,h=>by
  simp only[Wds]at h;split at h
  .rename_i x sP h1 h2;injection h with h;subst h;obtain⟨vs,h3,h4,h5⟩:=Wig hT hr l sP h2;obtain⟨v,hv,hx⟩:=hr.env t x h1;refine⟨v::vs,?_,by simp[h4],λj y u hj hu=>?_⟩
   .have gI:a.tmps.getD t undef=v:=by simp[Xcp,hv]
    simp only[Xey,Sem.run_bind,Wjv,Sem.run_pure,Result.andThen_ok,h3,gI]
   .cases j with
    |zero=>simp at hj hu;subst hj hu;exact hx
    |succ j=>exact h5 j y u (by simpa using hj) (by simpa using hu)
  .cases h
 | .cell b t::l,xs,h=>by
  simp only[Wds]at h;split at h
  .rename_i x sP h1 h2;injection h with h;subst h;obtain⟨vs,h3,h4,h5⟩:=Wig hT hr l sP h2;cases hb:Wp st.env b with
   |none=>simp[hb]at h1
   |some y=>
    simp only[hb,Xd]at h1;obtain⟨v,hv,hx⟩:=hr.env b y hb;obtain⟨u,hu,y8⟩:=WhG hT hr.h hx h1;refine⟨u::vs,?_,by simp[h4],λj z q hj hq=>?_⟩
    .have gI:a.tmps.getD b undef=v:=by simp[Xcp,hv]
     unfold Instr.loadAt at hu;rw[Sem.run_bind]at hu;obtain⟨p,rfl⟩:∃p,v= .pointer (some p):=by
      unfold Instr.sureAddr at hu;split at hu
      .exact⟨_,rfl⟩
      .simp[stuck]at hu
     simp only[Instr.sureAddr,Sem.run_pure,Result.andThen_ok]at hu;have ha:(asAddr (.pointer (some p))).run P w= .ok p w:=rfl;simp only[Xey,Sem.run_bind,Wjv,Sem.run_pure,Result.andThen_ok,gI,ha,hu,h3]
    .cases j with
     |zero=>simp at hj hq;subst hj hq;exact y8
     |succ j=>exact h5 j z q (by simpa using hj) (by simpa using hq)
  .cases h
theorem Wea(h:HR w0 F G ν φ objs nx w)(hg:GLe G G'):∀(rs:List PTy) (xs:List AVal) (vs:List Value) (A:Outs (Whr rs)),vs.length=xs.length->
  (∀(j:Nat) (x:AVal) (v:Value),xs[j]?=some x->vs[j]?=some v->AValRel G ν nx x v)->Lent G' w φ objs A.lent->A.moved.Nodup->Wa9 rs xs objs=some A->
  ∃ns,WgT G' w rs A.d vs ns/\Sep (fps ns)/\(∀q∈ns,CS.le q.fp (FromL φ objs A.moved))/\(∀i∈A.moved,Live objs i)
 | [],xs,vs,A,ad,hx,hl,bh,hf=>by
  simp only[Wa9]at hf;split at hf
  .injection hf with hf;subst hf;have gi:vs= []:=Xx (by simpa using ad);exact⟨[],⟨gi,rfl⟩,List.Pairwise.nil,by simp,by simp⟩
  .cases hf
 | .v t agg::rs,xs,vs,A,ad,hx,hl,bh,hf=>by
  simp only[Wa9]at hf;split at hf
  .rename_i x xs;split at hf
   .rename_i d m l A' h1 h2;injection hf with hf;subst hf
    match vs,ad with
    |v::vs,ad=>
     cases hc:cellsOf agg x with
     |none=>simp[hc]at h1
     |some cs=>
      simp[hc]at h1;obtain⟨k1,k2,k3⟩:=Xae.1 bh;obtain⟨n1,g1,g2,g3,g4,_⟩:=Wl9 h hg (hx 0 x v rfl rfl) (hl.mono (λi hi=>Xn _ hi)) k1 hc h1;obtain⟨n2,g5,g6,g7,g8⟩:=Wea h hg rs xs vs A' (by simpa using ad) (λj y u hj hu=>hx (j+1) y u (by simpa using hj) (by simpa using hu)) (hl.mono (λi hi=>Xg _ hi)) k2 h2;refine⟨n1++n2,⟨v,vs,n1,n2,rfl,rfl,g1,g5⟩,Wcp h g2 g6 g3 g7 (λi hi hj=>k3 i hi i hj rfl),λq hq=>?_,λi hi=>?_⟩
      .rcases Xo.1 hq with hq|hq
       .exactλb o hh=>FromL.mono (λi hi=>Xn _ hi) b o (g3 q hq b o hh)
       .exactλb o hh=>FromL.mono (λi hi=>Xg _ hi) b o (g7 q hq b o hh)
      .rcases Xo.1 hi with hi|hi
       .exact g4 i hi
       .exact g8 i hi
   .cases hf
  .cases hf
 | .box t::rs,xs,vs,A,ad,hx,hl,bh,hf=>by
  simp only[Wa9]at hf;split at hf
  .rename_i id xs;split at hf
   .rename_i cs bt;split at hf
    .rename_i d m l A' h1 h2;injection hf with hf;subst hf
     match vs,ad with
     |v::vs,ad=>
      obtain⟨k0,k1⟩:=Xac.1 bh;obtain⟨k2,k3,k4⟩:=Xae.1 k1;obtain⟨⟨_,b,hνb,rfl⟩,_⟩:=hx 0 _ v rfl rfl;have aS:Live objs id:=⟨_,bt,by simp⟩;obtain⟨b'',us,mW,bi,aM,bV,fU⟩:WcP G ν nx w id (φ id) (.box cs):=h.ob _ _ bt;rw[hνb]at mW;injection mW with mW;subst mW;obtain⟨n1,g1,g2,g3,g4,_⟩:=Wag h hg t cs us d m l bV (hl.mono (λi hi=>Xn _ hi)) k2 h1;have dH:cs.length=t.size:=by rw[←bV.1];exact WH _ _ _ _ g1
      obtain⟨n2,g5,g6,g7,g8⟩:=Wea h hg rs xs vs A' (by simpa using ad) (λj y u hj hu=>hx (j+1) y u (by simpa using hj) (by simpa using hu)) (hl.mono (λi hi=>Xg _ hi)) k3 h2;rw[dH]at bi fU;refine⟨⟨Wck b ((ν id).off+0),rng b ((ν id).off+0) t.size⟩::(n1++n2),⟨b,(ν id).off+0,vs,n1,n2,rfl,rfl,⟨us,bi,aM,g1⟩,g5⟩,?_,λq hq=>?_,λi hi=>?_⟩
      .refine Wcp h (n1:=[⟨Wck b ((ν id).off+0),rng b ((ν id).off+0) t.size⟩]) (m:=[id]) (l:=m++A'.moved) (Xbn _ _) (Wcp h g2 g6 g3 g7 (λi hi hj=>k4 i hi i hj rfl)) (λq hq=>?_) (λq hq=>?_) (λi hi hj=>k0 (by rw[←Xag.1 hi];exact hj))
       .rw[Xag.1 hq];exactλb o hh=>⟨id,by simp,aS,fU b o hh⟩
       .rcases Xo.1 hq with hq|hq
        .exactλb o hh=>FromL.mono (λi hi=>Xn _ hi) b o (g3 q hq b o hh)
        .exactλb o hh=>FromL.mono (λi hi=>Xg _ hi) b o (g7 q hq b o hh)
      .rcases Xs.1 hq with rfl|hq
       .exactλb o hh=>⟨id,by simp,aS,fU b o hh⟩
       .rcases Xo.1 hq with hq|hq
        .exactλb o hh=>FromL.mono (λi hi=>Xf _ (Xn _ hi)) b o (g3 q hq b o hh)
        .exactλb o hh=>FromL.mono (λi hi=>Xf _ (Xg _ hi)) b o (g7 q hq b o hh)
      .rcases Xs.1 hi with rfl|hi
       .exact aS
       .rcases Xo.1 hi with hi|hi
        .exact g4 i hi
        .exact g8 i hi
    .cases hf
   .cases hf
  .cases hf
 | .mut _::_,_,_,_,_,_,_,_,h=>by simp only[Wa9]at h;cases h
 | .clos _ _::_,_,_,_,_,_,_,_,h=>by simp only[Wa9]at h;cases h
 | .kv _ _::_,_,_,_,_,_,_,_,h=>by simp only[Wa9]at h;cases h
 | .rp _::_,_,_,_,_,_,_,_,h=>by simp only[Wa9]at h;cases h
 | .vj t::rs,xs,vs,A,ad,hx,hl,bh,hf=>by
  simp only[Wa9]at hf;split at hf
  .rename_i cs xs;split at hf
   .rename_i c7;split at hf
    .rename_i d m l A' h1 h2;injection hf with hf;subst hf
     match vs,ad with
     |v::vs,ad=>
      obtain⟨k1,k2,k3⟩:=Xae.1 bh;obtain⟨us,rfl,bV⟩:=hx 0 _ v rfl rfl;obtain⟨n1,g1,g2,g3,g4,_⟩:=Wag h hg t (cs.take t.size) (us.take t.size) d m l (bV.take t.size) (hl.mono (λi hi=>Xn _ hi)) k1 h1;obtain⟨n2,g5,g6,g7,g8⟩:=Wea h hg rs xs vs A' (by simpa using ad) (λj y u hj hu=>hx (j+1) y u (by simpa using hj) (by simpa using hu)) (hl.mono (λi hi=>Xg _ hi)) k2 h2;have dH:us.length=t.size+1:=by rw[bV.1,c7]
      have ac:t.size<us.length:=by omega
      have e0:us=us.take t.size++ [us[t.size]]:=by
       rw[←List.take_succ_eq_append_getElem ac,Xdk (by omega)]
      have ho:=(bV.2 t.size (cs[t.size]'(by omega)) us[t.size] (Xq (by omega)) (Xq ac)).2;refine⟨n1++n2,⟨us.take t.size,us[t.size],vs,n1,n2,by rw[←e0],ho,rfl,g1,g5⟩,Wcp h g2 g6 g3 g7 (λi hi hj=>k3 i hi i hj rfl),λq hq=>?_,λi hi=>?_⟩
      .rcases Xo.1 hq with hq|hq
       .exactλb o hh=>FromL.mono (λi hi=>Xn _ hi) b o (g3 q hq b o hh)
       .exactλb o hh=>FromL.mono (λi hi=>Xg _ hi) b o (g7 q hq b o hh)
      .rcases Xo.1 hi with hi|hi
       .exact g4 i hi
       .exact g8 i hi
    .cases hf
   .cases hf
  .cases hf
 | .boxal _ _::_,_,_,_,_,_,_,_,h=>by simp only[Wa9]at h;cases h
theorem WoZ{p:PTy}{ps:List PTy}{k:Nat}(h:WkP (p::ps) (k+1)=true):(∃t,p= .box t)/\WkP ps k=true:=by
 cases p with
 |box t=>exact⟨⟨t,rfl⟩,h⟩
 |_=>cases h
theorem Wgv(hr:Rel w0 F nt G0 G ν st a w){i:Nat}{u:Value}(hp:a.tmps[i]?=some u):(Wp st.env i).getD (.tup [])= .tup []\/AValRel G ν st.nx ((Wp st.env i).getD (.tup [])) u:=by
 cases he:Wp st.env i with
 |none=>exact .inl rfl
 |some y=>
  obtain⟨v,hv,hx⟩:=hr.env i y he;rw[hp]at hv;injection hv with hv;subst hv;exact .inr hx
theorem WaM{wb:World}{Gb:GH}(hr:Rel w0 F nt G0 G ν st a w):∀(ps:List PTy) (d:WfJ ps) (vs:List Value) (ns:List Pc) (ks:List Nu) (i k:Nat),Wbl Gb wb ps d vs ns ks->Wct ps=true->WkP ps k=true->k<=vs.length->
  (∀p∈WI ps i k (vs.drop k),a.tmps[p.1]?=some p.2)->(WB ps i k st).length+k=vs.length/\
  ∀(j:Nat) (x:AVal) (v:Value),(WB ps i k st)[j]?=some x->vs[k+j]?=some v->x= .tup []\/AValRel G ν st.nx x v
 | [],d,vs,ns,ks,i,k,⟨h1,_,_⟩,_,_,hk,_=>by
  subst h1;have:k=0:=by simpa using hk
  subst this;exact⟨rfl,λj x v hj=>by simp[WB]at hj⟩
 |p::ps,d,vs,ns,ks,i,k+1,h,hc,hb,hk,hp=>by
  obtain⟨⟨t,rfl⟩,cJ⟩:=WoZ hb;obtain⟨b,o,au,n1,n2,aC,h1,h2,h3,h4,h6⟩:=h;subst h1;have gB:Wct ps=true:=hc;obtain⟨e1,e2⟩:=WaM hr ps d.2 au n2 aC i k h6 gB cJ (by simpa using hk) (by simpa [WI]using hp);refine⟨by simp only[WB,Xr];omega,λj x v hj hv=>e2 j x v (by simpa [WB]using hj) ?_⟩;rw[show k+1+j=(k+j)+1 by omega]at hv;simpa using hv
 | .v t agg::ps,d,vs,ns,ks,i,0,⟨v,au,n1,n2,h1,h2,h3,h4⟩,hc,_,_,hp=>by
  subst h1;obtain⟨e1,e2⟩:=WaM hr ps d.2 au n2 ks (i+1) 0 h4 hc (by cases ps<;>rfl) (Xch _) (by simpa [WI]using hp);refine⟨by simp only[WB,Xr];omega,λj x u hj hu=>?_⟩;cases j with
  |zero=>simp[WB]at hj;exact .inl hj.symm
  |succ j=>exact e2 j x u (by simpa [WB]using hj) (by simpa using hu)
 | .rp t::ps,d,vs,ns,ks,i,0,⟨b,o,us,au,h1,h2,h3,h4⟩,hc,_,_,hp=>by
  subst h1;obtain⟨e1,e2⟩:=WaM hr ps d.2 au ns ks (i+1) 0 h4 hc (by cases ps<;>rfl) (Xch _) (by simpa [WI]using hp);refine⟨by simp only[WB,Xr];omega,λj x u hj hu=>?_⟩;cases j with
  |zero=>simp[WB]at hj;exact .inl hj.symm
  |succ j=>exact e2 j x u (by simpa [WB]using hj) (by simpa using hu)
 | .box t::ps,d,vs,ns,ks,i,0,⟨b,o,au,n1,n2,aC,h1,h2,h3,h4,h6⟩,hc,_,_,hp=>by
  subst h1;simp only[WI,Xbk,Xed]at hp;obtain⟨e1,e2⟩:=WaM hr ps d.2 au n2 aC (i+1) 0 h6 hc (by cases ps<;>rfl) (Xch _) (λp iM=>hp p (Xg _ (by simpa using iM)));refine⟨by simp only[WB,Xr];omega,λj x u hj hu=>?_⟩;cases j with
  |zero=>
   simp[WB]at hj hu;subst hj hu;exact Wgv hr (hp (i,_) (Xn _ (Xj ..)))
  |succ j=>exact e2 j x u (by simpa [WB]using hj) (by simpa using hu)
 | .vj _::_,_,_,_,_,_,_,h,_,_,_,_=>h.elim
 | .boxal t lf::ps,d,vs,ns,ks,i,0,⟨b,o,b',pc,au,n1,n2,aC,h1,h2,h3,h4,h5,h6,h7,h8⟩,hc,_,_,hp=>by
  subst h1;simp only[WI,Xbk,Xed]at hp;obtain⟨e1,e2⟩:=WaM hr ps d.2.2 au n2 aC (i+2) 0 h8 hc (by cases ps<;>rfl) (Xch _) (λp iM=>hp p (Xg _ (by simpa using iM)));refine⟨by simp only[WB,Xr];omega,λj x u hj hu=>?_⟩
  match j with
  |0=>
   simp[WB]at hj hu;subst hj hu;exact Wgv hr (hp (i,_) (Xn _ (Xj ..)))
  |1=>simp[WB]at hj;exact .inl hj.symm
  |j+2=>exact e2 j x u (by simpa [WB]using hj) (by simpa using hu)
 | .mut e::ps,d,vs,ns,ks,i,0,⟨pc,au,n2,aC,h1,h2,h3,h4,h5⟩,hc,_,_,hp=>by
  subst h1;simp only[WI,Xbk,Xed]at hp;obtain⟨e1,e2⟩:=WaM hr ps d.2 au n2 aC (i+1) 0 h5 hc (by cases ps<;>rfl) (Xch _) (λp iM=>hp p (Xg _ (by simpa using iM)));refine⟨by simp only[WB,Xr];omega,λj x u hj hu=>?_⟩;cases j with
  |zero=>
   simp[WB]at hj hu;subst hj hu;exact Wgv hr (hp (i,_) (Xn _ (Xj ..)))
  |succ j=>exact e2 j x u (by simpa [WB]using hj) (by simpa using hu)
 | .clos g n::ps,d,vs,ns,ks,i,0,⟨cvs,au,h1,h2,h3,h4⟩,hc,_,_,hp=>by
  subst h1;simp only[Wct,Xi]at hc;simp only[WI,Xbk,Xed]at hp;obtain⟨e1,e2⟩:=WaM hr ps d (cvs++au) ns ks (i+1) n h4 hc.2 hc.1 (by simp[h2]) (λp iM=>hp p (Xg _ (by rw[List.drop_left' h2]at iM;exact iM)));refine⟨by simp only[WB,Xr];simp at e1;omega,λj x u hj hu=>?_⟩;cases j with
  |zero=>
   simp[WB]at hj hu;subst hj hu;exact Wgv hr (hp (i,_) (Xn _ (Xj ..)))
  |succ j=>exact e2 j x u (by simpa [WB]using hj) (by rw[Xbx (by omega),h2,Xbv];simpa using hu)
 | .kv t agg::ps,d,vs,ns,ks,i,0,⟨v,au,n1,n2,aC,h1,h2,jX,h3,h4⟩,hc,_,_,hp=>by
  subst h1;simp only[WI,Xbk,Xed]at hp;obtain⟨e1,e2⟩:=WaM hr ps d.2 au n2 aC (i+1) 0 h4 hc (by cases ps<;>rfl) (Xch _) (λp iM=>hp p (Xg _ (by simpa using iM)));refine⟨by simp only[WB,Xr];omega,λj x u hj hu=>?_⟩;cases j with
  |zero=>
   simp[WB]at hj hu;subst hj hu;exact Wgv hr (hp (i,_) (Xn _ (Xj ..)))
  |succ j=>exact e2 j x u (by simpa [WB]using hj) (by simpa using hu)
theorem Wp4{G G':GH}{wb w:World}{nu qZ:Nu}{e:Ty}{xs ys:List e.den}{S S':CS}(h4:WbP wb (Wy G wb e) e.size nu xs S)(aT:WbP w (Wy G' w e) e.size qZ ys S')(hx:nu.hdr=qZ.hdr):WbP w (Wy G' w e) e.size nu ys S':=by
 unfold Nu.hdr at hx;cases hb:qZ.blk with
 |none=>
  cases cJ:nu.blk with
  |some b=>simp[hb,cJ]at hx
  |none=>
   have k1:=Wcx h4 cJ;have k2:=Wcx aT hb;refine⟨by rw[k2,←h4.1,k1],h4.2.1,?_⟩;simp only[cJ];exact k2
 |some b=>
  cases cJ:nu.blk with
  |none=>simp[hb,cJ]at hx
  |some b'=>
   simp only[hb,cJ]at hx;injection hx with x1 x2 x3;injection x1 with x1;injection x1 with x1 x4 _;have e1:=h4.2.1;have e2:=aT.2.1;have:nu=qZ:=by
    obtain⟨a1,a2,a3,a4,a5⟩:=nu;obtain⟨b1,b2,b3,b4,b5⟩:=qZ;simp only at hb cJ x1 x2 x3 x4 e1 e2;subst hb cJ x1 x2 x3 x4;rw[e1,e2]
   rw[this];exact aT
theorem Wft{G G':GH}{wb w:World}:∀(t:Ty) (d0 d:t.den) (us:List Value) (n1 n2:List Pc),Wy G wb t d0 us n1->Wy G' w t d us n2->∃n3,Wy G' w t d us n3/\nus n3=nus n1/\fps n3=fps n2
 | .own e,d0,d,us,n1,n2,⟨pc,h1,h2,h3⟩,⟨fg,g1,g2,g3⟩=>by
  subst h1 g1;have hx:pc.nu.hdr=fg.nu.hdr:=by rw[h2]at g2;simpa using g2
  exact⟨[⟨pc.nu,fg.fp⟩],⟨_,rfl,h2,Wp4 h3 g3 hx⟩,rfl,rfl⟩
 | .prod a b,d0,d,us,n1,n2,⟨v1,v2,m1,m2,h1,h2,h3,h4⟩,⟨u1,u2,k1,k2,g1,g2,g3,g4⟩=>by
  have l1:=WH a _ _ _ h3;have l2:=WH a _ _ _ g3;obtain⟨q1,q2⟩:=List.append_inj (h1.symm.trans g1) (by rw[l1,l2]);subst q1 q2 h2 g2;obtain⟨a1,a2,a3,a4⟩:=Wft a _ _ _ _ _ h3 g3;obtain⟨b1,b2,b3,b4⟩:=Wft b _ _ _ _ _ h4 g4;exact⟨a1++b1,⟨_,_,a1,b1,h1,rfl,a2,b2⟩,by unfold nus at a3 b3⊢;rw[Xz,Xz,a3,b3],by unfold fps at a4 b4⊢;rw[Xz,Xz,a4,b4]⟩
 | .int _,d0,d,us,n1,n2,h,g=>by obtain⟨h1,_⟩:=h;obtain⟨g1,g2⟩:=g;subst h1 g1;exact⟨[],⟨rfl,g2⟩,rfl,rfl⟩
 | .bool,d0,d,us,n1,n2,h,g=>by obtain⟨h1,_⟩:=h;obtain⟨g1,g2⟩:=g;subst h1 g1;exact⟨[],⟨rfl,g2⟩,rfl,rfl⟩
 | .str,d0,d,us,n1,n2,h,g=>by obtain⟨h1,_⟩:=h;obtain⟨g1,g2⟩:=g;subst h1 g1;exact⟨[],⟨rfl,g2⟩,rfl,rfl⟩
 | .slice _,d0,d,us,n1,n2,h,g=>by obtain⟨h1,_⟩:=h;obtain⟨g1,g2⟩:=g;subst h1 g1;exact⟨[],⟨rfl,g2⟩,rfl,rfl⟩
theorem Wtk{G G':GH}{wb w:World}{t:Ty}{agg:Bool}{d0 d:t.den}{v:Value}{n1 n2:List Pc}(h:Wj3 G wb t agg d0 v n1)(g:Wj3 G' w t agg d v n2):∃us n3,Wy G' w t d us n3/\nus n3=nus n1/\fps n3=fps n2:=by
 unfold Wj3 at h g;split at h
 .rename_i ha;rw[Wf ha]at g;obtain⟨us,h1,h2⟩:=h;obtain⟨y9,g1,g2⟩:=g;have:us=y9:=by
   rw[h1]at g1;injection g1 with g1;have:=Wn Array.toList g1;simpa using this
  subst this;exact⟨us,Wft _ _ _ _ _ _ h2 g2⟩
 .rename_i ha;rw[Wc ha]at g;exact⟨_,Wft _ _ _ _ _ _ h g⟩
structure OOk(G':GH)(φ:Nat->CS)(objs:Waa)(w:World)(ps:List PTy)(B:OutK (Wgh ps))(ks:List Nu)(kf:List CS)(ms:List Pc):Prop where
 outs:WbD G' w ps B.d ks kf ms
 sepk:Sep kf
 sepm:Sep (fps ms)
 kf:∀S∈kf,CS.le S (FromL φ objs B.kept)
 ms:∀q∈ms,CS.le q.fp (FromL φ objs B.moved)
theorem Wxu(h:HR w0 F G ν φ objs nx w){k1 k2:List CS}{m l:List Nat}(h1:Sep k1)(h2:Sep k2)(g1:∀S∈k1,CS.le S (FromL φ objs m))(g2:∀S∈k2,CS.le S (FromL φ objs l))(hd:∀i∈m,i∉l):Sep (k1++k2):=
 WoY h1 h2 (A:=FromL φ objs m) (B:=FromL φ objs l) g1 g2 (FromL.disj h hd)
theorem WhD{wb:World}{Gb:GH}(hg:GLe G G')(h:HR w0 F G ν φ objs nx w){t:Ty}{ps:List PTy}{id b o:Nat}{cs:List Cell}{dd:t.den}{m l:List Nat}{A:OutK (Wgh ps)}{ks:List Nu}{kf:List CS}{ms:List Pc}
  (hx:CellRel G ν nx (.ptr id 0) (.pointer (some ⟨b,o,none⟩))) (ho:Wp objs id=some (.box cs)) (g1:Waw t cs objs=some (dd,m,l)) (hl:Lent G' w φ objs l) (hk:(id::A.kept).Nodup) (hm:(m++A.moved).Nodup) (hA:OOk G' φ objs w ps A ks kf ms):
  ∃nn,WfP G' w t dd b o nn/\Sep (rng b o t.size::kf)/\Sep (fps (nn++ms))/\(∀S∈rng b o t.size::kf,CS.le S (FromL φ objs (id::A.kept)))/\(∀q∈nn++ms,CS.le q.fp (FromL φ objs (m++A.moved))):=by
 obtain⟨_,b',za,iZ⟩:=hx;injection iZ with iZ;injection iZ with iZ;injection iZ with iZ kN _;subst iZ kN;have aS:Live objs id:=⟨_,ho,by simp⟩;obtain⟨b'',us,sY,bi,aM,bV,fU⟩:WcP G ν nx w id (φ id) (.box cs):=h.ob _ _ ho;rw[za]at sY;injection sY with sY;subst sY;obtain⟨k1,k2⟩:=Xac.1 hk;obtain⟨k3,k4,k5⟩:=Xae.1 hm;obtain⟨nn,e1,e2,e3,_⟩:=Wag h hg t cs us dd m l bV hl k3 g1;have dH:cs.length=t.size:=by rw[←bV.1];exact WH _ _ _ _ e1
 rw[dH]at bi fU;have hI:CS.le (rng b ((ν id).off+0) t.size) (FromL φ objs [id]):=λb o hh=>⟨id,by simp,aS,fU b o hh⟩;refine⟨nn,⟨us,bi,aM,e1⟩,?_,Wcp h e2 hA.sepm e3 hA.ms (λi hi hj=>k5 i hi i hj rfl),λS hS=>?_,λq hq=>?_⟩
 .exact Wxu h (k1:=[rng b ((ν id).off+0) t.size]) (m:=[id]) (Xbn _ _) hA.sepk (λS hS=>by rw[Xag.1 hS];exact hI) hA.kf (λi hi hj=>k1 (by rw[←Xag.1 hi];exact hj))
 .rcases Xs.1 hS with rfl|hS
  .exactλb o hh=>FromL.mono (λi hi=>by rw[Xag.1 hi];exact Xj ..) b o (hI b o hh)
  .exactλb o hh=>FromL.mono (λi hi=>Xf _ hi) b o (hA.kf S hS b o hh)
 .rcases Xo.1 hq with hq|hq
  .exactλb o hh=>FromL.mono (λi hi=>Xn _ hi) b o (e3 q hq b o hh)
  .exactλb o hh=>FromL.mono (λi hi=>Xg _ hi) b o (hA.ms q hq b o hh)
theorem WaX{wb:World}{Gb:GH}(hg:GLe G G')(h:HR w0 F G ν φ objs nx w):∀(ps:List PTy) (d:WfJ ps) (vs:List Value) (ns:List Pc) (ks:List Nu) (xs:List AVal) (B:OutK (Wgh ps)),Wbl Gb wb ps d vs ns ks->xs.length=vs.length->
  (∀(j:Nat) (x:AVal) (v:Value),xs[j]?=some x->vs[j]?=some v->x= .tup []\/AValRel G ν nx x v)->Lent G' w φ objs B.lent->B.kept.Nodup->B.moved.Nodup->W2 ps xs objs=some B->
  ∃kf ms,OOk G' φ objs w ps B ks kf ms
 | [],d,vs,ns,ks,xs,B,⟨_,_,hk⟩,_,_,_,_,_,hf=>by
  simp only[W2]at hf;injection hf with hf;subst hf;exact⟨[],[],⟨hk,rfl,rfl⟩,List.Pairwise.nil,List.Pairwise.nil,by simp,by simp⟩
 | .v t agg::ps,d,vs,ns,ks,xs,B,⟨v,au,n1,n2,h1,h2,h3,h4⟩,ad,hp,hl,hk,hm,hf=>by
  subst h1;simp only[W2]at hf;cases hA:W2 ps xs.tail objs with
  |none=>simp[hA]at hf
  |some A=>
   simp[hA]at hf;subst hf
   match xs,ad with
   |x::xs,ad=>
    obtain⟨kf,ms,hO⟩:=WaX hg h ps d.2 au n2 ks xs A h4 (by simpa using ad) (λj y u hj hu=>hp (j+1) y u (by simpa using hj) (by simpa using hu)) hl hk hm hA;exact⟨kf,ms,hO.outs,hO.sepk,hO.sepm,hO.kf,hO.ms⟩
 | .rp t::ps,d,vs,ns,ks,xs,B,⟨b,o,us,au,h1,h2,h3,h4⟩,ad,hp,hl,hk,hm,hf=>by
  subst h1;simp only[W2]at hf;cases hA:W2 ps xs.tail objs with
  |none=>simp[hA]at hf
  |some A=>
   simp[hA]at hf;subst hf
   match xs,ad with
   |x::xs,ad=>
    obtain⟨kf,ms,hO⟩:=WaX hg h ps d.2 au ns ks xs A h4 (by simpa using ad) (λj y u hj hu=>hp (j+1) y u (by simpa using hj) (by simpa using hu)) hl hk hm hA;exact⟨kf,ms,hO.outs,hO.sepk,hO.sepm,hO.kf,hO.ms⟩
 | .box t::ps,d,vs,ns,ks,xs,B,⟨b,o,au,n1,n2,aC,h1,h2,h3,h4,h6⟩,ad,hp,hl,hk,hm,hf=>by
  subst h1;simp only[W2]at hf;split at hf
  .rename_i id xs;split at hf
   .rename_i cs ho;split at hf
    .rename_i dd m l A g1 g2;injection hf with hf;subst hf;have hx:=((hp 0 _ _ rfl rfl).resolve_left (λe=>by cases e)).1;obtain⟨kf,ms,hO⟩:=WaX hg h ps d.2 au n2 aC xs A h6 (by simpa using ad) (λj y u hj hu=>hp (j+1) y u (by simpa using hj) (by simpa using hu)) (hl.mono λj hj=>Xg _ hj) (Xac.1 hk).2 (Xae.1 hm).2.1 g2;obtain⟨nn,e1,e2,e3,e4,e5⟩:=WhD (wb:=wb) (Gb:=Gb) hg h hx ho g1 (hl.mono λj hj=>Xn _ hj) hk hm hO;exact⟨_,nn++ms,⟨b,o,aC,kf,nn,ms,h3,rfl,rfl,e1,hO.outs⟩,e2,e3,e4,e5⟩
    .cases hf
   .cases hf
  .cases hf
 | .vj _::_,_,_,_,_,_,_,h,_,_,_,_,_,_=>h.elim
 | .boxal t lf::ps,d,vs,ns,ks,xs,B,⟨b,o,b',pc,au,n1,n2,aC,h1,h2,h3,h4,h5,h6,h7,h8⟩,ad,hp,hl,hk,hm,hf=>by
  subst h1;simp only[W2]at hf;split at hf
  .rename_i id y xs;split at hf
   .rename_i cs ho;split at hf
    .rename_i dd m l A g1 g2;injection hf with hf;subst hf;have hx:=((hp 0 _ _ rfl rfl).resolve_left (λe=>by cases e)).1;obtain⟨kf,ms,hO⟩:=WaX hg h ps d.2.2 au n2 aC xs A h8 (by simpa using ad) (λj y u hj hu=>hp (j+2) y u (by simpa using hj) (by simpa using hu)) (hl.mono λj hj=>Xg _ hj) (Xac.1 hk).2 (Xae.1 hm).2.1 g2;obtain⟨nn,e1,e2,e3,e4,e5⟩:=WhD (wb:=wb) (Gb:=Gb) hg h hx ho g1 (hl.mono λj hj=>Xn _ hj) hk hm hO;exact⟨_,nn++ms,⟨b,o,aC,kf,nn,ms,h3,rfl,rfl,e1,hO.outs⟩,e2,e3,e4,e5⟩
    .cases hf
   .cases hf
  .cases hf
 | .mut e::ps,d,vs,ns,ks,xs,B,⟨pc,au,n2,aC,h1,h2,h3,h4,h5⟩,ad,hp,hl,hk,hm,hf=>by
  subst h1;simp only[W2]at hf;split at hf
  .rename_i id xs;split at hf
   .rename_i e' ys ho;split at hf
    .rename_i dd A g1 g2;injection hf with hf;subst hf;obtain⟨jP,hd⟩:=Way g1;subst jP;simp only at hd;subst hd;obtain⟨⟨_,hx⟩,_⟩:=(hp 0 _ _ rfl rfl).resolve_left (λe=>by cases e);have aS:Live objs id:=⟨_,ho,by simp⟩;have aT:WbP w (Wy G w e') e'.size (ν id) ys (φ id):=h.ob _ _ ho;have gk:=Wc9 hg (Same.refl _ w) (λ_ _ hh=>hh) aT;obtain⟨k1,k2⟩:=Xac.1 hk;obtain⟨kf,ms,hO⟩:=WaX hg h ps d.2 au n2 aC xs A h5 (by simpa using ad) (λj y u hj hu=>hp (j+1) y u (by simpa using hj) (by simpa using hu)) hl k2 hm g2;refine⟨φ id::kf,ms,⟨⟨pc.nu,φ id⟩,aC,kf,h3,rfl,Wp4 h4 gk hx,hO.outs⟩,?_,hO.sepm,λS hS=>?_,hO.ms⟩
     .exact Wxu h (k1:=[φ id]) (m:=[id]) (Xbn _ _) hO.sepk (λS hS=>by rw[Xag.1 hS];exact FromL.one (by simp) aS) hO.kf (λi hi hj=>k1 (by rw[←Xag.1 hi];exact hj))
     .rcases Xs.1 hS with rfl|hS
      .exact FromL.one (Xj ..) aS
      .exactλb o hh=>FromL.mono (λi hi=>Xf _ hi) b o (hO.kf S hS b o hh)
    .cases hf
   .cases hf
  .cases hf
 | .clos g n::ps,d,vs,ns,ks,xs,B,⟨cvs,au,h1,h2,h3,h4⟩,ad,hp,hl,hk,hm,hf=>by
  subst h1;simp only[W2]at hf;split at hf
  .rename_i g' caps xs;split at hf
   .rename_i hc;obtain⟨rfl,c7⟩:=hc;cases hA:W2 ps (Whd caps++xs) objs with
    |none=>simp[hA]at hf
    |some A=>
     simp[hA]at hf;subst hf;obtain⟨⟨us,uy,xg,zb⟩,_⟩:=(hp 0 _ _ rfl rfl).resolve_left (λe=>by cases e);have jV:us=cvs:=by
      injection uy with _ _ uy;have:=Wn Array.toList uy;simpa using this.symm
     subst jV;obtain⟨kf,ms,hO⟩:=WaX hg h ps d (us++au) ns ks (Whd caps++xs) A h4 (by simp[Whd,xg];simpa using ad) (λj y u hj hu=>by
      rw[Xas]at hj hu;simp only[Whd,List.length_map]at hj;rw[xg]at hu;split at hj
      .rename_i ac;rw[Wf ac]at hu;rw[Xak]at hj;obtain⟨id,bU,rfl⟩:=Xt.1 hj;obtain⟨q1,q3,q2⟩:=zb _ id u bU hu;exact .inr ⟨⟨q1,q2⟩,q3⟩
      .rename_i ac;rw[Wc ac]at hu;exact hp (j-caps.length+1) y u (by simpa using hj) (by simpa using hu)) hl hk hm hA
     exact⟨kf,ms,hO.outs,hO.sepk,hO.sepm,hO.kf,hO.ms⟩
   .cases hf
  .cases hf
 | .kv t agg::ps,d,vs,ns,ks,xs,B,⟨v,au,n1,n2,aC,h1,h2,jX,h3,h4⟩,ad,hp,hl,hk,hm,hf=>by
  subst h1;simp only[W2]at hf;split at hf
  .rename_i x xs;split at hf
   .rename_i dd m l A g1 g2;split at hf
    .rename_i hQ;injection hf with hf;subst hf;cases hc:cellsOf agg x with
     |none=>simp[hc]at g1
     |some cs=>
      simp[hc]at g1;obtain⟨k1,k2,k3⟩:=Xae.1 hk;have hx:=(hp 0 _ _ rfl rfl).resolve_left (λe=>by subst e;cases hc);have bS:Lent G' w φ objs l:=hl.mono λj hj=>Xn _ hj;obtain⟨_,_,_,_,q4,_⟩:=Wl9 h hg hx bS k1 hc g1;obtain⟨v1,_⟩:=Wn0 h hg hx bS hc g1 hQ;obtain⟨us,n3,r1,r2,r3⟩:=Wtk h3 v1;obtain⟨kf,ms,hO⟩:=WaX hg h ps d.2 au n2 aC xs A h4 (by simpa using ad) (λj y u hj hu=>hp (j+1) y u (by simpa using hj) (by simpa using hu)) (hl.mono λj hj=>Xg _ hj) k2 hm g2;have gp:∀S∈fps n3,CS.le S (FromL φ objs m):=λS hS=>by
       rw[r3,WoX]at hS;obtain⟨i,hi,rfl⟩:=Xw.1 hS;exact FromL.one hi (q4 i hi)
      have gs:Sep (fps n3):=by
       rw[r3,WoX];refine List.pairwise_map.2 (k1.imp_of_mem λ{i j} hi hj bQ=>?_)
       exactλb o h1 h2=>bQ (h.inj i j b o (q4 i hi) (q4 j hj) h1 h2)
      refine⟨fps n3++kf,ms,⟨n3,aC,kf,us,by rw[jX,r2],rfl,r1,hO.outs⟩,Wxu h gs hO.sepk gp hO.kf (λi hi hj=>k3 i hi i hj rfl),hO.sepm,λS hS=>?_,hO.ms⟩;rcases Xo.1 hS with hS|hS
      .exactλb o hh=>FromL.mono (λi hi=>Xn _ hi) b o (gp S hS b o hh)
      .exactλb o hh=>FromL.mono (λi hi=>Xg _ hi) b o (hO.kf S hS b o hh)
    .cases hf
   .cases hf
  .cases hf
end
end Go.Sx
namespace Go.Sx
set_option linter.unusedVariables false
set_option linter.unusedSimpArgs false
section
variable{P:Program}{T:Tab}{Γ:Ctx}
theorem Wt6{sg:Sig}{d:WfJ sg.ps}{G:GH}{w:World}{vs:List Value}{ns:List Pc}{ks:List Nu}{n:Nat}(hn:WbR sg.ps<=n)(fW:Wct sg.ps=true)(aR:Wbl G w sg.ps d vs ns ks)(jQ:Sep (fps ns))
  (c9:∀q∈ns,∀b off,q.fp b off->G b off=none/\b<w.heap.size) (hg:∀b o v,G b o=some v->w.cell? ⟨b,o,none⟩=some v):
  ∃ν,Rel w (Of ns) ⟨n,WI sg.ps 0 0 vs,λ_ _=>False⟩ G G ν {env:=Wcb 0 (WP sg.ps d [] 0).1,objs:=(WP sg.ps d [] 0).2.1,nx:=(WP sg.ps d [] 0).2.2}
   {tmps:=vs.toArray++Xdi (n-vs.toArray.size) undef,defers:=[]} w:=by
 obtain⟨ν,hν⟩:∃ν:Nat->Nu,ν= λi=>((nus ns)[i]?).getD ⟨none,0,0,0,0⟩:=⟨_,rfl⟩;obtain⟨φ,hφ⟩:∃φ:Nat->CS,φ= λi=>((fps ns)[i]?).getD (λ_ _=>False):=⟨_,rfl⟩;have hAt:At ν φ 0 ns:=λj pc hj=>by
  have e1:(nus ns)[j]?=some pc.nu:=by unfold nus;rw[Xak,hj];rfl
  have e2:(fps ns)[j]?=some pc.fp:=by unfold fps;rw[Xak,hj];rfl
  rw[hν,hφ];simp only[Xau,e1,e2];exact⟨rfl,rfl⟩
 obtain⟨h1,h2,h3,h4⟩:=WcE (ν:=ν) (φ:=φ) sg.ps d vs ns ks [] 0 (0+ns.length) fW aR hAt (Xm _);have sy:=Wdo _ _ _ _ _ aR;have eX:∀id,Live (WP sg.ps d [] 0).2.1 id->id<ns.length:=λid ⟨ob,ho,_⟩=>by
  rcases h2 id ob ho with⟨_,h,_⟩|h
  .simpa using h
  .cases h
 have bE:∀id b o,φ id b o->∃q,ns[id]?=some q/\(fps ns)[id]?=some q.fp/\q.fp b o:=λid b o hp=>by
  rw[hφ]at hp
  try simp only at hp
  cases hq:ns[id]? with
  |none=>
   have:(fps ns)[id]?=none:=by unfold fps;rw[Xak,hq];rfl
   rw[this]at hp;exact hp.elim
  |some q=>
   have:(fps ns)[id]?=some q.fp:=by unfold fps;rw[Xak,hq];rfl
   rw[this]at hp;exact⟨q,rfl,this,hp⟩
 have xh:∀(i:Nat) (v:Value),vs[i]?=some v->(vs.toArray++Xdi (n-vs.toArray.size) undef)[i]?=some v:=λi v hi=>by
  have ac:=(Xab.1 hi).1;rw[Xff (by simpa using ac)];simpa using hi
 refine⟨ν,rfl,by simp;omega,λp hp=>?_,λi x hx=>?_,⟨φ,?_⟩,⟨λ_ _ _ hh=>hh,λ_ _ _ hh=>.inl hh⟩,λ_ _ h=>h.elim⟩
 .obtain⟨_,g2⟩:=WO _ _ _ _ p hp;exact xh _ _ (by simpa using g2)
 .simp only at hx;rw[Wh5]at hx;simp only[Xch,W4,Xdf]at hx;have ac:=(Xab.1 hx).1;rw[h3]at ac;have hv:=Xq ac;refine⟨_,xh i _ hv,?_⟩;have:=h4 i x _ hx hv;simp only[h1];exact this
 .exact{
   g:=hg
   ob:=λid ob ho=>by
    rcases h2 id ob ho with⟨_,_,h⟩|h
    .simp only[h1];exact h
    .cases h
   gf:=λid b o hl hp=>by
    obtain⟨q,g1,_,g2⟩:=bE id b o hp;exact(c9 q (Xar g1) b o g2).1
   inj:=λid cl b o hl dZ hp fz=>by
    obtain⟨q,_,g1,g2⟩:=bE id b o hp;obtain⟨q',_,zc,zd⟩:=bE cl b o fz;exact Wlx jQ g1 zc g2 zd
   own:=λid b o hl hp=>by
    obtain⟨q,g1,_,g2⟩:=bE id b o hp;exact .inr ⟨q,Xar g1,g2⟩
   lt:=λid hl=>by simp only[h1];have:=eX id hl;omega
   bl:=λid b o hl hp=>by
    obtain⟨q,g1,_,g2⟩:=bE id b o hp;exact(c9 q (Xar g1) b o g2).2
   le:=WLe.refl _ w}
theorem Wsz(hT:Waj P T){f:Func}{sg:Sig}{d:WfJ sg.ps}{G:GH}{w:World}{vs:List Value}{ns:List Pc}{ks:List Nu}{n:Nat}(fW:Wct sg.ps=true)(aR:Wbl G w sg.ps d vs ns ks)
  {st:St} {a:Act} {w':World} {G1:GH} {ν:Nat->Nu} (hr:Rel w (Of ns) ⟨n,WI sg.ps 0 0 vs,λ_ _=>False⟩ G G1 ν st a w') {xs:List AVal} (hx:Wds T st f.results.toList=some xs)
  {A:Outs (Whr sg.rs)} (hA:Wa9 sg.rs xs st.objs=some A) {B:OutK (Wgh sg.ps)} (hB:W2 sg.ps (WB sg.ps 0 0 st) st.objs=some B)
  (bh:Wby (B.kept++(B.moved++A.moved))=true) (mO:Wgg (A.lent++B.lent) (B.kept++(B.moved++A.moved))=true):
  ∃rv kf ms di G',(results f a.tmps).run P w'= .ok (Wjo rv) w'/\After sg (B.d,A.d) G w ns ks rv kf ms di G' w':=by
 have bh:=(Wff _).1 bh;have mO:=Woh mO;obtain⟨φ,hφ⟩:=hr.h;have uz:=hφ.addG_le (A.lent++B.lent);have ze:=hφ.addG_w (A.lent++B.lent);have nA:Lent (WrQ G1 w' (FromL φ st.objs (A.lent++B.lent))) w' φ st.objs (A.lent++B.lent):=λid bU hl=>(Wi5 _).mono (FromL.one bU hl);obtain⟨k1,k2,k3⟩:=Xae.1 bh;obtain⟨k4,k5,k6⟩:=Xae.1 k2;obtain⟨rv,oC,oD,oE⟩:=Wig hT hr _ xs hx;obtain⟨di,q1,q2,q3,q4⟩:=Wea hφ uz sg.rs xs rv A oD oE (nA.mono λi hi=>Xn _ hi) k5 hA;obtain⟨iN,d6⟩:=WaM hr sg.ps d vs ns ks 0 0 aR fW (by cases sg.ps<;>rfl) (Xch _) (by simpa using hr.par);obtain⟨kf,ms,hO⟩:=WaX uz hφ sg.ps d vs ns ks _ B aR iN (λj x v hj hv=>d6 j x v hj (by simpa using hv)) (nA.mono λi hi=>Xg _ hi) k1 k4 hB;have gm:∀S∈kf++fps (ms++di),CS.le S (FromL φ st.objs (B.kept++(B.moved++A.moved))):=λS hS=>by
  rcases Xo.1 hS with hS|hS
  .exactλb o hh=>FromL.mono (λi hi=>Xn _ hi) b o (hO.kf S hS b o hh)
  .obtain⟨q,hq,rfl⟩:=Xw.1 hS;rcases Xo.1 hq with hq|hq
   .exactλb o hh=>FromL.mono (λi hi=>Xg _ (Xn _ hi)) b o (hO.ms q hq b o hh)
   .exactλb o hh=>FromL.mono (λi hi=>Xg _ (Xg _ hi)) b o (q3 q hq b o hh)
 refine⟨rv,kf,ms,di,WrQ G1 w' (FromL φ st.objs (A.lent++B.lent)),?_,?_⟩
 .show(do let vs←f.results.mapM (Wjv a.tmps);pure (if h:vs.size=1 then vs[0]else .tuple vs):Sem Value).run P w'=_;have ia:(f.results.mapM (Wjv a.tmps)).run P w'= .ok rv.toArray w':=by
   rw[Xdz,Sem.run_map,oC];rfl
  rw[Sem.run_bind,ia];simp only[Result.andThen_ok,Sem.run_pure];congr 1;unfold Wjo
  match rv with
  | []=>rfl
  | [v]=>rfl
  |u::v::l=>simp
 .exact{
   res:=q1
   outs:=hO.outs
   sep:=by
    refine Wxu hφ hO.sepk (Wcp hφ hO.sepm q2 hO.ms q3 (λi hi hj=>k6 i hi i hj rfl)) hO.kf (l:=B.moved++A.moved) (λS hS=>?_) (λi hi hj=>k3 i hi i hj rfl);obtain⟨q,hq,rfl⟩:=Xw.1 hS;rcases Xo.1 hq with hq|hq
    .exactλb o hh=>FromL.mono (λi hi=>Xn _ hi) b o (hO.ms q hq b o hh)
    .exactλb o hh=>FromL.mono (λi hi=>Xg _ hi) b o (q3 q hq b o hh)
   own:=λS hS b off hh=>by
    obtain⟨i,hi,h1,h2⟩:=gm S hS b off hh;refine⟨?_,(hφ.own i b off h1 h2).symm,hφ.bl i b off h1 h2⟩;rw[Wdn (λ⟨j,hj,h3,h4⟩=>by
     have:=hφ.inj i j b off h1 h3 h2 h4;subst this;exact mO _ hj hi)]
    exact hφ.gf i b off h1 h2
   gx:=by
    refine⟨λb o v hv=>uz b o v (hr.gx.le b o v hv),λb off v hv=>?_⟩;by_cases hb:FromL φ st.objs (A.lent++B.lent) b off
    .obtain⟨j,hj,h1,h2⟩:=hb;exact .inr (hφ.own j b off h1 h2)
    .rw[Wdn hb]at hv;exact hr.gx.new b off v hv
   g:=ze
   le:=hφ.le}
theorem WvB(hM:P.follows .mixedOrders=true)(hT:Waj P T)(hΓ:WdT P Γ){f:Func}{k:FuncId}{c:Code}(hf:P.funcs[k]?=some f)(hb:f.body=some c){sg:Sig}(bI:Wdx f.ntmps (Wey sg.ps 0 0) c=true)(fW:Wct sg.ps=true)
  (hn:WbR sg.ps<=f.ntmps) {ann:Nat->List Ghost} (h:∀d o,sg.run d=some o->∃N,den T Γ ann N sg f d some=some o):WwD P k sg:=by
 intro d o bm G w vs ns ks aR jQ c9 hg;obtain⟨N,ja⟩:=h d o bm;unfold den at ja;simp only[hb]at ja;obtain⟨ν,zf⟩:=Wt6 hn fW aR jQ c9 hg;split at ja
 case h_2=>cases ja
 rename_i c' b st0 gB zg;injection gB with gB;subst gB;obtain⟨rfl,ja⟩:=W3 ja;obtain⟨G0',ν0',hr⟩:=WdR _ _ _ _ _ (.inl λ_ _ h=>h) zf zg;refine calls_of_wp hf hb ?_
 suffices hk:∀e,WrT w (Of ns) ⟨f.ntmps,WI sg.ps 0 0 vs,λ_ _=>False⟩ G (WxT T sg f.results.toList some e) o (bodyPost P f (λe w'=>∃rv kf ms di G',e= .returned (Wjo rv)/\After sg o G w ns ks rv kf ms di G' w') e.to)from
  Woc (nt:=⟨f.ntmps,WI sg.ps 0 0 vs,λ_ _=>False⟩) hM hT hΓ (n:=f.ntmps) rfl (WX sg.ps 0 0 vs) (.inl λ_ _ h=>h) c bI hk _ _ _ _ _ hr ja
 intro e st a w' G1 ν1 hZ hk;have fh:(∃xs,Wds T st f.results.toList=some xs/\∃A B,Wa9 sg.rs xs st.objs=some A/\W2 sg.ps (WB sg.ps 0 0 st) st.objs=some B/\Wby (B.kept++(B.moved++A.moved))=true/\Wgg (A.lent++B.lent) (B.kept++(B.moved++A.moved))=true/\(B.d,A.d)=o)->
   a.defers= []/\∃v,(results f a.tmps).run P w'= .ok v w'/\∃rv kf ms di G',Ending.returned v= .returned (Wjo rv)/\After sg o G w ns ks rv kf ms di G' w':=by
  rintro⟨xs,hx,A,B,hA,hB,h1,h2,rfl⟩;obtain⟨rv,kf,ms,di,G',h3,h4⟩:=Wsz hT (f:=f) fW aR hZ hx hA hB h1 h2;exact⟨hZ.defers,_,h3,rv,kf,ms,di,G',rfl,h4⟩
 have ol:(match Wds T st f.results.toList with
   |some xs=>match Wa9 sg.rs xs st.objs,W2 sg.ps (WB sg.ps 0 0 st) st.objs with
    |some A,some B=>if Wby (B.kept++(B.moved++A.moved))&&Wgg (A.lent++B.lent) (B.kept++(B.moved++A.moved))then some (B.d,A.d)else none
    |_,_=>none
   |none=>none)=some o->(∃xs,Wds T st f.results.toList=some xs/\∃A B,Wa9 sg.rs xs st.objs=some A/\W2 sg.ps (WB sg.ps 0 0 st) st.objs=some B/\Wby (B.kept++(B.moved++A.moved))=true/\Wgg (A.lent++B.lent) (B.kept++(B.moved++A.moved))=true/\(B.d,A.d)=o):=λhk=>by
  split at hk
  .rename_i xs hx;split at hk
   .rename_i A B hA hB;obtain⟨hc,hk⟩:=Wb1 hk;simp only[Xi]at hc;injection hk with hk;exact⟨xs,hx,A,B,hA,hB,hc.1,hc.2,hk⟩
   .cases hk
  .cases hk
 cases e with
 |normal=>exact fh (ol hk)
 |ret=>exact fh (ol hk)
 |exit id=>cases hk
end
end Go.Sx
namespace Go.Sx
set_option linter.unusedVariables false
set_option linter.unusedSimpArgs false
def zv1:Value->Value->Bool
 | .int k n,.int k' n'=>decide (k=k')&&decide (n=n')
 | .bool b,.bool b'=>b==b'
 | .string s,.string s'=>match s.data.toList,s'.data.toList with
  | [],[]=>true
  |_,_=>false
 | .slice none 0 0,.slice none 0 0=>true
 | .pointer none,.pointer none=>true
 |_,_=>false
theorem WuA(x y:Value)(h:zv1 x y=true):x=y:=by
 unfold zv1 at h;split at h
 .simp only[Xi,Wi]at h;obtain⟨rfl,rfl⟩:=h;rfl
 .have:=eq_of_beq h;subst this;rfl
 .rename_i s s';split at h
  .rename_i e1 e2;have:s=s':=by
    cases s with|mk a=>cases s' with|mk b=>
    congr 1;apply Array.ext';simp only at e1 e2;rw[e1,e2]
   rw[this]
  .cases h
 .rfl
 .rfl
 .cases h
def Wxr:List Value->List Value->Bool
 | [],[]=>true
 |x::l,y::m=>zv1 x y&&Wxr l m
 |_,_=>false
theorem Wnt:∀(l m:List Value),Wxr l m=true->l=m
 | [],[],_=>rfl
 | [],_::_,h=>by cases h
 |_::_,[],h=>by cases h
 |x::l,y::m,h=>by
  simp only[Wxr,Xi]at h;rw[WuA x y h.1,Wnt l m h.2]
def WgZ:List Field->List (Nat×TypeId)->Bool
 | [],[]=>true
 |f::l,p::m=>Xaw f.offset p.1&&Xaw f.type p.2&&(f.name != "_")&&WgZ l m
 |_,_=>false
def Wtc(P:Program)(T:Tab)(t:TypeId)(te:TE):Bool:=match te.shape with
 | .basic=>!te.agg&&(match te.ty with
  | .int k=>match P.underlying t with|some (.int k')=>decide (k'=k)|_=>false
  | .bool=>match P.underlying t with|some .bool=>true|_=>false
  | .str=>match P.underlying t with|some .string=>true|_=>false
  |_=>false)
 | .slice e=>!te.agg&&(match P.underlying t with|some (.slice e')=>Xaw e' e|_=>false)&&(match Wp T e with|some eG=>decide (te.ty= .slice eG.ty)|none=>false)
 | .struct fs=>te.agg&&(match P.underlying t with|some (.struct fields)=>WgZ fields.toList fs|_=>false)&& !P.stoodInHeld t&& !P.eqGuardType P.depth t
 | .ptr e=>!te.agg&&(match P.underlying t with|some (.pointer e')=>Xaw e' e|_=>false)
 | .arr n e=>te.agg&&(match P.underlying t with|some (.array n' e')=>Xaw n' n&&Xaw e' e|_=>false)&&(match Wp T e with|some eG=>decide (eG.ty=te.ty)&&eG.plain|none=>false)
def Wou(P:Program)(t:TypeId)(te:TE):Bool:=match P.info? t with
 |some i=>match i.zero with
  |some z=>Xaw i.size te.size&&Wxr z.cells.toList te.cells&&Xhf i.bytes 4096
  |none=>false
 |none=>false
def Wm8(P:Program)(T:Tab):Tab->Bool
 | []=>true
 |(t,te)::l=>Wtc P T t te&&Wou P t te&&Wm8 P T l
theorem WfI:∀(l:List Field) (m:List (Nat×TypeId)),WgZ l m=true→l.map (λf=>(f.offset,f.type))=m∧∀f∈l,f.name≠ "_"
 | [],[],_=>⟨rfl,by simp⟩
 | [],_::_,h=>by cases h
 |_::_,[],h=>by cases h
 |f::l,p::m,h=>by
  simp only[WgZ,Xi,bne_iff_ne,ne_eq]at h;obtain⟨⟨⟨h1,h2⟩,h3⟩,h4⟩:=h;obtain⟨h5,h6⟩:=WfI l m h4;have h1:f.offset=p.1:=by simpa using h1
  have h2:f.type=p.2:=by simpa using h2
  refine⟨by rw[Xaf,h5,h1,h2],λg hg=>?_⟩;rcases Xs.1 hg with hg|hg
  .subst hg;exact h3
  .exact h6 g hg
theorem Wpf{P:Program}{T:Tab}{t:TypeId}{te:TE}(h:Wtc P T t te=true)(hi:Wou P t te=true):TEok P T t te:=by
 obtain⟨ty,agg,shape⟩:=te;refine⟨?_,?_⟩
 .unfold Wtc at h;cases shape with
  |basic=>
   simp only[Xi,Xaj]at h⊢;refine⟨h.1,?_⟩;have h:=h.2;cases ty with
   |int k=>
    simp only at h⊢;split at h
    .rename_i k' hu;simp only[Wi]at h;rw[hu,h]
    .cases h
   |bool=>
    simp only at h⊢;split at h
    .assumption
    .cases h
   |str=>
    simp only at h⊢;split at h
    .assumption
    .cases h
   |slice e=>cases h
   |own e=>cases h
   |prod a b=>cases h
  |slice e=>
   simp only[Xi,Xaj]at h⊢;obtain⟨⟨h1,h2⟩,h3⟩:=h;refine⟨h1,?_,?_⟩
   .split at h2
    .rename_i e' hu;rw[hu];have:e'=e:=by simpa using h2
     rw[this]
    .cases h2
   .split at h3
    .rename_i eG hl;exact⟨eG,hl,by simpa using h3⟩
    .cases h3
  |struct fs=>
   simp only[Xi,Xaj]at h⊢;obtain⟨⟨⟨h1,h2⟩,h3⟩,h4⟩:=h;refine⟨h1,?_⟩;split at h2
   .rename_i fields hu;obtain⟨h5,h6⟩:=WfI _ _ h2;exact⟨fields,hu,h5,λf hf=>h6 f (by simpa using hf),h3,h4⟩
   .cases h2
  |ptr e=>
   simp only[Xi,Xaj]at h⊢;refine⟨h.1,?_⟩;have h:=h.2;split at h
   .rename_i e' hu;rw[hu];have:e'=e:=by simpa using h
    rw[this]
   .cases h
  |arr n e=>
   simp only[Xi]at h⊢;obtain⟨⟨h1,h2⟩,h3⟩:=h;refine⟨h1,?_,?_⟩
   .split at h2
    .rename_i n' e' hu;simp only[Xi]at h2;have e1:n'=n:=by simpa using h2.1
     have e2:e'=e:=by simpa using h2.2
     rw[hu,e1,e2]
    .cases h2
   .split at h3
    .rename_i eG hl;simp only[Xi,Wi]at h3;refine⟨eG,hl,h3.1,λm f hs=>?_⟩;have:=h3.2;unfold TE.plain at this;rw[hs]at this;cases this
    .cases h3
 .unfold Wou at hi;split at hi
  .rename_i i zh;split at hi
   .rename_i z hz;simp only[Xi]at hi;obtain⟨⟨h1,h2⟩,h3⟩:=hi;exact⟨i,z,zh,by simpa using h1,hz,Wnt _ _ h2,Xel h3⟩
   .cases hi
  .cases hi
theorem WwS{P:Program}{T:Tab}(h:Wm8 P T T=true):Waj P T:=by
 have key:∀l,Wm8 P T l=true->∀t te,Wp l t=some te->TEok P T t te:=by
  intro l
  induction l with
  |nil=>intro _ t te hl;cases hl
  |cons p l ih=>
   intro hc t te hl;obtain⟨t',eG⟩:=p;simp only[Wm8,Xi]at hc;rw[WG]at hl;split at hl
   .rename_i e;subst e;injection hl with hl;subst hl;exact Wpf hc.1.1 hc.1.2
   .exact ih hc.2 t te hl
 exact key T h
theorem WoL{P:Program}:WdT P []:=λk sg h=>by cases h
theorem WxB{P:Program}{k:FuncId}{s:Sig}(hi:s.inl=none)(h:WwD P k s):WoE P k s:=by
 unfold WoE;rw[hi];exact h
theorem Wux{P:Program}{Γ:Ctx}{k:FuncId}{sg:Sig}(hg:WoE P k sg)(hc:Wg1 P k)(h:WdT P Γ):WdT P ((k,sg)::Γ):=λk' zi hl=>by
 simp only[Wp]at hl;split at hl
 .rename_i e;have:k=k':=by simpa using e
  subst this;injection hl with hl;subst hl;exact⟨hg,hc⟩
 .exact h k' zi hl
def WoI(f:Func):Bool:=f.body.isSome&& !(f.name== "runtime.NumGoroutine")
theorem Wee{P:Program}{k:FuncId}{f:Func}(hf:P.funcs[k]?=some f)(h:WoI f=true):Wg1 P k:=by
 simp only[WoI,Xi,Xaj]at h;refine⟨f,hf,?_,h.2⟩;cases hb:f.body with
 |none=>rw[hb]at h;cases h.1
 |some c=>rfl
def Wi7(f:Func)(ps:List PTy):Bool:=match f.body with
 |some c=>Wdx f.ntmps (Wey ps 0 0) c&&Xhf (WbR ps) f.ntmps&&Wct ps
 |none=>false
theorem Ws5{P:Program}{T:Tab}{Γ:Ctx}(hM:P.follows .mixedOrders=true)(hT:Waj P T)(hΓ:WdT P Γ){f:Func}{k:FuncId}(hf:P.funcs[k]?=some f){sg:Sig}(bI:Wi7 f sg.ps=true){ann:Nat->List Ghost}
  (h:∀d o,sg.run d=some o->∃N,den T Γ ann N sg f d some=some o):WwD P k sg:=by
 unfold Wi7 at bI;split at bI
 .rename_i c hb;simp only[Xi]at bI;exact WvB hM hT hΓ hf hb bI.1.1 bI.2 (Xel bI.1.2) h
 .cases bI
end Go.Sx
namespace Go.Sx
def Wf1:Code->List Code
 | .seq a b=>Wf1 a++Wf1 b
 | .cond _ a b=>Wf1 a++Wf1 b
 | .block _ c=>Wf1 c
 | .loop c=>c::Wf1 c
 |_=>[]
def Wpc(f:Func):Code:=match f.body with
 |some c=>c
 |none=>.skip
def WsJ(f:Func)(i:Nat):Code:=(Wf1 (Wpc f)).getD i .skip
noncomputable def WvE{R:Type}(T:Tab)(Γ:Ctx)(ann:Nat->List Ghost)(N:Nat):Code->List Nat->(Ex->St->Option R)->Ex->St->Option R
 | .seq a b,p,k=>match p with
  |0::p=>WvE T Γ ann N a p λe af=>match e with
   | .normal=>sx T Γ ann N b af k
   | .exit id=>k (.exit id) af
   | .ret=>k .ret af
  |_::p=>WvE T Γ ann N b p k
  | []=>k
 | .cond _ x y,p,k=>match p with
  |0::p=>WvE T Γ ann N x p k
  |_::p=>WvE T Γ ann N y p k
  | []=>k
 | .block id c,p,k=>match p with
  |_::p=>WvE T Γ ann N c p λe af=>match e with
   | .exit cl=>if cl=id then k .normal af else k (.exit cl) af
   | .normal=>k .normal af
   | .ret=>k .ret af
  | []=>k
 |_,_,k=>k
def WxH{R:Type}(gs:List Ghost)(L:St->(Ex->St->Option R)->Option R)(K:Ex->St->Option R):Ex->St->Option R:=λe st=>match e with
 | .normal=>match Wb9 gs st with
  |some (c,af)=>bif c then L af K else none
  |none=>none
 | .exit id=>K (.exit id) st
 | .ret=>K .ret st
abbrev vI(x:Int):AVal:=.s (.one (.val (.int .i64) x))
abbrev vB(x:Bool):AVal:=.s (.one (.val .bool x))
abbrev vV(t:Ty)(x:t.den):AVal:=.s (.one (.val t x))
abbrev vO(i:Nat):AVal:=.s (.one (.own i))
abbrev vP(i o:Nat):AVal:=.s (.one (.ptr i o))
abbrev Qs(s:Sig):=Wgh s.ps×Whr s.rs
structure Fn where
 F:Func
 a:Nat->List Ghost
 s:Nat->Sig
 c:Nat->Ctx
def Wu:Nat->List Ghost:=λ_=>[]
def WR:Nat->Ctx:=λ_=>[]
noncomputable def lpM{R:Type}(T:Tab)(Γ:Ctx)(ann:Nat->List Ghost)(N:Nat)(F:Func)(i k n:Nat)(st:St)(K:Ex->St->Option R):Option R:=Wpy (Wkw (ann k) λst k=>sx T Γ ann N (WsJ F i) st k) n st K
noncomputable def cxF(T:Tab)(Γ:Ctx)(ann:Nat->List Ghost)(N:Nat)(sg:Sig)(F:Func)(p:List Nat):Ex->St->Option (Qs sg):=WvE (R:=Qs sg) T Γ ann N (Wpc F) p (WxT T sg F.results.toList some)
noncomputable def cxL{R:Type}(T:Tab)(Γ:Ctx)(ann:Nat->List Ghost)(N:Nat)(F:Func)(i k:Nat)(p:List Nat)(n:Nat)(K:Ex->St->Option R):Ex->St->Option R:=WvE T Γ ann N (WsJ F i) p (WxH (ann k) (lpM T Γ ann N F i k n) K)
end Go.Sx
namespace Go.Sx
set_option linter.unusedVariables false
set_option linter.unusedSimpArgs false
def WtJ{R:Type}(T:Tab)(rv:List ResultVar)(k:KV R)(e:Ex)(st:St):Option R:=match e with
 | .exit _=>none
 |_=>match Wds T st rv with
  |some [x]=>k x st.objs st.nx
  |_=>none
def Ghost.opens:Ghost->Bool
 | .unfC _ _ _=>true
 |_=>false
def WfA(ann:Nat->List Ghost):Code->Bool
 | .skip| .ret=>true
 | .region id ops draw=>(ann id).all Ghost.opens&&(!draw||decide ((WrR (WcZ ops.toList []) ops.size (WdS ops.toList 0)).length<=1))
 | .seq a b=>WfA ann a&&WfA ann b
 |_=>false
section
variable{T:Tab}{Γ:Ctx}{A:List (Nat×An)}{ops:Array Oper}{ann:Nat->List Ghost}{N:Nat}
theorem via{S R R':Type}{X:(Q:Type)->(S->Option Q)->Option Q}(hX:∀Q k,X Q k=(X S some).bind k){f:S->Option R}{g:S->Option R'}{h:R'->Option R}(e:∀s,f s=(g s).bind h):X R f=(X R' g).bind h:=by
 rw[hX R f,hX R' g,Xfl];congr 1;funext s;exact e s
theorem Wly{R:Type}:∀(l:List Oper) (st:St) (k:St->Option R),rxs T Γ A ops l st k=(rxs T Γ A ops l st some).bind k
 | [],st,k=>rfl
 |o::l,st,k=>by
  simp only[rxs];refine via (X:=λQ k=>rxg T Γ A ops o st k) (λQ k=>Wih o st k) λaf=>?_;cases opG A o af with
  |none=>rfl
  |some p=>
   obtain⟨c,s⟩:=p;cases c with
   |false=>rfl
   |true=>exact Wly l s k
theorem WlG{R:Type}{B:List (List Nat)}:∀(l:List Nat) (fl mu:List (Nat×List Nat)) (st:St) (k:St->Option R),rdx T Γ A ops B l fl mu st k=(rdx T Γ A ops B l fl mu st some).bind k
 | [],_,_,st,k=>rfl
 |i::l,fl,mu,st,k=>by
  simp only[rdx];cases ops[i]? with
  |none=>rfl
  |some o=>
   dsimp only;cases WaP o with
   |true=>
    simp only[Wb,Wbe];refine via (X:=λQ k=>rxg T Γ A ops o st k) (λQ k=>Wih o st k) λaf=>?_;generalize fl.all (λp=>WcW B p.1 i||Wgg p.2 (Wqb st.objs af.objs))=c;cases c with
    |false=>rfl
    |true=>exact WlG l _ _ af k
   |false=>
    simp only[Wa,Wbe];generalize mu.all (λp=>WcW B p.1 i||Wgg (WcL o st) p.2)=c;cases c with
    |false=>rfl
    |true=>
     simp only[Wb];refine via (X:=λQ k=>rxg T Γ A ops o st k) (λQ k=>Wih o st k) λaf=>?_;exact WlG l _ _ af k
theorem Wk9{R:Type}(h:(WrR (WcZ ops.toList []) ops.size (WdS ops.toList 0)).length<=1)(st:St)(k:St->Option R):Wl6 T Γ A ops st k=(Wl6 T Γ A ops st some).bind k:=by
 simp only[Wl6,Wgz];generalize WuL ops (WcZ ops.toList [])=c;cases c with
 |false=>rfl
 |true=>
  simp only[Wb];generalize WrR (WcZ ops.toList []) ops.size (WdS ops.toList 0)=l at h
  match l,h with
  | [],_=>rfl
  | [σ],_=>
   simp only[Wv4,Wbe];generalize (WjH ops (WiY ops.toList (WcZ ops.toList []) ops.size [] σ) []&&_)=c;cases c with
   |false=>rfl
   |true=>exact WlG _ _ _ _ _
theorem WjF{R:Type}:∀(c:Code),WfA ann c=true->∀(st:St) (k:Ex->St->Option R),sx T Γ ann N c st k=(sx T Γ ann N c st λe s=>some (e,s)).bind λp=>k p.1 p.2
 | .skip,_,st,k=>rfl
 | .ret,_,st,k=>rfl
 | .seq a b,h,st,k=>by
  simp only[WfA,Xi]at h;simp only[sx];refine via (X:=λQ k=>sx T Γ ann N a st λe s=>k (e,s)) (λQ k=>WjF a h.1 st λe s=>k (e,s)) (f:=λp=>match p.1 with
   | .normal=>sx T Γ ann N b p.2 k
   | .exit id=>k (.exit id) p.2
   | .ret=>k .ret p.2) (g:=λp=>match p.1 with
   | .normal=>sx T Γ ann N b p.2 λe s=>some (e,s)
   | .exit id=>some (.exit id,p.2)
   | .ret=>some (.ret,p.2)) λp=>?_
  obtain⟨e,s⟩:=p;cases e with
  |normal=>exact WjF b h.2 s k
  |exit _=>rfl
  |ret=>rfl
 | .region id ops draw,h,st,k=>by
  simp only[WfA,Xi,Xcd,Xaj,Wi]at h;simp only[sx];have e:∀af:St,(match Wb9 (ann id) af with|some (c,bY)=>bif c then k .normal bY else none|none=>none)
    =(match Wb9 (ann id) af with|some (c,bY)=>bif c then some (Ex.normal,bY)else none|none=>none).bind λp=>k p.1 p.2:=λaf=>by
   cases Wb9 (ann id) af with
   |none=>rfl
   |some p=>
    obtain⟨c,s⟩:=p;cases c<;>rfl
  cases draw with
  |true=>
   simp only[Wb];exact via (X:=λQ k=>Wl6 T Γ (WjR (ann id)) ops st k) (λQ k=>Wk9 (h.2.resolve_left (by simp)) st k) e
  |false=>
   simp only[Wa];exact via (X:=λQ k=>rxs T Γ (WjR (ann id)) ops ops.toList st k) (λQ k=>Wly _ st k) e
 | .cond ..,h,_,_| .block ..,h,_,_| .loop ..,h,_,_| .exit ..,h,_,_| .scope ..,h,_,_| .label ..,h,_,_| .goto ..,h,_,_| .rangeFunc ..,h,_,_| .refuse ..,h,_,_=>by cases h
def Fw(st af:St):Prop:=∃pre,af.objs=pre++st.objs
theorem Fw.refl(st:St):Fw st st:=⟨[],rfl⟩
theorem Fw.trans{a b c:St}(h:Fw a b)(g:Fw b c):Fw a c:=by
 obtain⟨p,h⟩:=h;obtain⟨q,g⟩:=g;exact⟨q++p,by rw[g,h,List.append_assoc]⟩
theorem Wtm{o:Oper}{st af:St}(h:rx1 T Γ A o st some=some af):Fw st af:=by
 unfold rx1 at h;rw[Wfn]at h;obtain⟨p,h1,h2⟩:=Xav.1 h;obtain⟨pre,h3⟩:=Wkz _ _ _ _ _ h1;injection h2 with h2;subst h2;exact⟨pre,by cases o.dst<;>exact h3⟩
theorem Wsv{o:Oper}{st af:St}(h:rxg T Γ A ops o st some=some af):Fw st af:=by
 unfold rxg at h;split at h
 .exact Wtm h
 .split at h
  .split at h
   .injection h with h;subst h;exact⟨[],by rw[Wbb];rfl⟩
   .rename_i t _ x _ _;split at h
    .rename_i b _;cases b
     .simp only[Wa]at h;split at h
      .injection h with h;subst h;exact⟨[],by rw[Wbb,Wbb];rfl⟩
      .obtain⟨pre,hp⟩:=Wtm h;exact⟨pre,by rw[hp,Wbb]⟩
     .simp only[Wb]at h;split at h
      .obtain⟨pre,hp⟩:=Wtm h;exact⟨pre,by rw[hp,Wbb]⟩
      .injection h with h;subst h;exact⟨[],by rw[Wbb,Wbb];rfl⟩
    .cases h
   .cases h
  .cases h
theorem WtD{st af:St}{r:Nat}{ix:Option Nat}{c:Bool}(h:WkN st r ix=some (c,af)):Fw st af:=by
 unfold WkN at h;split at h
 .obtain⟨s,h1,h2⟩:=Xt.1 h;injection h2 with _ h2;subst h2;unfold WkU at h1;split at h1
  .injection h1 with h1;subst h1;exact⟨_::_::_,rfl⟩
  .cases h1
 .cases h
theorem WuP{g:Ghost}(hq:g.opens=true){st af:St}{c:Bool}(h:Wel g st=some (c,af)):Fw st af:=by
 cases g<;>simp only[Ghost.opens,Xai]at hq;simp only[Wel]at h;split at h
 .split at h
  .split at h
   .exact WtD h
   .cases h
  .cases h
 .cases h
theorem WnT:∀(l:List Ghost) (st af:St) (c:Bool),l.all Ghost.opens=true->Wb9 l st=some (c,af)->Fw st af
 | [],st,af,c,_,h=>by injection h with h;injection h with _ h;subst h;exact .refl _
 |g::l,st,af,c,hq,h=>by
  simp only[Xbr,Xi]at hq;simp only[Wb9]at h;split at h
  .rename_i c1 s hg;split at h
   .rename_i c2 s2 hl;injection h with h;injection h with _ h;subst h;exact(WuP hq.1 hg).trans (WnT l _ _ _ hq.2 hl)
   .cases h
  .cases h
theorem WkS:∀(l:List Ghost),l.all Ghost.opens=true->WjR l= []
 | [],_=>rfl
 |g::l,h=>by
  simp only[Xbr,Xi]at h;cases g<;>simp only[Ghost.opens,Xai,false_and]at h;exact WkS l h.2
theorem Wvn:∀(l:List Oper) (st af:St),rxs T Γ [] ops l st some=some af->Fw st af
 | [],st,af,h=>by injection h with h;subst h;exact .refl _
 |o::l,st,af,h=>by
  simp only[rxs]at h;obtain⟨s,h1,h2⟩:=WgH h;have e:opG [] o s=some (true,s):=by unfold opG;cases hd:o.dst<;>simp[WwZ,hd,Wp]
  rw[e]at h2;exact(Wsv h1).trans (Wvn l s af h2)
theorem WsC{B:List (List Nat)}:∀(l:List Nat) (fl mu:List (Nat×List Nat)) (st af:St),rdx T Γ A ops B l fl mu st some=some af->Fw st af
 | [],_,_,st,af,h=>by injection h with h;subst h;exact .refl _
 |i::l,fl,mu,st,af,h=>by
  simp only[rdx]at h;split at h
  .rename_i o _;cases hm:WaP o with
   |true=>
    rw[hm]at h;simp only[Wb]at h;obtain⟨s,h1,h2⟩:=WgH h;rw[Wbe]at h2;obtain⟨_,h2⟩:=W3 h2;exact(Wsv h1).trans (WsC l _ _ s af h2)
   |false=>
    rw[hm]at h;simp only[Wa,Wbe]at h;obtain⟨_,h⟩:=W3 h;obtain⟨s,h1,h2⟩:=WgH h;exact(Wsv h1).trans (WsC l _ _ s af h2)
  .cases h
theorem Wue(hl:(WrR (WcZ ops.toList []) ops.size (WdS ops.toList 0)).length<=1){st af:St}(h:Wl6 T Γ A ops st some=some af):Fw st af:=by
 simp only[Wl6,Wgz]at h;obtain⟨_,h⟩:=W3 h;generalize WrR (WcZ ops.toList []) ops.size (WdS ops.toList 0)=l at hl h
 match l,hl with
 | [],_=>cases h
 | [σ],_=>
  simp only[Wv4,Wbe]at h;obtain⟨_,h⟩:=W3 h;exact WsC _ _ _ _ _ h
theorem WvZ:∀(c:Code),WfA ann c=true->∀(st af:St) (e:Ex),sx T Γ ann N c st (λe s=>some (e,s))=some (e,af)->Fw st af
 | .skip,_,st,af,e,h=>by injection h with h;injection h with _ h;subst h;exact .refl _
 | .ret,_,st,af,e,h=>by injection h with h;injection h with _ h;subst h;exact .refl _
 | .seq a b,hl,st,af,e,h=>by
  simp only[WfA,Xi]at hl;simp only[sx]at h;rw[WjF a hl.1]at h;obtain⟨⟨e1,s⟩,h1,h2⟩:=Xav.1 h;refine(WvZ a hl.1 _ _ _ h1).trans ?_;cases e1 with
  |normal=>exact WvZ b hl.2 _ _ _ h2
  |exit id=>injection h2 with h2;injection h2 with _ h2;subst h2;exact .refl _
  |ret=>injection h2 with h2;injection h2 with _ h2;subst h2;exact .refl _
 | .region id ops draw,hl,st,af,e,h=>by
  simp only[WfA,Xi,Xcd,Xaj,Wi]at hl;simp only[sx,WkS _ hl.1]at h;have key:∀s:St,(match Wb9 (ann id) s with|some (c,bY)=>bif c then some (Ex.normal,bY)else none|none=>none)=some (e,af)->Fw s af:=λs h=>by
   split at h
   .rename_i c s2 hg;obtain⟨_,h⟩:=W3 h;injection h with h;injection h with _ h;subst h;exact WnT _ _ _ _ hl.1 hg
   .cases h
  cases draw with
  |true=>
   simp only[Wb]at h;have h1:=hl.2.resolve_left (by simp);rw[Wk9 h1]at h;obtain⟨s,h2,h3⟩:=Xav.1 h;exact(Wue h1 h2).trans (key s h3)
  |false=>
   simp only[Wa]at h;rw[Wly]at h;obtain⟨s,h2,h3⟩:=Xav.1 h;exact(Wvn _ _ _ h2).trans (key s h3)
 | .cond ..,h,_,_,_,_| .block ..,h,_,_,_,_| .loop ..,h,_,_,_,_| .exit ..,h,_,_,_,_| .scope ..,h,_,_,_,_| .label ..,h,_,_,_,_| .goto ..,h,_,_,_,_| .rangeFunc ..,h,_,_,_,_| .refuse ..,h,_,_,_,_=>by cases h
theorem WtC{R:Type}{rv:List ResultVar}(k:KV R)(e:Ex)(st:St):WtJ T rv k e st=(WtJ T rv WbF e st).bind λp=>k p.1 p.2.1 p.2.2:=by
 unfold WtJ;cases e with
 |exit _=>rfl
 |normal|ret=>all_goals
  cases Wds T st rv with
  |none=>rfl
  |some l=>match l with
   | []=>rfl
   | [x]=>rfl
   |_::_::_=>rfl
end
noncomputable def Wsh(T:Tab)(ann:Nat->List Ghost)(n:Nat)(c:Code)(rv:List ResultVar)(R:Type)(st:St)(k:KV R):Option R:=
 bif Xhf st.env.length n then sx T [] ann 0 c st (WtJ T rv k)else none
noncomputable def Inl.of(T:Tab)(ann:Nat->List Ghost)(n:Nat)(c:Code)(rv:List ResultVar)(h:WfA ann c=true):Inl where
 fn:=Wsh T ann n c rv
 law R st k:=by
  unfold Wsh;cases Xhf st.env.length n with
  |false=>rfl
  |true=>
   simp only[Wb];exact via (X:=λQ k=>sx T [] ann 0 c st λe s=>k (e,s)) (λQ k=>WjF c h st λe s=>k (e,s)) (f:=λp=>WtJ T rv k p.1 p.2) (g:=λp=>WtJ T rv WbF p.1 p.2) λp=>WtC _ _ _
 suf st x objs nx hh:=by
  unfold Wsh at hh;obtain⟨_,hh⟩:=W3 hh;rw[WjF c h]at hh;obtain⟨⟨e,s⟩,h1,h2⟩:=Xav.1 hh;obtain⟨pre,h3⟩:=WvZ c h _ _ _ h1;refine⟨pre,?_⟩;rw[←h3];simp only[WtJ]at h2;split at h2
  .cases h2
  .split at h2
   .injection h2 with h2;exact(Wn (λp:Out=>p.2.1) h2).symm
   .cases h2
noncomputable def Sig.inline(i:Inl):Sig:=⟨[],[],λ_ _ _=>none,λ_=>none,λ_ _ _=>rfl,some i⟩
theorem Ghost.opens_quiet{l:List Ghost}(h:l.all Ghost.opens=true):l.all Ghost.quiet=true:=by
 rw[Xad]at h⊢;intro g hg;have:=h g hg;cases g<;>simp_all [Ghost.opens,Ghost.quiet]
theorem Wug{P:Program}{T:Tab}(hM:P.follows .mixedOrders=true)(hT:Waj P T){f:Func}{k:FuncId}{c:Code}{ann:Nat->List Ghost}(hf:P.funcs[k]?=some f)(hb:f.body=some c)
  (bI:Wdx f.ntmps [] c=true) (hl:WfA ann c=true) (ha:∀id,(ann id).all Ghost.opens=true):Ww2 P k (Inl.of T ann f.ntmps c f.results.toList hl):=by
 intro st vs out bm ad w0 F G0 G ν ex w henv hh gx fV;have bm:Wsh T ann f.ntmps c f.results.toList Out st WbF=some out:=bm;unfold Wsh at bm;obtain⟨hn,bm⟩:=W3 bm;have hn:=Xel hn;refine calls_of_wp hf hb ?_;have hr:Rel w0 F ⟨f.ntmps,[],ex⟩ G0 G ν st {tmps:=vs.toArray++Xdi (f.ntmps-vs.toArray.size) undef,defers:=[]} w:=
  ⟨rfl,by simp;omega,λp hp=>by simp at hp,λi x hx=>by
   obtain⟨v,hv,hx⟩:=henv i x hx;refine⟨v,?_,hx⟩;have ac:=(Xab.1 hv).1;rw[Xff (by simpa using ac)];simpa using hv,hh,gx,fV⟩
 suffices hk:∀e,WrT w0 F ⟨f.ntmps,[],ex⟩ G0 (WtJ T f.results.toList WbF e) out (bodyPost P f (λe w'=>∃rv G' ν',e= .returned rv/\AValRel G' ν' out.2.2 out.1 rv/\HRel w0 F G' ν' out.2.1 out.2.2 w'/\GExt w0.heap.size F G0 G'/\∀x v,ex x v->AValRel G' ν' out.2.2 x v) e.to)from
  Woc (nt:=⟨f.ntmps,[],ex⟩) hM hT WoL (n:=f.ntmps) rfl (λp hp=>by simp at hp) (.inr λid=>Ghost.opens_quiet (ha id)) c bI hk _ _ _ _ _ hr bm
 intro e af a w' G1 ν1 hZ hk;have fh:∀x,Wds T af f.results.toList=some [x]->WbF x af.objs af.nx=some out->a.defers= []/\∃v,(results f a.tmps).run P w'= .ok v w'/\∃rv G' ν',Ending.returned v= .returned rv/\AValRel G' ν' out.2.2 out.1 rv/\HRel w0 F G' ν' out.2.1 out.2.2 w'/\GExt w0.heap.size F G0 G'/\∀x v,ex x v->AValRel G' ν' out.2.2 x v:=λx hx ho=>by
  injection ho with ho;subst ho;obtain⟨rv,oC,oD,oE⟩:=Wig hT hZ _ _ hx;obtain⟨v,rfl⟩:∃v,rv= [v]:=by
   match rv,oD with
   | [v],_=>exact⟨v,rfl⟩
  refine⟨hZ.defers,v,?_,v,G1,ν1,rfl,oE 0 x v rfl rfl,hZ.h,hZ.gx,hZ.ex⟩;show(do let vs←f.results.mapM (Wjv a.tmps);pure (if h:vs.size=1 then vs[0]else .tuple vs):Sem Value).run P w'=_;have ia:(f.results.mapM (Wjv a.tmps)).run P w'= .ok [v].toArray w':=by
   rw[Xdz,Sem.run_map,oC];rfl
  rw[Sem.run_bind,ia];simp only[Result.andThen_ok,Sem.run_pure];rfl
 cases e with
 |exit id=>cases hk
 |normal|ret=>all_goals
  simp only[WtJ]at hk;split at hk
  .rename_i x hx;exact fh x hx hk
  .cases hk
end Go.Sx
namespace Go.Sx
open Go.ChangeShapes Go.WideShapes Go.ChangeAt Go.RowKit
set_option linter.unusedVariables false
set_option linter.unusedSimpArgs false
def Wfd:(t:Ty)->t.den->Prop
 | .int k,n=>(Lit.int k n).wf=true
 | .bool,_=>True
 | .str,s=>Xb s<=maxLen
 | .slice e,l=>Xb l<=maxLen/\∀x,List.Mem x l->Wfd e x
 | .own _,_=>False
 | .prod a b,d=>Wfd a d.1/\Wfd b d.2
def Wgl:(t:Ty)->t.den->Nat
 | .int _,_=>1
 | .bool,_=>1
 | .str,s=>Xb s+1
 | .slice e,l=>(List.map (Wgl e) l).sum+1
 | .own _,_=>0
 | .prod a b,d=>Wgl a d.1+Wgl b d.2
structure Bulk{H:Type}(β:DataW H->Nat):Prop where
 lit:∀l,1<=β (.lit l)
 str:∀s,s.length+1<=β (.lit (.string s))
 nil:1<=β .nil
 slice:∀es sp,(es.map β).sum+1<=β (.slice es sp)
 agg:∀ps,(ps.map β).sum<=β (.agg ps)
def WkJ(T:Tab):List (Nat×TypeId)->Nat->Option (List Ty)
 | [],_=>some []
 |(o,ft)::fs,off=>match Wp T ft with
  |some te=>bif Xaw o off&&te.plain then(WkJ T fs (off+te.ty.size)).map (te.ty:: ·)else none
  |none=>none
def Wez:List Ty->Ty
 | []=>.bool
 | [t]=>t
 |t::ts=>.prod t (Wez ts)
def WpE(T:Tab):Nat->TypeId->Bool
 |0,_=>false
 |n+1,t=>match Wp T t with
  |some te=>match te.shape with
   | .basic=>match te.ty with
    | .int _=>true
    | .bool=>true
    | .str=>true
    | .slice _=>false
    | .own _=>false
    | .prod _ _=>false
   | .slice e=>WpE T n e&&(match Wp T e with|some eG=>eG.plain|none=>false)
   | .struct fs=>fs.all (λf=>WpE T n f.2)&&(match WkJ T fs 0 with
    |some (t::ts)=>decide (te.ty=Wez (t::ts))
    |_=>false)
   | .ptr _=>false
   | .arr _ _=>false
  |none=>false
section
variable{P:Program}{T:Tab}{H:Type}{enc:TypeId×Value->H}{β:DataW H->Nat}{w:World}
theorem Whf{t:TypeId}{te:TE}(h:TEok P T t te):P.cellsOf t=te.size:=by
 obtain⟨i,z,hi,hs,_⟩:=h.info;unfold Program.cellsOf;rw[hi];exact hs
def Wiy(w:World):GH:=λb o=>w.cell? ⟨b,o,none⟩
theorem WsQ{b:Nat}{a:Addr}{n:Nat}{cs:List Value}(h:w.cells? b a n=some cs):cs.length=n/\∀(j:Nat) (v:Value),cs[j]?=some v->w.cell? (a.add j)=some v:=by
 unfold World.cells? at h;split at h
 .refine⟨by simpa using mapM_some_length h,λj v hj=>?_⟩;have ac:j<n:=by
   have:=mapM_some_length h;have h2:=(Xab.1 hj).1;simp at this;omega
  have:=mapM_some_get h j j (by simp[ac]);rw[this];exact hj
 .cases h
theorem Wqu{e:Ty}{a:Addr}(n:Nat)(hn:0<n):∀(k:Nat) (i0:Nat) (el:Nat->Option (DataW H×List MemPlace)) (f:List Value->Option (DataW H×List MemPlace)),
  (∀cs y,f cs=some y->∃d:e.den,Enc (Wiy w) e d cs/\Wfd e d/\Wgl e d<=β y.1)->
  (∀i,i0<=i->i<i0+k->∃y cs,w.cells? 0 (a.add (i*n)) n=some cs/\f cs=some y/\el i=some y)->
  ∃(l:List e.den) (cs:List Value),l.length=k/\Wd2 (Enc (Wiy w) e) l cs/\(∀x∈l,Wfd e x)/\(∀(j:Nat) (v:Value),cs[j]?=some v->w.cell? (a.add (i0*n+j))=some v)/\
   cs.length=k*n/\(l.map (Wgl e)).sum<=((Xcu k).map λi=>match el (i0+i)with|some y=>β y.1|none=>0).sum
 |0,i0,el,f,hf,he=>⟨[],[],rfl,rfl,by simp,by simp,by simp,by simp⟩
 |k+1,i0,el,f,hf,he=>by
  obtain⟨y,c1,h1,h2,h3⟩:=he i0 (Xm _) (by omega);obtain⟨d,uA,kR,hd3⟩:=hf _ _ h2;obtain⟨l,cs,g1,g2,g3,g4,g5,g6⟩:=Wqu n hn k (i0+1) el f hf (λi hi1 uB=>he i (by omega) (by omega));obtain⟨hl,hg⟩:=WsQ h1;refine⟨d::l,c1++cs,by simp[g1],⟨c1,cs,rfl,uA,g2⟩,λx hx=>?_,λj v hj=>?_,?_,?_⟩
  .rcases Xs.1 hx with rfl|hx
   .exact kR
   .exact g3 x hx
  .rw[Xas]at hj;split at hj
   .have:=hg j v hj;rw[Addr.add_add]at this;exact this
   .rename_i ac;have:=g4 _ v hj;rw[hl]at this ac;have e:(i0+1)*n+(j-n)=i0*n+j:=by rw[Xcs];omega
    rw[e]at this;exact this
  .rw[Xaa,hl,g5,Xcs];omega
  .rw[List.range_succ_eq_map,Xaf,Xaf,Xcn,Xcn,Xdp];simp only[Xbb,h3];have:((λi=>match el (i0+i)with|some y=>β y.1|none=>0)∘Nat.succ)= λi=>match el (i0+1+i)with|some y=>β y.1|none=>0:=by
    funext i;simp only[Function.comp,Nat.succ_eq_add_one];rw[show i0+(i+1)=i0+1+i by omega]
   rw[this];omega
theorem Wvy{β':DataW H×List MemPlace->Nat}(xs:List (DataW H×List MemPlace)):((Xcu xs.length).map λi=>match xs[0+i]? with|some y=>β' y|none=>0).sum=(xs.map β').sum:=by
 congr 1;apply List.ext_getElem
 .simp
 .intro i h1 h2;simp at h1;simp[h1]
theorem WoV{t:Ty}{ts:List Ty}(h:ts≠ []):Wez (t::ts)= .prod t (Wez ts):=by
 cases ts with
 |nil=>exact WE rfl h
 |cons _ _=>rfl
theorem Wlc(hT:Waj P T)(hβ:Bulk β)(f:TypeId->List Value->Option (DataW H×List MemPlace)){cs:List Value}:∀(fs:List (Nat×TypeId)) (off:Nat) (ts:List Ty) (ys:List (DataW H×List MemPlace)),ts≠ []->WkJ T fs off=some ts->
  (∀fd∈fs,∀te cs y,Wp T fd.2=some te->f fd.2 cs=some y->∃d:te.ty.den,Enc (Wiy w) te.ty d cs/\Wfd te.ty d/\Wgl te.ty d<=β y.1)->
  ys.length=fs.length->(∀(i:Nat) (fd:Nat×TypeId),fs[i]?=some fd->f fd.2 ((cs.drop fd.1).take (P.cellsOf fd.2))=ys[i]?)->cs.length=off+(Wez ts).size->
  ∃d:(Wez ts).den,Enc (Wiy w) (Wez ts) d (cs.drop off)/\Wfd (Wez ts) d/\Wgl (Wez ts) d<=(ys.map λy=>β y.1).sum
 | [],off,ts,ys,bQ,jw,_,_,_,_=>by injection jw with jw;exact WE jw.symm bQ
 |(o,ft)::fs,off,ts,ys,bQ,jw,hf,ad,xi,bV=>by
  cases ys with
  |nil=>simp at ad
  |cons y ys=>
   simp only[WkJ]at jw;split at jw
   .rename_i te hl;obtain⟨hc,jw⟩:=W3 jw;simp only[Xi]at hc;have ho:o=off:=by simpa using hc.1
    obtain⟨xj,fi,rfl⟩:=Xt.1 jw;have ct:P.cellsOf ft=te.ty.size:=by rw[Whf (hT _ _ hl),WY hc.2]
    have h0:=xi 0 (o,ft) rfl;simp only[Xdg,ct,ho]at h0;obtain⟨d1,e1,e2,e3⟩:=hf (o,ft) (Xj ..) te _ y hl h0;cases fC:fs with
    |nil=>
     subst fC;simp only[WkJ]at fi;injection fi with fi;subst fi;have uC:ys= []:=by cases ys with
      |nil=>rfl
      |cons _ _=>simp at ad
     subst uC;have ux:(cs.drop off).take te.ty.size=cs.drop off:=Xdk (by rw[List.length_drop,bV];simp[Wez]);rw[ux]at e1;exact⟨d1,e1,e2,by rw[Xaf,Xcg,Xcn,List.sum_nil,Xbb];exact e3⟩
    |cons g gs=>
     have q0:xj≠ []:=by
      rw[fC]at fi;obtain⟨o2,ft2⟩:=g;simp only[WkJ]at fi;split at fi
      .obtain⟨_,fi⟩:=W3 fi;obtain⟨x,_,rfl⟩:=Xt.1 fi;simp
      .cases fi
     have xk:=WoV (t:=te.ty) q0;obtain⟨d2,f1,f2,f3⟩:=Wlc hT hβ f (cs:=cs) fs (off+te.ty.size) xj ys q0 fi (λfd jp=>hf fd (Xf _ jp)) (by simpa using ad)
      (λi fd hi=>by have:=xi (i+1) fd (by simpa using hi);simpa using this) (by rw[bV,xk,Ty.size];omega)
     rw[xk];refine⟨(d1,d2),⟨_,_,?_,e1,f1⟩,⟨e2,f2⟩,?_⟩
     .rw[←List.drop_drop];exact(List.take_append_drop _ _).symm
     .simp only[Wgl,Xaf,Xcn];omega
   .cases jw
theorem Wlr(hT:Waj P T)(hβ:Bulk β):∀(n fuel:Nat) (t:TypeId) (te:TE) (cs:List Value) (x:DataW H×List MemPlace),WpE T n t=true->Wp T t=some te->
  DataW.trod enc P w 0 (λ_=>true) true fuel t cs=some x->∃d:te.ty.den,Enc (Wiy w) te.ty d cs/\Wfd te.ty d/\Wgl te.ty d<=β x.1
 |0,_,_,_,_,_,h,_,_=>by cases h
 |n+1,fuel,t,te,cs,x,h,hl,hx=>by
  have bZ:=hT _ _ hl;simp only[WpE,hl]at h;obtain⟨ty,agg,shape⟩:=te;cases shape with
  |basic=>
   have hu:=bZ.und.2;cases ty with
   |int k=>
    obtain⟨m,rfl,rfl,hw⟩:=DataW.trod_int hu hx;exact⟨m,rfl,hw,hβ.lit _⟩
   |bool=>
    obtain⟨b,rfl,rfl⟩:=DataW.trod_bool hu hx;exact⟨b,rfl,trivial,hβ.lit _⟩
   |str=>
    obtain⟨s,rfl,rfl,hs⟩:=DataW.trod_string hu hx;refine⟨s.data.toList,by simp[Enc],?_,hβ.str _⟩;show s.data.toList.length<=maxLen;rw[Array.length_toList];exact hs
   |slice e=>cases h
   |own e=>cases h
   |prod a b=>cases h
  |slice e=>
   simp only[Xi]at h;obtain⟨ha,hu,eG,bg,im⟩:=bZ.und;simp only at im;subst im;have hp:eG.plain=true:=by have:=h.2;rw[bg]at this;exact this
   have ct:P.cellsOf e=eG.ty.size:=by rw[Whf (hT _ _ bg),WY hp]
   rcases DataW.trod_slice hu hx with⟨rfl,rfl⟩|⟨a,len,cap,elems,rest,m,rfl,rfl,rfl,hb,zj,jK,uD,qC,gy,_⟩
   .exact⟨([]:List eG.ty.den),⟨_,rfl,.inl ⟨rfl,rfl⟩⟩,⟨by simp,λx hx=>by cases hx⟩,by simpa [Wgl]using hβ.nil⟩
   .have key:=Wqu (w:=w) (β:=β) (e:=eG.ty) (a:=a) eG.ty.size (WbV _) len 0 (λi=>elems[i]?) (λcs=>DataW.trod enc P w 0 (λ_=>true) true m e cs)
     (λcs y hy=>Wlr hT hβ n m e eG cs y h.1 bg hy) (λi _ hi=>by
      rw[Xau]at hi;have:=qC i hi;rw[ct]at this;have ac:i<elems.length:=by omega
      rw[Xq ac]at this;obtain⟨cs,h1,h2⟩:=Xav.1 this;exact⟨elems[i],cs,h1,h2,Xq ac⟩)
    obtain⟨l,cs,g1,g2,g3,g4,g5,g6⟩:=key;refine⟨l,⟨_,rfl,?_⟩,⟨by rw[g1];omega,g3⟩,?_⟩
    .by_cases h0:len=0
     .subst h0;exact .inr (.inr ⟨a,cap,rfl,Xx g1⟩)
     .have tN:0<cs.length:=by rw[g5];exact Nat.mul_pos (by omega) (WbV _)
      have q7:=g4 0 _ (Xq tN);have q8:a.spot=none:=by
       rw[Xep,Xbb]at q7;have:=World.cell?_spot q7;simpa [Addr.add]using this
      obtain⟨b,off,spot⟩:=a;subst q8;refine .inr (.inl ⟨b,off,cap,cs,by rw[g1],by rw[g1];exact zj,jK,g2,λj v hj=>?_⟩);have:=g4 j v hj;rw[Xep,Xau,Wa1]at this;exact this
    .have h1:=hβ.slice (elems.map (·.1)) (rest.map (·.1));have h2:((Xcu len).map λi=>match elems[0+i]? with|some y=>β y.1|none=>0).sum=(elems.map λy=>β y.1).sum:=by
      rw[←uD];exact Wvy elems
     rw[h2]at g6;rw[Xdp]at h1;simp only[Wgl];have h3:(List.map (β∘λx=>x.1) elems)=elems.map λy=>β y.1:=rfl;rw[h3]at h1;show(List.map (Wgl eG.ty) l).sum+1<=_;omega
  |struct fs=>
   simp only[Xi]at h;obtain⟨ha,fields,hu,fC,xl,_⟩:=bZ.und;have h2:=h.2;split at h2
   .rename_i t1 ts zk;have im:ty=Wez (t1::ts):=WaU h2;subst im;obtain⟨xs,m,rfl,rfl,c7,ik,mt⟩:=DataW.trod_struct hu hx;have ct:P.cellsOf t=(Wez (t1::ts)).size:=by rw[Whf bZ];rfl
    have key:=Wlc (w:=w) (P:=P) hT hβ (λt cs=>DataW.trod enc P w 0 (λ_=>true) true m t cs) (cs:=cs) fs 0 (t1::ts) xs (by simp) zk
     (λfd jp te cs y sX hy=>Wlr hT hβ n m fd.2 te cs y (Xad.1 h.1 fd jp) sX hy) (by rw[ik,←fC];simp)
     (λi fd hi=>by
      rw[←fC]at hi;rw[Xak]at hi;obtain⟨fl,il,he⟩:=Xt.1 hi;subst he;exact mt i fl (by simpa using il)) (by rw[c7,ct,Xau])
    obtain⟨d,g1,g2,g3⟩:=key;rw[Xbk]at g1;refine⟨d,g1,g2,Xal g3 ?_⟩;have:=hβ.agg (xs.map (·.1));rw[Xdp]at this;exact this
   .cases h2
  |ptr e=>cases h
  |arr m e=>cases h
theorem WeH{G:GH}{w:World}:∀(t:Ty) (d:t.den) (vs:List Value),Enc G t d vs->Wy G w t d vs []
 | .int _,_,_,h=>⟨rfl,h⟩
 | .bool,_,_,h=>⟨rfl,h⟩
 | .str,_,_,h=>⟨rfl,h⟩
 | .slice _,_,_,h=>⟨rfl,h⟩
 | .own _,_,_,h=>h.elim
 | .prod a b,d,vs,⟨c1,c2,he,h1,h2⟩=>⟨c1,c2,[],[],he,rfl,WeH a _ _ h1,WeH b _ _ h2⟩
def Wp0:(ps:List PTy)->WfJ ps->Prop
 | [],_=>True
 | .v t _::ps,d=>Wfd t d.1/\Wp0 ps d.2
 | .box _::_,_=>False
 | .mut _::_,_=>False
 | .clos _ _::_,_=>False
 | .kv _ _::_,_=>False
 | .rp _::_,_=>False
 | .vj _::_,_=>False
 | .boxal _ _::_,_=>False
def WgA:(ps:List PTy)->WfJ ps->Nat
 | [],_=>0
 | .v t _::ps,d=>Wgl t d.1+WgA ps d.2
 | .box _::_,_=>0
 | .mut _::_,_=>0
 | .clos _ _::_,_=>0
 | .kv _ _::_,_=>0
 | .rp _::_,_=>0
 | .vj _::_,_=>0
 | .boxal _ _::_,_=>0
def Wwy(P:Program)(T:Tab):List TypeId->List PTy->Bool
 | [],[]=>true
 |t::ts,p::ps=>(match p with
  | .v ty agg=>(match Wp T t with|some te=>decide (te.ty=ty)&&(te.agg==agg)|none=>false)&&WpE T 20 t&&P.readableRec t&&Nat.blt t P.types.size&&Wwy P T ts ps
  | .box _=>false
  | .mut _=>false
  | .clos _ _=>false
  | .kv _ _=>false
  | .rp _=>false
  | .vj _=>false
  | .boxal _ _=>false)
 |_,_=>false
theorem WmJ(hT:Waj P T)(hβ:Bulk β):∀(ts:List TypeId) (ps:List PTy) (vs:List Value) (ds:List (DataW H)) (pl:List MemPlace),Wwy P T ts ps=true->DataW.TrodAll enc P w 0 (λ_=>true) true ts vs ds pl->
  (∀(j:Nat) (t:TypeId) (v:Value),ts[j]?=some t->vs[j]?=some v->∃base,Value.okWide P w .any base t v)->
  ∃d:WfJ ps,Wbl (Wiy w) w ps d vs [] []/\Wp0 ps d/\WgA ps d<=(ds.map β).sum
 | [],[],vs,ds,pl,_,h,_=>by
  obtain⟨rfl,rfl,_⟩:=trodAll_nil h;exact⟨(),⟨rfl,rfl,rfl⟩,trivial,by simp[WgA]⟩
 | [],_::_,_,_,_,h,_,_=>by cases h
 |_::_,[],_,_,_,h,_,_=>by cases h
 |t::ts,.box _::ps,_,_,_,h,_,_=>by cases h
 |t::ts,.mut _::ps,_,_,_,h,_,_=>by cases h
 |t::ts,.clos _ _::ps,_,_,_,h,_,_=>by cases h
 |t::ts,.kv _ _::ps,_,_,_,h,_,_=>by cases h
 |t::ts,.rp _::ps,_,_,_,h,_,_=>by cases h
 |t::ts,.vj _::ps,_,_,_,h,_,_=>by cases h
 |t::ts,.boxal _ _::ps,_,_,_,h,_,_=>by cases h
 |t::ts,.v ty agg::ps,vs,ds,pl,hp,h,gZ=>by
  obtain⟨v,au,d,q9,p,q,rfl,rfl,rfl,h0,hr⟩:=trodAll_cons h;simp only[Wwy,Xi]at hp;obtain⟨⟨⟨⟨h1,h2⟩,h3⟩,h4⟩,h5⟩:=hp;split at h1
  .rename_i te hl;simp only[Xi]at h1;have e1:te.ty=ty:=WaU h1.1;have e2:te.agg=agg:=eq_of_beq h1.2;subst e1 e2;obtain⟨fuel,hx⟩:=h0;obtain⟨x,ra,xm,uE⟩:=Wlr hT hβ 20 fuel t te _ (d,p) h2 hl hx;obtain⟨base,bI⟩:=gZ 0 t v rfl rfl;obtain⟨dd,g1,g2,g3⟩:=WmJ hT hβ ts ps au q9 q h5 hr (λj t v hj hv=>gZ (j+1) t v (by simpa using hj) (by simpa using hv));refine⟨(x,dd),⟨v,au,[],[],rfl,rfl,?_,g1⟩,⟨xm,g2⟩,?_⟩
   .have hu:=(hT _ _ hl).und;unfold Wj3;obtain⟨ty,ag,shape⟩:=te;simp only at ra xm uE⊢;have fe:∀u:Value,u.cells= #[u]->u=v->v.cells.toList= [v]:=λu h e=>by rw[←e,h]
    cases shape with
    |basic=>
     obtain⟨ha,hu⟩:=hu;simp only at ha;subst ha;simp only[Xai,W7];have:v.cells.toList= [v]:=by
      cases ty with
      |int k=>obtain⟨n,rfl⟩:=okWide_int hu bI;rfl
      |bool=>obtain⟨n,rfl⟩:=okWide_bool hu bI;rfl
      |str=>obtain⟨n,rfl⟩:=okWide_string hu bI;rfl
      |slice e=>cases hu
      |own e=>cases hu
      |prod a b=>cases hu
     rw[this]at ra;exact WeH _ _ _ ra
    |slice e=>
     obtain⟨ha,hu,_⟩:=hu;simp only at ha;subst ha;simp only[Xai,W7];obtain⟨a,l,c,rfl⟩:=okWide_slice hu bI;exact WeH _ _ _ ra
    |struct fs=>
     obtain⟨ha,fields,hu,_⟩:=hu;simp only at ha;subst ha;simp only[W4];obtain⟨cs,rfl,_⟩:=okWide_struct hu bI;exact⟨cs.toList,by simp,WeH _ _ _ ra⟩
    |ptr e=>simp only[WpE,hl]at h2;cases h2
    |arr m e=>simp only[WpE,hl]at h2;cases h2
   .have uE:Wgl te.ty x<=β d:=uE;simp only[WgA,Xaf,Xcn];omega
  .cases h1
theorem Wnm:∀(ts:List TypeId) (vs:List Value) (ds:List (DataW H)) (pl:List MemPlace),DataW.TrodAll enc P w 0 (λ_=>true) true ts vs ds pl->ds.length=ts.length
 | [],vs,ds,pl,h=>by obtain⟨_,rfl,_⟩:=trodAll_nil h;rfl
 |t::ts,vs,ds,pl,h=>by
  obtain⟨v,au,d,q9,p,q,rfl,rfl,rfl,h0,hr⟩:=trodAll_cons h;simp[Wnm ts au q9 q hr]
theorem WnJ(jA:laidOutB P=true){W W':World}(hb:Below W.heap.size W W'){sp:Nat->Bool}:∀(ts:List TypeId) (ps:List PTy) (vs:List Value) (ds:List (DataW H)) (pl:List MemPlace),Wwy P T ts ps=true->
  DataW.TrodAll enc P W 0 (λ_=>true) true ts vs ds pl->(∀p∈pl,p.block<W.heap.size)->(∀p∈pl,sp p.block=true)->DataW.TrodAll enc P W' 0 sp true ts vs ds pl
 | [],ps,vs,ds,pl,_,h,_,_=>by
  obtain⟨rfl,rfl,rfl⟩:=trodAll_nil h;exact trodAll_mk0
 |t::ts,[],_,_,_,h,_,_,_=>by cases h
 |t::ts,.box _::ps,_,_,_,h,_,_,_=>by cases h
 |t::ts,.mut _::ps,_,_,_,h,_,_,_=>by cases h
 |t::ts,.clos _ _::ps,_,_,_,h,_,_,_=>by cases h
 |t::ts,.kv _ _::ps,_,_,_,h,_,_,_=>by cases h
 |t::ts,.rp _::ps,_,_,_,h,_,_,_=>by cases h
 |t::ts,.vj _::ps,_,_,_,h,_,_,_=>by cases h
 |t::ts,.boxal _ _::ps,_,_,_,h,_,_,_=>by cases h
 |t::ts,.v ty agg::ps,vs,ds,pl,hp,h,ac,gy=>by
  obtain⟨v,au,d,q9,p,q,rfl,rfl,rfl,h0,hr⟩:=trodAll_cons h;simp only[Wwy,Xi]at hp;obtain⟨⟨⟨⟨h1,h2⟩,h3⟩,h4⟩,h5⟩:=hp;have bi:t<P.types.size:=by rw[Xhd]at h4;exact h4
  exact⟨p,q,WideElems.Trod_stays jA h3 bi h0 (λx hx=>hb.same (ac x (Xn _ hx))) (λx hx=>gy x (Xn _ hx)),
   WnJ jA hb ts ps au q9 q h5 hr (λx hx=>ac x (Xg _ hx)) (λx hx=>gy x (Xg _ hx)),rfl⟩
theorem Wuc{f:Func}{s:ChangeSpec}{WiD fresh gJ again:Bool}{W W':World}{args:Array Value}{v:Value}{ds gs:List (DataW H)}{before pa pv:List MemPlace}
  (hW:DataW.Whole enc P f.params.toList s.vars WiD W args.toList ds gs before)
  (iU:∀(b:Nat) (sp:Nat->Bool) (hd:Bool),DataW.TrodAll enc P W' b sp hd f.resultTypes.toList (v.resultList f.resultTypes.size) (s.fn H (ds++gs)).results [])
  (aR:∀sp:Nat->Bool,(∀p∈before,sp p.block=true)->DataW.TrodAll enc P W' 0 sp true f.params.toList args.toList (s.fn H (ds++gs)).args pa)
  (nB:∀sp:Nat->Bool,(∀p∈before,sp p.block=true)->DataW.TrodVars enc P W' sp s.vars (s.fn H (ds++gs)).vars pv)
  (cy:before=pa++pv) (hk:W.keptBut W' (· ∈before)) (rb:∀a,a.block<W.heap.size->W'.frozen? a=W.frozen? a)
  (bI:∀(j:Nat) (t:TypeId) (r:Value),f.resultTypes[j]?=some t->(v.resultList f.resultTypes.size)[j]?=some r->Value.okWide P W' .any 0 t r):
  s.post enc P f WiD fresh gJ again W args v W':=by
 have hD:∀p∈before,(λb=>decide (b<W.heap.size)) p.block=true:=λp hp=>by simpa using hW.lt p hp
 refine⟨ds,gs,before,[],pa,pv,hW,iU _ _ _,aR _ hD,nB _ hD,World.keptBut_mono (λp hp=>⟨hp,?_⟩) hk,λ_=>?_⟩
 .rw[cy,Xo]at hp;exact Or.inr hp
 .have ac:=hW.lt;obtain⟨_,_,_,_,_,hz,hn⟩:=hW;refine⟨bI,_,_,([]++pa)++pv,⟨[]++pa,pv,trodAll_append (aR _ (λ_ _=>rfl)) (iU _ _ _),nB _ (λ_ _=>rfl),rfl,?_,?_⟩,?_⟩
  .intro b off hp;have fz:MemPlace.cell b off∈before:=by rw[cy];simpa using hp
   rw[rb ⟨b,off,none⟩ (ac _ fz)];exact hz b off fz
  .intro ha;have:=hn ha;rw[cy]at this;simpa using this
  .intro p hp _;rw[cy];simpa using hp
theorem law_row(hT:Waj P T)(jA:laidOutB P=true){f:Func}{k:FuncId}{s:ChangeSpec}(d6:s.vars= [])(hs:∀ds:List (DataW H),ds.length=f.params.toList.length->s.fn H ds={results:=[.lit (.bool true)],args:=ds})
  {ps:List PTy} (cy:Wwy P T f.params.toList ps=true) {tb:TypeId} (iU:f.resultTypes= #[tb]) (xn:P.underlying tb=some .bool) {run:Nat->WfJ ps->Option (Wgh ps×Whr [.v .bool false])}
  (du:∀N,WwD P k (Sig.of ps [.v .bool false] (run N))) (hβ:Bulk β) {ok:List (DataW H)->Prop} {M:Nat->Prop} (rc:∀ds m,ok ds->m<=(ds.map β).sum->M m)
  (uF:∀d:WfJ ps,Wp0 ps d->M (WgA ps d)->∃N o,run N d=some (o,(true,()))) {WiD fresh gJ again:Bool}
  (W:World) (base:Nat) (args:Array Value) (ds gs:List (DataW H)) (before:List MemPlace)
  (gZ:∀(j:Nat) t v,f.params[j]?=some t->args[j]?=some v->Value.okWide P W .any base t v)
  (hW:DataW.Whole enc P f.params.toList s.vars WiD W args.toList ds gs before) (hk:ok ds):
  Calls P k args W λe W'=>∃v,e= .returned v/\s.post enc P f WiD fresh gJ again W args v W':=by
 have hW':=hW;have ac:=hW.lt;obtain⟨p,q,hA,hV,xo,rb,bh⟩:=hW;rw[d6]at hV;obtain⟨zl,hq⟩:=trodVars_none hV;subst zl hq;rw[Xcq]at xo;subst xo;obtain⟨d,h1,h2,h3⟩:=WmJ (w:=W) hT hβ f.params.toList ps args.toList ds before cy hA (λj t v hj hv=>⟨base,gZ j t v (by simpa using hj) (by simpa using hv)⟩);obtain⟨N,o,ho⟩:=uF d h2 (rc ds _ hk h3);have hc:=du N d (o,(true,())) ho (Wiy W) W args.toList [] [] h1 List.Pairwise.nil (by simp) (λb o v hv=>hv);have aR:args.toList.toArray=args:=by simp
 rw[aR]at hc;refine hc.mono λe W' ⟨rv,kf,ms,di,G',he,ha⟩=>?_;have hb:Below W.heap.size W W':=⟨ha.le.os,ha.le.tape,ha.le.output,ha.le.size,λb hb=>ha.le.whole b hb (λo ⟨q,hq,_⟩=>by simp at hq)⟩;obtain⟨v,au,n1,n2,e1,e2,e3,e4⟩:=ha.res;obtain⟨e5,_⟩:=e4;subst e5;have hv:v= .bool true:=by
  unfold Wj3 at e3;simp only[Xai,W7]at e3;have:=e3.2;simpa [Enc]using this
 subst hv;have my:Wjo rv= .bool true:=by rw[e1];rfl
 rw[my]at he;refine⟨.bool true,he,?_⟩;have ad:=Wnm _ _ _ _ hA;have uG:=hs (ds++ []) (by rw[Xcq];exact ad);refine Wuc (pa:=before) (pv:=[]) hW' ?_ ?_ ?_ (by simp) (hb.frame _) (λa ha=>hb.frozen ha) (ok_one iU rfl (okWide_bool_mk xn _))
 .intro b sp hd;rw[uG,iU];exact trodAll_cons_mk (shut_bool xn _) trodAll_mk0
 .intro sp gy;rw[uG,Xcq];exact WnJ jA hb _ _ _ _ _ cy hA ac gy
 .intro sp gy;rw[uG,d6];rfl
end
end Go.Sx
namespace Go.Sx
set_option linter.unusedVariables false
end Go.Sx
namespace Go.Sx
set_option linter.unusedVariables false
def Wlm{α:Type}(r:α->α->Bool):List α->Bool
 | []=>true
 |x::l=>l.all (r x)&&Wlm r l
def We5{α:Type}(cf:α->α->Int)(x y:α):Bool:=decide (cf x y<0)
def WiD{α:Type}(cf:α->α->Int)(x y:α):Bool:=We5 cf x y||We5 cf y x
def Wes{α:Type}(cf:α->α->Int)(xs:List α):List α:=xs.mergeSort λx y=>!We5 cf y x
def Zq2{α:Type}(rng:α->Bool)(cf:α->α->Int)(N:Nat)(xs:List α):Option ((List α×Unit)×Unit):=
 bif xs.all rng&&(Wlm (WiD cf) xs&&decide (xs.length<4611686018427387904))then some ((Wes cf xs,()),())else none
structure SwoOn{α:Type}(rng:α->Bool)(cf:α->α->Int):Prop where
 irr:∀x,rng x=true->¬cf x x<0
 tr:∀x y z,rng x=true->rng y=true->rng z=true->cf x y<0->cf y z<0->cf x z<0
 nt:∀x y z,rng x=true->rng y=true->rng z=true->¬cf x y<0->¬cf y z<0->¬cf x z<0
theorem WoN{α:Type}{rng:α->Bool}{cf:α->α->Int}{N:Nat}{xs:List α}{o:(List α×Unit)×Unit}(h:Zq2 rng cf N xs=some o):
  (∀x∈xs,rng x=true)/\Wlm (WiD cf) xs=true/\xs.length<4611686018427387904/\o=((Wes cf xs,()),()):=by
 unfold Zq2 at h;cases hb:xs.all rng&&(Wlm (WiD cf) xs&&decide (xs.length<4611686018427387904))
 .rw[hb]at h;cases h
 .rw[hb]at h;simp only[Wb]at h;injection h with h;simp only[Xi,Wi]at hb;exact⟨Xad.1 hb.1,hb.2.1,hb.2.2,h.symm⟩
theorem Wn5{α:Type}{r:α->α->Bool}:∀{l:List α},Wlm r l=true->∀(i j:Nat) (hi:i<l.length) (hj:j<l.length),i<j->r l[i] l[j]=true
 | [],_,i,_,hi,_,_=>by simp at hi
 |x::l,h,0,j+1,hi,hj,pW=>by
  simp only[Wlm,Xi]at h;exact Xad.1 h.1 _ (List.getElem_mem _)
 |x::l,h,i+1,j+1,hi,hj,pW=>by
  simp only[Wlm,Xi]at h;simpa using Wn5 h.2 i j (by simpa using hi) (by simpa using hj) (by omega)
def Wvg(k:Int):Bool:=decide (-1000000000<=k)&&decide (k<=1000000000)
def Ww5(a:Int×Int×Int):Bool:=Wvg a.1
def cfE(a b:Int×Int×Int):Int:=a.1-b.1
def WvU(a:Int×Int×Int):Bool:=Wvg a.1&&Wvg a.2.1
def cfH(a b:Int×Int×Int):Int:=bif a.2.1==b.2.1 then a.1-b.1 else a.2.1-b.2.1
theorem Wg6{k:Int}(h:Wvg k=true):-1000000000<=k/\k<=1000000000:=by unfold Wvg at h;simpa using h
theorem Wx3:SwoOn Ww5 cfE:=⟨λx _=>by unfold cfE;omega,λx y z _ _ _=>by unfold cfE;omega,λx y z _ _ _=>by unfold cfE;omega⟩
theorem Wbn{a b:Int×Int×Int}:cfH a b<0↔(a.2.1<b.2.1\/(a.2.1=b.2.1/\a.1<b.1)):=by
 unfold cfH;by_cases h:a.2.1=b.2.1
 .have:(a.2.1==b.2.1)=true:=by simpa using h
  rw[this];simp only[Wb];omega
 .have:(a.2.1==b.2.1)=false:=by simpa using h
  rw[this];simp only[Wa];omega
theorem Wxf{a b:Int×Int×Int}(h:(a.2.1 !=b.2.1)=false):a.1-b.1=cfH a b:=by
 have h:a.2.1=b.2.1:=bne_eq_false_iff_eq.1 h;unfold cfH;rw[beq_iff_eq.2 h];rfl
theorem Wxc{a b:Int×Int×Int}(h:(a.2.1 !=b.2.1)=true):a.2.1-b.2.1=cfH a b:=by
 have h:a.2.1≠b.2.1:=bne_iff_ne.1 h;unfold cfH;rw[beq_eq_false_iff_ne.2 h];rfl
theorem Wx5:SwoOn WvU cfH:=⟨λx _=>by rw[Wbn];omega,λx y z _ _ _=>by rw[Wbn,Wbn,Wbn];omega,λx y z _ _ _=>by rw[Wbn,Wbn,Wbn];omega⟩
end Go.Sx
