/- The abstract machine, part 3: a reflective interpreter of the program's code over data, with its soundness over the model. -/
import Derived.Test.YtlemhlmemchiaaaGreatEng2
open Option renaming bind_assoc→Xgh,map→Xff,bind_some→Xd,getD_some→Xgo,bind_eq_some_iff→Xbp,map_eq_some_iff→Xw
open Bool renaming not_true→Xah,and_eq_true→Xi,not_eq_true'→Xam,false_eq_true→Xby,or_eq_true→Xch
open List renaming mem_map→Xu,mem_cons_of_mem→Xe,mem_append_left→Xj,mem_append_right→Xg,mem_cons→Xm,mem_cons_self→Xh,length_append→Xs,getD_eq_getElem?_getD→Xv,getElem?_append→Xaq,getElem?_cons_zero→Xdn,getElem?_eq_none→Xbf,all_eq_true→Xai,append_of_mem→Xea,mem_append→Xk,range→Xdf,mem_filter→Xax,mem_range→Xed,filter_cons→Xbm,eq_nil_of_length_eq_zero→Xx,eq_nil_iff_forall_not_mem→Xes,nodup_nil→Xcw,mem_of_getElem?→Xar,nodup_cons→Xae,nil_append→Xbv,cons_append→Xaw,length_filter_le→Xen,length_range→Xfd,mem_flatMap→Xfi,map_cons→Xaj,map_map→Xeb,map_congr_left→Xci,append_nil→Xcz,nodup_append→Xaf,filter_append→Xcx,prefix_append→Xge,map_append→Xn,map_nil→Xbh,mem_erase_of_ne→Xfy,length_erase_of_mem→Xfh,length_pos_of_mem→Xfq,length_cons→Xt,getElem?_cons_succ→Xdm,getElem?_eq_some_iff→Xr,getElem?_append_right→Xas,getElem?_tail→Xbz,mapM_cons→Xew,pairwise_singleton→Xba,mem_singleton→Xab,take_of_length_le→Xbr,getElem?_eq_getElem→Xq,drop_zero→Xce,tail_cons→Xee,getElem?_map→Xak,length→Xa,sum_cons→Xei
open Nat renaming sub_self→Xcy,blt_eq→Xgr,le_refl→Xl,zero_add→Xbd,zero_le→Xbk,sub_zero→Xec,beq→Xbj,le_trans→Xck,add_zero→Xat,add_sub_cancel_left→Xay,le_of_ble_eq_true→Xfu,add_mul→Xcp,zero_mul→Xeq
open Array renaming getD_eq_getD_getElem?→Xcg,getElem?_setIfInBounds→Xex,getElem?_eq_getElem→Xdg,getElem?_eq_some_iff→Xdc,replicate→Xdz
namespace Go.Sx
set_option linter.unusedVariables false
set_option linter.unusedSimpArgs false
abbrev Out:=AVal×WS×Nat
def WbQ(x:AVal)(objs:WS)(nx:Nat):Option Out:=some (x,objs,nx)
section
variable{T:Tab}{Γ:Ctx}{A:List (Nat×An)}
theorem Wan{α β:Type}{c:Prop}[Decidable c]{x:Option α}{f:α->Option β}:(if c then x else none).bind f=if c then x.bind f else none:=by split<;>rfl
theorem Wbm{α β:Type}{c:Bool}{x:Option α}{f:α->Option β}:(bif c then x else none).bind f=bif c then x.bind f else none:=by cases c<;>rfl
theorem WdZ{R:Type}(sg:Sig)(st:St)(xs:List AVal)(k:KV R):WdG sg st xs k=(WdG sg st xs WbQ).bind λp=>k p.1 p.2.1 p.2.2:=by
 unfold WdG;split
 .split
  .rw[sg.law,sg.law,Xgh];rfl
  .rfl
 .rfl
theorem WlX{R:Type}(sg:Sig)(st:St)(xs:List AVal)(k:KV R):Wjg sg st xs k=(Wjg sg st xs WbQ).bind λp=>k p.1 p.2.1 p.2.2:=by
 unfold Wjg;cases sg.fresh with
 |true=>exact WdZ _ _ _ _
 |false=>
  simp only[cond_false];split
  .split
   .exact WdZ _ _ _ _
   .exact WdZ _ _ _ _
  .rfl
theorem Wjr{R:Type}(st:St)(te:Ty)(s x:AVal)(k:KV R):Wdb st te s x k=(Wdb st te s x WbQ).bind λp=>k p.1 p.2.1 p.2.2:=by
 unfold Wdb;split
 .split
  .split
   .split
    .rw[Wbm];rfl
    .rfl
   .rfl
  .rfl
 .split
  .split
   .split
    .rw[Wan,Wbm];rfl
    .rfl
   .rfl
  .rfl
 .rfl
theorem WiM{R:Type}(st:St)(e:Ty)(ps:List (Nat×AVal))(k:KV R):Wb6 st e ps k=(Wb6 st e ps WbQ).bind λp=>k p.1 p.2.1 p.2.2:=by
 unfold Wb6;split
 .rw[Wan];split
  .split
   .split
    .rw[Wan];rfl
    .rfl
   .rfl
  .rfl
 .rfl
theorem Wkh{R:Type}(st:St)(te:Ty)(id:Nat)(l h:Option Int)(k:KV R):WdF st te id l h k=(WdF st te id l h WbQ).bind λp=>k p.1 p.2.1 p.2.2:=by
 unfold WdF;split
 .rw[Wan,Wbm];rfl
 .rfl
theorem Wh1{R:Type}(st:St)(t t2:TypeId)(s x:AVal)(k:KV R):Wcy T st t t2 s x k=(Wcy T st t t2 s x WbQ).bind λp=>k p.1 p.2.1 p.2.2:=by
 unfold Wcy;split
 .split
  .split
   .cases WoF st s x with
    |false=>exact Wjr _ _ _ _ _
    |true=>
    simp only[Xah,cond_false];split
    .rw[Wbm];rfl
    .split
     .split
      .rw[Wbm];rfl
      .rfl
     .rfl
    .split
     .split
      .rw[Wbm];rfl
      .rfl
     .rfl
    .rfl
   .rfl
  .rfl
 .rfl
theorem Wp9{R:Type}(p:Option (Bool×AVal))(objs:WS)(nx:Nat)(k:KV R):(match p with|some (c,v)=>bif c then k v objs nx else none|none=>none)=(match p with|some (c,v)=>bif c then WbQ v objs nx else none|none=>none).bind λp=>k p.1 p.2.1 p.2.2:=by
 rcases p with _|⟨c,v⟩
 .rfl
 .cases c<;>rfl
theorem Wem{R:Type}(o:Oper)(st:St)(k:KV R):rxe T Γ A o st k=(rxe T Γ A o st WbQ).bind λp=>k p.1 p.2.1 p.2.2:=by
 unfold rxe;split
 .split
  .rw[Wan];rfl
  .rw[Wan];rfl
  .rfl
 .split<;>rfl
 .split
  .split
   .split<;>rfl
   .rfl
  .rfl
 .split
  .split
   .split
    .rw[Wan];split
     .exact WiM _ _ _ _
     .rfl
    .split
     .rw[Wan];rfl
     .rfl
   .rfl
  .rfl
 .split
  .split
   .split
    .rw[Wan,Wbm];rfl
    .rw[Wan,Wbm];rfl
   .rfl
  .rfl
 .split
  .split
   .split<;>rfl
   .rfl
  .rfl
 .split
  .split
   .split
    .split
     .rw[Wan];split
      .exact Wkh _ _ _ _ _ _
      .rfl
     .split
      .rw[Wan,Wbm];rfl
      .rw[Wan,Wbm];rfl
      .rfl
    .rfl
   .rfl
  .exact Wp9 _ _ _ _
 .split
  .split
   .exact Wh1 _ _ _ _ _ _
   .rfl
  .split
   .split
    .split
     .rw[Wan];rfl
     .rfl
    .rfl
   .rfl
  .exact Wp9 _ _ _ _
  .split
   .split
    .exact WlX _ _ _ _
    .rfl
   .rfl
  .rfl
 .exact Wp9 _ _ _ _
end
section
variable{T:Tab}{Γ:Ctx}{A:List (Nat×An)}
theorem Wki{st:St}{env:List (Nat×AVal)}{t:TypeId}{x v:AVal}:WbN T {env:=env,objs:=st.objs,nx:=st.nx} t x v=(WbN T st t x v).map λs=>{env:=env,objs:=s.objs,nx:=s.nx}:=by
 unfold WbN;generalize Wc T t=q;generalize WeK v=z;rcases q with _|te
 .rfl
 rcases z with _|ds
 .rcases x with(c|cs)|xs
  .cases c<;>rfl
  .rfl
  .rfl
 rcases x with(c|cs)|xs
 .cases c with
  |ptr id off=>
   show(match Wc st.objs id with|some (.box cs)=>_|_=>_)=Xff _ (match Wc st.objs id with|some (.box cs)=>_|_=>_);generalize Wc st.objs id=ob;rcases ob with _|ob
   .rfl
   cases ob with
   |box cs=>
    show(if _ then _ else _)=Xff _ (if _ then _ else _);split<;>rfl
   |arr e xs=>rfl
   |hole e xs i p=>rfl
   |dead=>rfl
  |eptr id i off=>
   show(match Wc st.objs id with|some (.arr e xs)=>_|_=>_)=Xff _ (match Wc st.objs id with|some (.arr e xs)=>_|_=>_);generalize Wc st.objs id=ob;rcases ob with _|ob
   .rfl
   cases ob with
   |box cs=>rfl
   |hole e xs i p=>rfl
   |dead=>rfl
   |arr e xs=>
    show(if _ then _ else _)=Xff _ (if _ then _ else _);by_cases hc:(decide (te.ty.size=ds.length)&&te.plain&&decide (off+ds.length<=e.size)&&e.data)=true
    .rw[if_pos hc,if_pos hc];generalize WZ e (WcH (split e (List.getD xs i e.dflt)) off ds) st.objs=r;rcases r with _|⟨d,m,l⟩
     .rfl
     .cases m<;>cases l<;>rfl
    .rw[if_neg hc,if_neg hc];by_cases fG:(decide (te.ty.size=ds.length)&&te.plain&&decide (off=0)&&decide (ds.length=e.size))=true
     .rw[if_pos fG,if_pos fG];generalize WZ e ds st.objs=r;rcases r with _|⟨d,m,l⟩
      .rfl
      .cases l with
       |nil=>
        show(if _ then _ else _)=Xff _ (if _ then _ else _);split<;>rfl
       |cons _ _=>rfl
     .rw[if_neg fG,if_neg fG];rfl
  |_=>rfl
 .rfl
 .rfl
theorem WmT{R:Type}(o:Oper){st:St}{env:List (Nat×AVal)}(k:KV R)(he:∀x∈WR o.op,ev {env:=env,objs:=st.objs,nx:=st.nx} x=ev st x):
  rxe T Γ A o {env:=env,objs:=st.objs,nx:=st.nx} k=rxe T Γ A o st k:=by
 have ba:(∀t x l h m,o.op≠ .slice t x l h m)->WV T {env:=env,objs:=st.objs,nx:=st.nx} o.op=WV T st o.op:=λhm=>We2 o.op hm he (λ_ _ _ _ _ _ _=>rfl);obtain⟨dst,op,type,pos,after,guard⟩:=o;simp only at he ba;cases op with
 |alloc t=>rfl
 |box t x=>simp only[rxe,he x (by simp[WR])]
 |build t parts=>simp only[rxe,WbA (st:=st) parts.toList λp hp=>he p.2 (by simp only[WR];exact Xu.2 ⟨p,hp,rfl⟩)]
 |buildSlice t n parts=>
  have e1:∀e ps,Wb6 {env:=env,objs:=st.objs,nx:=st.nx} e ps k=Wb6 st e ps k:=λ_ _=>rfl;simp only[rxe,e1,WbA (st:=st) parts.toList λp hp=>he p.2 (by simp only[WR];exact Xu.2 ⟨p,hp,rfl⟩)]
 |makeSlice t n c=>simp only[rxe,he n (by simp[WR]),he c (by simp[WR])]
 |store t a x=>
  simp only[rxe,he a (by simp[WR]),he x (by simp[WR])];split
  .rename_i p v _ _;have e:=Wki (T:=T) (st:={env:=st.env,objs:=WcC st.objs (WdM st.objs p v),nx:=st.nx}) (env:=env) (t:=t) (x:=p) (v:=Wfb st.objs (WdM st.objs p v) v);simp only at e;rw[e];cases WbN T {env:=st.env,objs:=WcC st.objs (WdM st.objs p v),nx:=st.nx} t p (Wfb st.objs (WdM st.objs p v) v)<;>rfl
  .rfl
 |slice t x lo hi m=>
  have hx:=he x (by simp[WR]);have aL:=WgH (st:=st) (ai:={env:=env,objs:=st.objs,nx:=st.nx}) lo λy hy=>he y (by simp only[WR];exact Xe _ (Xj _ hy));have l0:=WgH (st:=st) (ai:={env:=env,objs:=st.objs,nx:=st.nx}) hi λy hy=>he y (by simp only[WR];exact Xe _ (Xg _ (Xj _ hy)));cases m with
  |none=>
   have hp:WV T {env:=env,objs:=st.objs,nx:=st.nx} (.slice t x lo hi none)=WV T st (.slice t x lo hi none):=by
    simp only[WV,hx];refine Wbj λv _=>?_;simp only[Whn,aL,l0]
   have e1:∀te id l h,WdF {env:=env,objs:=st.objs,nx:=st.nx} te id l h k=WdF st te id l h k:=λ_ _ _ _=>rfl;simp only[rxe,hx,aL,l0,hp,e1]
  |some y=>rfl
 |call c=>
  have hargs:=Wjb (st:=st) (ai:={env:=env,objs:=st.objs,nx:=st.nx}) c.args.toList λx hx=>he x (by simp only[WR];exact Xg _ hx);have hp:=ba (λ_ _ _ _ _ h=>by cases h);simp only[rxe];split
  .rename_i s x t t2 hc ha cw;have h1:ev {env:=env,objs:=st.objs,nx:=st.nx} s=ev st s:=he s (by simp only[WR];rw[ha];exact Xg _ (by simp));have h2:ev {env:=env,objs:=st.objs,nx:=st.nx} x=ev st x:=he x (by simp only[WR];rw[ha];exact Xg _ (by simp));rw[h1,h2];rfl
  .rename_i x t hc ha cw;have h1:ev {env:=env,objs:=st.objs,nx:=st.nx} x=ev st x:=he x (by simp only[WR];rw[ha];exact Xg _ (by simp));rw[h1]
  .rw[hp]
  .rename_i f hc;have h1:ev {env:=env,objs:=st.objs,nx:=st.nx} f=ev st f:=he f (by simp only[WR];rw[hc];exact Xj _ (by simp));rw[h1,hargs];rfl
  .rfl
 |move x=>simp only[rxe,ba (λ_ _ _ _ _ h=>by cases h)]
 |assign x=>simp only[rxe,ba (λ_ _ _ _ _ h=>by cases h)]
 |pick c a b=>simp only[rxe,ba (λ_ _ _ _ _ h=>by cases h)]
 |load t a=>simp only[rxe,ba (λ_ _ _ _ _ h=>by cases h)]
 |nilCheck x=>simp only[rxe,ba (λ_ _ _ _ _ h=>by cases h)]
 |binOp op t x y z=>simp only[rxe,ba (λ_ _ _ _ _ h=>by cases h)]
 |unOp op t x=>simp only[rxe,ba (λ_ _ _ _ _ h=>by cases h)]
 |convert s d x=>simp only[rxe,ba (λ_ _ _ _ _ h=>by cases h)]
 |fieldAddr s x f=>simp only[rxe,ba (λ_ _ _ _ _ h=>by cases h)]
 |field t x f=>simp only[rxe,ba (λ_ _ _ _ _ h=>by cases h)]
 |indexAddr t x i=>simp only[rxe,ba (λ_ _ _ _ _ h=>by cases h)]
 |index t x i=>simp only[rxe,ba (λ_ _ _ _ _ h=>by cases h)]
 |extract t ix=>simp only[rxe,ba (λ_ _ _ _ _ h=>by cases h)]
 |makeFunc f first captured=>simp only[rxe,ba (λ_ _ _ _ _ h=>by cases h)]
 |_=>rfl
def Wpp(T:Tab)(o:Oper)(st:St):Option AVal:=match o.op with
 | .build t parts=>match Wc T t,Wbz st parts.toList with
  |some ⟨ty,true,.struct fs⟩,some ps=>
   if fs.all (λf=>match Wc T f.2 with|some te=>te.plain|none=>false)then
    match Wi9 T fs ps (Wc7 ty)with
    |some cs=>some (.s (.agg cs))
    |none=>none
   else none
  |_,_=>none
 |op=>match WV T st op with
  |some (c,v)=>bif c then some v else none
  |none=>none
theorem WqI(p:Option (Bool×AVal))(objs:WS)(nx:Nat):(match p with|some (c,v)=>bif c then WbQ v objs nx else none|none=>none)=(match p with|some (c,v)=>bif c then some v else none|none=>none).bind λv=>WbQ v objs nx:=by
 rcases p with _|⟨c,v⟩
 .rfl
 .cases c<;>rfl
theorem Wjc{o:Oper}(hm:Wag o=false)(st:St):rxe T Γ A o st WbQ=(Wpp T o st).bind λv=>WbQ v st.objs st.nx:=by
 obtain⟨dst,op,type,pos,after,guard⟩:=o;cases op with
 |alloc t=>cases hm
 |box t x=>cases hm
 |buildSlice t n parts=>cases hm
 |makeSlice t n c=>cases hm
 |store t a x=>cases hm
 |slice t x lo hi m=>cases hm
 |build t parts=>
  simp only[rxe,Wpp];generalize Wc T t=q;generalize Wbz st parts.toList=z;rcases q with _|⟨ty,agg,shape⟩
  .rfl
  rcases z with _|ps
  .cases agg<;>cases shape<;>rfl
  cases agg with
  |false=>rfl
  |true=>
   cases shape with
   |struct fs=>
    show(if _ then _ else _)=Option.bind (if _ then _ else _) _;rw[Wan];cases Wi9 T fs ps (Wc7 ty)<;>rfl
   |_=>rfl
 |call c=>
  simp only[rxe,Wpp];split
  .rename_i hc _ _;simp only[Wag,hc]at hm;cases hm
  .rename_i hc _ _;simp only[Wag,hc]at hm;cases hm
  .exact WqI _ _ _
  .rename_i hc;simp only[Wag,hc]at hm;cases hm
  .rename_i h0 h1 h2 h3;have:WV T st (.call c)=none:=by
    simp only[WV];split
    .rename_i hc _ _;first|exact absurd hc (h0 _)|exact absurd hc (h1 _)|exact absurd hc (h2 _)|exact absurd hc (h3 _)
    .rename_i hc _ _;first|exact absurd hc (h0 _)|exact absurd hc (h1 _)|exact absurd hc (h2 _)|exact absurd hc (h3 _)
    .rename_i hc _ _;first|exact absurd hc (h0 _)|exact absurd hc (h1 _)|exact absurd hc (h2 _)|exact absurd hc (h3 _)
    .rfl
   rw[this];rfl
 |_=>first|rfl|exact WqI (WV T st _) st.objs st.nx
theorem Wme{o:Oper}(hm:Wag o=false){st ai:St}(he:∀x∈WR o.op,ev ai x=ev st x)(hl:Wqh o.op=true->∀x∈WR o.op,∀v,ev st x=some v->WcJ st ai v):Wpp T o ai=Wpp T o st:=by
 have ba:(∀t x l h m,o.op≠ .slice t x l h m)->WV T ai o.op=WV T st o.op:=λhm=>We2 o.op hm he hl;obtain⟨dst,op,type,pos,after,guard⟩:=o;simp only at he ba;cases op with
 |slice t x lo hi m=>cases hm
 |build t parts=>simp only[Wpp,WbA (st:=st) parts.toList λp hp=>he p.2 (by simp only[WR];exact Xu.2 ⟨p,hp,rfl⟩)]
 |_=>simp only[Wpp,ba (λ_ _ _ _ _ h=>by cases h)]
theorem WbJ(objs:WS):∀l,∃pre,kill objs l=pre++objs
 | []=>⟨[],rfl⟩
 |i::l=>by
  obtain⟨pre,h⟩:=WbJ objs l;exact⟨(i,.dead)::pre,by simp only[kill,h];rfl⟩
theorem WQ:∀(ps:List PTy) (o:Wd3 ps) (ids:List Kp) (objs:WS) (nx:Nat),∃pre,(WU ps o ids objs nx).1=pre++objs
 | [],_,_,objs,_=>⟨[],rfl⟩
 | .v _ _::ps,o,ids,objs,nx=>WQ ps o ids objs nx
 | .rp _::ps,o,ids,objs,nx=>WQ ps o ids objs nx
 | .box t::ps,o,ids,objs,nx=>by
  cases ids with
  |nil=>exact⟨[],rfl⟩
  |cons k ids=>
   obtain⟨pre,h⟩:=WQ ps o.2 ids ((k.id,Wfh (Wc objs k.id) k.off (unfold t o.1 nx).1)::((unfold t o.1 nx).2.1++objs)) (unfold t o.1 nx).2.2;exact⟨pre++(k.id,Wfh (Wc objs k.id) k.off (unfold t o.1 nx).1)::(unfold t o.1 nx).2.1,by simp only[WU,h];simp⟩
 | .vj _::ps,o,ids,objs,nx=>WQ ps o ids objs nx
 | .boxal t _::ps,o,ids,objs,nx=>by
  cases ids with
  |nil=>exact⟨[],rfl⟩
  |cons k ids=>
   obtain⟨pre,h⟩:=WQ ps o.2 ids ((k.id,Wfh (Wc objs k.id) k.off (unfold t o.1 nx).1)::((unfold t o.1 nx).2.1++objs)) (unfold t o.1 nx).2.2;exact⟨pre++(k.id,Wfh (Wc objs k.id) k.off (unfold t o.1 nx).1)::(unfold t o.1 nx).2.1,by simp only[WU,h];simp⟩
 | .mut e::ps,o,ids,objs,nx=>by
  cases ids with
  |nil=>exact⟨[],rfl⟩
  |cons k ids=>
   obtain⟨pre,h⟩:=WQ ps o.2 ids ((k.id,.arr e o.1)::objs) nx;exact⟨pre++ [(k.id,.arr e o.1)],by simp only[WU,h];simp⟩
 | .clos _ _::ps,o,ids,objs,nx=>WQ ps o ids objs nx
 | .kv t _::ps,o,ids,objs,nx=>by
  obtain⟨pre,h⟩:=WQ ps o.2 (ids.drop t.owns) (Wbu t o.1 ((ids.take t.owns).map Kp.id)++objs) nx;exact⟨pre++Wbu t o.1 ((ids.take t.owns).map Kp.id),by simp only[WU,h];simp⟩
theorem WY:∀(rs:List PTy) (d:WeW rs) (objs:WS) (nx:Nat),∃pre,(WaN rs d objs nx).2.1=pre++objs
 | [],_,objs,_=>⟨[],rfl⟩
 | .v t agg::rs,d,objs,nx=>by
  obtain⟨pre,h⟩:=WY rs d.2 ((unfold t d.1 nx).2.1++objs) (unfold t d.1 nx).2.2;exact⟨pre++(unfold t d.1 nx).2.1,by simp only[WaN,h];simp⟩
 | .box t::rs,d,objs,nx=>by
  obtain⟨pre,h⟩:=WY rs d.2 ((nx,.box (unfold t d.1 (nx+1)).1)::((unfold t d.1 (nx+1)).2.1++objs)) (unfold t d.1 (nx+1)).2.2;exact⟨pre++(nx,.box (unfold t d.1 (nx+1)).1)::(unfold t d.1 (nx+1)).2.1,by simp only[WaN,h];simp⟩
 | .mut _::rs,d,objs,nx=>WY rs d objs nx
 | .clos _ _::rs,d,objs,nx=>WY rs d objs nx
 | .kv _ _::rs,d,objs,nx=>WY rs d objs nx
 | .rp _::rs,d,objs,nx=>WY rs d objs nx
 | .vj t::rs,d,objs,nx=>by
  obtain⟨pre,h⟩:=WY rs d.2 ((unfold t d.1 nx).2.1++objs) (unfold t d.1 nx).2.2;exact⟨pre++(unfold t d.1 nx).2.1,by simp only[WaN,h];simp⟩
 | .boxal _ _::rs,d,objs,nx=>WY rs d objs nx
def Suf(objs:WS)(r:Option Out):Prop:=∀x objs' nx,r=some (x,objs',nx)->∃pre,objs'=pre++objs
theorem Suf.none{objs:WS}:Suf objs none:=λ_ _ _ h=>by cases h
theorem Suf.out{objs pre:WS}{x:AVal}{nx:Nat}:Suf objs (WbQ x (pre++objs) nx):=λ_ _ _ h=>by
 injection h with h;have:=congrArg (λp:Out=>p.2.1) h;exact⟨pre,this.symm⟩
theorem Suf.ite{objs:WS}{c:Prop}[Decidable c]{r:Option Out}(h:Suf objs r):Suf objs (if c then r else Option.none):=by split;exact h;exact .none
theorem Suf.bif{objs:WS}{c:Bool}{r:Option Out}(h:Suf objs r):Suf objs (bif c then r else Option.none):=by cases c;exact .none;exact h
theorem Wgs{st af:St}{t:TypeId}{x v:AVal}(h:WbN T st t x v=some af):∃pre,af.objs=pre++st.objs:=by
 unfold WbN at h;split at h
 .split at h
  .split at h
   .injection h with h;subst h;exact⟨[_],rfl⟩
   .cases h
  .cases h
 .split at h
  .split at h
   .split at h
    .injection h with h;subst h;exact⟨[_],rfl⟩
    .cases h
   .split at h
    .split at h
     .rename_i m _;split at h
      .injection h with h;subst h;obtain⟨pre,hp⟩:=WbJ st.objs m;exact⟨_::pre,by simp only[hp];rfl⟩
      .cases h
     .cases h
    .cases h
  .cases h
 .cases h
theorem Wkg(p:Option (Bool×AVal))(objs:WS)(nx:Nat):Suf objs (match p with|some (c,v)=>bif c then WbQ v objs nx else none|none=>none):=by
 rcases p with _|⟨c,v⟩
 .exact .none
 .exact Suf.bif (Suf.out (pre:=[]))
theorem Wcn(sg:Sig)(st:St)(xs:List AVal):Suf st.objs (WdG sg st xs WbQ):=by
 unfold WdG;split
 .rename_i A _;split
  .intro x objs' nx h;rw[sg.law]at h;cases hr:sg.run A.d with
   |none=>rw[hr]at h;cases h
   |some out=>
    rw[hr]at h;simp only[Xd]at h;injection h with h;have h2:=congrArg (λp:Out=>p.2.1) h;simp only at h2;obtain⟨p1,e1⟩:=WbJ st.objs A.moved;obtain⟨p2,e2⟩:=WQ sg.ps out.1 A.kept (kill st.objs A.moved) st.nx;obtain⟨p3,e3⟩:=WY sg.rs out.2 (WU sg.ps out.1 A.kept (kill st.objs A.moved) st.nx).1 (WU sg.ps out.1 A.kept (kill st.objs A.moved) st.nx).2;refine⟨p3++(p2++p1),?_⟩;rw[←h2,e3,e2,e1];simp
  .exact .none
 .exact .none
theorem Suf.over{objs:WS}{l:List Nat}{r:Option Out}(h:Suf (kill objs l) r):Suf objs r:=λx objs' nx hr=>by
 obtain⟨p1,e1⟩:=h x objs' nx hr;obtain⟨p2,e2⟩:=WbJ objs l;exact⟨p1++p2,by rw[e1,e2];simp⟩
theorem WjI(sg:Sig)(st:St)(xs:List AVal):Suf st.objs (Wjg sg st xs WbQ):=by
 unfold Wjg;cases sg.fresh with
 |true=>exact Wcn _ _ _
 |false=>
  simp only[cond_false];split
  .split
   .exact Wcn _ _ _
   .exact Suf.over (Wcn sg {env:=st.env,objs:=kill st.objs _,nx:=st.nx} _)
  .exact .none
theorem WkE{objs:WS}{x:AVal}{p:Nat×Ob}{l:List Nat}{nx:Nat}:Suf objs (WbQ x (p::kill objs l) nx):=by
 obtain⟨pre,h⟩:=WbJ objs l;rw[h];exact Suf.out (pre:=p::pre)
theorem Wgy(st:St)(te:Ty)(s x:AVal):Suf st.objs (Wdb st te s x WbQ):=by
 unfold Wdb;split
 .split
  .split
   .split
    .exact Suf.bif WkE
    .exact .none
   .exact .none
  .exact .none
 .split
  .split
   .split
    .exact Suf.ite (Suf.bif WkE)
    .exact .none
   .exact .none
  .exact .none
 .exact .none
theorem WgC(st:St)(e:Ty)(ps:List (Nat×AVal)):Suf st.objs (Wb6 st e ps WbQ):=by
 unfold Wb6;split
 .refine Suf.ite ?_;split
  .split
   .exact Suf.ite (Suf.over WkE)
   .exact .none
  .exact .none
 .exact .none
theorem Whx(st:St)(te:Ty)(id:Nat)(l h:Option Int):Suf st.objs (WdF st te id l h WbQ):=by
 unfold WdF;split
 .exact Suf.ite (Suf.bif (Suf.out (pre:=[])))
 .exact .none
theorem WlJ(o:Oper)(st:St):Suf st.objs (rxe T Γ A o st WbQ):=by
 unfold rxe;split
 .split
  .exact Suf.ite (Suf.out (pre:=[_]))
  .exact Suf.ite (Suf.out (pre:=[_]))
  .exact .none
 .split
  .exact Suf.out (pre:=[_])
  .exact .none
 .split
  .split
   .split
    .exact Suf.out (pre:=[])
    .exact .none
   .exact .none
  .exact .none
 .split
  .split
   .split
    .exact Suf.ite (WgC _ _ _)
    .split
     .exact Suf.ite (Suf.over (Suf.out (pre:=[_])))
     .exact .none
   .exact .none
  .exact .none
 .split
  .split
   .split
    .exact Suf.ite (Suf.bif (Suf.out (pre:=[_])))
    .exact Suf.ite (Suf.bif (Suf.out (pre:=[_])))
   .exact .none
  .exact .none
 .split
  .split
   .rename_i af hs;split
    .obtain⟨pre,h⟩:=Wgs hs;rw[h];exact Suf.over Suf.out
    .exact .none
   .exact .none
  .exact .none
 .split
  .split
   .split
    .split
     .exact Suf.ite (Whx _ _ _ _ _)
     .split
      .exact Suf.ite (Suf.bif (Suf.out (pre:=[_,_])))
      .exact Suf.ite (Suf.bif (Suf.out (pre:=[_,_,_])))
      .exact .none
    .exact .none
   .exact .none
  .exact Wkg _ _ _
 .split
  .split
   .unfold Wcy;split
    .split
     .split
      .cases WoF st _ _ with
       |false=>exact Wgy _ _ _ _
       |true=>
       simp only[Xah,cond_false];split
       .exact Suf.bif (Suf.out (pre:=[_]))
       .split
        .split
         .exact Suf.bif (Suf.out (pre:=[_,_]))
         .exact .none
        .exact .none
       .split
        .split
         .exact Suf.bif (Suf.out (pre:=[_,_]))
         .exact .none
        .exact .none
       .exact .none
      .exact .none
     .exact .none
    .exact .none
   .exact .none
  .split
   .split
    .split
     .exact Suf.ite (Suf.out (pre:=[_]))
     .exact .none
    .exact .none
   .exact .none
  .exact Wkg _ _ _
  .split
   .split
    .exact WjI _ _ _
    .exact .none
   .exact .none
  .exact .none
 .exact Wkg _ _ _
end
end Go.Sx
namespace Go.Sx
set_option linter.unusedVariables false
set_option linter.unusedSimpArgs false
theorem Wk3{x y:Nat}{l:List Nat}:y∈WqT x l↔y=x\/y∈l:=by
 unfold WqT;cases h:Wba x l with
 |true=>
  have:=(Waf x l).1 h;simp only[cond_true];exact⟨.inr,λh=>h.elim (λe=>e▸this) id⟩
 |false=>simp
theorem WgW{y:Nat}:∀(m l:List Nat),y∈Wis m l↔y∈m\/y∈l
 | [],l=>by simp[Wis]
 |x::m,l=>by
  rw[Wis,WgW m,Wk3,Xm];constructor
  .rintro(h|h|h)
   .exact .inl (.inr h)
   .exact .inl (.inl h)
   .exact .inr h
  .rintro((h|h)|h)
   .exact .inr (.inl h)
   .exact .inl h
   .exact .inr (.inr h)
theorem WfU{acc:List (List Nat)}{y:Nat}:∀(ds l:List Nat),y∈WhH acc ds l↔(∃j∈ds,y=j\/y∈acc.getD j [])\/y∈l
 | [],l=>by simp[WhH]
 |j::ds,l=>by
  rw[WhH,WfU ds,WgW,Wk3];constructor
  .rintro(⟨k,hk,h⟩|h|h|h)
   .exact .inl ⟨k,Xe _ hk,h⟩
   .exact .inl ⟨j,Xh ..,.inr h⟩
   .exact .inl ⟨j,Xh ..,.inl h⟩
   .exact .inr h
  .rintro(⟨k,hk,h⟩|h)
   .rcases Xm.1 hk with rfl|hk
    .exact .inr (h.elim (λh=>.inr (.inl h)) .inl)
    .exact .inl ⟨k,hk,h⟩
   .exact .inr (.inr (.inr h))
def Wje(ops:Array Oper)(S:Nat->Prop):Prop:=∀i o,ops[i]?=some o->S i->∀d∈WjE o,S d
theorem Wg5{ops:Array Oper}{S:Nat->Prop}(hS:Wje ops S):∀(l:List Oper) (acc:List (List Nat)),(∀(k:Nat) (o:Oper),l[k]?=some o->ops[acc.length+k]?=some o)->
  (∀i,S i->∀j∈acc.getD i [],S j)->∀i,S i->∀j∈(WcN l acc).getD i [],S j
 | [],acc,_,h=>h
 |o::l,acc,hl,h=>by
  refine Wg5 hS l _ (λk o' hk=>?_) (λi hi j hj=>?_)
  .have:=hl (k+1) o' (by simpa using hk);rw[Xs];have e:acc.length+(k+1)=acc.length+ [WhH acc (WjE o) []].length+k:=by simp;omega
   rw[←e];exact this
  .rw[Xv,Xaq]at hj;split at hj
   .exact h i hi j (by rw[Xv];exact hj)
   .rename_i hlt;by_cases he:i=acc.length
    .subst he;simp only[Xcy,Xdn,Xgo]at hj;rcases(WfU _ _).1 hj with⟨k,hk,iC⟩|hj
     .have hSk:=hS _ o (hl 0 o (by simp)) hi k hk;rcases iC with rfl|iC
      .exact hSk
      .exact h k hSk j iC
     .cases hj
    .have:[WhH acc (WjE o) []][i-acc.length]?=none:=Xbf (by simp;omega);rw[this]at hj;cases hj
theorem Wl1{ops:Array Oper}{S:Nat->Prop}(hS:Wje ops S){i j:Nat}(h:WbW (WcN ops.toList []) j i=true)(hi:S i):S j:=
 Wg5 hS ops.toList [] (λk o hk=>by simpa using hk) (λi _ j hj=>by simp at hj) i hi j ((Waf _ _).1 h)
theorem WgJ{ops:Array Oper}:∀(l:List Oper) (n:Nat),Wpc l n=true->∀(k:Nat) (o:Oper),l[k]?=some o->∀d∈WjE o,d<n+k
 | [],_,_,k,o,hk=>by simp at hk
 |o'::l,n,h,k,o,hk=>by
  simp only[Wpc,Xi,Xai]at h;cases k with
  |zero=>
   simp at hk;subst hk;intro e he;have:=h.1 e he;rw[Xgr]at this;omega
  |succ k=>
   have:=WgJ (ops:=ops) l (n+1) h.2 k o (by simpa using hk);intro e he;have:=this e he;omega
structure Order(ops:Array Oper)(l:List Nat):Prop where
 nodup:l.Nodup
 all:∀i,i<ops.size↔i∈l
 dep:∀p i s,l=p++i::s->∀o,ops[i]?=some o->∀d∈WjE o,d∈p
theorem Order.closed{ops:Array Oper}{l:List Nat}(h:Order ops l){p s:List Nat}(e:l=p++s):Wje ops (· ∈p):=λi o ho hi d hd=>by
 obtain⟨a,b,rfl⟩:=Xea hi;have:=h.dep a i (b++s) (by rw[e];simp) o ho d hd;simp[this]
theorem Order.bef{ops:Array Oper}{l:List Nat}(h:Order ops l){p s:List Nat}{i j:Nat}(e:l=p++s)(hb:WbW (WcN ops.toList []) j i=true)(hi:i∈p):j∈p:=
 Wl1 (h.closed e) hb hi
theorem Order.bef'{ops:Array Oper}{l:List Nat}(h:Order ops l){p s:List Nat}{i j:Nat}(e:l=p++i::s)(hb:WbW (WcN ops.toList []) j i=true)(hne:j≠i):j∈p:=by
 have:=h.bef (p:=p++ [i]) (s:=s) (by rw[e];simp) hb (by simp);rcases Xk.1 this with h|h
 .exact h
 .simp at h;exact absurd h hne
def unl(ops:Array Oper)(listed:Array Bool):List Nat:=(Xdf ops.size).filter λi=>!listed.getD i true
theorem WdO{ops:Array Oper}{listed:Array Bool}{i:Nat}:i∈unl ops listed↔i<ops.size/\listed.getD i true=false:=by
 unfold unl;rw[Xax,Xed];simp
theorem Wek{α:Type}{p q:α->Bool}:∀(l:List α),(∀x∈l,q x=true->p x=true)->(∃x∈l,p x=true/\q x=false)->(l.filter q).length<(l.filter p).length
 | [],_,⟨x,hx,_⟩=>by cases hx
 |x::l,h,⟨y,hy,hp,hq⟩=>by
  have hle:∀(l:List α),(∀x∈l,q x=true->p x=true)->(l.filter q).length<=(l.filter p).length:=by
   intro l
   induction l with
   |nil=>intro _;simp
   |cons x l ih=>
    intro h;have:=ih λx hx=>h x (Xe _ hx);have hx:=h x (Xh ..);rw[Xbm,Xbm];cases hqx:q x with
    |true=>rw[hx hqx];simpa using this
    |false=>cases p x<;>simp<;>omega
  rw[Xbm,Xbm];rcases Xm.1 hy with rfl|hy
  .rw[hp,hq];have:=hle l λx hx=>h x (Xe _ hx);simp;omega
  .have:=Wek l (λx hx=>h x (Xe _ hx)) ⟨y,hy,hp,hq⟩;have hx:=h x (Xh ..);cases hqx:q x with
   |true=>rw[hx hqx];simpa using this
   |false=>cases p x<;>simp<;>omega
theorem WhJ{listed:Array Bool}{i j:Nat}:(listed.setIfInBounds i true).getD j true=(if i=j then true else listed.getD j true):=by
 simp only[Xcg,Xex];split
 .split<;>rfl
 .rfl
theorem Wnm{listed:Array Bool}{i j:Nat}(hi:i<listed.size):(listed.setIfInBounds i true).getD j false=(if i=j then true else listed.getD j false):=by
 simp only[Xcg,Xex];split
 .simp[hi]
 .rfl
theorem WpQ{listed:Array Bool}{i:Nat}(hi:i<listed.size):listed.getD i true=listed.getD i false:=by
 simp[hi]
theorem WkS{o:Oper}{e:Edge}(he:e∈o.after)(hb:Region.binds .any e=true):e.on∈WjE o:=
 Xu.2 ⟨e,Xax.2 ⟨by simpa using he,hb⟩,rfl⟩
theorem Wlz{ops:Array Oper}(hb:∀(k:Nat) (o:Oper),ops[k]?=some o->∀d∈WjE o,d<k):∀(fuel t:Nat) (listed:Array Bool),listed.size=ops.size->(unl ops listed).length<=fuel->
  (Region.linearise.go .any ops fuel t listed []).Nodup/\
  (∀i,i∈Region.linearise.go .any ops fuel t listed []↔i∈unl ops listed)/\
  (∀p i s,Region.linearise.go .any ops fuel t listed []=p++i::s->∀o,ops[i]?=some o->∀e∈o.after,Region.binds .any e=true->listed.getD e.on false=true\/e.on∈p)
 |0,t,listed,hs,hlen=>by
  have:unl ops listed= []:=Xx (by omega);simp only[Region.linearise.go,List.reverse_nil,this];exact⟨by simp,by simp,λp i s h=>by simp at h⟩
 |fuel+1,t,listed,hs,hlen=>by
  have jt:Region.linearise.go .any ops (fuel+1) t listed []=match(Region.ready .any ops listed)[t%(Region.ready .any ops listed).length]? with
   |some i=>Region.linearise.go .any ops fuel (t/(Region.ready .any ops listed).length) (listed.setIfInBounds i true) [i]
   |none=>[]:=rfl
  rw[jt];cases hi:(Region.ready .any ops listed)[t%(Region.ready .any ops listed).length]? with
  |none=>
   have bo:Region.ready .any ops listed= []:=by
    cases hr:Region.ready .any ops listed with
    |nil=>rfl
    |cons x xs=>
     rw[hr]at hi;have hlt:t%(x::xs).length<(x::xs).length:=Nat.mod_lt _ (by simp);simp at hi;simp at hlt;omega
   have hu:unl ops listed= []:=by
    have key:∀n i,i<=n->i∉unl ops listed:=by
     intro n
     induction n with
     |zero=>
      intro i gP hm;obtain⟨h1,h2⟩:=WdO.1 hm;have:i∈Region.ready .any ops listed:=by
       rw[mem_ready];refine⟨h2,ops[i],Xdg h1,λe he km=>?_⟩;have:=hb i _ (Xdg h1) e.on (WkS he km);omega
      rw[bo]at this;cases this
     |succ n ih=>
      intro i gP hm;obtain⟨h1,h2⟩:=WdO.1 hm;have:i∈Region.ready .any ops listed:=by
       rw[mem_ready];refine⟨h2,ops[i],Xdg h1,λe he km=>?_⟩;have hlt:=hb i _ (Xdg h1) e.on (WkS he km);have gv:=ih e.on (by omega);have h3:e.on<ops.size:=by omega
       cases h4:listed.getD e.on true with
       |false=>exact absurd (WdO.2 ⟨h3,h4⟩) gv
       |true=>rw[←WpQ (by omega)];exact h4
      rw[bo]at this;cases this
    exact Xes.2 λi=>key i i (Xl _)
   rw[hu];exact⟨Xcw,λ_=>Iff.rfl,λp i s h=>by simp at h⟩
  |some i=>
   have uD:=Xar hi;obtain⟨h1,o,ho,h3⟩:=mem_ready.1 uD;have ni:i<ops.size:=(Xdc.1 ho).1;have uE:i∈unl ops listed:=WdO.2 ⟨ni,h1⟩;simp only[];rw[linearise_go_acc,List.reverse_singleton,List.singleton_append];have gq:(unl ops (listed.setIfInBounds i true)).length<=fuel:=by
    have:(unl ops (listed.setIfInBounds i true)).length<(unl ops listed).length:=by
     refine Wek _ (λx _ hx=>?_) ⟨i,Xed.2 ni,by simpa using h1,by rw[WhJ];simp⟩;rw[WhJ]at hx;split at hx
     .simp at hx
     .exact hx
    omega
   obtain⟨g1,g2,g3⟩:=Wlz hb fuel (t/(Region.ready .any ops listed).length) (listed.setIfInBounds i true) (by simp[hs]) gq;have hmem:∀j,j∈unl ops (listed.setIfInBounds i true)↔j∈unl ops listed/\j≠i:=λj=>by
    rw[WdO,WdO,WhJ];constructor
    .rintro⟨q1,q2⟩;split at q2
     .cases q2
     .rename_i hne;exact⟨⟨q1,q2⟩,λe=>hne e.symm⟩
    .rintro⟨⟨q1,q2⟩,hne⟩;exact⟨q1,by rw[if_neg (λe=>hne e.symm)];exact q2⟩
   refine⟨Xae.2 ⟨λhm=>?_,g1⟩,λj=>?_,λp j s e o' gm ed mc km=>?_⟩
   .exact((hmem i).1 ((g2 i).1 hm)).2 rfl
   .rw[Xm,g2,hmem];constructor
    .rintro(rfl|h)
     .exact uE
     .exact h.1
    .intro h;by_cases he:j=i
     .exact .inl he
     .exact .inr ⟨h,he⟩
   .cases p with
    |nil=>
     simp only[Xbv,List.cons.injEq]at e;obtain⟨rfl,_⟩:=e;rw[ho]at gm;injection gm with gm;subst gm;exact .inl (h3 ed mc km)
    |cons x p=>
     simp only[Xaw,List.cons.injEq]at e;obtain⟨rfl,e⟩:=e;rcases g3 p j s e o' gm ed mc km with h|h
     .rw[Wnm (by omega)]at h;split at h
      .rename_i he;exact .inr (by rw[he];simp)
      .exact .inl h
     .exact .inr (Xe _ h)
theorem WfI{ops:Array Oper}{t:Nat}(hb:∀(k:Nat) (o:Oper),ops[k]?=some o->∀d∈WjE o,d<k):Order ops (Region.linearise .any ops t):=by
 have hu:∀i,i∈unl ops (Xdz ops.size false)↔i<ops.size:=λi=>by
  rw[WdO];constructor
  .exactλh=>h.1
  .exactλh=>⟨h,by simp[h]⟩
 obtain⟨h1,h2,h3⟩:=Wlz hb ops.size t (Xdz ops.size false) (by simp) (by
  have:=Xen (λi=>!(Xdz ops.size false).getD i true) (Xdf ops.size);rw[Xfd]at this;exact this)
 refine⟨h1,λi=>by unfold Region.linearise;rw[h2,hu],λp i s e o ho d hd=>?_⟩;unfold WjE at hd;obtain⟨ed,mc,rfl⟩:=Xu.1 hd;obtain⟨mc,km⟩:=Xax.1 mc;rcases h3 p i s e o ho ed (by simpa using mc) km with h|h
 .exfalso;rw[Xcg,Array.getElem?_replicate]at h;split at h<;>simp at h
 .exact h
theorem Wgv{ops:Array Oper}{t:Nat}(hb:∀(k:Nat) (o:Oper),ops[k]?=some o->∀d∈WjE o,d<k):Order ops (Region.schedule true ops t):=by
 unfold Region.schedule;rw[if_pos (by simp)];exact WfI hb
end Go.Sx
namespace Go.Sx
set_option linter.unusedVariables false
set_option linter.unusedSimpArgs false
def Wm9(n:Nat)(kept:List Nat)(o:Oper):Bool:=match o.dst with
 |some d=>Nat.blt d n&& !Wba d kept
 |none=>true
def Wcd(n:Nat)(kept:List Nat):Code->Bool
 | .region _ ops _=>ops.toList.all (Wm9 n kept)
 | .seq a b=>Wcd n kept a&&Wcd n kept b
 | .cond _ x y=>Wcd n kept x&&Wcd n kept y
 | .block _ c=>Wcd n kept c
 | .loop c=>Wcd n kept c
 |_=>true
theorem Wkt{nt:Slots}{n:Nat}{kept:List Nat}(hn:nt.n=n)(hk:∀p∈nt.kept,p.1∈kept){o:Oper}(h:Wm9 n kept o=true):∀d,o.dst=some d->nt.Ok d:=λd hd=>by
 unfold Wm9 at h;rw[hd]at h;simp only[Xi,Xam]at h;refine⟨by have h1:=h.1;rw[Xgr]at h1;rw[hn];exact h1,λp hp e=>?_⟩;have:=hk p hp;rw[e]at this;rw[(Waf d kept).2 this]at h;exact absurd h.2 (by simp)
def Ex.to:Ex->Exit
 | .normal=>.normal
 | .exit id=>.exit id
 | .ret=>.ret
section
variable{w0:World}{F:CS}{nt:Slots}{G0:GH}{P:Program}{T:Tab}{Γ:Ctx}{A:List (Nat×An)}{R:Type}{r:R}
def WnG(w0:World)(F:CS)(nt:Slots)(G0:GH)(k:St->Option R)(r:R)(K:Act->World->Prop):Prop:=
 ∀st a w G ν,Rel w0 F nt G0 G ν st a w->k st=some r->K a w
theorem WkG{G:GH}{ν:Nat->Nu}{st:St}{a:Act}{w:World}(hr:Rel w0 F nt G0 G ν st a w){ops:Array Oper}{j:Nat}{t:Tmp}(ht:(ops[j]?).bind (·.dst)=some t){b:Bool}(hb:(Wc st.env t).bind asB=some b):
  a.tmps[t]?=some (.bool b)/\yielded ops a.tmps j=some b:=by
 cases hl:Wc st.env t with
 |none=>simp[hl]at hb
 |some x=>
  simp only[hl,Xd]at hb;obtain⟨v,hv,hx⟩:=hr.env t x hl;have:=Wj2 x v b hx hb;subst this;refine⟨hv,?_⟩;unfold yielded;rw[ht];simp[hv]
theorem Wpz(hT:WW P T)(hΓ:Wdv P Γ){ops:Array Oper}{o:Oper}(hd:∀d,o.dst=some d->nt.Ok d){k:St->Option R}{K:Act->World->Prop}{Q:Exit->Act->World->Prop}(hK:WnG w0 F nt G0 k r K)
  {st:St} {a:Act} {w:World} {G:GH} {ν:Nat->Nu} (hr:Rel w0 F nt G0 G ν st a w) (h:rxg T Γ A ops o st k=some r):
  if Region.wanted o (yielded ops a.tmps)then o.wp P a w K Q else K (a.put o.dst undef) w:=by
 unfold rxg at h;have fL:∀af,Rel w0 F nt G0 G ν af a w->Rel w0 F nt G0 G ν (af.put o.dst (.tup [])) (a.put o.dst undef) w:=λaf aS=>
  aS.put hd ⟨[],rfl,rfl,λj x v hj=>by simp at hj⟩
 have dh:∀b:Bool,AValRel G ν st.nx (one .bool b) (.bool b):=λb=>Ws (t:=.bool) (d:=b) (v:=.bool b) rfl;split at h
 .rename_i hg;simp only[Region.wanted,hg,if_true];exact Wn4 hT hΓ hr hd h (λaf a' w' G' ν' aS hk=>hK _ _ _ _ _ aS hk)
 .rename_i j want hg;split at h
  .rename_i t ht;split at h
   .rename_i hl;obtain⟨v,hv,hx⟩:=hr.env t _ hl;have iB:v=undef:=by
     obtain⟨vs,h1,h2,_⟩:=hx;rw[h1,Xx h2];rfl
    subst iB;have hy:yielded ops a.tmps j=none:=by
     unfold yielded;rw[ht];simp only[Xd,hv];rfl
    simp only[Region.wanted,hg,hy];rw[if_neg (by simp)];exact hK _ _ _ _ _ (fL _ hr) h
   .rename_i x _ hl;split at h
    .rename_i b hb;obtain⟨hv,hy⟩:=WkG hr ht (b:=b) (by rw[hl];exact hb);simp only[Region.wanted,hg,hy];have md:=hr.rebind hv (dh b);cases b with
     |true=>
      simp only[cond_true]at h;cases want with
      |true=>
       simp only[if_true]at h;simp only[beq_self_eq_true,if_true];exact Wn4 hT hΓ md hd h (λaf a' w' G' ν' aS hk=>hK _ _ _ _ _ aS hk)
      |false=>
       simp only[Xby,if_false]at h;rw[if_neg (by simp)];exact hK _ _ _ _ _ (fL _ md) h
     |false=>
      simp only[cond_false]at h;cases want with
      |true=>
       simp only[if_true]at h;rw[if_neg (by simp)];exact hK _ _ _ _ _ (fL _ md) h
      |false=>
       simp only[Xby,if_false]at h;simp only[beq_self_eq_true,if_true];exact Wn4 hT hΓ md hd h (λaf a' w' G' ν' aS hk=>hK _ _ _ _ _ aS hk)
    .cases h
   .cases h
  .cases h
theorem WpE(hT:WW P T)(hΓ:Wdv P Γ){ops:Array Oper}:∀(l:List Oper),(∀o∈l,∀d,o.dst=some d->nt.Ok d)->∀{k:St->Option R} {Q:Exit->Act->World->Prop},WnG w0 F nt G0 k r (Q .normal)->
  WnG w0 F nt G0 (λst=>rxs T Γ A ops l st k) r (wpList P ops Q l)
 | [],_,k,Q,hK=>λst a w G ν hr h=>hK st a w G ν hr h
 |o::l,hd,k,Q,hK=>λst a w G ν hr h=>by
  have ih:=WpE (ops:=ops) hT hΓ l (λo ho=>hd o (Xe _ ho)) hK;have h:rxg T Γ A ops o st (λaf=>match opG A o af with
   |some (c,bI)=>bif c then rxs T Γ A ops l bI k else none
   |none=>none)=some r:=h
  have uF:WnG w0 F nt G0 (λaf=>match opG A o af with
   |some (c,bI)=>bif c then rxs T Γ A ops l bI k else none
   |none=>none) r (wpList P ops Q l):=λcW a1 w1 G1 ν1 fM h1=>by
   have h1:(match opG A o cW with
    |some (c,bI)=>bif c then rxs T Γ A ops l bI k else none
    |none=>none)=some r:=h1
   split at h1
   .rename_i c ai hg;obtain⟨rfl,h1⟩:=Wac h1;have:∃G' ν',Rel w0 F nt G0 G' ν' ai a1 w1:=by
     unfold opG at hg;split at hg
     .split at hg
      .injection hg with hg;injection hg with _ hg;subst hg;exact⟨G1,ν1,fM⟩
      .exact WiX fM hg
     .injection hg with hg;injection hg with _ hg;subst hg;exact⟨G1,ν1,fM⟩
     .injection hg with hg;injection hg with _ hg;subst hg;exact⟨G1,ν1,fM⟩
     .injection hg with hg;injection hg with _ hg;subst hg;exact⟨G1,ν1,fM⟩
     .injection hg with hg;injection hg with _ hg;subst hg;exact⟨G1,ν1,fM⟩
    obtain⟨G2,ν2,eT⟩:=this;exact ih ai a1 w1 G2 ν2 eT h1
   .cases h1
  have:=Wpz hT hΓ (hd o (Xh ..)) (Q:=Q) uF hr h;unfold wpList;split
  .rename_i hw;rw[if_pos hw]at this;exact .inl this
  .rename_i hw;rw[if_neg hw]at this;exact this
end
end Go.Sx
namespace Go.Sx
set_option linter.unusedVariables false
set_option linter.unusedSimpArgs false
section
variable{T:Tab}{Γ:Ctx}{A:List (Nat×An)}{ops:Array Oper}
theorem WhE{R:Type}(o:Oper)(st:St)(k:St->Option R):rx1 T Γ A o st k=(rx1 T Γ A o st some).bind k:=by
 unfold rx1;rw[Wem,Wem o st (λx objs nx=>some _),Xgh];rfl
theorem Wor{R:Type}(o:Oper)(st:St)(k:St->Option R):rxg T Γ A ops o st k=(rxg T Γ A ops o st some).bind k:=by
 unfold rxg;cases o.guard with
 |none=>exact WhE o st k
 |some g=>
  obtain⟨j,want⟩:=g;simp only;cases(ops[j]?).bind (·.dst)with
  |none=>rfl
  |some t=>
   simp only;cases Wc st.env t with
   |none=>rfl
   |some x=>
    have main:(match asB x with
      |some b=>bif b
       then(if want then rx1 T Γ A o (st.put (some t) (one .bool true)) k else k ((st.put (some t) (one .bool true)).put o.dst (.tup [])))
       else(if want then k ((st.put (some t) (one .bool false)).put o.dst (.tup []))else rx1 T Γ A o (st.put (some t) (one .bool false)) k)
      |none=>none)=(match asB x with
      |some b=>bif b
       then(if want then rx1 T Γ A o (st.put (some t) (one .bool true)) some else some ((st.put (some t) (one .bool true)).put o.dst (.tup [])))
       else(if want then some ((st.put (some t) (one .bool false)).put o.dst (.tup []))else rx1 T Γ A o (st.put (some t) (one .bool false)) some)
      |none=>none).bind k:=by
     cases asB x with
     |none=>rfl
     |some b=>
      cases b<;>cases want
      .exact WhE _ _ _
      .rfl
      .rfl
      .exact WhE _ _ _
    cases x with
    |s y=>exact main
    |tup l=>
     cases l with
     |nil=>rfl
     |cons y l=>exact main
theorem WlC{R:Type}{o:Oper}{st:St}{k:St->Option R}{r:R}(h:rxg T Γ A ops o st k=some r):∃af,rxg T Γ A ops o st some=some af/\k af=some r:=by
 rw[Wor]at h;exact Xbp.1 h
structure Eff(o:Oper)(v:AVal)(pre:WS)(ah:Nat)(st af:St):Prop where
 env:∀t,Wc af.env t=if o.dst=some t then some v else Wc st.env t
 objs:af.objs=pre++st.objs
 nx:af.nx=ah
theorem WbY(st:St)(dst:Option Tmp)(x:AVal)(t:Nat):Wc (st.put dst x).env t=if dst=some t then some x else Wc st.env t:=by
 cases dst with
 |none=>simp[St.put]
 |some d=>
  simp only[St.put];rw[Wl];by_cases h:d=t
  .subst h;simp
  .rw[if_neg h,if_neg (by simpa using h)]
theorem Wdh{st ai:St}{x:Operand}(h:∀t∈WmL x,Wc ai.env t=Wc st.env t):ev ai x=ev st x:=by
 cases x with
 |tmp t=>exact h t (by simp[WmL])
 |_=>rfl
theorem WeS{st:St}{x:Operand}{v:AVal}:∀(l:List Operand),x∈l->ev st x=some v->∀id∈Wap v,id∈WcT st l
 | [],h,_,_,_=>by cases h
 |y::l,h,hv,id,bg=>by
  simp only[WcT];rcases Xm.1 h with rfl|h
  .rw[hv];exact Xj _ bg
  .split
   .exact Xg _ (WeS l h hv id bg)
   .exact WeS l h hv id bg
theorem WeB{st ai:St}:∀(l:List Operand),(∀x∈l,ev ai x=ev st x)->WcT ai l=WcT st l
 | [],_=>rfl
 |x::l,h=>by simp only[WcT,h x (Xh ..),WeB l λy hy=>h y (Xe _ hy)]
theorem Wm8{o:Oper}{st af ai:St}(h:rx1 T Γ A o st some=some af)(he:∀x∈WR o.op,ev ai x=ev st x)
  (hm:Wag o=true->ai.objs=st.objs/\ai.nx=st.nx) (hf:Wag o=false->∀id∈WbM o st,Wc ai.objs id=Wc st.objs id):
  ∃v pre ah,Eff o v pre ah st af/\(Wag o=false->pre= []/\ah=st.nx)/\
   ∃bp,rx1 T Γ A o ai some=some bp/\(Wag o=true->Eff o v pre ah ai bp)/\(Wag o=false->Eff o v [] ai.nx ai bp):=by
 unfold rx1 at*;rw[Wem]at h;obtain⟨⟨v,objs',ah⟩,h1,h2⟩:=Xbp.1 h;injection h2 with h2;subst h2;cases db:Wag o with
 |true=>
  obtain⟨e1,e2⟩:=hm db;obtain⟨pre,rfl⟩:=WlJ o st v objs' ah h1;refine⟨v,pre,ah,⟨λt=>WbY _ _ _ _,by cases o.dst<;>rfl,by cases o.dst<;>rfl⟩,by simp,?_⟩;have h3:rxe T Γ A o ai WbQ=some (v,pre++st.objs,ah):=by
   obtain⟨qa,se,nx2⟩:=ai;simp only at e1 e2;subst e1 e2;rw[WmT o (env:=qa) (st:=st) WbQ he];exact h1
  refine⟨_,?_,λ_=>⟨λt=>WbY (⟨ai.env,pre++st.objs,ah⟩) o.dst v t,?_,?_⟩,by simp⟩
  .rw[Wem,h3];rfl
  .rw[e1];cases o.dst<;>rfl
  .cases o.dst<;>rfl
 |false=>
  rw[Wjc db]at h1;obtain⟨u,h3,h4⟩:=Xbp.1 h1;injection h4 with h4;have e1:u=v:=congrArg (λp:Out=>p.1) h4;have e2:st.objs=objs':=congrArg (λp:Out=>p.2.1) h4;have e3:st.nx=ah:=congrArg (λp:Out=>p.2.2) h4;subst e1 e2 e3;refine⟨u,[],st.nx,⟨λt=>WbY _ _ _ _,by cases o.dst<;>rfl,by cases o.dst<;>rfl⟩,by simp,?_⟩;have h5:Wpp T o ai=some u:=by
   rw[←h3];refine Wme db he λuG x hx v hv id bg=>hf db id ?_;unfold WbM;rw[uG];exact WeS _ hx hv id bg
  refine⟨_,?_,by simp,λ_=>⟨λt=>WbY (⟨ai.env,ai.objs,ai.nx⟩) o.dst u t,?_,?_⟩⟩
  .rw[Wem,Wjc db,h5];rfl
  .cases o.dst<;>rfl
  .cases o.dst<;>rfl
theorem Wqm{x:AVal}{b:Bool}(h:asB x=some b):x=one .bool b:=by
 unfold asB at h;split at h
 .injection h with h;subst h;rfl
 .cases h
theorem Wcm{st:St}{t:Nat}{x:AVal}(h:Wc st.env t=some x)(t':Nat):Wc (st.put (some t) x).env t'=Wc st.env t':=by
 rw[WbY];split
 .rename_i e;injection e with e;subst e;exact h.symm
 .rfl
theorem Wcs(st:St)(d:Option Tmp)(x:AVal):(st.put d x).objs=st.objs:=by cases d<;>rfl
theorem Wf6(st:St)(d:Option Tmp)(x:AVal):(st.put d x).nx=st.nx:=by cases d<;>rfl
theorem Wey{o:Oper}{st ai:St}(h:∀x∈WR o.op,ev ai x=ev st x):WbM o ai=WbM o st:=by
 unfold WbM;rw[WeB _ h]
theorem Wnq{o:Oper}{st af ai:St}(h:rxg T Γ A ops o st some=some af)(he:∀t∈Wb7 ops o,Wc ai.env t=Wc st.env t)
  (hm:Wag o=true->ai.objs=st.objs/\ai.nx=st.nx) (hf:Wag o=false->∀id∈WbM o st,Wc ai.objs id=Wc st.objs id):
  ∃v pre ah,Eff o v pre ah st af/\(Wag o=false->pre= []/\ah=st.nx)/\
   ∃bp,rxg T Γ A ops o ai some=some bp/\(Wag o=true->Eff o v pre ah ai bp)/\(Wag o=false->Eff o v [] ai.nx ai bp):=by
 have sf:∀x∈WR o.op,ev ai x=ev st x:=λx hx=>Wdh λt ht=>he t (by
  unfold Wb7;exact Xj _ (Xfi.2 ⟨x,hx,ht⟩))
 unfold rxg at h⊢;cases hg:o.guard with
 |none=>
  rw[hg]at h;exact Wm8 h sf hm hf
 |some g=>
  obtain⟨j,want⟩:=g;rw[hg]at h;simp only at h⊢;cases ht:(ops[j]?).bind (·.dst)with
  |none=>rw[ht]at h;cases h
  |some t=>
   rw[ht]at h;simp only at h⊢;have gw:Wc ai.env t=Wc st.env t:=he t (by
    unfold Wb7;refine Xg _ ?_;rw[hg];simp only;rw[ht];simp)
   rw[gw];cases hx:Wc st.env t with
   |none=>rw[hx]at h;cases h
   |some x=>
    rw[hx]at h;have skip:∀(s s2:St) (s':St),some (s.put o.dst (.tup []))=some s'->(∀t,Wc s.env t=Wc st.env t)->s.objs=st.objs->s.nx=st.nx->(∀t,Wc s2.env t=Wc ai.env t)->s2.objs=ai.objs->s2.nx=ai.nx->
      ∃v pre ah,Eff o v pre ah st s'/\(Wag o=false->pre= []/\ah=st.nx)/\
       ∃bp,some (s2.put o.dst (.tup []))=some bp/\(Wag o=true->Eff o v pre ah ai bp)/\(Wag o=false->Eff o v [] ai.nx ai bp):=by
     intro s s2 s' hs a1 a2 a3 b1 b2 b3;injection hs with hs;subst hs;refine⟨.tup [],[],st.nx,⟨λt=>?_,by rw[Wcs,a2];rfl,by rw[Wf6,a3]⟩,λ_=>⟨rfl,rfl⟩,_,rfl,λdb=>⟨λt=>?_,by rw[Wcs,b2];rfl,by rw[Wf6,b3];exact(hm db).2⟩,λ_=>⟨λt=>?_,by rw[Wcs,b2];rfl,by rw[Wf6,b3]⟩⟩
     .rw[WbY,a1]
     .rw[WbY,b1]
     .rw[WbY,b1]
    have doit:∀b:Bool,x=one .bool b->rx1 T Γ A o (st.put (some t) (one .bool b)) some=some af->
      ∃v pre ah,Eff o v pre ah st af/\(Wag o=false->pre= []/\ah=st.nx)/\
       ∃bp,rx1 T Γ A o (ai.put (some t) (one .bool b)) some=some bp/\(Wag o=true->Eff o v pre ah ai bp)/\(Wag o=false->Eff o v [] ai.nx ai bp):=by
     intro b hb h1;subst hb;have l1:=Wcm hx;have l2:=Wcm (st:=ai) (t:=t) (x:=one .bool b) (by rw[gw];exact hx);have nj:∀x∈WR o.op,ev (st.put (some t) (one .bool b)) x=ev st x:=λx hx=>Wdh λt' _=>l1 t';have qb:∀x∈WR o.op,ev (ai.put (some t) (one .bool b)) x=ev ai x:=λx hx=>Wdh λt' _=>l2 t';obtain⟨v,pre,ah,e1,e2,bp,e3,e4,e5⟩:=Wm8 (ai:=ai.put (some t) (one .bool b)) h1 (λx hx=>by rw[qb x hx,nj x hx,sf x hx])
      (λdb=>hm db) (λdQ id bg=>hf dQ id (by rw[←Wey nj];exact bg))
     refine⟨v,pre,ah,⟨λt'=>by rw[e1.env,l1],e1.objs,e1.nx⟩,e2,bp,e3,λdb=>⟨λt'=>by rw[(e4 db).env,l2],(e4 db).objs,(e4 db).nx⟩,λdb=>⟨λt'=>by rw[(e5 db).env,l2],(e5 db).objs,(e5 db).nx⟩⟩
    have main:(match asB x with
      |some b=>bif b
       then(if want then rx1 T Γ A o (st.put (some t) (one .bool true)) some else some ((st.put (some t) (one .bool true)).put o.dst (.tup [])))
       else(if want then some ((st.put (some t) (one .bool false)).put o.dst (.tup []))else rx1 T Γ A o (st.put (some t) (one .bool false)) some)
      |none=>none)=some af->∃v pre ah,Eff o v pre ah st af/\(Wag o=false->pre= []/\ah=st.nx)/\
       ∃bp,(match asB x with
      |some b=>bif b
       then(if want then rx1 T Γ A o (ai.put (some t) (one .bool true)) some else some ((ai.put (some t) (one .bool true)).put o.dst (.tup [])))
       else(if want then some ((ai.put (some t) (one .bool false)).put o.dst (.tup []))else rx1 T Γ A o (ai.put (some t) (one .bool false)) some)
      |none=>none)=some bp/\(Wag o=true->Eff o v pre ah ai bp)/\(Wag o=false->Eff o v [] ai.nx ai bp):=by
     intro h;cases hb:asB x with
     |none=>rw[hb]at h;cases h
     |some b=>
      rw[hb]at h;have dh:=Wqm hb;have r1:∀b',b'=b->∀t',Wc (st.put (some t) (one .bool b')).env t'=Wc st.env t':=λb' e=>by subst e;exact Wcm (by rw[hx,dh])
      have r2:∀b',b'=b->∀t',Wc (ai.put (some t) (one .bool b')).env t'=Wc ai.env t':=λb' e=>by subst e;exact Wcm (by rw[gw,hx,dh])
      cases b<;>cases want
      .exact doit false dh h
      .exact skip _ _ _ h (r1 _ rfl) (Wcs _ _ _) (Wf6 _ _ _) (r2 _ rfl) (Wcs _ _ _) (Wf6 _ _ _)
      .exact skip _ _ _ h (r1 _ rfl) (Wcs _ _ _) (Wf6 _ _ _) (r2 _ rfl) (Wcs _ _ _) (Wf6 _ _ _)
      .exact doit true dh h
    cases x with
    |s y=>exact main h
    |tup l=>
     cases l with
     |nil=>exact skip st ai af h (λ_=>rfl) rfl rfl (λ_=>rfl) rfl rfl
     |cons y l=>exact main h
end
end Go.Sx
namespace Go.Sx
set_option linter.unusedVariables false
set_option linter.unusedSimpArgs false
structure Rc where
 i:Nat
 v:AVal
 pre:WS
 nx:Nat
 ids:List Nat
 mv:Bool
section
variable{T:Tab}{Γ:Ctx}{A:List (Nat×An)}{ops:Array Oper}
structure StepTo(T:Tab)(Γ:Ctx)(A:List (Nat×An))(ops:Array Oper)(ρ:Rc)(o:Oper)(st af:St):Prop where
 at_:ops[ρ.i]?=some o
 isM:ρ.mv=Wag o
 lk:ρ.mv=false->ρ.ids=WbM o st
 run:rxg T Γ A ops o st some=some af
 env:∀t,Wc af.env t=if o.dst=some t then some ρ.v else Wc st.env t
 objs:af.objs=if ρ.mv then ρ.pre++st.objs else st.objs
 nx:af.nx=if ρ.mv then ρ.nx else st.nx
def Wqb(T:Tab)(Γ:Ctx)(A:List (Nat×An))(ops:Array Oper):List Rc->St->St->Prop
 | [],st,af=>st=af
 |ρ::l,st,af=>∃o cW,StepTo T Γ A ops ρ o st cW/\Wqb T Γ A ops l cW af
theorem Wod{i:Nat}{o:Oper}{st af:St}(hi:ops[i]?=some o)(h:rxg T Γ A ops o st some=some af):
  ∃ρ:Rc,ρ.i=i/\StepTo T Γ A ops ρ o st af:=by
 obtain⟨v,pre,ah,e1,e2,_⟩:=Wnq (ai:=st) h (λ_ _=>rfl) (λ_=>⟨rfl,rfl⟩) (λ_ _ _=>rfl);refine⟨⟨i,v,pre,ah,WbM o st,Wag o⟩,rfl,hi,rfl,λ_=>rfl,h,e1.env,?_,?_⟩
 .simp only;cases hm:Wag o with
  |true=>simpa using e1.objs
  |false=>rw[e1.objs,(e2 hm).1];rfl
 .simp only;cases hm:Wag o with
  |true=>simpa using e1.nx
  |false=>rw[e1.nx,(e2 hm).2];rfl
theorem StepTo.move{ρ:Rc}{o:Oper}{st af ai:St}(h:StepTo T Γ A ops ρ o st af)(he:∀t∈Wb7 ops o,Wc ai.env t=Wc st.env t)
  (hm:ρ.mv=true->ai.objs=st.objs/\ai.nx=st.nx) (hf:ρ.mv=false->∀id∈ρ.ids,Wc ai.objs id=Wc st.objs id):
  ∃bp,StepTo T Γ A ops ρ o ai bp:=by
 obtain⟨v,pre,ah,e1,e2,bp,e3,e4,e5⟩:=Wnq (ai:=ai) h.run he (λdb=>hm (by rw[h.isM];exact db)) (λdQ id bg=>hf (by rw[h.isM];exact dQ) id (by rw[h.lk (by rw[h.isM];exact dQ)];exact bg));have hv:∀t,o.dst=some t->v=ρ.v:=λt ht=>by
  have a:=e1.env t;have b:=h.env t;rw[if_pos ht]at a b;rw[a]at b;injection b
 have pC:ρ.mv=false->WbM o ai=WbM o st:=λ_=>Wey λx hx=>Wdh λt ht=>he t (by
  unfold Wb7;exact Xj _ (Xfi.2 ⟨x,hx,ht⟩))
 cases db:Wag o with
 |true=>
  have hρ:ρ.mv=true:=by rw[h.isM];exact db
  have e4:=e4 db;obtain⟨q1,q2⟩:=hm hρ;refine⟨bp,h.at_,h.isM,λhf=>(by rw[hρ]at hf;cases hf),e3,λt=>?_,?_,?_⟩
  .rw[e4.env];split
   .rename_i ht;rw[hv t ht]
   .rfl
  .rw[e4.objs,hρ];simp only[if_true];have a:=e1.objs;have b:=h.objs;rw[hρ]at b;simp only[if_true]at b;rw[a]at b;rw[List.append_cancel_right b]
  .rw[e4.nx,hρ];simp only[if_true];have a:=e1.nx;have b:=h.nx;rw[hρ]at b;simp only[if_true]at b;rw[←a,b]
 |false=>
  have hρ:ρ.mv=false:=by rw[h.isM];exact db
  have e5:=e5 db;refine⟨bp,h.at_,h.isM,λhf=>by rw[pC hρ];exact h.lk hρ,e3,λt=>?_,?_,?_⟩
  .rw[e5.env];split
   .rename_i ht;rw[hv t ht]
   .rfl
  .rw[e5.objs,hρ];rfl
  .rw[e5.nx,hρ];rfl
def Wox(ids:List Nat)(pre:WS):Prop:=∀id∈ids,id∉We4 pre
def Wq0(B:List (List Nat))(x y:Rc):Prop:=
 (x.mv=false->y.mv=true->WbW B x.i y.i=true\/Wox x.ids y.pre)/\
 (x.mv=true->y.mv=false->WbW B x.i y.i=true\/Wox y.ids x.pre)
theorem Wc0{α:Type}:∀(l:List Nat) (k:List Nat->α),Weq l k=k l
 | [],_=>rfl
 |x::l,k=>by rw[Weq,Wc0 l]
theorem WiC{α:Type}:∀(l:List (List Nat)) (k:List (List Nat)->α),WkM l k=k l
 | [],_=>rfl
 |x::l,k=>by rw[WkM,Wc0,WiC l]
theorem Whe{ids:List Nat}{pre:WS}(h:WeT ids (We4 pre)=true):Wox ids pre:=λid bg hk=>by
 unfold WeT at h;have:=Xai.1 h id bg;rw[(Waf id _).2 hk]at this;cases this
theorem WlZ(pre objs:WS):Wnp objs (pre++objs)=We4 pre:=by
 unfold Wnp;simp
theorem Wh0{B:List (List Nat)}{R:Type}{k:St->Option R}{r:R}:∀(l:List Nat) (fl mu:List (Nat×List Nat)) (st:St),rdx T Γ A ops B l fl mu st k=some r->
  ∃(rs:List Rc) (af:St),rs.map (·.i)=l/\Wqb T Γ A ops rs st af/\k af=some r/\rs.Pairwise (Wq0 B)/\
   (∀p∈fl,∀ρ∈rs,ρ.mv=true->WbW B p.1 ρ.i=true\/Wox p.2 ρ.pre)/\
   (∀p∈mu,∀ρ∈rs,ρ.mv=false->WbW B p.1 ρ.i=true\/WeT ρ.ids p.2=true)
 | [],fl,mu,st,h=>⟨[],st,rfl,rfl,h,List.Pairwise.nil,by simp,by simp⟩
 |i::l,fl,mu,st,h=>by
  simp only[rdx]at h;cases ho:ops[i]? with
  |none=>rw[ho]at h;cases h
  |some o=>
   rw[ho]at h;simp only at h;cases hm:Wag o with
   |true=>
    simp only[hm,cond_true]at h;obtain⟨cW,h1,h2⟩:=WlC h;rw[Wc0]at h2;obtain⟨iD,h2⟩:=Wac h2;obtain⟨ρ,hi,hs⟩:=Wod ho h1;have hρ:ρ.mv=true:=by rw[hs.isM];exact hm
    have ax:=hs.objs;rw[hρ]at ax;simp only[if_true]at ax;rw[ax,WlZ]at iD h2;obtain⟨rs,af,q1,q2,q3,q4,q5,q6⟩:=Wh0 l _ _ _ h2;refine⟨ρ::rs,af,by simp[hi,q1],⟨o,cW,hs,q2⟩,q3,List.Pairwise.cons (λy hy=>⟨λhf=>(by rw[hρ]at hf;cases hf),λ_ kR=>?_⟩) q4,λp hp y hy kS=>?_,λp hp y hy kR=>?_⟩
    .rcases q6 (i,We4 ρ.pre) (Xh ..) y hy kR with h|h
     .rw[hi];exact .inl h
     .exact .inr (Whe h)
    .rcases Xm.1 hy with rfl|hy
     .have:=Xai.1 iD p hp;rw[Xch]at this;rw[hi];exact this.imp id Whe
     .exact q5 p hp y hy kS
    .rcases Xm.1 hy with rfl|hy
     .rw[hρ]at kR;cases kR
     .exact q6 p (Xe _ hp) y hy kR
   |false=>
    simp only[hm,cond_false]at h;rw[Wc0]at h;obtain⟨iD,h⟩:=Wac h;obtain⟨cW,h1,h2⟩:=WlC h;obtain⟨ρ,hi,hs⟩:=Wod ho h1;have hρ:ρ.mv=false:=by rw[hs.isM];exact hm
    have qc:=hs.lk hρ;rw[←qc]at iD h2;obtain⟨rs,af,q1,q2,q3,q4,q5,q6⟩:=Wh0 l _ _ _ h2;refine⟨ρ::rs,af,by simp[hi,q1],⟨o,cW,hs,q2⟩,q3,List.Pairwise.cons (λy hy=>⟨λ_ kS=>?_,λhf=>(by rw[hρ]at hf;cases hf)⟩) q4,λp hp y hy kS=>?_,λp hp y hy kR=>?_⟩
    .rw[hi];exact q5 (i,ρ.ids) (Xh ..) y hy kS
    .rcases Xm.1 hy with rfl|hy
     .rw[hρ]at kS;cases kS
     .exact q5 p (Xe _ hp) y hy kS
    .rcases Xm.1 hy with rfl|hy
     .have:=Xai.1 iD p hp;rw[Xch]at this;rw[hi];exact this
     .exact q6 p hp y hy kR
def WcM(ops:Array Oper)(i:Nat):Option Tmp:=(ops[i]?).bind (·.dst)
def WkQ(ops:Array Oper):List Rc->(Nat->Option AVal)->Nat->Option AVal
 | [],e,t=>e t
 |ρ::a,e,t=>WkQ ops a (λt'=>if WcM ops ρ.i=some t' then some ρ.v else e t') t
def Wfl:List Rc->WS×Nat->WS×Nat
 | [],m=>m
 |ρ::a,m=>Wfl a (if ρ.mv then(ρ.pre++m.1,ρ.nx)else m)
theorem WeO:∀(rs:List Rc) (st af:St),Wqb T Γ A ops rs st af->(∀t,Wc af.env t=WkQ ops rs (Wc st.env) t)/\(af.objs,af.nx)=Wfl rs (st.objs,st.nx)
 | [],st,af,h=>by cases h;exact⟨λ_=>rfl,rfl⟩
 |ρ::rs,st,af,⟨o,cW,hs,h⟩=>by
  obtain⟨h1,h2⟩:=WeO rs cW af h;have e:(Wc cW.env)= λt'=>if WcM ops ρ.i=some t' then some ρ.v else Wc st.env t':=funext λt=>by
   rw[hs.env];unfold WcM;rw[hs.at_];rfl
  refine⟨λt=>by rw[h1,e];rfl,?_⟩;rw[h2,Wfl];congr 1;rw[hs.objs,hs.nx];split<;>rfl
theorem Wg2:∀(a:List Rc) (ρ:Rc) (b:List Rc) (st af:St),Wqb T Γ A ops (a++ρ::b) st af->∃o cW ai,Wqb T Γ A ops a st cW/\StepTo T Γ A ops ρ o cW ai
 | [],ρ,b,st,af,⟨o,cW,hs,h⟩=>⟨o,st,cW,rfl,hs⟩
 |x::a,ρ,b,st,af,⟨o,cW,hs,h⟩=>by
  obtain⟨o',s1,s2,h1,h2⟩:=Wg2 a ρ b cW af h;exact⟨o',s1,s2,⟨o,cW,hs,h1⟩,h2⟩
theorem WaX:∀(a:List Rc) (m:WS×Nat),Wfl a m=Wfl (a.filter (·.mv)) m
 | [],_=>rfl
 |ρ::a,m=>by
  rw[Wfl,WaX a,Xbm];cases h:ρ.mv with
  |true=>simp only[if_true,Wfl,h]
  |false=>simp only[Xby,if_false]
theorem Wcz:∀(a b:List Rc) (m:WS×Nat),Wfl (a++b) m=Wfl b (Wfl a m)
 | [],_,_=>rfl
 |ρ::a,b,m=>by rw[Xaw,Wfl,Wcz a b];rfl
theorem WfT{pre objs:WS}{id:Nat}(h:id∉We4 pre):Wc (pre++objs) id=Wc objs id:=by
 induction pre with
 |nil=>rfl
 |cons p pre ih=>
  obtain⟨j,ob⟩:=p;simp only[We4,Xaj,Xm,not_or]at h;rw[Xaw,Wl,if_neg (λe=>h.1 e.symm)];exact ih h.2
theorem Wgd{id:Nat}:∀(a:List Rc) (m:WS×Nat),(∀ρ∈a,ρ.mv=true->id∉We4 ρ.pre)->Wc (Wfl a m).1 id=Wc m.1 id
 | [],_,_=>rfl
 |ρ::a,m,h=>by
  rw[Wfl,Wgd a _ λx hx=>h x (Xe _ hx)];split
  .rename_i hm;exact WfT (h ρ (Xh ..) hm)
  .rfl
def Wif(ops:Array Oper):Prop:=∀i j t,WcM ops i=some t->WcM ops j=some t->i=j
theorem Web{t:Nat}:∀(a:List Rc) (e:Nat->Option AVal),(∀ρ∈a,WcM ops ρ.i≠some t)->WkQ ops a e t=e t
 | [],_,_=>rfl
 |ρ::a,e,h=>by
  rw[WkQ,Web a _ λx hx=>h x (Xe _ hx),if_neg (h ρ (Xh ..))]
theorem WfS{t:Nat}(h1:Wif ops):∀(a:List Rc) (e:Nat->Option AVal),(a.map (·.i)).Nodup->∀ρ∈a,WcM ops ρ.i=some t->WkQ ops a e t=some ρ.v
 | [],_,_,_,h,_=>by cases h
 |x::a,e,hn,ρ,hρ,ht=>by
  rw[Xaj,Xae]at hn;rw[WkQ];rcases Xm.1 hρ with rfl|hρ
  .rw[Web a _ λy hy uH=>hn.1 (by rw[h1 _ _ _ ht uH];exact Xu.2 ⟨y,hy,rfl⟩),if_pos ht]
  .exact WfS h1 a _ hn.2 ρ hρ ht
theorem WgQ{t:Nat}(h1:Wif ops){a b:List Rc}{e:Nat->Option AVal}(ha:(a.map (·.i)).Nodup)(hb:(b.map (·.i)).Nodup)
  (h:∀ρ,WcM ops ρ.i=some t->(ρ∈a↔ρ∈b)):WkQ ops a e t=WkQ ops b e t:=by
 by_cases hx:∃ρ∈a,WcM ops ρ.i=some t
 .obtain⟨ρ,hρ,ht⟩:=hx;rw[WfS h1 a e ha ρ hρ ht,WfS h1 b e hb ρ ((h ρ ht).1 hρ) ht]
 .rw[Web a e λρ hρ ht=>hx ⟨ρ,hρ,ht⟩,Web b e λρ hρ ht=>hx ⟨ρ,(h ρ ht).2 hρ,ht⟩]
end
end Go.Sx
namespace Go.Sx
set_option linter.unusedVariables false
set_option linter.unusedSimpArgs false
theorem WdV{α:Type}{x:α}:∀{a c b d:List α},(a++x::b).Nodup->a++x::b=c++x::d->a=c
 | [],[],_,_,_,_=>rfl
 | [],y::c,b,d,hn,h=>by
  simp only[Xbv,Xaw,List.cons.injEq]at h;obtain⟨rfl,h⟩:=h;rw[Xbv,Xae]at hn;exact absurd (by rw[h];simp) hn.1
 |y::a,[],b,d,hn,h=>by
  simp only[Xbv,Xaw,List.cons.injEq]at h;obtain⟨rfl,h⟩:=h;rw[Xaw,Xae]at hn;exact absurd (by simp) hn.1
 |y::a,z::c,b,d,hn,h=>by
  simp only[Xaw,List.cons.injEq]at h;obtain⟨rfl,h⟩:=h;rw[Xaw,Xae]at hn;rw[WdV hn.2 h]
def W9(ops:Array Oper)(i:Nat):Bool:=match ops[i]? with
 |some o=>Wag o
 |none=>false
theorem Rel.same{w0:World}{F:CS}{nt:Slots}{G0 G:GH}{ν:Nat->Nu}{st ai:St}{a:Act}{w:World}(h:Rel w0 F nt G0 G ν st a w)
  (he:∀t,Wc ai.env t=Wc st.env t) (ho:ai.objs=st.objs) (hn:ai.nx=st.nx):Rel w0 F nt G0 G ν ai a w:=
 ⟨h.defers,h.ntm,h.par,λi x hx=>by rw[he]at hx;rw[hn];exact h.env i x hx,by rw[ho,hn];exact h.h,h.gx⟩
theorem Wpm:∀(rs:List Rc),(rs.map (·.i)).Nodup->∃rec:Nat->Rc,∀ρ∈rs,rec ρ.i=ρ
 | [],_=>⟨λi=>⟨i,.tup [],[],0,[],false⟩,by simp⟩
 |ρ::rs,h=>by
  rw[Xaj,Xae]at h;obtain⟨rec,hr⟩:=Wpm rs h.2;refine⟨λi=>if i=ρ.i then ρ else rec i,λx hx=>?_⟩;rcases Xm.1 hx with rfl|hx
  .simp
  .simp only;rw[if_neg (λe=>h.1 (by rw[←e];exact Xu.2 ⟨x,hx,rfl⟩))];exact hr x hx
section
variable{w0:World}{F:CS}{nt:Slots}{G0:GH}{P:Program}{T:Tab}{Γ:Ctx}{A:List (Nat×An)}{ops:Array Oper}{Q:Exit->Act->World->Prop}
theorem WnU(hT:WW P T)(hΓ:Wdv P Γ)(hd:∀o∈ops,∀d,o.dst=some d->nt.Ok d){l L:List Nat}(hl:Order ops l)(hL:Order ops L)(dh:Wif ops)
  (hsl:∀(i:Nat) (o:Oper) (t:Nat),ops[i]?=some o->t∈Wb7 ops o->∀j,WcM ops j=some t->j=i\/WbW (WcN ops.toList []) j i=true\/WbW (WcN ops.toList []) i j=true)
  (hσ:l.filter (W9 ops)=L.filter (W9 ops)) {rs:List Rc} {st af:St} (gQ:rs.map (·.i)=L) (iE:Wqb T Γ A ops rs st af) (bA:rs.Pairwise (Wq0 (WcN ops.toList [])))
  (hK:∀a w G ν,Rel w0 F nt G0 G ν af a w->Q .normal a w) {a:Act} {w:World} {G:GH} {ν:Nat->Nu} (hr:Rel w0 F nt G0 G ν st a w):wpOps P ops Q l a w:=by
 have aH:(rs.map (·.i)).Nodup:=by rw[gQ];exact hL.nodup
 obtain⟨rec,cD⟩:=Wpm rs aH;have hLr:L.map rec=rs:=by
  rw[←gQ,Xeb]
  conv=>rhs;rw[←List.map_id rs]
  exact Xci λρ hρ=>cD ρ hρ
 have gy:∀i,i∈l↔i∈L:=λi=>by rw[←hl.all,hL.all]
 have gR:∀i∈L,(rec i).i=i/\rec i∈rs:=λi hi=>by
  rw[←gQ]at hi;obtain⟨ρ,hρ,rfl⟩:=Xu.1 hi;rw[cD ρ hρ];exact⟨rfl,hρ⟩
 have dT:∀i∈L,∃pre post o cW ai,L=pre++i::post/\Wqb T Γ A ops (pre.map rec) st cW/\StepTo T Γ A ops (rec i) o cW ai:=λi hi=>by
  obtain⟨pre,post,e⟩:=Xea hi;have:rs=pre.map rec++rec i::post.map rec:=by rw[←hLr,e];simp
  rw[this]at iE;obtain⟨o,cW,ai,h1,h2⟩:=Wg2 _ _ _ _ _ iE;exact⟨pre,post,o,cW,ai,e,h1,h2⟩
 have eQ:∀i∈L,(rec i).mv=W9 ops i:=λi hi=>by
  obtain⟨pre,post,o,cW,ai,e,h1,h2⟩:=dT i hi;rw[h2.isM];have:=h2.at_;rw[(gR i hi).1]at this;unfold W9;rw[this]
 have dU:∀(p:List Nat),(∀i∈p,i∈L)->(p.map rec).filter (·.mv)=(p.filter (W9 ops)).map rec:=by
  intro p
  induction p with
  |nil=>intro _;rfl
  |cons i p ih=>
   intro h;have:=ih λj hj=>h j (Xe _ hj);rw[Xaj,Xbm,Xbm,eQ i (h i (Xh ..))];split
   .rw[Xaj,this]
   .exact this
 have kT:∀(p:List Nat),(∀i∈p,i∈L)->(p.map rec).map (·.i)=p:=by
  intro p h;rw[Xeb]
  conv=>rhs;rw[←List.map_id p]
  exact Xci λi hi=>(gR i (h i hi)).1
 have gP:∀(p:List Nat),(∀i∈p,i∈L)->∀i∈L,(rec i∈p.map rec↔i∈p):=λp hp i hi=>by
  constructor
  .intro h;obtain⟨j,hj,e⟩:=Xu.1 h;have:j=i:=by rw[←(gR j (hp j hj)).1,←(gR i hi).1,e]
   rw[←this];exact hj
  .exactλh=>Xu.2 ⟨i,h,rfl⟩
 have kn:∀i j pre post,L=pre++i::post->j∈post->Wq0 (WcN ops.toList []) (rec i) (rec j):=λi j pre post e hj=>by
  have:rs=pre.map rec++rec i::post.map rec:=by rw[←hLr,e];simp
  rw[this,List.pairwise_append]at bA;exact(List.pairwise_cons.1 bA.2.1).1 _ (Xu.2 ⟨j,hj,rfl⟩)
 suffices main:∀(s p:List Nat),l=p++s->∀(ai:St) (a:Act) (w:World) (G:GH) (ν:Nat->Nu),Rel w0 F nt G0 G ν ai a w->
   (∀t,Wc ai.env t=WkQ ops (p.map rec) (Wc st.env) t)->(ai.objs,ai.nx)=Wfl (p.map rec) (st.objs,st.nx)->wpOps P ops Q s a w from
  main l [] rfl st a w G ν hr (λ_=>rfl) rfl
 intro s
 induction s with
 |nil=>
  intro p e ai a w G ν eT he hm;rw[Xcz]at e;subst e;obtain⟨f1,f2⟩:=WeO _ _ _ iE;have nk:∀i∈l,i∈L:=λi hi=>(gy i).1 hi;refine hK a w G ν (eT.same (λt=>?_) ?_ ?_)
  .rw[f1,he];refine WgQ dh aH (by rw[kT l nk];exact hl.nodup) λρ _=>?_;constructor
   .intro hρ;have hi:ρ.i∈L:=by rw[←gQ];exact Xu.2 ⟨ρ,hρ,rfl⟩
    rw[←cD ρ hρ];exact(gP l nk ρ.i hi).2 ((gy _).2 hi)
   .intro hρ;obtain⟨i,hi,rfl⟩:=Xu.1 hρ;exact(gR i (nk i hi)).2
  .have:Wfl (l.map rec) (st.objs,st.nx)=Wfl rs (st.objs,st.nx):=by
    rw[WaX,dU l nk,hσ,←dU L (λi hi=>hi),←WaX,hLr]
   rw[this,←f2]at hm;exact(congrArg (·.1) hm).symm
  .have:Wfl (l.map rec) (st.objs,st.nx)=Wfl rs (st.objs,st.nx):=by
    rw[WaX,dU l nk,hσ,←dU L (λi hi=>hi),←WaX,hLr]
   rw[this,←f2]at hm;exact(congrArg (·.2) hm).symm
 |cons i s ih=>
  intro p e ai a w G ν eT he hm;have me:i∈L:=(gy i).1 (by rw[e];simp);have nl:∀j∈p,j∈L:=λj hj=>(gy j).1 (by rw[e];exact Xj _ hj);obtain⟨pre,post,o,cW,uI,eL,h1,h2⟩:=dT i me;have gz:∀j∈pre,j∈L:=λj hj=>by rw[eL];exact Xj _ hj
  have oX:ops[i]?=some o:=by have:=h2.at_;rw[(gR i me).1]at this;exact this
  obtain⟨g1,g2⟩:=WeO _ _ _ h1;have ju:=hl.nodup;have jv:=hL.nodup;rw[e]at ju;rw[eL]at jv;have nm:i∉p:=λh=>(Xaf.1 ju).2.2 i h i (Xh ..) rfl;have gB:i∉pre:=λh=>(Xaf.1 jv).2.2 i h i (Xh ..) rfl;have kU:∀t∈Wb7 ops o,Wc ai.env t=Wc cW.env t:=λt ht=>by
   rw[he,g1];refine WgQ dh (by rw[kT p nl];exact(Xaf.1 ju).1) (by rw[kT pre gz];exact(Xaf.1 jv).1) λρ hρt=>?_;have key:∀j∈L,WcM ops j=some t->(j∈p↔j∈pre):=λj hj oT=>by
    rcases hsl i o t oX ht j oT with rfl|hb|hb
    .exact⟨λh=>absurd h nm,λh=>absurd h gB⟩
    .by_cases nq:j=i
     .subst nq;exact⟨λh=>absurd h nm,λh=>absurd h gB⟩
     .exact⟨λ_=>hL.bef' eL hb nq,λ_=>hl.bef' e hb nq⟩
    .exact⟨λh=>absurd (hl.bef e hb h) nm,λh=>absurd (hL.bef eL hb h) gB⟩
   constructor
   .intro hρ;obtain⟨j,hj,rfl⟩:=Xu.1 hρ;have nr:=nl j hj;rw[(gR j nr).1]at hρt;exact Xu.2 ⟨j,(key j nr hρt).1 hj,rfl⟩
   .intro hρ;obtain⟨j,hj,rfl⟩:=Xu.1 hρ;have nr:=gz j hj;rw[(gR j nr).1]at hρt;exact Xu.2 ⟨j,(key j nr hρt).2 hj,rfl⟩
  have jw:Wfl (p.map rec) (st.objs,st.nx)=Wfl ((p.filter (W9 ops)).map rec) (st.objs,st.nx):=by rw[WaX,dU p nl]
  have ko:Wfl (pre.map rec) (st.objs,st.nx)=Wfl ((pre.filter (W9 ops)).map rec) (st.objs,st.nx):=by rw[WaX,dU pre gz]
  obtain⟨uJ,h3⟩:=h2.move (ai:=ai) kU (λdb=>by
   have oY:W9 ops i=true:=by rw[←eQ i me];exact db
   have:p.filter (W9 ops)=pre.filter (W9 ops):=by
    have q:=hσ;rw[e,eL,Xcx,Xcx,Xbm,Xbm,if_pos oY,if_pos oY]at q;refine WdV ?_ q;have:=hl.nodup.filter (W9 ops);rw[e,Xcx,Xbm,if_pos oY]at this;exact this
   rw[jw,this,←ko,←g2]at hm;exact⟨congrArg (·.1) hm,congrArg (·.2) hm⟩) (λdQ id bg=>by
   have q:(p.filter (W9 ops))<+:l.filter (W9 ops):=by rw[e,Xcx];exact Xge _ _
   have q2:(pre.filter (W9 ops))<+:l.filter (W9 ops):=by rw[hσ,eL,Xcx];exact Xge _ _
   have m5:ai.objs=(Wfl ((p.filter (W9 ops)).map rec) (st.objs,st.nx)).1:=by rw[←jw,←hm]
   have oQ:cW.objs=(Wfl ((pre.filter (W9 ops)).map rec) (st.objs,st.nx)).1:=by rw[←ko,←g2]
   rw[m5,oQ];rcases List.prefix_or_prefix_of_prefix q q2 with⟨X,hX⟩|⟨X,hX⟩
   .
    rw[←hX,Xn,Wcz];refine(Wgd _ _ λρ hρ hρm=>?_).symm;obtain⟨m,mf,rfl⟩:=Xu.1 hρ;have fN:m∈pre:=(Xax.1 (by rw[←hX];exact Xg _ mf:m∈pre.filter (W9 ops))).1;have kV:m∉p:=λhmem=>by
     have qd:W9 ops m=true:=(Xax.1 (by rw[←hX];exact Xg _ mf:m∈pre.filter (W9 ops))).2;have iF:(pre.filter (W9 ops)).Nodup:=(Xaf.1 jv).1.filter _;rw[←hX]at iF;exact(Xaf.1 iF).2.2 m (Xax.2 ⟨hmem,qd⟩) m mf rfl
    obtain⟨u,v,eu⟩:=Xea fN;have hf:=kn m i u (v++i::post) (by rw[eL,eu];simp) (by simp);rcases hf.2 hρm dQ with hb|hb
    .rw[(gR m (gz m fN)).1,(gR i me).1]at hb;exact absurd (hl.bef' e hb (λhc=>gB (hc▸fN))) kV
    .exact hb id bg
   .rw[←hX,Xn,Wcz];refine Wgd _ _ λρ hρ hρm=>?_;obtain⟨m,mf,rfl⟩:=Xu.1 hρ;have sh:m∈p.filter (W9 ops):=by rw[←hX];exact Xg _ mf
    have jx:m∈p:=(Xax.1 sh).1;have kV:m∉pre:=λhmem=>by
     have qd:W9 ops m=true:=(Xax.1 sh).2;have iF:(p.filter (W9 ops)).Nodup:=(Xaf.1 ju).1.filter _;rw[←hX]at iF;exact(Xaf.1 iF).2.2 m (Xax.2 ⟨hmem,qd⟩) m mf rfl
    have si:=nl m jx;have kW:m∈post:=by
     rw[eL]at si;rcases Xk.1 si with h|h
     .exact absurd h kV
     .rcases Xm.1 h with h|h
      .exact absurd (h▸jx) nm
      .exact h
    have hf:=kn i m pre post eL kW;rcases hf.1 dQ hρm with hb|hb
    .rw[(gR m (nl m jx)).1,(gR i me).1]at hb;exact absurd (hl.bef e hb jx) nm
    .exact hb id bg)
  have uK:∀d,o.dst=some d->nt.Ok d:=hd o (Array.mem_of_getElem? oX);have oZ:=Wpz (F:=F) (G0:=G0) (w0:=w0) hT hΓ uK (Q:=Q) (k:=some) (r:=uJ) (K:=wpOps P ops Q s) (λuL a' w' G' ν' hr4 h4=>by
   injection h4 with h4;subst h4;refine ih (p++ [i]) (by rw[e];simp) uL a' w' G' ν' hr4 (λt=>?_) ?_
   .rw[h3.env];have hv:WkQ ops ((p++ [i]).map rec) (Wc st.env) t=if WcM ops i=some t then some (rec i).v else WkQ ops (p.map rec) (Wc st.env) t:=by
     rw[Xn];have gen:∀(x:List Rc) (y:Rc) (e:Nat->Option AVal),WkQ ops (x++ [y]) e t=if WcM ops y.i=some t then some y.v else WkQ ops x e t:=by
      intro x
      induction x with
      |nil=>intro y e;rfl
      |cons z x ih=>intro y e;rw[Xaw,WkQ,ih];rfl
     rw[List.map_singleton,gen,(gR i me).1]
    rw[hv,he];have:WcM ops i=o.dst:=by unfold WcM;rw[oX];rfl
    rw[this]
   .rw[Xn,Wcz,←hm];simp only[Xaj,Xbh,Wfl];rw[h3.objs,h3.nx];split<;>rfl) eT h3.run
  rw[wpOps_cons];unfold wpOp;rw[oX];simp only;split
  .rename_i hw;rw[if_pos hw]at oZ;exact .inl oZ
  .rename_i hw;rw[if_neg hw]at oZ;exact oZ
end
end Go.Sx
namespace Go.Sx
set_option linter.unusedVariables false
set_option linter.unusedSimpArgs false
theorem WgZ:∀{l:List (Nat×Nat)},WaQ (l.map (·.1))=true->∀p∈l,∀q∈l,p.1=q.1->p=q
 | [],_,p,hp,_,_,_=>by cases hp
 |x::l,h,p,hp,q,hq,e=>by
  have hn:=(Wdt _).1 h;simp only[Xaj,WaQ,Xi]at h;rw[Xaj,Xae]at hn;rcases Xm.1 hp with h1|h1
  .rcases Xm.1 hq with h2|h2
   .rw[h1,h2]
   .exact absurd (Xu.2 ⟨q,h2,by rw[←e,h1]⟩) hn.1
  .rcases Xm.1 hq with h2|h2
   .exact absurd (Xu.2 ⟨p,h1,by rw[e,h2]⟩) hn.1
   .exact WgZ h.2 p h1 q h2 e
theorem Wha:∀(l:List Oper) (n k:Nat) (o:Oper) (d:Nat),l[k]?=some o->o.dst=some d->(d,n+k)∈Wfe l n
 | [],_,k,o,d,h,_=>by simp at h
 |x::l,n,k,o,d,h,hd=>by
  cases k with
  |zero=>
   simp at h;subst h;simp only[Wfe,hd];exact Xh ..
  |succ k=>
   have:=Wha l (n+1) k o d (by simpa using h) hd;have e:n+(k+1)=n+1+k:=by omega
   rw[e];simp only[Wfe];split
   .exact Xe _ this
   .exact this
theorem We0{ops:Array Oper}{B:List (List Nat)}{D:List (Nat×Nat)}:∀(l:List Oper) (n:Nat),Whs ops B D l n=true->∀(k:Nat) (o:Oper),l[k]?=some o->∀t∈Wb7 ops o,∀p∈D,p.1=t->
  p.2=n+k\/WbW B p.2 (n+k)=true\/WbW B (n+k) p.2=true
 | [],_,_,k,o,h=>by simp at h
 |x::l,n,h,k,o,hk=>by
  simp only[Whs,Xi]at h;cases k with
  |zero=>
   simp at hk;subst hk;intro t ht p hp e;have:=Xai.1 (Xai.1 h.1 t ht) p hp;simp only[Xch,Xam]at this;rcases this with((h1|h1)|h1)|h1
   .rw[e]at h1;simp at h1
   .exact .inl (by simpa using h1)
   .exact .inr (.inl h1)
   .exact .inr (.inr h1)
  |succ k=>
   have:=We0 l (n+1) h.2 k o (by simpa using hk);have e:n+(k+1)=n+1+k:=by omega
   rw[e];exact this
structure RegOk(ops:Array Oper):Prop where
 back:∀(k:Nat) (o:Oper),ops[k]?=some o->∀d∈WjE o,d<k
 one:Wif ops
 slots:∀(i:Nat) (o:Oper) (t:Nat),ops[i]?=some o->t∈Wb7 ops o->∀j,WcM ops j=some t->j=i\/WbW (WcN ops.toList []) j i=true\/WbW (WcN ops.toList []) i j=true
theorem WfP{ops:Array Oper}{j t:Nat}(h:WcM ops j=some t):(t,j)∈Wfe ops.toList 0:=by
 unfold WcM at h;obtain⟨o,ho,hd⟩:=Xbp.1 h;have:=Wha ops.toList 0 j o t (by simpa using ho) hd;rw[Xbd]at this;exact this
theorem WlH{ops:Array Oper}(h:Wp1 ops (WcN ops.toList [])=true):RegOk ops:=by
 simp only[Wp1,Xi]at h;obtain⟨⟨h1,h2⟩,h3⟩:=h;refine⟨λk o ho e he=>?_,λi j t hi hj=>?_,λi o t ho ht j hj=>?_⟩
 .have:=WgJ (ops:=ops) ops.toList 0 h1 k o (by simpa using ho) e he;omega
 .have:=WgZ h2 _ (WfP hi) _ (WfP hj) rfl;exact congrArg (·.2) this
 .have:=We0 ops.toList 0 h3 i o (by simpa using ho) t ht _ (WfP hj) rfl;simpa using this
theorem Whi{ops:Array Oper}:∀(l done:List Nat),Wgw ops l done=true->done.Nodup->(∀i∈done,i<ops.size)->
  (done++l).Nodup/\(∀i∈done++l,i<ops.size)/\(done++l).length=ops.size/\(∀p i s,l=p++i::s->∀o,ops[i]?=some o->∀d∈WjE o,d∈done++p)
 | [],done,h,hn,hlt=>by
  simp only[Wgw]at h;exact⟨by simpa using hn,by simpa using hlt,by simpa using h,λp i s e=>by simp at e⟩
 |x::l,done,h,hn,hlt=>by
  simp only[Wgw,Xi,Xam]at h;obtain⟨⟨h1,h2⟩,h3⟩:=h;have hx:x∉done:=λhm=>by rw[(Waf x done).2 hm]at h1;cases h1
  cases ho:ops[x]? with
  |none=>rw[ho]at h2;cases h2
  |some o=>
   rw[ho]at h2;have kO:x<ops.size:=(Xdc.1 ho).1;obtain⟨g1,g2,g3,g4⟩:=Whi l (x::done) h3 (Xae.2 ⟨hx,hn⟩) (λi hi=>by
    rcases Xm.1 hi with rfl|hi
    .exact kO
    .exact hlt i hi)
   have iG:List.Perm (x::done++l) (done++x::l):=by simpa using(List.perm_middle (a:=x) (l₁:=done) (l₂:=l)).symm
   refine⟨iG.nodup_iff.1 g1,λi hi=>g2 i (iG.mem_iff.2 hi),by rw[←iG.length_eq];exact g3,λp i s e o' gm d hd=>?_⟩;cases p with
   |nil=>
    simp only[Xbv,List.cons.injEq]at e;obtain⟨rfl,_⟩:=e;rw[ho]at gm;injection gm with gm;subst gm;have:=Xai.1 h2 d hd;simpa using(Waf d done).1 this
   |cons y p=>
    simp only[Xaw,List.cons.injEq]at e;obtain⟨rfl,e⟩:=e;have:=g4 p i s e o' gm d hd;simp only[Xaw,Xm,Xk]at this⊢;rcases this with h|h|h
    .exact .inr (.inl h)
    .exact .inl h
    .exact .inr (.inr h)
theorem Wko{l:List Nat}{n:Nat}(hn:l.Nodup)(hlt:∀i∈l,i<n)(hlen:l.length=n):∀i,i<n->i∈l:=by
 intro i hi;refine Classical.byContradiction λh=>?_;have h1:(i::l).Nodup:=Xae.2 ⟨h,hn⟩;have h2:∀j∈i::l,j∈Xdf n:=λj hj=>by
  rw[Xed];rcases Xm.1 hj with rfl|hj
  .exact hi
  .exact hlt j hj
 have key:∀(a b:List Nat),a.Nodup->(∀x∈a,x∈b)->a.length<=b.length:=by
  intro a
  induction a with
  |nil=>intro b _ _;simp
  |cons x a ih=>
   intro b kX fi;rw[Xae]at kX;have nv:x∈b:=fi x (Xh ..);have:=ih (b.erase x) kX.2 λy hy=>(Xfy (λe=>kX.1 (by rw[←e];exact hy))).2 (fi y (Xe _ hy));rw[Xfh nv]at this;have hpos:=Xfq nv;simp;omega
 have:=key _ _ h1 h2;rw[Xfd,Xt]at this;omega
theorem WjQ{ops:Array Oper}{l:List Nat}(h:Wgw ops l []=true):Order ops l:=by
 obtain⟨h1,h2,h3,h4⟩:=Whi l [] h Xcw (by simp);rw[Xbv]at h1 h2 h3;exact⟨h1,λi=>⟨Wko h1 h2 h3 i,h2 i⟩,λp i s e o ho d hd=>by simpa using h4 p i s e o ho d hd⟩
theorem WgS:∀(l:List Oper) (n i:Nat),i∈Wfa l n↔n<=i/\∃o,l[i-n]?=some o/\Wag o=true
 | [],n,i=>by simp[Wfa]
 |o::l,n,i=>by
  have ih:=WgS l (n+1) i;have nw:(n<=i/\∃o',(o::l)[i-n]?=some o'/\Wag o'=true)↔(i=n/\Wag o=true)\/(n+1<=i/\∃o',l[i-(n+1)]?=some o'/\Wag o'=true):=by
   by_cases hi:i=n
   .subst hi;constructor
    .rintro⟨_,o',h1,h2⟩;rw[Xcy]at h1;injection h1 with h1;subst h1;exact .inl ⟨rfl,h2⟩
    .rintro(⟨_,h⟩|⟨h,_⟩)
     .exact⟨Xl _,o,by rw[Xcy];rfl,h⟩
     .omega
   .constructor
    .rintro⟨h0,o',h1,h2⟩;have e:i-n=(i-(n+1))+1:=by omega
     rw[e,Xdm]at h1;exact .inr ⟨by omega,o',h1,h2⟩
    .rintro(⟨h,_⟩|⟨h0,o',h1,h2⟩)
     .exact absurd h hi
     .have e:i-n=(i-(n+1))+1:=by omega
      exact⟨by omega,o',by rw[e,Xdm];exact h1,h2⟩
  rw[nw,←ih];simp only[Wfa];cases hm:Wag o with
  |true=>simp
  |false=>simp
theorem Wjj{ops:Array Oper}{i:Nat}:i∈Wfa ops.toList 0↔W9 ops i=true:=by
 rw[WgS];unfold W9;simp only[Xbk,true_and,Xec,Array.getElem?_toList];cases ops[i]? with
 |none=>simp
 |some o=>simp
theorem Wla{B:List (List Nat)}:∀(σ rem:List Nat) (n:Nat),σ.length<=n->σ.Nodup->(∀i,i∈rem↔i∈σ)->(∀p m s,σ=p++m::s->∀m'∈m::s,WbW B m' m=false)->σ∈WpN B n rem
 | [],rem,n,hn,aH,hmem,hb=>by
  have:rem= []:=Xes.2 λi hi=>by have:=(hmem i).1 hi;cases this
  subst this;cases n<;>simp[WpN]
 |m::s,rem,0,hn,_,_,_=>by simp at hn
 |m::s,rem,n+1,hn,aH,hmem,hb=>by
  have hm:m∈rem:=(hmem m).2 (Xh ..);rw[Xae]at aH;cases hrem:rem with
  |nil=>rw[hrem]at hm;cases hm
  |cons x xs=>
   rw[←hrem];have o0:WpN B (n+1) rem=(rem.filter λm=>rem.all λm'=>!WbW B m' m).flatMap λm=>(WpN B n (rem.filter λx=>!Xbj x m)).map (m:: ·):=by rw[hrem];rfl
   rw[o0];refine Xfi.2 ⟨m,Xax.2 ⟨hm,Xai.2 λm' oS=>?_⟩,Xu.2 ⟨s,?_,rfl⟩⟩
   .rw[hb [] m s rfl m' ((hmem m').1 oS)];rfl
   .refine Wla s _ n (by simpa using hn) aH.2 (λi=>?_) (λp q s' e=>hb (m::p) q s' (by rw[e];rfl));rw[Xax,hmem,Xm];constructor
    .rintro⟨h1,h2⟩;rcases h1 with rfl|h1
     .simp at h2
     .exact h1
    .intro h;refine⟨.inr h,?_⟩;have hne:i≠m:=λe=>aH.1 (e▸h);cases hb':Xbj i m with
     |false=>rfl
     |true=>exact absurd (Nat.eq_of_beq_eq_true hb') hne
theorem Wpt:∀(l m:List Nat),eqN l m=true->l=m
 | [],[],_=>rfl
 | [],_::_,h=>by cases h
 |_::_,[],h=>by cases h
 |i::l,j::m,h=>by
  simp only[eqN,Xi]at h;have:i=j:=by simpa using h.1
  rw[this,Wpt l m h.2]
theorem Wn7{α:Type}{a b:Option α}{r:α}(h:Wmo a b=some r):a=some r/\b=some r:=by
 unfold Wmo at h;split at h
 .rename_i e;exact⟨h,e▸h⟩
 .cases h
section
variable{w0:World}{F:CS}{nt:Slots}{G0:GH}{P:Program}{T:Tab}{Γ:Ctx}{A:List (Nat×An)}{R:Type}{r:R}
theorem Wk1{ops:Array Oper}{B:List (List Nat)}{st:St}{k:St->Option R}:∀(l:List (List Nat)),Wqp T Γ A ops B st k l=some r->∀σ∈l,∃L,Wgw ops L []=true/\L.filter (λi=>Wba i σ)=σ/\rdx T Γ A ops B L [] [] st k=some r
 | [],_,σ,hσ=>by cases hσ
 |τ::l,h,σ,hσ=>by
  have one:Weq (WhD ops.toList B ops.size [] τ) (λL=>bif Wgw ops L []&&eqN (L.filter λi=>Wba i τ) τ then rdx T Γ A ops B L [] [] st k else none)=some r->∃L,Wgw ops L []=true/\L.filter (λi=>Wba i τ)=τ/\rdx T Γ A ops B L [] [] st k=some r:=λh=>by
   rw[Wc0]at h;obtain⟨hc,h⟩:=Wac h;simp only[Xi]at hc;exact⟨_,hc.1,Wpt _ _ hc.2,h⟩
  cases l with
  |nil=>
   simp only[Wqp]at h;rcases Xm.1 hσ with rfl|hσ
   .exact one h
   .cases hσ
  |cons x l=>
   have h:Wmo (Weq (WhD ops.toList B ops.size [] τ) (λL=>bif Wgw ops L []&&eqN (L.filter λi=>Wba i τ) τ then rdx T Γ A ops B L [] [] st k else none)) (Wqp T Γ A ops B st k (x::l))=some r:=h;obtain⟨h1,h2⟩:=Wn7 h;rcases Xm.1 hσ with rfl|hσ
   .exact one h1
   .exact Wk1 (x::l) h2 σ hσ
theorem Woz(hM:P.follows .mixedOrders=true)(hT:WW P T)(hΓ:Wdv P Γ){id:Nat}{ops:Array Oper}(hd:∀o∈ops,∀d,o.dst=some d->nt.Ok d){k:St->Option R}{Q:Exit->Act->World->Prop}(hK:WnG w0 F nt G0 k r (Q .normal)):
  WnG w0 F nt G0 (λst=>WpM T Γ A ops st k) r ((Code.region id ops true).wp P Q):=λst a w G ν hr h=>by
 simp only[WpM,WiC]at h;obtain⟨qe,h⟩:=Wac h;have hR:=WlH qe;refine wp_region_draw λt=>?_;rw[hM];have hl:Order ops (Region.schedule true ops t):=Wgv hR.back;generalize Region.schedule true ops t=l at hl;have hσ:l.filter (W9 ops)∈WpN (WcN ops.toList []) ops.size (Wfa ops.toList 0):=by
  refine Wla _ _ _ ?_ (hl.nodup.filter _) (λi=>?_) (λp m s e m' oS=>?_)
  .refine Xck (Xen _ _) ?_;have bO:l.length<=(Xdf ops.size).length:=by
    have key:∀(a b:List Nat),a.Nodup->(∀x∈a,x∈b)->a.length<=b.length:=by
     intro a
     induction a with
     |nil=>intro b _ _;simp
     |cons x a ih=>
      intro b kX fi;rw[Xae]at kX;have nv:x∈b:=fi x (Xh ..);have:=ih (b.erase x) kX.2 λy hy=>(Xfy (λe=>kX.1 (by rw[←e];exact hy))).2 (fi y (Xe _ hy));rw[Xfh nv]at this;have hpos:=Xfq nv;simp;omega
    exact key _ _ hl.nodup λx hx=>Xed.2 ((hl.all x).2 hx)
   rw[Xfd]at bO;exact bO
  .rw[Wjj,Xax];constructor
   .intro h;refine⟨(hl.all i).1 ?_,h⟩;unfold W9 at h;split at h
    .rename_i o ho;exact(Xdc.1 ho).1
    .cases h
   .exactλh=>h.2
  .cases hb:WbW (WcN ops.toList []) m' m with
   |false=>rfl
   |true=>
    exfalso;have gD:m∈l:=(Xax.1 (by rw[e];simp:m∈l.filter (W9 ops))).1;obtain⟨u,v,eu⟩:=Xea gD;have hm'u:m'∈u++ [m]:=hl.bef (p:=u++ [m]) (s:=v) (by rw[eu];simp) hb (by simp);have uM:W9 ops m=true:=(Xax.1 (by rw[e];simp:m∈l.filter (W9 ops))).2;have ny:=hl.nodup.filter (W9 ops);have e2:l.filter (W9 ops)=u.filter (W9 ops)++m::v.filter (W9 ops):=by rw[eu,Xcx,Xbm,if_pos uM]
    have uN:p=u.filter (W9 ops):=by
     refine WdV (b:=s) (d:=v.filter (W9 ops)) (x:=m) ?_ ?_
     .rw[←e];exact ny
     .rw[←e,e2]
    rcases Xm.1 oS with rfl|hm's
    .
     have:=hl.bef (p:=u++ [m']) (s:=v) (by rw[eu];simp) hb (by simp);have hcl:Wje ops (λj=>j∈u\/(j=m'/\False)):=λi o ho hi d hd=>by
      rcases hi with hi|⟨_,hf⟩
      .exact .inl (hl.closed (p:=u) (s:=m'::v) eu i o ho hi d hd)
      .exact hf.elim
     have back:∀(j i:Nat),WbW (WcN ops.toList []) j i=true->j<i:=λj i nq=>by
      have hcl2:Wje ops (λx=>x<i\/(x=i)):=λx o ho hx d hd=>by
       have:d<x:=hR.back x o ho d hd;omega
      refine Classical.byContradiction λhn=>?_;have hlt:∀(l:List Oper) (acc:List (List Nat)),(∀(k:Nat) (o:Oper),l[k]?=some o->ops[acc.length+k]?=some o)->(∀i,∀j∈acc.getD i [],j<i)->∀i,∀j∈(WcN l acc).getD i [],j<i:=by
       intro l
       induction l with
       |nil=>intro acc _ h;exact h
       |cons o l ih=>
        intro acc hl h;refine ih _ (λk o' hk=>?_) (λi j hj=>?_)
        .have:=hl (k+1) o' (by simpa using hk);rw[Xs];have e:acc.length+(k+1)=acc.length+ [WhH acc (WjE o) []].length+k:=by simp;omega
         rw[←e];exact this
        .rw[Xv,Xaq]at hj;split at hj
         .exact h i j (by rw[Xv];exact hj)
         .by_cases he:i=acc.length
          .subst he;simp only[Xcy,Xdn,Xgo]at hj;rcases(WfU _ _).1 hj with⟨k,hk,iC⟩|hj
           .have oR:k<acc.length:=hR.back acc.length o (hl 0 o (by simp)) k hk;rcases iC with rfl|iC
            .exact oR
            .have:=h k j iC;omega
           .cases hj
          .have:[WhH acc (WjE o) []][i-acc.length]?=none:=Xbf (by simp;omega);rw[this]at hj;cases hj
      exact hn (hlt ops.toList [] (λk o hk=>by simpa using hk) (λi j hj=>by simp at hj) i j ((Waf _ _).1 nq))
     have:=back m' m' hb;omega
    .
     have hm'l:m'∈p:=by
      rw[uN];rcases Xk.1 hm'u with h|h
      .refine Xax.2 ⟨h,?_⟩;exact(Xax.1 (by rw[e];simp[hm's]:m'∈l.filter (W9 ops))).2
      .simp at h;subst h;rw[e]at ny;have:=(Xae.1 (Xaf.1 ny).2.1).1;exact absurd hm's this
     rw[e]at ny;exact(Xaf.1 ny).2.2 m' hm'l m' (Xe _ hm's) rfl
 obtain⟨L,g1,g2,g3⟩:=Wk1 _ h _ hσ;have hL:=WjQ g1;obtain⟨rs,af,q1,q2,q3,q4,_,_⟩:=Wh0 _ _ _ _ g3;have hf:l.filter (W9 ops)=L.filter (W9 ops):=by
  rw[←g2];refine List.filter_congr λi hi=>?_;cases hm:W9 ops i with
  |true=>exact(Waf _ _).2 (Xax.2 ⟨(hl.all i).1 ((hL.all i).2 hi),hm⟩)
  |false=>
   cases he:Wba i (l.filter (W9 ops))with
   |false=>rfl
   |true=>
    have:=(Xax.1 ((Waf _ _).1 he)).2;rw[hm]at this;cases this
 have aS:Rel w0 F nt G0 G ν st a {w with drawn:=w.drawn+1}:=⟨hr.defers,hr.ntm,hr.par,hr.env,?_,hr.gx⟩
 .exact WnU hT hΓ hd hl hL hR.one hR.slots hf q1 q2 q4 (λa w G ν hr=>hK af a w G ν hr q3) aS
 .exact hr.h.drew
end
end Go.Sx
namespace Go.Sx
set_option linter.unusedVariables false
set_option linter.unusedSimpArgs false
section
variable{w0:World}{F:CS}{nt:Slots}{G0:GH}{P:Program}{T:Tab}{Γ:Ctx}{A:List (Nat×An)}{R:Type}{r:R}
theorem WjS(hM:P.follows .mixedOrders=true)(hT:WW P T)(hΓ:Wdv P Γ){n:Nat}{kept:List Nat}(hn:nt.n=n)(kY:∀p∈nt.kept,p.1∈kept){ann:Nat->List Ghost}{N:Nat}:∀(c:Code),Wcd n kept c=true->∀{k:Ex->St->Option R} {Q:Exit->Act->World->Prop},
  (∀e,WnG w0 F nt G0 (k e) r (Q e.to))->WnG w0 F nt G0 (λst=>sx T Γ ann N c st k) r (c.wp P Q)
 | .skip,_,k,Q,hK=>λst a w G ν hr h=>wp_skip (hK .normal st a w G ν hr h)
 | .exit id,_,k,Q,hK=>λst a w G ν hr h=>wp_exit (hK (.exit id) st a w G ν hr h)
 | .ret,_,k,Q,hK=>λst a w G ν hr h=>wp_ret (hK .ret st a w G ν hr h)
 | .region id ops draw,bm,k,Q,hK=>λst a w G ν hr h=>by
  have iY:WnG w0 F nt G0 (λaf=>match WcF (ann id) af with|some (c,bI)=>bif c then k .normal bI else none|none=>none) r (Q .normal):=λaf a' w' G' ν' aS h'=>by
   simp only at h';split at h'
   .rename_i c bI hg;obtain⟨rfl,h'⟩:=Wac h';obtain⟨G2,ν2,eT⟩:=Wci _ _ _ _ _ aS hg;exact hK .normal _ _ _ _ _ eT h'
   .cases h'
  have nz:∀o∈ops,∀d,o.dst=some d->nt.Ok d:=λo ho=>Wkt hn kY (Xai.1 bm o (by simpa using ho));cases draw with
  |true=>exact Woz hM hT hΓ nz iY st a w G ν hr h
  |false=>exact wp_region_list (WpE hT hΓ ops.toList (λo ho=>nz o (by simpa using ho)) iY st a w G ν hr h)
 | .seq x y,bm,k,Q,hK=>λst a w G ν hr h=>by
  simp only[Wcd,Xi]at bm;refine wp_seq (WjS hM hT hΓ hn kY x bm.1 (Q:=Exit.then (y.wp P Q) Q) (λe=>?_) st a w G ν hr h);cases e with
  |normal=>exact WjS hM hT hΓ hn kY y bm.2 hK
  |exit id=>exact hK (.exit id)
  |ret=>exact hK .ret
 | .cond c x y,bm,k,Q,hK=>λst a w G ν hr h=>by
  simp only[Wcd,Xi]at bm;simp only[sx]at h;split at h
  .rename_i b hb;cases hv:ev st c with
   |none=>simp[hv]at hb
   |some v=>
    simp only[hv,Xd]at hb;have hc:=Wj2 v _ b (Wr hr c v hv) hb;refine wp_cond hc ?_;cases b with
    |true=>exact WjS hM hT hΓ hn kY x bm.1 hK st a w G ν hr h
    |false=>exact WjS hM hT hΓ hn kY y bm.2 hK st a w G ν hr h
  .cases h
 | .block id c,bm,k,Q,hK=>λst a w G ν hr h=>by
  simp only[Wcd]at bm;refine wp_block (WjS hM hT hΓ hn kY c bm (Q:=Exit.inBlock id Q) (λe=>?_) st a w G ν hr h);cases e with
  |normal=>exact hK .normal
  |exit bn=>
   intro af a' w' G' ν' aS h';simp only[Ex.to,Exit.inBlock];split
   .rename_i he;simp only[he,if_true]at h';exact hK .normal _ _ _ _ _ aS h'
   .rename_i he;simp only[he,if_false]at h';exact hK (.exit bn) _ _ _ _ _ aS h'
  |ret=>exact hK .ret
 | .loop c,bm,k,Q,hK=>λst a w G ν hr h=>by
  simp only[Wcd]at bm;refine wp_loop_rounds N ?_;have key:∀(m:Nat),WnG w0 F nt G0 (λst=>WjT (Wg3 (ann (WdK c)) λst k=>sx T Γ ann N c st k) m st k) r (Code.rounds P c Q m):=by
   intro m
   induction m with
   |zero=>intro st a w G ν hr h;cases h
   |succ m ih=>
    intro st a w G ν hr h;rw[rounds_succ];have h:sx T Γ ann N c st (λe af=>match e with
     | .normal=>match WcF (ann (WdK c)) af with
      |some (b,bI)=>bif b then WjT (Wg3 (ann (WdK c)) λst k=>sx T Γ ann N c st k) m bI k else none
      |none=>none
     | .exit id=>k (.exit id) af
     | .ret=>k .ret af)=some r:=by
     rw[←h];simp only[WjT,Wg3];congr 1
    refine WjS hM hT hΓ hn kY c bm (Q:=Exit.then (Code.rounds P c Q m) Q) (λe=>?_) st a w G ν hr h;cases e with
    |normal=>
     intro af a' w' G' ν' aS h';simp only at h';split at h'
     .rename_i b bI hg;obtain⟨rfl,h'⟩:=Wac h';obtain⟨G2,ν2,eT⟩:=Wci _ _ _ _ _ aS hg;exact ih _ _ _ _ _ eT h'
     .cases h'
    |exit id=>exact hK (.exit id)
    |ret=>exact hK .ret
  have h:(match WcF (ann (WdK c)) st with
   |some (b,af)=>bif b then WjT (Wg3 (ann (WdK c)) λst k=>sx T Γ ann N c st k) N af k else none
   |none=>none)=some r:=h
  split at h
  .rename_i b af hg;obtain⟨rfl,h⟩:=Wac h;obtain⟨G2,ν2,eT⟩:=Wci _ _ _ _ _ hr hg;exact key N _ _ _ _ _ eT h
  .cases h
 | .scope ..,_,k,Q,hK=>λst a w G ν hr h=>by cases h
 | .label ..,_,k,Q,hK=>λst a w G ν hr h=>by cases h
 | .goto ..,_,k,Q,hK=>λst a w G ν hr h=>by cases h
 | .rangeFunc ..,_,k,Q,hK=>λst a w G ν hr h=>by cases h
 | .refuse ..,_,k,Q,hK=>λst a w G ν hr h=>by cases h
end
end Go.Sx
namespace Go.Sx
set_option linter.unusedVariables false
set_option linter.unusedSimpArgs false
section
variable{w0:World}{F:CS}{nt:Slots}{G0 G G':GH}{ν:Nat->Nu}{φ:Nat->CS}{objs:WS}{nx ah:Nat}{st af:St}{a:Act}{w w':World}{P:Program}{T:Tab}{Γ:Ctx}
theorem Wff:∀(xs:List AVal) (j i:Nat),Wc (WeM j xs) i=if j<=i then xs[i-j]? else none
 | [],j,i=>by simp[WeM,Wc]
 |x::xs,j,i=>by
  simp only[WeM];rw[Wl,Wff xs (j+1) i];by_cases h:j=i
  .subst h;simp
  .by_cases h2:j<=i
   .have h3:j+1<=i:=by omega
    rw[if_neg h,if_pos h3,if_pos h2,show i-j=(i-(j+1))+1 by omega];rfl
   .rw[if_neg h,if_neg h2,if_neg (by omega)]
theorem WgI:∀(l:List Nat),WmN (Wg9 l)=l
 | []=>rfl
 |i::l=>by
  show i::WmN (Wg9 l)=i::l;rw[WgI l]
theorem WgG:∀(ps:List PTy) (d:Wdz ps) (objs:WS) (nx n:Nat),Wg7 ps n=true->∃ids,ids.length=n/\(Ww ps d objs nx).1.take n=Wg9 ids
 |_,_,_,_,0,_=>⟨[],rfl,rfl⟩
 | [],_,_,_,_+1,h=>by cases h
 | .v _ _::_,_,_,_,_+1,h=>by cases h
 | .mut _::_,_,_,_,_+1,h=>by cases h
 | .clos _ _::_,_,_,_,_+1,h=>by cases h
 | .kv _ _::_,_,_,_,_+1,h=>by cases h
 | .rp _::_,_,_,_,_+1,h=>by cases h
 | .vj _::_,_,_,_,_+1,h=>by cases h
 | .boxal _ _::_,_,_,_,_+1,h=>by cases h
 | .box t::ps,d,objs,nx,n+1,h=>by
  obtain⟨ids,h1,h2⟩:=WgG ps d.2 ((nx,.box (unfold t d.1 (nx+1)).1)::((unfold t d.1 (nx+1)).2.1++objs)) (unfold t d.1 (nx+1)).2.2 n h;refine⟨nx::ids,by simp[h1],?_⟩;simp only[Ww,List.take_succ_cons,h2];rfl
theorem Wbs:∀(ps:List PTy) (d:Wdz ps) (vs:List Value) (ns:List Pc) (ks:List Nu) (objs:WS) (nx ah:Nat),Wbw ps=true->WaI G w ps d vs ns ks->At ν φ nx ns->nx+ns.length<=ah->
  (Ww ps d objs nx).2.2=nx+ns.length/\
  (∀id ob,Wc (Ww ps d objs nx).2.1 id=some ob->(nx<=id/\id<nx+ns.length/\Wbx G ν ah w id (φ id) ob)\/Wc objs id=some ob)/\
  (Ww ps d objs nx).1.length=vs.length/\∀(j:Nat) (x:AVal) (v:Value),(Ww ps d objs nx).1[j]?=some x->vs[j]?=some v->AValRel G ν ah x v
 | [],d,vs,ns,ks,objs,nx,ah,_,⟨h1,h2,h3⟩,_,_=>by
  subst h1 h2;exact⟨rfl,λid ob h=>.inr h,rfl,λj x v h=>by simp[Ww]at h⟩
 | .v t agg::ps,d,vs,ns,ks,objs,nx,ah,dD,⟨v,vs',n1,n2,h1,h2,h3,h4⟩,hν,hx=>by
  subst h2;obtain⟨us,hC⟩:=Wkp h3;have bJ:=WL _ _ _ _ hC;have hlen:(n1++n2).length=t.owns+n2.length:=by rw[Xs,bJ]
  obtain⟨_,o1⟩:=W0 t d.1 nx us n1 hC hν.left;obtain⟨e1,e2,e3,e4⟩:=Wbs ps d.2 vs' n2 ks ((unfold t d.1 nx).2.1++objs) (nx+t.owns) ah dD h4 (hν.right bJ) (by omega);simp only[Ww,Wae];refine⟨by rw[e1,hlen];omega,λid ob hl=>?_,by rw[h1];simp[e3],λj x u hj hu=>?_⟩
  .rcases e2 id ob hl with⟨g1,g2,g3⟩|g
   .exact .inl ⟨by omega,by omega,g3⟩
   .rcases Wq g with g|g
    .obtain⟨g1,g2,e,xs,rfl,g3⟩:=o1 id ob g;exact .inl ⟨g1,by omega,g3⟩
    .exact .inr g
  .rw[h1]at hu;cases j with
   |zero=>simp at hj hu;subst hj hu;exact Wh4 h3 hν.left (by omega)
   |succ j=>exact e4 j x u (by simpa using hj) (by simpa using hu)
 | .kv t agg::ps,d,vs,ns,ks,objs,nx,ah,dD,⟨v,vs',n1,n2,ks',h1,h2,_,h3,h4⟩,hν,hx=>by
  subst h2;obtain⟨us,hC⟩:=Wkp h3;have bJ:=WL _ _ _ _ hC;have hlen:(n1++n2).length=t.owns+n2.length:=by rw[Xs,bJ]
  obtain⟨_,o1⟩:=W0 t d.1 nx us n1 hC hν.left;obtain⟨e1,e2,e3,e4⟩:=Wbs ps d.2 vs' n2 ks' ((unfold t d.1 nx).2.1++objs) (nx+t.owns) ah dD h4 (hν.right bJ) (by omega);simp only[Ww,Wae];refine⟨by rw[e1,hlen];omega,λid ob hl=>?_,by rw[h1];simp[e3],λj x u hj hu=>?_⟩
  .rcases e2 id ob hl with⟨g1,g2,g3⟩|g
   .exact .inl ⟨by omega,by omega,g3⟩
   .rcases Wq g with g|g
    .obtain⟨g1,g2,e,xs,rfl,g3⟩:=o1 id ob g;exact .inl ⟨g1,by omega,g3⟩
    .exact .inr g
  .rw[h1]at hu;cases j with
   |zero=>simp at hj hu;subst hj hu;exact Wh4 h3 hν.left (by omega)
   |succ j=>exact e4 j x u (by simpa using hj) (by simpa using hu)
 | .box t::ps,d,vs,ns,ks,objs,nx,ah,dD,⟨b,o,vs',n1,n2,ks',h1,h2,h3,⟨us,hrow,hmem,fh⟩,h6⟩,hν,hx=>by
  subst h2;have bJ:=WL _ _ _ _ fh;have hlen:((⟨Wbh b o,rng b o t.size⟩:Pc)::(n1++n2)).length=1+t.owns+n2.length:=by rw[Xt,Xs,bJ];omega
  obtain⟨hν0,hφ0⟩:ν nx=Wbh b o/\φ nx=rng b o t.size:=by have:=hν 0 _ rfl;simpa using this
  have hν1:At ν φ (nx+1) (n1++n2):=hν.right (n1:=[⟨Wbh b o,rng b o t.size⟩]) rfl;obtain⟨c1,o1⟩:=W0 t d.1 (nx+1) us n1 fh hν1.left;have cU:=Wbg t d.1 (nx+1);obtain⟨e1,e2,e3,e4⟩:=Wbs ps d.2 vs' n2 ks' ((nx,.box (unfold t d.1 (nx+1)).1)::((unfold t d.1 (nx+1)).2.1++objs)) (nx+1+t.owns) ah dD h6 (hν1.right bJ) (by omega);simp only[Ww,Wae];refine⟨by rw[e1,hlen];omega,λid ob hl=>?_,by rw[h1];simp[e3],λj x u hj hu=>?_⟩
  .rcases e2 id ob hl with⟨g1,g2,g3⟩|g
   .exact .inl ⟨by omega,by omega,g3⟩
   .rw[Wl]at g;split at g
    .rename_i e;subst e;injection g with g;subst g;exact .inl ⟨Xl _,by omega,b,us,by rw[hν0];rfl,by rw[hν0,cU];exact hrow,by rw[hν0];exact hmem,c1 ah (by omega),by rw[hν0,cU,hφ0];exactλ_ _ hh=>hh⟩
    .rcases Wq g with g|g
     .obtain⟨g1,g2,e,xs,rfl,g3⟩:=o1 id ob g;exact .inl ⟨by omega,by omega,g3⟩
     .exact .inr g
  .rw[h1]at hu;cases j with
   |zero=>
    simp at hj hu;subst hj hu;exact⟨⟨by omega,b,by rw[hν0];rfl,by rw[hν0];rfl⟩,rfl⟩
   |succ j=>exact e4 j x u (by simpa using hj) (by simpa using hu)
 | .vj _::_,_,_,_,_,_,_,_,_,h,_,_=>h.elim
 | .boxal t lf::ps,d,vs,ns,ks,objs,nx,ah,dD,⟨b,o,b',pc,vs',n1,n2,ks',h1,h2,h3,⟨us,hrow,hmem,fh⟩,h4,h5,h7,h6⟩,hν,hx=>by
  subst h2;have bJ:=WL _ _ _ _ fh;have hlen:((⟨Wbh b o,rng b o t.size⟩:Pc)::(n1++n2)).length=1+t.owns+n2.length:=by rw[Xt,Xs,bJ];omega
  obtain⟨hν0,hφ0⟩:ν nx=Wbh b o/\φ nx=rng b o t.size:=by have:=hν 0 _ rfl;simpa using this
  have hν1:At ν φ (nx+1) (n1++n2):=hν.right (n1:=[⟨Wbh b o,rng b o t.size⟩]) rfl;obtain⟨c1,o1⟩:=W0 t d.1 (nx+1) us n1 fh hν1.left;have cU:=Wbg t d.1 (nx+1);have nA:lf<n1.length:=(Xr.1 h4).1;have hνl:ν (nx+1+lf)=pc.nu:=(hν1.left lf pc h4).1;obtain⟨e1,e2,e3,e4⟩:=Wbs ps d.2.2 vs' n2 ks' ((nx,.box (unfold t d.1 (nx+1)).1)::((unfold t d.1 (nx+1)).2.1++objs)) (nx+1+t.owns) ah dD h6 (hν1.right bJ) (by omega);simp only[Ww,Wae];refine⟨by rw[e1,hlen];omega,λid ob hl=>?_,by rw[h1];simp[e3],λj x u hj hu=>?_⟩
  .rcases e2 id ob hl with⟨g1,g2,g3⟩|g
   .exact .inl ⟨by omega,by omega,g3⟩
   .rw[Wl]at g;split at g
    .rename_i e;subst e;injection g with g;subst g;exact .inl ⟨Xl _,by omega,b,us,by rw[hν0];rfl,by rw[hν0,cU];exact hrow,by rw[hν0];exact hmem,c1 ah (by omega),by rw[hν0,cU,hφ0];exactλ_ _ hh=>hh⟩
    .rcases Wq g with g|g
     .obtain⟨g1,g2,e,xs,rfl,g3⟩:=o1 id ob g;exact .inl ⟨by omega,by omega,g3⟩
     .exact .inr g
  .rw[h1]at hu
   match j with
   |0=>
    simp at hj hu;subst hj hu;exact⟨⟨by omega,b,by rw[hν0];rfl,by rw[hν0];rfl⟩,rfl⟩
   |1=>
    simp at hj hu;subst hj hu;exact⟨⟨by omega,by rw[hνl];exact h7,b',by rw[hνl];exact h5,by rw[hνl];rfl⟩,rfl⟩
   |j+2=>exact e4 j x u (by simpa using hj) (by simpa using hu)
 | .rp t::ps,d,vs,ns,ks,objs,nx,ah,dD,⟨b,o,us,vs',h1,h2,h3,h4⟩,hν,hx=>by
  obtain⟨e1,e2,e3,e4⟩:=Wbs ps d.2 vs' ns ks objs nx ah dD h4 hν hx;simp only[Ww];refine⟨e1,e2,by rw[h1];simp[e3],λj x u hj hu=>?_⟩;rw[h1]at hu;cases j with
  |zero=>
   simp at hj hu;subst hj hu;exact⟨⟨b,o,us,by rw[Xat],h2,h3⟩,rfl⟩
  |succ j=>exact e4 j x u (by simpa using hj) (by simpa using hu)
 | .mut e::ps,d,vs,ns,ks,objs,nx,ah,dD,⟨pc,vs',n2,ks',h1,h2,h3,h4,h5⟩,hν,hx=>by
  subst h2;have hlen:(pc::n2).length=1+n2.length:=by rw[Xt];omega
  obtain⟨hν0,hφ0⟩:ν nx=pc.nu/\φ nx=pc.fp:=by have:=hν 0 _ rfl;simpa using this
  obtain⟨e1,e2,e3,e4⟩:=Wbs ps d.2 vs' n2 ks' ((nx,.arr e d.1)::objs) (nx+1) ah dD h5 (hν.right (n1:=[pc]) rfl) (by omega);simp only[Ww];refine⟨by rw[e1,hlen];omega,λid ob hl=>?_,by rw[h1];simp[e3],λj x u hj hu=>?_⟩
  .rcases e2 id ob hl with⟨g1,g2,g3⟩|g
   .exact .inl ⟨by omega,by omega,g3⟩
   .rw[Wl]at g;split at g
    .rename_i e;subst e;injection g with g;subst g;refine .inl ⟨Xl _,by omega,?_⟩;show OwnL w (TyRel G w _) _ (ν nx) d.1 (φ nx);rw[hν0,hφ0];exact h4
    .exact .inr g
  .rw[h1]at hu;cases j with
   |zero=>
    simp at hj hu;subst hj hu;exact⟨⟨by omega,by rw[hν0]⟩,Wgj _⟩
   |succ j=>exact e4 j x u (by simpa using hj) (by simpa using hu)
 | .clos g n::ps,d,vs,ns,ks,objs,nx,ah,dD,⟨cvs,vs',h1,h2,h3,h4⟩,hν,hx=>by
  simp only[Wbw,Xi]at dD;obtain⟨e1,e2,e3,e4⟩:=Wbs ps d (cvs++vs') ns ks objs nx ah dD.2 h4 hν hx;obtain⟨ids,g1,g2⟩:=WgG ps d objs nx n dD.1;simp only[Ww];rw[g2,WgI];have hlen:(Ww ps d objs nx).1.length=n+vs'.length:=by rw[e3,Xs,h2]
  have kZ:∀(j id:Nat),ids[j]?=some id->(Ww ps d objs nx).1[j]?=some (AVal.s (.one (.ptr id 0))):=λj id hj=>by
   have hlt:j<n:=by rw[←g1];exact(Xr.1 hj).1
   have:((Ww ps d objs nx).1.take n)[j]?=some (.s (.one (.ptr id 0))):=by rw[g2];simp[Wg9,hj]
   rw[List.getElem?_take,if_pos hlt]at this;exact this
  refine⟨e1,e2,by rw[h1];simp[hlen],λj x u hj hu=>?_⟩;rw[h1]at hu;cases j with
  |zero=>
   simp at hj hu;subst hj hu;refine⟨⟨cvs,rfl,by rw[h2,g1],λj id u hj hu=>?_⟩,rfl⟩;have hlt:j<cvs.length:=(Xr.1 hu).1;obtain⟨⟨q1,q2⟩,q3⟩:=e4 j _ u (kZ j id hj) (by rw[List.getElem?_append_left hlt];exact hu);exact⟨q1,q3,q2⟩
  |succ j=>
   have hj':(Ww ps d objs nx).1[n+j]?=some x:=by
    rw[←List.getElem?_drop];simpa using hj
   exact e4 (n+j) x u hj' (by rw[Xas (by omega),h2,Xay];simpa using hu)
theorem Wb2:∀(ps:List PTy) (d:Wdz ps) (vs:List Value) (ns:List Pc) (ks:List Nu),WaI G w ps d vs ns ks->vs.length<=Wa5 ps
 | [],d,vs,ns,ks,⟨h1,_,_⟩=>by rw[h1];exact Xl _
 | .v t agg::ps,d,vs,ns,ks,⟨v,vs',n1,n2,h1,h2,h3,h4⟩=>by rw[h1,Xt];have:=Wb2 ps _ _ _ _ h4;simp only[Wa5];omega
 | .box t::ps,d,vs,ns,ks,⟨b,o,vs',n1,n2,ks',h1,h2,h3,h4,h6⟩=>by rw[h1,Xt];have:=Wb2 ps _ _ _ _ h6;simp only[Wa5];omega
 | .mut e::ps,d,vs,ns,ks,⟨pc,vs',n2,ks',h1,h2,h3,h4,h5⟩=>by rw[h1,Xt];have:=Wb2 ps _ _ _ _ h5;simp only[Wa5];omega
 | .clos g n::ps,d,vs,ns,ks,⟨cvs,vs',h1,h2,h3,h4⟩=>by rw[h1,Xt];have:=Wb2 ps _ _ _ _ h4;simp at this;simp only[Wa5];omega
 | .kv t agg::ps,d,vs,ns,ks,⟨v,vs',n1,n2,ks',h1,h2,gL,h3,h4⟩=>by rw[h1,Xt];have:=Wb2 ps _ _ _ _ h4;simp only[Wa5];omega
 | .rp t::ps,d,vs,ns,ks,⟨b,o,us,vs',h1,h2,h3,h4⟩=>by rw[h1,Xt];have:=Wb2 ps _ _ _ _ h4;simp only[Wa5];omega
 | .vj _::_,_,_,_,_,h=>h.elim
 | .boxal t lf::ps,d,vs,ns,ks,⟨b,o,b',pc,vs',n1,n2,ks',h1,h2,h3,h4,h5,h6,h7,h8⟩=>by rw[h1,Xt,Xt];have:=Wb2 ps _ _ _ _ h8;simp only[Wa5];omega
def Wkf(i:Nat)(vs:List Value):List (Nat×Value):=match vs with
 |v::_=>[(i,v)]
 | []=>[]
def Wm:List PTy->Nat->Nat->List Value->List (Nat×Value)
 | [],_,_,_=>[]
 |_::ps,i,k+1,vs=>Wm ps i k vs
 | .v _ _::ps,i,0,vs=>Wm ps (i+1) 0 vs.tail
 | .box _::ps,i,0,vs=>Wkf i vs++Wm ps (i+1) 0 vs.tail
 | .mut _::ps,i,0,vs=>Wkf i vs++Wm ps (i+1) 0 vs.tail
 | .clos _ n::ps,i,0,vs=>Wkf i vs++Wm ps (i+1) n vs.tail
 | .kv _ _::ps,i,0,vs=>Wkf i vs++Wm ps (i+1) 0 vs.tail
 | .rp _::ps,i,0,vs=>Wm ps (i+1) 0 vs.tail
 | .vj _::ps,i,0,vs=>Wm ps (i+1) 0 vs.tail
 | .boxal _ _::ps,i,0,vs=>Wkf i vs++Wm ps (i+2) 0 vs.tail.tail
theorem WaP{i:Nat}{vs:List Value}{p:Nat×Value}(h:p∈Wkf i vs):p.1=i/\vs[0]?=some p.2:=by
 unfold Wkf at h;split at h
 .simp at h;subst h;exact⟨rfl,rfl⟩
 .cases h
theorem WA:∀(ps:List PTy) (i k:Nat) (vs:List Value),∀p∈Wm ps i k vs,p.1∈WcK ps i k
 | [],_,_,_,p,h=>by simp[Wm]at h
 | .v _ _::ps,i,k+1,vs,p,h=>WA ps i k vs p h
 | .box _::ps,i,k+1,vs,p,h=>WA ps i k vs p h
 | .mut _::ps,i,k+1,vs,p,h=>WA ps i k vs p h
 | .clos _ _::ps,i,k+1,vs,p,h=>WA ps i k vs p h
 | .v _ _::ps,i,0,vs,p,h=>WA ps (i+1) 0 vs.tail p h
 | .box _::ps,i,0,vs,p,h=>by
  simp only[Wm]at h;rcases Xk.1 h with h|h
  .rw[(WaP h).1];exact Xh ..
  .exact Xe _ (WA ps (i+1) 0 vs.tail p h)
 | .mut _::ps,i,0,vs,p,h=>by
  simp only[Wm]at h;rcases Xk.1 h with h|h
  .rw[(WaP h).1];exact Xh ..
  .exact Xe _ (WA ps (i+1) 0 vs.tail p h)
 | .clos _ n::ps,i,0,vs,p,h=>by
  simp only[Wm]at h;rcases Xk.1 h with h|h
  .rw[(WaP h).1];exact Xh ..
  .exact Xe _ (WA ps (i+1) n vs.tail p h)
 | .kv _ _::ps,i,k+1,vs,p,h=>WA ps i k vs p h
 | .kv _ _::ps,i,0,vs,p,h=>by
  simp only[Wm]at h;rcases Xk.1 h with h|h
  .rw[(WaP h).1];exact Xh ..
  .exact Xe _ (WA ps (i+1) 0 vs.tail p h)
 | .rp _::ps,i,k+1,vs,p,h=>WA ps i k vs p h
 | .rp _::ps,i,0,vs,p,h=>WA ps (i+1) 0 vs.tail p h
 | .vj _::ps,i,k+1,vs,p,h=>WA ps i k vs p h
 | .vj _::ps,i,0,vs,p,h=>WA ps (i+1) 0 vs.tail p h
 | .boxal _ _::ps,i,k+1,vs,p,h=>WA ps i k vs p h
 | .boxal _ _::ps,i,0,vs,p,h=>by
  simp only[Wm]at h;rcases Xk.1 h with h|h
  .rw[(WaP h).1];exact Xh ..
  .exact Xe _ (WA ps (i+2) 0 vs.tail.tail p h)
theorem Wu:∀(ps:List PTy) (i k:Nat) (vs:List Value),∀p∈Wm ps i k vs,i<=p.1/\vs[p.1-i]?=some p.2
 | [],_,_,_,p,h=>by simp[Wm]at h
 | .v _ _::ps,i,k+1,vs,p,h=>Wu ps i k vs p h
 | .box _::ps,i,k+1,vs,p,h=>Wu ps i k vs p h
 | .mut _::ps,i,k+1,vs,p,h=>Wu ps i k vs p h
 | .clos _ _::ps,i,k+1,vs,p,h=>Wu ps i k vs p h
 | .v _ _::ps,i,0,vs,p,h=>by
  obtain⟨h1,h2⟩:=Wu ps (i+1) 0 vs.tail p h;refine⟨by omega,?_⟩;rw[show p.1-i=(p.1-(i+1))+1 by omega,←Xbz];exact h2
 | .box _::ps,i,0,vs,p,h=>by
  simp only[Wm]at h;rcases Xk.1 h with h|h
  .obtain⟨h1,h2⟩:=WaP h;rw[h1];exact⟨Xl _,by rw[Xcy];exact h2⟩
  .obtain⟨h1,h2⟩:=Wu ps (i+1) 0 vs.tail p h;refine⟨by omega,?_⟩;rw[show p.1-i=(p.1-(i+1))+1 by omega,←Xbz];exact h2
 | .mut _::ps,i,0,vs,p,h=>by
  simp only[Wm]at h;rcases Xk.1 h with h|h
  .obtain⟨h1,h2⟩:=WaP h;rw[h1];exact⟨Xl _,by rw[Xcy];exact h2⟩
  .obtain⟨h1,h2⟩:=Wu ps (i+1) 0 vs.tail p h;refine⟨by omega,?_⟩;rw[show p.1-i=(p.1-(i+1))+1 by omega,←Xbz];exact h2
 | .clos _ n::ps,i,0,vs,p,h=>by
  simp only[Wm]at h;rcases Xk.1 h with h|h
  .obtain⟨h1,h2⟩:=WaP h;rw[h1];exact⟨Xl _,by rw[Xcy];exact h2⟩
  .obtain⟨h1,h2⟩:=Wu ps (i+1) n vs.tail p h;refine⟨by omega,?_⟩;rw[show p.1-i=(p.1-(i+1))+1 by omega,←Xbz];exact h2
 | .kv _ _::ps,i,k+1,vs,p,h=>Wu ps i k vs p h
 | .kv _ _::ps,i,0,vs,p,h=>by
  simp only[Wm]at h;rcases Xk.1 h with h|h
  .obtain⟨h1,h2⟩:=WaP h;rw[h1];exact⟨Xl _,by rw[Xcy];exact h2⟩
  .obtain⟨h1,h2⟩:=Wu ps (i+1) 0 vs.tail p h;refine⟨by omega,?_⟩;rw[show p.1-i=(p.1-(i+1))+1 by omega,←Xbz];exact h2
 | .rp _::ps,i,k+1,vs,p,h=>Wu ps i k vs p h
 | .rp _::ps,i,0,vs,p,h=>by
  obtain⟨h1,h2⟩:=Wu ps (i+1) 0 vs.tail p h;refine⟨by omega,?_⟩;rw[show p.1-i=(p.1-(i+1))+1 by omega,←Xbz];exact h2
 | .vj _::ps,i,k+1,vs,p,h=>Wu ps i k vs p h
 | .vj _::ps,i,0,vs,p,h=>by
  obtain⟨h1,h2⟩:=Wu ps (i+1) 0 vs.tail p h;refine⟨by omega,?_⟩;rw[show p.1-i=(p.1-(i+1))+1 by omega,←Xbz];exact h2
 | .boxal _ _::ps,i,k+1,vs,p,h=>Wu ps i k vs p h
 | .boxal _ _::ps,i,0,vs,p,h=>by
  simp only[Wm]at h;rcases Xk.1 h with h|h
  .obtain⟨h1,h2⟩:=WaP h;rw[h1];exact⟨Xl _,by rw[Xcy];exact h2⟩
  .obtain⟨h1,h2⟩:=Wu ps (i+2) 0 vs.tail.tail p h;refine⟨by omega,?_⟩;rw[show p.1-i=(p.1-(i+2))+1+1 by omega,←Xbz,←Xbz];exact h2
def Wjp(tmps:Array Value):ResultVar->Sem Value
 | .tmp t=>pure (tmps.getD t undef)
 | .cell b t=>do loadVar t (←asAddr (tmps.getD b undef))
theorem Wh8(hT:WW P T)(hr:Rel w0 F nt G0 G ν st a w):∀(l:List ResultVar) (xs:List AVal),WcQ T st l=some xs->
  ∃vs:List Value,(l.mapM (Wjp a.tmps)).run P w= .ok vs w/\vs.length=xs.length/\
   ∀(j:Nat) (x:AVal) (v:Value),xs[j]?=some x->vs[j]?=some v->AValRel G ν st.nx x v
 | [],xs,h=>by
  simp only[WcQ]at h;injection h with h;subst h;exact⟨[],by simp,rfl,λj x v hj=>by simp at hj⟩
 | .tmp t::l,xs,h=>by
  simp only[WcQ]at h;split at h
  .rename_i x oU h1 h2;injection h with h;subst h;obtain⟨vs,h3,h4,h5⟩:=Wh8 hT hr l oU h2;obtain⟨v,hv,hx⟩:=hr.env t x h1;refine⟨v::vs,?_,by simp[h4],λj y u hj hu=>?_⟩
   .have bB:a.tmps.getD t undef=v:=by simp[Xcg,hv]
    simp only[Xew,Sem.run_bind,Wjp,Sem.run_pure,Result.andThen_ok,h3,bB]
   .cases j with
    |zero=>simp at hj hu;subst hj hu;exact hx
    |succ j=>exact h5 j y u (by simpa using hj) (by simpa using hu)
  .cases h
 | .cell b t::l,xs,h=>by
  simp only[WcQ]at h;split at h
  .rename_i x oU h1 h2;injection h with h;subst h;obtain⟨vs,h3,h4,h5⟩:=Wh8 hT hr l oU h2;cases hb:Wc st.env b with
   |none=>simp[hb]at h1
   |some y=>
    simp only[hb,Xd]at h1;obtain⟨v,hv,hx⟩:=hr.env b y hb;obtain⟨u,hu,uO⟩:=We9 hT hr.h hx h1;refine⟨u::vs,?_,by simp[h4],λj z q hj hq=>?_⟩
    .have bB:a.tmps.getD b undef=v:=by simp[Xcg,hv]
     unfold Instr.loadAt at hu;rw[Sem.run_bind]at hu;obtain⟨p,rfl⟩:∃p,v= .pointer (some p):=by
      unfold Instr.sureAddr at hu;split at hu
      .exact⟨_,rfl⟩
      .simp[stuck]at hu
     simp only[Instr.sureAddr,Sem.run_pure,Result.andThen_ok]at hu;have ha:(asAddr (.pointer (some p))).run P w= .ok p w:=rfl;simp only[Xew,Sem.run_bind,Wjp,Sem.run_pure,Result.andThen_ok,bB,ha,hu,h3]
    .cases j with
     |zero=>simp at hj hq;subst hj hq;exact uO
     |succ j=>exact h5 j z q (by simpa using hj) (by simpa using hq)
  .cases h
theorem Wcv(h:HR w0 F G ν φ objs nx w)(hg:GLe G G'):∀(rs:List PTy) (xs:List AVal) (vs:List Value) (A:Outs (WeW rs)),vs.length=xs.length->
  (∀(j:Nat) (x:AVal) (v:Value),xs[j]?=some x->vs[j]?=some v->AValRel G ν nx x v)->Lent G' w φ objs A.lent->A.moved.Nodup->War rs xs objs=some A->
  ∃ns,Wd5 G' w rs A.d vs ns/\Sep (fps ns)/\(∀q∈ns,CS.le q.fp (FromL φ objs A.moved))/\(∀i∈A.moved,Live objs i)
 | [],xs,vs,A,hlen,hx,hl,aH,hf=>by
  simp only[War]at hf;split at hf
  .injection hf with hf;subst hf;have dB:vs= []:=Xx (by simpa using hlen);exact⟨[],⟨dB,rfl⟩,List.Pairwise.nil,by simp,by simp⟩
  .cases hf
 | .v t agg::rs,xs,vs,A,hlen,hx,hl,aH,hf=>by
  simp only[War]at hf;split at hf
  .rename_i x xs;split at hf
   .rename_i d m l A' h1 h2;injection hf with hf;subst hf
    match vs,hlen with
    |v::vs,hlen=>
     cases hc:cellsOf agg x with
     |none=>simp[hc]at h1
     |some cs=>
      simp[hc]at h1;obtain⟨k1,k2,k3⟩:=Xaf.1 aH;obtain⟨n1,g1,g2,g3,g4,_⟩:=Wid h hg (hx 0 x v rfl rfl) (hl.mono (λi hi=>Xj _ hi)) k1 hc h1;obtain⟨n2,g5,g6,g7,g8⟩:=Wcv h hg rs xs vs A' (by simpa using hlen) (λj y u hj hu=>hx (j+1) y u (by simpa using hj) (by simpa using hu)) (hl.mono (λi hi=>Xg _ hi)) k2 h2;refine⟨n1++n2,⟨v,vs,n1,n2,rfl,rfl,g1,g5⟩,Wbn h g2 g6 g3 g7 (λi hi hj=>k3 i hi i hj rfl),λq hq=>?_,λi hi=>?_⟩
      .rcases Xk.1 hq with hq|hq
       .exactλb o hh=>FromL.mono (λi hi=>Xj _ hi) b o (g3 q hq b o hh)
       .exactλb o hh=>FromL.mono (λi hi=>Xg _ hi) b o (g7 q hq b o hh)
      .rcases Xk.1 hi with hi|hi
       .exact g4 i hi
       .exact g8 i hi
   .cases hf
  .cases hf
 | .box t::rs,xs,vs,A,hlen,hx,hl,aH,hf=>by
  simp only[War]at hf;split at hf
  .rename_i id xs;split at hf
   .rename_i cs aL;split at hf
    .rename_i d m l A' h1 h2;injection hf with hf;subst hf
     match vs,hlen with
     |v::vs,hlen=>
      obtain⟨k0,k1⟩:=Xae.1 aH;obtain⟨k2,k3,k4⟩:=Xaf.1 k1;obtain⟨⟨_,b,hνb,rfl⟩,_⟩:=hx 0 _ v rfl rfl;have aC:Live objs id:=⟨_,aL,by simp⟩;obtain⟨b'',us,jy,hrow,hmem,aX,dC⟩:Wbx G ν nx w id (φ id) (.box cs):=h.ob _ _ aL;rw[hνb]at jy;injection jy with jy;subst jy;obtain⟨n1,g1,g2,g3,g4,_⟩:=WT h hg t cs us d m l aX (hl.mono (λi hi=>Xj _ hi)) k2 h1;have cU:cs.length=t.size:=by rw[←aX.1];exact Wk _ _ _ _ g1
      obtain⟨n2,g5,g6,g7,g8⟩:=Wcv h hg rs xs vs A' (by simpa using hlen) (λj y u hj hu=>hx (j+1) y u (by simpa using hj) (by simpa using hu)) (hl.mono (λi hi=>Xg _ hi)) k3 h2;rw[cU]at hrow dC;refine⟨⟨Wbh b ((ν id).off+0),rng b ((ν id).off+0) t.size⟩::(n1++n2),⟨b,(ν id).off+0,vs,n1,n2,rfl,rfl,⟨us,hrow,hmem,g1⟩,g5⟩,?_,λq hq=>?_,λi hi=>?_⟩
      .refine Wbn h (n1:=[⟨Wbh b ((ν id).off+0),rng b ((ν id).off+0) t.size⟩]) (m:=[id]) (l:=m++A'.moved) (Xba _ _) (Wbn h g2 g6 g3 g7 (λi hi hj=>k4 i hi i hj rfl)) (λq hq=>?_) (λq hq=>?_) (λi hi hj=>k0 (by rw[←Xab.1 hi];exact hj))
       .rw[Xab.1 hq];exactλb o hh=>⟨id,by simp,aC,dC b o hh⟩
       .rcases Xk.1 hq with hq|hq
        .exactλb o hh=>FromL.mono (λi hi=>Xj _ hi) b o (g3 q hq b o hh)
        .exactλb o hh=>FromL.mono (λi hi=>Xg _ hi) b o (g7 q hq b o hh)
      .rcases Xm.1 hq with rfl|hq
       .exactλb o hh=>⟨id,by simp,aC,dC b o hh⟩
       .rcases Xk.1 hq with hq|hq
        .exactλb o hh=>FromL.mono (λi hi=>Xe _ (Xj _ hi)) b o (g3 q hq b o hh)
        .exactλb o hh=>FromL.mono (λi hi=>Xe _ (Xg _ hi)) b o (g7 q hq b o hh)
      .rcases Xm.1 hi with rfl|hi
       .exact aC
       .rcases Xk.1 hi with hi|hi
        .exact g4 i hi
        .exact g8 i hi
    .cases hf
   .cases hf
  .cases hf
 | .mut _::_,_,_,_,_,_,_,_,h=>by simp only[War]at h;cases h
 | .clos _ _::_,_,_,_,_,_,_,_,h=>by simp only[War]at h;cases h
 | .kv _ _::_,_,_,_,_,_,_,_,h=>by simp only[War]at h;cases h
 | .rp _::_,_,_,_,_,_,_,_,h=>by simp only[War]at h;cases h
 | .vj t::rs,xs,vs,A,hlen,hx,hl,aH,hf=>by
  simp only[War]at hf;split at hf
  .rename_i cs xs;split at hf
   .rename_i hcl;split at hf
    .rename_i d m l A' h1 h2;injection hf with hf;subst hf
     match vs,hlen with
     |v::vs,hlen=>
      obtain⟨k1,k2,k3⟩:=Xaf.1 aH;obtain⟨us,rfl,aX⟩:=hx 0 _ v rfl rfl;obtain⟨n1,g1,g2,g3,g4,_⟩:=WT h hg t (cs.take t.size) (us.take t.size) d m l (aX.take t.size) (hl.mono (λi hi=>Xj _ hi)) k1 h1;obtain⟨n2,g5,g6,g7,g8⟩:=Wcv h hg rs xs vs A' (by simpa using hlen) (λj y u hj hu=>hx (j+1) y u (by simpa using hj) (by simpa using hu)) (hl.mono (λi hi=>Xg _ hi)) k2 h2;have cU:us.length=t.size+1:=by rw[aX.1,hcl]
      have hlt:t.size<us.length:=by omega
      have e0:us=us.take t.size++ [us[t.size]]:=by
       rw[←List.take_succ_eq_append_getElem hlt,Xbr (by omega)]
      have ho:=(aX.2 t.size (cs[t.size]'(by omega)) us[t.size] (Xq (by omega)) (Xq hlt)).2;refine⟨n1++n2,⟨us.take t.size,us[t.size],vs,n1,n2,by rw[←e0],ho,rfl,g1,g5⟩,Wbn h g2 g6 g3 g7 (λi hi hj=>k3 i hi i hj rfl),λq hq=>?_,λi hi=>?_⟩
      .rcases Xk.1 hq with hq|hq
       .exactλb o hh=>FromL.mono (λi hi=>Xj _ hi) b o (g3 q hq b o hh)
       .exactλb o hh=>FromL.mono (λi hi=>Xg _ hi) b o (g7 q hq b o hh)
      .rcases Xk.1 hi with hi|hi
       .exact g4 i hi
       .exact g8 i hi
    .cases hf
   .cases hf
  .cases hf
 | .boxal _ _::_,_,_,_,_,_,_,_,h=>by simp only[War]at h;cases h
theorem Wkw{p:PTy}{ps:List PTy}{k:Nat}(h:Wg7 (p::ps) (k+1)=true):(∃t,p= .box t)/\Wg7 ps k=true:=by
 cases p with
 |box t=>exact⟨⟨t,rfl⟩,h⟩
 |_=>cases h
theorem Wer(hr:Rel w0 F nt G0 G ν st a w){i:Nat}{u:Value}(hp:a.tmps[i]?=some u):(Wc st.env i).getD (.tup [])= .tup []\/AValRel G ν st.nx ((Wc st.env i).getD (.tup [])) u:=by
 cases he:Wc st.env i with
 |none=>exact .inl rfl
 |some y=>
  obtain⟨v,hv,hx⟩:=hr.env i y he;rw[hp]at hv;injection hv with hv;subst hv;exact .inr hx
theorem W6{wb:World}{Gb:GH}(hr:Rel w0 F nt G0 G ν st a w):∀(ps:List PTy) (d:Wdz ps) (vs:List Value) (ns:List Pc) (ks:List Nu) (i k:Nat),WaI Gb wb ps d vs ns ks->Wbw ps=true->Wg7 ps k=true->k<=vs.length->
  (∀p∈Wm ps i k (vs.drop k),a.tmps[p.1]?=some p.2)->(Wi ps i k st).length+k=vs.length/\
  ∀(j:Nat) (x:AVal) (v:Value),(Wi ps i k st)[j]?=some x->vs[k+j]?=some v->x= .tup []\/AValRel G ν st.nx x v
 | [],d,vs,ns,ks,i,k,⟨h1,_,_⟩,_,_,hk,_=>by
  subst h1;have:k=0:=by simpa using hk
  subst this;exact⟨rfl,λj x v hj=>by simp[Wi]at hj⟩
 |p::ps,d,vs,ns,ks,i,k+1,h,hc,hb,hk,hp=>by
  obtain⟨⟨t,rfl⟩,hb'⟩:=Wkw hb;obtain⟨b,o,vs',n1,n2,ks',h1,h2,h3,h4,h6⟩:=h;subst h1;have eE:Wbw ps=true:=hc;obtain⟨e1,e2⟩:=W6 hr ps d.2 vs' n2 ks' i k h6 eE hb' (by simpa using hk) (by simpa [Wm]using hp);refine⟨by simp only[Wi,Xt];omega,λj x v hj hv=>e2 j x v (by simpa [Wi]using hj) ?_⟩;rw[show k+1+j=(k+j)+1 by omega]at hv;simpa using hv
 | .v t agg::ps,d,vs,ns,ks,i,0,⟨v,vs',n1,n2,h1,h2,h3,h4⟩,hc,_,_,hp=>by
  subst h1;obtain⟨e1,e2⟩:=W6 hr ps d.2 vs' n2 ks (i+1) 0 h4 hc (by cases ps<;>rfl) (Xbk _) (by simpa [Wm]using hp);refine⟨by simp only[Wi,Xt];omega,λj x u hj hu=>?_⟩;cases j with
  |zero=>simp[Wi]at hj;exact .inl hj.symm
  |succ j=>exact e2 j x u (by simpa [Wi]using hj) (by simpa using hu)
 | .rp t::ps,d,vs,ns,ks,i,0,⟨b,o,us,vs',h1,h2,h3,h4⟩,hc,_,_,hp=>by
  subst h1;obtain⟨e1,e2⟩:=W6 hr ps d.2 vs' ns ks (i+1) 0 h4 hc (by cases ps<;>rfl) (Xbk _) (by simpa [Wm]using hp);refine⟨by simp only[Wi,Xt];omega,λj x u hj hu=>?_⟩;cases j with
  |zero=>simp[Wi]at hj;exact .inl hj.symm
  |succ j=>exact e2 j x u (by simpa [Wi]using hj) (by simpa using hu)
 | .box t::ps,d,vs,ns,ks,i,0,⟨b,o,vs',n1,n2,ks',h1,h2,h3,h4,h6⟩,hc,_,_,hp=>by
  subst h1;simp only[Wm,Xce,Xee]at hp;obtain⟨e1,e2⟩:=W6 hr ps d.2 vs' n2 ks' (i+1) 0 h6 hc (by cases ps<;>rfl) (Xbk _) (λp fF=>hp p (Xg _ (by simpa using fF)));refine⟨by simp only[Wi,Xt];omega,λj x u hj hu=>?_⟩;cases j with
  |zero=>
   simp[Wi]at hj hu;subst hj hu;exact Wer hr (hp (i,_) (Xj _ (Xh ..)))
  |succ j=>exact e2 j x u (by simpa [Wi]using hj) (by simpa using hu)
 | .vj _::_,_,_,_,_,_,_,h,_,_,_,_=>h.elim
 | .boxal t lf::ps,d,vs,ns,ks,i,0,⟨b,o,b',pc,vs',n1,n2,ks',h1,h2,h3,h4,h5,h6,h7,h8⟩,hc,_,_,hp=>by
  subst h1;simp only[Wm,Xce,Xee]at hp;obtain⟨e1,e2⟩:=W6 hr ps d.2.2 vs' n2 ks' (i+2) 0 h8 hc (by cases ps<;>rfl) (Xbk _) (λp fF=>hp p (Xg _ (by simpa using fF)));refine⟨by simp only[Wi,Xt];omega,λj x u hj hu=>?_⟩
  match j with
  |0=>
   simp[Wi]at hj hu;subst hj hu;exact Wer hr (hp (i,_) (Xj _ (Xh ..)))
  |1=>simp[Wi]at hj;exact .inl hj.symm
  |j+2=>exact e2 j x u (by simpa [Wi]using hj) (by simpa using hu)
 | .mut e::ps,d,vs,ns,ks,i,0,⟨pc,vs',n2,ks',h1,h2,h3,h4,h5⟩,hc,_,_,hp=>by
  subst h1;simp only[Wm,Xce,Xee]at hp;obtain⟨e1,e2⟩:=W6 hr ps d.2 vs' n2 ks' (i+1) 0 h5 hc (by cases ps<;>rfl) (Xbk _) (λp fF=>hp p (Xg _ (by simpa using fF)));refine⟨by simp only[Wi,Xt];omega,λj x u hj hu=>?_⟩;cases j with
  |zero=>
   simp[Wi]at hj hu;subst hj hu;exact Wer hr (hp (i,_) (Xj _ (Xh ..)))
  |succ j=>exact e2 j x u (by simpa [Wi]using hj) (by simpa using hu)
 | .clos g n::ps,d,vs,ns,ks,i,0,⟨cvs,vs',h1,h2,h3,h4⟩,hc,_,_,hp=>by
  subst h1;simp only[Wbw,Xi]at hc;simp only[Wm,Xce,Xee]at hp;obtain⟨e1,e2⟩:=W6 hr ps d (cvs++vs') ns ks (i+1) n h4 hc.2 hc.1 (by simp[h2]) (λp fF=>hp p (Xg _ (by rw[List.drop_left' h2]at fF;exact fF)));refine⟨by simp only[Wi,Xt];simp at e1;omega,λj x u hj hu=>?_⟩;cases j with
  |zero=>
   simp[Wi]at hj hu;subst hj hu;exact Wer hr (hp (i,_) (Xj _ (Xh ..)))
  |succ j=>exact e2 j x u (by simpa [Wi]using hj) (by rw[Xas (by omega),h2,Xay];simpa using hu)
 | .kv t agg::ps,d,vs,ns,ks,i,0,⟨v,vs',n1,n2,ks',h1,h2,gL,h3,h4⟩,hc,_,_,hp=>by
  subst h1;simp only[Wm,Xce,Xee]at hp;obtain⟨e1,e2⟩:=W6 hr ps d.2 vs' n2 ks' (i+1) 0 h4 hc (by cases ps<;>rfl) (Xbk _) (λp fF=>hp p (Xg _ (by simpa using fF)));refine⟨by simp only[Wi,Xt];omega,λj x u hj hu=>?_⟩;cases j with
  |zero=>
   simp[Wi]at hj hu;subst hj hu;exact Wer hr (hp (i,_) (Xj _ (Xh ..)))
  |succ j=>exact e2 j x u (by simpa [Wi]using hj) (by simpa using hu)
theorem Wlo{G G':GH}{wb w:World}{nu nB:Nu}{e:Ty}{xs ys:List e.den}{S S':CS}(h4:OwnL wb (TyRel G wb e) e.size nu xs S)(hown:OwnL w (TyRel G' w e) e.size nB ys S')(hx:nu.hdr=nB.hdr):OwnL w (TyRel G' w e) e.size nu ys S':=by
 unfold Nu.hdr at hx;cases hb:nB.blk with
 |none=>
  cases hb':nu.blk with
  |some b=>simp[hb,hb']at hx
  |none=>
   have k1:=Wbp h4 hb';have k2:=Wbp hown hb;refine⟨by rw[k2,←h4.1,k1],h4.2.1,?_⟩;simp only[hb'];exact k2
 |some b=>
  cases hb':nu.blk with
  |none=>simp[hb,hb']at hx
  |some b'=>
   simp only[hb,hb']at hx;injection hx with x1 x2 x3;injection x1 with x1;injection x1 with x1 x4 _;have e1:=h4.2.1;have e2:=hown.2.1;have:nu=nB:=by
    obtain⟨a1,a2,a3,a4,a5⟩:=nu;obtain⟨b1,b2,b3,b4,b5⟩:=nB;simp only at hb hb' x1 x2 x3 x4 e1 e2;subst hb hb' x1 x2 x3 x4;rw[e1,e2]
   rw[this];exact hown
theorem Wdu{G G':GH}{wb w:World}:∀(t:Ty) (d0 d:t.den) (us:List Value) (n1 n2:List Pc),TyRel G wb t d0 us n1->TyRel G' w t d us n2->∃n3,TyRel G' w t d us n3/\nus n3=nus n1/\fps n3=fps n2
 | .own e,d0,d,us,n1,n2,⟨pc,h1,h2,h3⟩,⟨cN,g1,g2,g3⟩=>by
  subst h1 g1;have hx:pc.nu.hdr=cN.nu.hdr:=by rw[h2]at g2;simpa using g2
  exact⟨[⟨pc.nu,cN.fp⟩],⟨_,rfl,h2,Wlo h3 g3 hx⟩,rfl,rfl⟩
 | .prod a b,d0,d,us,n1,n2,⟨v1,v2,m1,m2,h1,h2,h3,h4⟩,⟨u1,u2,k1,k2,g1,g2,g3,g4⟩=>by
  have l1:=Wk a _ _ _ h3;have l2:=Wk a _ _ _ g3;obtain⟨q1,q2⟩:=List.append_inj (h1.symm.trans g1) (by rw[l1,l2]);subst q1 q2 h2 g2;obtain⟨a1,a2,a3,a4⟩:=Wdu a _ _ _ _ _ h3 g3;obtain⟨b1,b2,b3,b4⟩:=Wdu b _ _ _ _ _ h4 g4;exact⟨a1++b1,⟨_,_,a1,b1,h1,rfl,a2,b2⟩,by unfold nus at a3 b3⊢;rw[Xn,Xn,a3,b3],by unfold fps at a4 b4⊢;rw[Xn,Xn,a4,b4]⟩
 | .int _,d0,d,us,n1,n2,h,g=>by obtain⟨h1,_⟩:=h;obtain⟨g1,g2⟩:=g;subst h1 g1;exact⟨[],⟨rfl,g2⟩,rfl,rfl⟩
 | .bool,d0,d,us,n1,n2,h,g=>by obtain⟨h1,_⟩:=h;obtain⟨g1,g2⟩:=g;subst h1 g1;exact⟨[],⟨rfl,g2⟩,rfl,rfl⟩
 | .str,d0,d,us,n1,n2,h,g=>by obtain⟨h1,_⟩:=h;obtain⟨g1,g2⟩:=g;subst h1 g1;exact⟨[],⟨rfl,g2⟩,rfl,rfl⟩
 | .slice _,d0,d,us,n1,n2,h,g=>by obtain⟨h1,_⟩:=h;obtain⟨g1,g2⟩:=g;subst h1 g1;exact⟨[],⟨rfl,g2⟩,rfl,rfl⟩
theorem Wob{G G':GH}{wb w:World}{t:Ty}{agg:Bool}{d0 d:t.den}{v:Value}{n1 n2:List Pc}(h:Wgr G wb t agg d0 v n1)(g:Wgr G' w t agg d v n2):∃us n3,TyRel G' w t d us n3/\nus n3=nus n1/\fps n3=fps n2:=by
 unfold Wgr at h g;split at h
 .rename_i ha;rw[if_pos ha]at g;obtain⟨us,h1,h2⟩:=h;obtain⟨uP,g1,g2⟩:=g;have:us=uP:=by
   rw[h1]at g1;injection g1 with g1;have:=congrArg Array.toList g1;simpa using this
  subst this;exact⟨us,Wdu _ _ _ _ _ _ h2 g2⟩
 .rename_i ha;rw[if_neg ha]at g;exact⟨_,Wdu _ _ _ _ _ _ h g⟩
structure OOk(G':GH)(φ:Nat->CS)(objs:WS)(w:World)(ps:List PTy)(B:OutK (Wd3 ps))(ks:List Nu)(kf:List CS)(ms:List Pc):Prop where
 outs:WaT G' w ps B.d ks kf ms
 sepk:Sep kf
 sepm:Sep (fps ms)
 kf:∀S∈kf,CS.le S (FromL φ objs B.kept)
 ms:∀q∈ms,CS.le q.fp (FromL φ objs B.moved)
theorem WqU(h:HR w0 F G ν φ objs nx w){k1 k2:List CS}{m l:List Nat}(h1:Sep k1)(h2:Sep k2)(g1:∀S∈k1,CS.le S (FromL φ objs m))(g2:∀S∈k2,CS.le S (FromL φ objs l))(hd:∀i∈m,i∉l):Sep (k1++k2):=
 Wkm h1 h2 (A:=FromL φ objs m) (B:=FromL φ objs l) g1 g2 (FromL.disj h hd)
theorem We5{wb:World}{Gb:GH}(hg:GLe G G')(h:HR w0 F G ν φ objs nx w){t:Ty}{ps:List PTy}{id b o:Nat}{cs:List Cell}{dd:t.den}{m l:List Nat}{A:OutK (Wd3 ps)}{ks:List Nu}{kf:List CS}{ms:List Pc}
  (hx:CellRel G ν nx (.ptr id 0) (.pointer (some ⟨b,o,none⟩))) (ho:Wc objs id=some (.box cs)) (g1:WZ t cs objs=some (dd,m,l)) (hl:Lent G' w φ objs l) (hk:(id::A.kept).Nodup) (hm:(m++A.moved).Nodup) (hA:OOk G' φ objs w ps A ks kf ms):
  ∃nn,WdH G' w t dd b o nn/\Sep (rng b o t.size::kf)/\Sep (fps (nn++ms))/\(∀S∈rng b o t.size::kf,CS.le S (FromL φ objs (id::A.kept)))/\(∀q∈nn++ms,CS.le q.fp (FromL φ objs (m++A.moved))):=by
 obtain⟨_,b',uQ,jb⟩:=hx;injection jb with jb;injection jb with jb;injection jb with jb jn _;subst jb jn;have aC:Live objs id:=⟨_,ho,by simp⟩;obtain⟨b'',us,pd,hrow,hmem,aX,dC⟩:Wbx G ν nx w id (φ id) (.box cs):=h.ob _ _ ho;rw[uQ]at pd;injection pd with pd;subst pd;obtain⟨k1,k2⟩:=Xae.1 hk;obtain⟨k3,k4,k5⟩:=Xaf.1 hm;obtain⟨nn,e1,e2,e3,_⟩:=WT h hg t cs us dd m l aX hl k3 g1;have cU:cs.length=t.size:=by rw[←aX.1];exact Wk _ _ _ _ e1
 rw[cU]at hrow dC;have eG:CS.le (rng b ((ν id).off+0) t.size) (FromL φ objs [id]):=λb o hh=>⟨id,by simp,aC,dC b o hh⟩;refine⟨nn,⟨us,hrow,hmem,e1⟩,?_,Wbn h e2 hA.sepm e3 hA.ms (λi hi hj=>k5 i hi i hj rfl),λS hS=>?_,λq hq=>?_⟩
 .exact WqU h (k1:=[rng b ((ν id).off+0) t.size]) (m:=[id]) (Xba _ _) hA.sepk (λS hS=>by rw[Xab.1 hS];exact eG) hA.kf (λi hi hj=>k1 (by rw[←Xab.1 hi];exact hj))
 .rcases Xm.1 hS with rfl|hS
  .exactλb o hh=>FromL.mono (λi hi=>by rw[Xab.1 hi];exact Xh ..) b o (eG b o hh)
  .exactλb o hh=>FromL.mono (λi hi=>Xe _ hi) b o (hA.kf S hS b o hh)
 .rcases Xk.1 hq with hq|hq
  .exactλb o hh=>FromL.mono (λi hi=>Xj _ hi) b o (e3 q hq b o hh)
  .exactλb o hh=>FromL.mono (λi hi=>Xg _ hi) b o (hA.ms q hq b o hh)
theorem Wai{wb:World}{Gb:GH}(hg:GLe G G')(h:HR w0 F G ν φ objs nx w):∀(ps:List PTy) (d:Wdz ps) (vs:List Value) (ns:List Pc) (ks:List Nu) (xs:List AVal) (B:OutK (Wd3 ps)),WaI Gb wb ps d vs ns ks->xs.length=vs.length->
  (∀(j:Nat) (x:AVal) (v:Value),xs[j]?=some x->vs[j]?=some v->x= .tup []\/AValRel G ν nx x v)->Lent G' w φ objs B.lent->B.kept.Nodup->B.moved.Nodup->WK ps xs objs=some B->
  ∃kf ms,OOk G' φ objs w ps B ks kf ms
 | [],d,vs,ns,ks,xs,B,⟨_,_,hk⟩,_,_,_,_,_,hf=>by
  simp only[WK]at hf;injection hf with hf;subst hf;exact⟨[],[],⟨hk,rfl,rfl⟩,List.Pairwise.nil,List.Pairwise.nil,by simp,by simp⟩
 | .v t agg::ps,d,vs,ns,ks,xs,B,⟨v,vs',n1,n2,h1,h2,h3,h4⟩,hlen,hp,hl,hk,hm,hf=>by
  subst h1;simp only[WK]at hf;cases hA:WK ps xs.tail objs with
  |none=>simp[hA]at hf
  |some A=>
   simp[hA]at hf;subst hf
   match xs,hlen with
   |x::xs,hlen=>
    obtain⟨kf,ms,hO⟩:=Wai hg h ps d.2 vs' n2 ks xs A h4 (by simpa using hlen) (λj y u hj hu=>hp (j+1) y u (by simpa using hj) (by simpa using hu)) hl hk hm hA;exact⟨kf,ms,hO.outs,hO.sepk,hO.sepm,hO.kf,hO.ms⟩
 | .rp t::ps,d,vs,ns,ks,xs,B,⟨b,o,us,vs',h1,h2,h3,h4⟩,hlen,hp,hl,hk,hm,hf=>by
  subst h1;simp only[WK]at hf;cases hA:WK ps xs.tail objs with
  |none=>simp[hA]at hf
  |some A=>
   simp[hA]at hf;subst hf
   match xs,hlen with
   |x::xs,hlen=>
    obtain⟨kf,ms,hO⟩:=Wai hg h ps d.2 vs' ns ks xs A h4 (by simpa using hlen) (λj y u hj hu=>hp (j+1) y u (by simpa using hj) (by simpa using hu)) hl hk hm hA;exact⟨kf,ms,hO.outs,hO.sepk,hO.sepm,hO.kf,hO.ms⟩
 | .box t::ps,d,vs,ns,ks,xs,B,⟨b,o,vs',n1,n2,ks',h1,h2,h3,h4,h6⟩,hlen,hp,hl,hk,hm,hf=>by
  subst h1;simp only[WK]at hf;split at hf
  .rename_i id xs;split at hf
   .rename_i cs ho;split at hf
    .rename_i dd m l A g1 g2;injection hf with hf;subst hf;have hx:=((hp 0 _ _ rfl rfl).resolve_left (λe=>by cases e)).1;obtain⟨kf,ms,hO⟩:=Wai hg h ps d.2 vs' n2 ks' xs A h6 (by simpa using hlen) (λj y u hj hu=>hp (j+1) y u (by simpa using hj) (by simpa using hu)) (hl.mono λj hj=>Xg _ hj) (Xae.1 hk).2 (Xaf.1 hm).2.1 g2;obtain⟨nn,e1,e2,e3,e4,e5⟩:=We5 (wb:=wb) (Gb:=Gb) hg h hx ho g1 (hl.mono λj hj=>Xj _ hj) hk hm hO;exact⟨_,nn++ms,⟨b,o,ks',kf,nn,ms,h3,rfl,rfl,e1,hO.outs⟩,e2,e3,e4,e5⟩
    .cases hf
   .cases hf
  .cases hf
 | .vj _::_,_,_,_,_,_,_,h,_,_,_,_,_,_=>h.elim
 | .boxal t lf::ps,d,vs,ns,ks,xs,B,⟨b,o,b',pc,vs',n1,n2,ks',h1,h2,h3,h4,h5,h6,h7,h8⟩,hlen,hp,hl,hk,hm,hf=>by
  subst h1;simp only[WK]at hf;split at hf
  .rename_i id y xs;split at hf
   .rename_i cs ho;split at hf
    .rename_i dd m l A g1 g2;injection hf with hf;subst hf;have hx:=((hp 0 _ _ rfl rfl).resolve_left (λe=>by cases e)).1;obtain⟨kf,ms,hO⟩:=Wai hg h ps d.2.2 vs' n2 ks' xs A h8 (by simpa using hlen) (λj y u hj hu=>hp (j+2) y u (by simpa using hj) (by simpa using hu)) (hl.mono λj hj=>Xg _ hj) (Xae.1 hk).2 (Xaf.1 hm).2.1 g2;obtain⟨nn,e1,e2,e3,e4,e5⟩:=We5 (wb:=wb) (Gb:=Gb) hg h hx ho g1 (hl.mono λj hj=>Xj _ hj) hk hm hO;exact⟨_,nn++ms,⟨b,o,ks',kf,nn,ms,h3,rfl,rfl,e1,hO.outs⟩,e2,e3,e4,e5⟩
    .cases hf
   .cases hf
  .cases hf
 | .mut e::ps,d,vs,ns,ks,xs,B,⟨pc,vs',n2,ks',h1,h2,h3,h4,h5⟩,hlen,hp,hl,hk,hm,hf=>by
  subst h1;simp only[WK]at hf;split at hf
  .rename_i id xs;split at hf
   .rename_i e' ys ho;split at hf
    .rename_i dd A g1 g2;injection hf with hf;subst hf;obtain⟨fO,hd⟩:=W1 g1;subst fO;simp only at hd;subst hd;obtain⟨⟨_,hx⟩,_⟩:=(hp 0 _ _ rfl rfl).resolve_left (λe=>by cases e);have aC:Live objs id:=⟨_,ho,by simp⟩;have hown:OwnL w (TyRel G w e') e'.size (ν id) ys (φ id):=h.ob _ _ ho;have hown':=WbU hg (Same.refl _ w) (λ_ _ hh=>hh) hown;obtain⟨k1,k2⟩:=Xae.1 hk;obtain⟨kf,ms,hO⟩:=Wai hg h ps d.2 vs' n2 ks' xs A h5 (by simpa using hlen) (λj y u hj hu=>hp (j+1) y u (by simpa using hj) (by simpa using hu)) hl k2 hm g2;refine⟨φ id::kf,ms,⟨⟨pc.nu,φ id⟩,ks',kf,h3,rfl,Wlo h4 hown' hx,hO.outs⟩,?_,hO.sepm,λS hS=>?_,hO.ms⟩
     .exact WqU h (k1:=[φ id]) (m:=[id]) (Xba _ _) hO.sepk (λS hS=>by rw[Xab.1 hS];exact FromL.one (by simp) aC) hO.kf (λi hi hj=>k1 (by rw[←Xab.1 hi];exact hj))
     .rcases Xm.1 hS with rfl|hS
      .exact FromL.one (Xh ..) aC
      .exactλb o hh=>FromL.mono (λi hi=>Xe _ hi) b o (hO.kf S hS b o hh)
    .cases hf
   .cases hf
  .cases hf
 | .clos g n::ps,d,vs,ns,ks,xs,B,⟨cvs,vs',h1,h2,h3,h4⟩,hlen,hp,hl,hk,hm,hf=>by
  subst h1;simp only[WK]at hf;split at hf
  .rename_i g' caps xs;split at hf
   .rename_i hc;obtain⟨rfl,hcl⟩:=hc;cases hA:WK ps (Wg9 caps++xs) objs with
    |none=>simp[hA]at hf
    |some A=>
     simp[hA]at hf;subst hf;obtain⟨⟨us,qf,pe,uR⟩,_⟩:=(hp 0 _ _ rfl rfl).resolve_left (λe=>by cases e);have hC:us=cvs:=by
      injection qf with _ _ qf;have:=congrArg Array.toList qf;simpa using this.symm
     subst hC;obtain⟨kf,ms,hO⟩:=Wai hg h ps d (us++vs') ns ks (Wg9 caps++xs) A h4 (by simp[Wg9,pe];simpa using hlen) (λj y u hj hu=>by
      rw[Xaq]at hj hu;simp only[Wg9,List.length_map]at hj;rw[pe]at hu;split at hj
      .rename_i hlt;rw[if_pos hlt]at hu;rw[Xak]at hj;obtain⟨id,bg,rfl⟩:=Xw.1 hj;obtain⟨q1,q3,q2⟩:=uR _ id u bg hu;exact .inr ⟨⟨q1,q2⟩,q3⟩
      .rename_i hlt;rw[if_neg hlt]at hu;exact hp (j-caps.length+1) y u (by simpa using hj) (by simpa using hu)) hl hk hm hA
     exact⟨kf,ms,hO.outs,hO.sepk,hO.sepm,hO.kf,hO.ms⟩
   .cases hf
  .cases hf
 | .kv t agg::ps,d,vs,ns,ks,xs,B,⟨v,vs',n1,n2,ks',h1,h2,gL,h3,h4⟩,hlen,hp,hl,hk,hm,hf=>by
  subst h1;simp only[WK]at hf;split at hf
  .rename_i x xs;split at hf
   .rename_i dd m l A g1 g2;split at hf
    .rename_i eR;injection hf with hf;subst hf;cases hc:cellsOf agg x with
     |none=>simp[hc]at g1
     |some cs=>
      simp[hc]at g1;obtain⟨k1,k2,k3⟩:=Xaf.1 hk;have hx:=(hp 0 _ _ rfl rfl).resolve_left (λe=>by subst e;cases hc);have bJ:Lent G' w φ objs l:=hl.mono λj hj=>Xj _ hj;obtain⟨_,_,_,_,q4,_⟩:=Wid h hg hx bJ k1 hc g1;obtain⟨v1,_⟩:=WiG h hg hx bJ hc g1 eR;obtain⟨us,n3,r1,r2,r3⟩:=Wob h3 v1;obtain⟨kf,ms,hO⟩:=Wai hg h ps d.2 vs' n2 ks' xs A h4 (by simpa using hlen) (λj y u hj hu=>hp (j+1) y u (by simpa using hj) (by simpa using hu)) (hl.mono λj hj=>Xg _ hj) k2 hm g2;have gp:∀S∈fps n3,CS.le S (FromL φ objs m):=λS hS=>by
       rw[r3,WkA]at hS;obtain⟨i,hi,rfl⟩:=Xu.1 hS;exact FromL.one hi (q4 i hi)
      have gs:Sep (fps n3):=by
       rw[r3,WkA];refine List.pairwise_map.2 (k1.imp_of_mem λ{i j} hi hj hne=>?_)
       exactλb o h1 h2=>hne (h.inj i j b o (q4 i hi) (q4 j hj) h1 h2)
      refine⟨fps n3++kf,ms,⟨n3,ks',kf,us,by rw[gL,r2],rfl,r1,hO.outs⟩,WqU h gs hO.sepk gp hO.kf (λi hi hj=>k3 i hi i hj rfl),hO.sepm,λS hS=>?_,hO.ms⟩;rcases Xk.1 hS with hS|hS
      .exactλb o hh=>FromL.mono (λi hi=>Xj _ hi) b o (gp S hS b o hh)
      .exactλb o hh=>FromL.mono (λi hi=>Xg _ hi) b o (hO.kf S hS b o hh)
    .cases hf
   .cases hf
  .cases hf
end
end Go.Sx
namespace Go.Sx
set_option linter.unusedVariables false
set_option linter.unusedSimpArgs false
section
variable{P:Program}{T:Tab}{Γ:Ctx}
theorem WoL{sg:Sig}{d:Wdz sg.ps}{G:GH}{w:World}{vs:List Value}{ns:List Pc}{ks:List Nu}{n:Nat}(hn:Wa5 sg.ps<=n)(dD:Wbw sg.ps=true)(hargs:WaI G w sg.ps d vs ns ks)(hsep:Sep (fps ns))
  (hfree:∀q∈ns,∀b off,q.fp b off->G b off=none/\b<w.heap.size) (hg:∀b o v,G b o=some v->w.cell? ⟨b,o,none⟩=some v):
  ∃ν,Rel w (Of ns) ⟨n,Wm sg.ps 0 0 vs⟩ G G ν {env:=WeM 0 (Ww sg.ps d [] 0).1,objs:=(Ww sg.ps d [] 0).2.1,nx:=(Ww sg.ps d [] 0).2.2}
   {tmps:=vs.toArray++Xdz (n-vs.toArray.size) undef,defers:=[]} w:=by
 obtain⟨ν,hν⟩:∃ν:Nat->Nu,ν= λi=>((nus ns)[i]?).getD ⟨none,0,0,0,0⟩:=⟨_,rfl⟩;obtain⟨φ,hφ⟩:∃φ:Nat->CS,φ= λi=>((fps ns)[i]?).getD (λ_ _=>False):=⟨_,rfl⟩;have hAt:At ν φ 0 ns:=λj pc hj=>by
  have e1:(nus ns)[j]?=some pc.nu:=by unfold nus;rw[Xak,hj];rfl
  have e2:(fps ns)[j]?=some pc.fp:=by unfold fps;rw[Xak,hj];rfl
  rw[hν,hφ];simp only[Xbd,e1,e2];exact⟨rfl,rfl⟩
 obtain⟨h1,h2,h3,h4⟩:=Wbs (ν:=ν) (φ:=φ) sg.ps d vs ns ks [] 0 (0+ns.length) dD hargs hAt (Xl _);have iU:=Wb2 _ _ _ _ _ hargs;have da:∀id,Live (Ww sg.ps d [] 0).2.1 id->id<ns.length:=λid ⟨ob,ho,_⟩=>by
  rcases h2 id ob ho with⟨_,h,_⟩|h
  .simpa using h
  .cases h
 have ay:∀id b o,φ id b o->∃q,ns[id]?=some q/\(fps ns)[id]?=some q.fp/\q.fp b o:=λid b o hp=>by
  rw[hφ]at hp
  try simp only at hp
  cases hq:ns[id]? with
  |none=>
   have:(fps ns)[id]?=none:=by unfold fps;rw[Xak,hq];rfl
   rw[this]at hp;exact hp.elim
  |some q=>
   have:(fps ns)[id]?=some q.fp:=by unfold fps;rw[Xak,hq];rfl
   rw[this]at hp;exact⟨q,rfl,this,hp⟩
 have sj:∀(i:Nat) (v:Value),vs[i]?=some v->(vs.toArray++Xdz (n-vs.toArray.size) undef)[i]?=some v:=λi v hi=>by
  have hlt:=(Xr.1 hi).1;rw[Array.getElem?_append_left (by simpa using hlt)];simpa using hi
 refine⟨ν,rfl,by simp;omega,λp hp=>?_,λi x hx=>?_,⟨φ,?_⟩,λ_ _ _ hh=>hh,λ_ _ _ hh=>.inl hh⟩
 .obtain⟨_,g2⟩:=Wu _ _ _ _ p hp;exact sj _ _ (by simpa using g2)
 .simp only at hx;rw[Wff]at hx;simp only[Xbk,if_true,Xec]at hx;have hlt:=(Xr.1 hx).1;rw[h3]at hlt;have hv:=Xq hlt;refine⟨_,sj i _ hv,?_⟩;have:=h4 i x _ hx hv;simp only[h1];exact this
 .exact{
   g:=hg
   ob:=λid ob ho=>by
    rcases h2 id ob ho with⟨_,_,h⟩|h
    .simp only[h1];exact h
    .cases h
   gf:=λid b o hl hp=>by
    obtain⟨q,g1,_,g2⟩:=ay id b o hp;exact(hfree q (Xar g1) b o g2).1
   inj:=λid bn b o hl co hp cK=>by
    obtain⟨q,_,g1,g2⟩:=ay id b o hp;obtain⟨q',_,uS,uT⟩:=ay bn b o cK;exact Whu hsep g1 uS g2 uT
   own:=λid b o hl hp=>by
    obtain⟨q,g1,_,g2⟩:=ay id b o hp;exact .inr ⟨q,Xar g1,g2⟩
   lt:=λid hl=>by simp only[h1];have:=da id hl;omega
   bl:=λid b o hl hp=>by
    obtain⟨q,g1,_,g2⟩:=ay id b o hp;exact(hfree q (Xar g1) b o g2).2
   le:=WLe.refl _ w}
theorem WnB(hT:WW P T){f:Func}{sg:Sig}{d:Wdz sg.ps}{G:GH}{w:World}{vs:List Value}{ns:List Pc}{ks:List Nu}{n:Nat}(dD:Wbw sg.ps=true)(hargs:WaI G w sg.ps d vs ns ks)
  {st:St} {a:Act} {w':World} {G1:GH} {ν:Nat->Nu} (hr:Rel w (Of ns) ⟨n,Wm sg.ps 0 0 vs⟩ G G1 ν st a w') {xs:List AVal} (hx:WcQ T st f.results.toList=some xs)
  {A:Outs (WeW sg.rs)} (hA:War sg.rs xs st.objs=some A) {B:OutK (Wd3 sg.ps)} (hB:WK sg.ps (Wi sg.ps 0 0 st) st.objs=some B)
  (aH:WaQ (B.kept++(B.moved++A.moved))=true) (jo:WeT (A.lent++B.lent) (B.kept++(B.moved++A.moved))=true):
  ∃rv kf ms cd G',(results f a.tmps).run P w'= .ok (Wfy rv) w'/\After sg (B.d,A.d) G w ns ks rv kf ms cd G' w':=by
 have aH:=(Wdt _).1 aH;have jo:=WiD jo;obtain⟨φ,hφ⟩:=hr.h;have qg:=hφ.addG_le (A.lent++B.lent);have uU:=hφ.addG_w (A.lent++B.lent);have kp:Lent (Wmn G1 w' (FromL φ st.objs (A.lent++B.lent))) w' φ st.objs (A.lent++B.lent):=λid bg hl=>(WfN _).mono (FromL.one bg hl);obtain⟨k1,k2,k3⟩:=Xaf.1 aH;obtain⟨k4,k5,k6⟩:=Xaf.1 k2;obtain⟨rv,qh,qi,qj⟩:=Wh8 hT hr _ xs hx;obtain⟨cd,q1,q2,q3,q4⟩:=Wcv hφ qg sg.rs xs rv A qi qj (kp.mono λi hi=>Xj _ hi) k5 hA;obtain⟨hsl,cq⟩:=W6 hr sg.ps d vs ns ks 0 0 hargs dD (by cases sg.ps<;>rfl) (Xbk _) (by simpa using hr.par);obtain⟨kf,ms,hO⟩:=Wai qg hφ sg.ps d vs ns ks _ B hargs hsl (λj x v hj hv=>cq j x v hj (by simpa using hv)) (kp.mono λi hi=>Xg _ hi) k1 k4 hB;have dS:∀S∈kf++fps (ms++cd),CS.le S (FromL φ st.objs (B.kept++(B.moved++A.moved))):=λS hS=>by
  rcases Xk.1 hS with hS|hS
  .exactλb o hh=>FromL.mono (λi hi=>Xj _ hi) b o (hO.kf S hS b o hh)
  .obtain⟨q,hq,rfl⟩:=Xu.1 hS;rcases Xk.1 hq with hq|hq
   .exactλb o hh=>FromL.mono (λi hi=>Xg _ (Xj _ hi)) b o (hO.ms q hq b o hh)
   .exactλb o hh=>FromL.mono (λi hi=>Xg _ (Xg _ hi)) b o (q3 q hq b o hh)
 refine⟨rv,kf,ms,cd,Wmn G1 w' (FromL φ st.objs (A.lent++B.lent)),?_,?_⟩
 .show(do let vs←f.results.mapM (Wjp a.tmps);pure (if h:vs.size=1 then vs[0]else .tuple vs):Sem Value).run P w'=_;have gQ:(f.results.mapM (Wjp a.tmps)).run P w'= .ok rv.toArray w':=by
   rw[Array.mapM_eq_mapM_toList,Sem.run_map,qh];rfl
  rw[Sem.run_bind,gQ];simp only[Result.andThen_ok,Sem.run_pure];congr 1;unfold Wfy
  match rv with
  | []=>rfl
  | [v]=>rfl
  |u::v::l=>simp
 .exact{
   res:=q1
   outs:=hO.outs
   sep:=by
    refine WqU hφ hO.sepk (Wbn hφ hO.sepm q2 hO.ms q3 (λi hi hj=>k6 i hi i hj rfl)) hO.kf (l:=B.moved++A.moved) (λS hS=>?_) (λi hi hj=>k3 i hi i hj rfl);obtain⟨q,hq,rfl⟩:=Xu.1 hS;rcases Xk.1 hq with hq|hq
    .exactλb o hh=>FromL.mono (λi hi=>Xj _ hi) b o (hO.ms q hq b o hh)
    .exactλb o hh=>FromL.mono (λi hi=>Xg _ hi) b o (q3 q hq b o hh)
   own:=λS hS b off hh=>by
    obtain⟨i,hi,h1,h2⟩:=dS S hS b off hh;refine⟨?_,(hφ.own i b off h1 h2).symm,hφ.bl i b off h1 h2⟩;rw[Wb0 (λ⟨j,hj,h3,h4⟩=>by
     have:=hφ.inj i j b off h1 h3 h2 h4;subst this;exact jo _ hj hi)]
    exact hφ.gf i b off h1 h2
   gx:=by
    refine⟨λb o v hv=>qg b o v (hr.gx.le b o v hv),λb off v hv=>?_⟩;by_cases hb:FromL φ st.objs (A.lent++B.lent) b off
    .obtain⟨j,hj,h1,h2⟩:=hb;exact .inr (hφ.own j b off h1 h2)
    .rw[Wb0 hb]at hv;exact hr.gx.new b off v hv
   g:=uU
   le:=hφ.le}
theorem WpW(hM:P.follows .mixedOrders=true)(hT:WW P T)(hΓ:Wdv P Γ){f:Func}{k:FuncId}{c:Code}(hf:P.funcs[k]?=some f)(hb:f.body=some c){sg:Sig}(bm:Wcd f.ntmps (WcK sg.ps 0 0) c=true)(dD:Wbw sg.ps=true)
  (hn:Wa5 sg.ps<=f.ntmps) {ann:Nat->List Ghost} (h:∀d o,sg.run d=some o->∃N,den T Γ ann N sg f d some=some o):Good P k sg:=by
 intro d o hrun G w vs ns ks hargs hsep hfree hg;obtain⟨N,fP⟩:=h d o hrun;unfold den at fP;simp only[hb]at fP;obtain⟨ν,qk⟩:=WoL hn dD hargs hsep hfree hg;split at fP
 case h_2=>cases fP
 rename_i c' b st0 eE uV;injection eE with eE;subst eE;obtain⟨rfl,fP⟩:=Wac fP;obtain⟨G0',ν0',hr⟩:=Wci _ _ _ _ _ qk uV;refine calls_of_wp hf hb ?_
 suffices hk:∀e,WnG w (Of ns) ⟨f.ntmps,Wm sg.ps 0 0 vs⟩ G (Wq9 T sg f.results.toList some e) o (bodyPost P f (λe w'=>∃rv kf ms cd G',e= .returned (Wfy rv)/\After sg o G w ns ks rv kf ms cd G' w') e.to)from
  WjS (nt:=⟨f.ntmps,Wm sg.ps 0 0 vs⟩) hM hT hΓ (n:=f.ntmps) rfl (WA sg.ps 0 0 vs) c bm hk _ _ _ _ _ hr fP
 intro e st a w' G1 ν1 fM hk;have fQ:(∃xs,WcQ T st f.results.toList=some xs/\∃A B,War sg.rs xs st.objs=some A/\WK sg.ps (Wi sg.ps 0 0 st) st.objs=some B/\WaQ (B.kept++(B.moved++A.moved))=true/\WeT (A.lent++B.lent) (B.kept++(B.moved++A.moved))=true/\(B.d,A.d)=o)->
   a.defers= []/\∃v,(results f a.tmps).run P w'= .ok v w'/\∃rv kf ms cd G',Ending.returned v= .returned (Wfy rv)/\After sg o G w ns ks rv kf ms cd G' w':=by
  rintro⟨xs,hx,A,B,hA,hB,h1,h2,rfl⟩;obtain⟨rv,kf,ms,cd,G',h3,h4⟩:=WnB hT (f:=f) dD hargs fM hx hA hB h1 h2;exact⟨fM.defers,_,h3,rv,kf,ms,cd,G',rfl,h4⟩
 have jt:(match WcQ T st f.results.toList with
   |some xs=>match War sg.rs xs st.objs,WK sg.ps (Wi sg.ps 0 0 st) st.objs with
    |some A,some B=>if WaQ (B.kept++(B.moved++A.moved))&&WeT (A.lent++B.lent) (B.kept++(B.moved++A.moved))then some (B.d,A.d)else none
    |_,_=>none
   |none=>none)=some o->(∃xs,WcQ T st f.results.toList=some xs/\∃A B,War sg.rs xs st.objs=some A/\WK sg.ps (Wi sg.ps 0 0 st) st.objs=some B/\WaQ (B.kept++(B.moved++A.moved))=true/\WeT (A.lent++B.lent) (B.kept++(B.moved++A.moved))=true/\(B.d,A.d)=o):=λhk=>by
  split at hk
  .rename_i xs hx;split at hk
   .rename_i A B hA hB;obtain⟨hc,hk⟩:=Wa6 hk;simp only[Xi]at hc;injection hk with hk;exact⟨xs,hx,A,B,hA,hB,hc.1,hc.2,hk⟩
   .cases hk
  .cases hk
 cases e with
 |normal=>exact fQ (jt hk)
 |ret=>exact fQ (jt hk)
 |exit id=>cases hk
end
end Go.Sx
namespace Go.Sx
set_option linter.unusedVariables false
set_option linter.unusedSimpArgs false
def zv1:Value->Value->Bool
 | .int k n,.int k' n'=>decide (k=k')&&decide (n=n')
 | .bool b,.bool b'=>b==b'
 | .string s,.string s'=>match s.data.toList,s'.data.toList with
  | [],[]=>true
  |_,_=>false
 | .slice none 0 0,.slice none 0 0=>true
 | .pointer none,.pointer none=>true
 |_,_=>false
theorem Wo5(x y:Value)(h:zv1 x y=true):x=y:=by
 unfold zv1 at h;split at h
 .simp only[Xi,decide_eq_true_eq]at h;obtain⟨rfl,rfl⟩:=h;rfl
 .have:=eq_of_beq h;subst this;rfl
 .rename_i s s';split at h
  .rename_i e1 e2;have:s=s':=by
    cases s with|mk a=>cases s' with|mk b=>
    congr 1;apply Array.ext';simp only at e1 e2;rw[e1,e2]
   rw[this]
  .cases h
 .rfl
 .rfl
 .cases h
def WqR:List Value->List Value->Bool
 | [],[]=>true
 |x::l,y::m=>zv1 x y&&WqR l m
 |_,_=>false
theorem WjM:∀(l m:List Value),WqR l m=true->l=m
 | [],[],_=>rfl
 | [],_::_,h=>by cases h
 |_::_,[],h=>by cases h
 |x::l,y::m,h=>by
  simp only[WqR,Xi]at h;rw[Wo5 x y h.1,WjM l m h.2]
def Wd8:List Field->List (Nat×TypeId)->Bool
 | [],[]=>true
 |f::l,p::m=>Xbj f.offset p.1&&Xbj f.type p.2&&(f.name != "_")&&Wd8 l m
 |_,_=>false
def Wnx(P:Program)(T:Tab)(t:TypeId)(te:TE):Bool:=match te.shape with
 | .basic=>!te.agg&&(match te.ty with
  | .int k=>match P.underlying t with|some (.int k')=>decide (k'=k)|_=>false
  | .bool=>match P.underlying t with|some .bool=>true|_=>false
  | .str=>match P.underlying t with|some .string=>true|_=>false
  |_=>false)
 | .slice e=>!te.agg&&(match P.underlying t with|some (.slice e')=>Xbj e' e|_=>false)&&(match Wc T e with|some cS=>decide (te.ty= .slice cS.ty)|none=>false)
 | .struct fs=>te.agg&&(match P.underlying t with|some (.struct fields)=>Wd8 fields.toList fs|_=>false)&& !P.stoodInHeld t&& !P.eqGuardType P.depth t
 | .ptr e=>!te.agg&&(match P.underlying t with|some (.pointer e')=>Xbj e' e|_=>false)
 | .arr n e=>te.agg&&(match P.underlying t with|some (.array n' e')=>Xbj n' n&&Xbj e' e|_=>false)&&(match Wc T e with|some cS=>decide (cS.ty=te.ty)&&cS.plain|none=>false)
def Wkr(P:Program)(t:TypeId)(te:TE):Bool:=match P.info? t with
 |some i=>match i.zero with
  |some z=>Xbj i.size te.size&&WqR z.cells.toList te.cells&&Nat.ble i.bytes 4096
  |none=>false
 |none=>false
def Wir(P:Program)(T:Tab):Tab->Bool
 | []=>true
 |(t,te)::l=>Wnx P T t te&&Wkr P t te&&Wir P T l
theorem WdE:∀(l:List Field) (m:List (Nat×TypeId)),Wd8 l m=true→l.map (λf=>(f.offset,f.type))=m∧∀f∈l,f.name≠ "_"
 | [],[],_=>⟨rfl,by simp⟩
 | [],_::_,h=>by cases h
 |_::_,[],h=>by cases h
 |f::l,p::m,h=>by
  simp only[Wd8,Xi,bne_iff_ne,ne_eq]at h;obtain⟨⟨⟨h1,h2⟩,h3⟩,h4⟩:=h;obtain⟨h5,h6⟩:=WdE l m h4;have h1:f.offset=p.1:=by simpa using h1
  have h2:f.type=p.2:=by simpa using h2
  refine⟨by rw[Xaj,h5,h1,h2],λg hg=>?_⟩;rcases Xm.1 hg with hg|hg
  .subst hg;exact h3
  .exact h6 g hg
theorem Wj3{P:Program}{T:Tab}{t:TypeId}{te:TE}(h:Wnx P T t te=true)(hi:Wkr P t te=true):TEok P T t te:=by
 obtain⟨ty,agg,shape⟩:=te;refine⟨?_,?_⟩
 .unfold Wnx at h;cases shape with
  |basic=>
   simp only[Xi,Xam]at h⊢;refine⟨h.1,?_⟩;have h:=h.2;cases ty with
   |int k=>
    simp only at h⊢;split at h
    .rename_i k' hu;simp only[decide_eq_true_eq]at h;rw[hu,h]
    .cases h
   |bool=>
    simp only at h⊢;split at h
    .assumption
    .cases h
   |str=>
    simp only at h⊢;split at h
    .assumption
    .cases h
   |slice e=>cases h
   |own e=>cases h
   |prod a b=>cases h
  |slice e=>
   simp only[Xi,Xam]at h⊢;obtain⟨⟨h1,h2⟩,h3⟩:=h;refine⟨h1,?_,?_⟩
   .split at h2
    .rename_i e' hu;rw[hu];have:e'=e:=by simpa using h2
     rw[this]
    .cases h2
   .split at h3
    .rename_i cS hl;exact⟨cS,hl,by simpa using h3⟩
    .cases h3
  |struct fs=>
   simp only[Xi,Xam]at h⊢;obtain⟨⟨⟨h1,h2⟩,h3⟩,h4⟩:=h;refine⟨h1,?_⟩;split at h2
   .rename_i fields hu;obtain⟨h5,h6⟩:=WdE _ _ h2;exact⟨fields,hu,h5,λf hf=>h6 f (by simpa using hf),h3,h4⟩
   .cases h2
  |ptr e=>
   simp only[Xi,Xam]at h⊢;refine⟨h.1,?_⟩;have h:=h.2;split at h
   .rename_i e' hu;rw[hu];have:e'=e:=by simpa using h
    rw[this]
   .cases h
  |arr n e=>
   simp only[Xi]at h⊢;obtain⟨⟨h1,h2⟩,h3⟩:=h;refine⟨h1,?_,?_⟩
   .split at h2
    .rename_i n' e' hu;simp only[Xi]at h2;have e1:n'=n:=by simpa using h2.1
     have e2:e'=e:=by simpa using h2.2
     rw[hu,e1,e2]
    .cases h2
   .split at h3
    .rename_i cS hl;simp only[Xi,decide_eq_true_eq]at h3;refine⟨cS,hl,h3.1,λm f hs=>?_⟩;have:=h3.2;unfold TE.plain at this;rw[hs]at this;cases this
    .cases h3
 .unfold Wkr at hi;split at hi
  .rename_i i jz;split at hi
   .rename_i z hz;simp only[Xi]at hi;obtain⟨⟨h1,h2⟩,h3⟩:=hi;exact⟨i,z,jz,by simpa using h1,hz,WjM _ _ h2,Xfu h3⟩
   .cases hi
  .cases hi
theorem WqM{P:Program}{T:Tab}(h:Wir P T T=true):WW P T:=by
 have key:∀l,Wir P T l=true->∀t te,Wc l t=some te->TEok P T t te:=by
  intro l
  induction l with
  |nil=>intro _ t te hl;cases hl
  |cons p l ih=>
   intro hc t te hl;obtain⟨t',cS⟩:=p;simp only[Wir,Xi]at hc;rw[Wl]at hl;split at hl
   .rename_i e;subst e;injection hl with hl;subst hl;exact Wj3 hc.1.1 hc.1.2
   .exact ih hc.2 t te hl
 exact key T h
theorem Wb{P:Program}:Wdv P []:=λk sg h=>by cases h
theorem WoS{P:Program}{Γ:Ctx}{k:FuncId}{sg:Sig}(hg:Good P k sg)(hc:Wef P k)(h:Wdv P Γ):Wdv P ((k,sg)::Γ):=λk' uW hl=>by
 simp only[Wc]at hl;split at hl
 .rename_i e;have:k=k':=by simpa using e
  subst this;injection hl with hl;subst hl;exact⟨hg,hc⟩
 .exact h k' uW hl
def Wmj(f:Func):Bool:=f.body.isSome&& !(f.name== "runtime.NumGoroutine")
theorem WcB{P:Program}{k:FuncId}{f:Func}(hf:P.funcs[k]?=some f)(h:Wmj f=true):Wef P k:=by
 simp only[Wmj,Xi,Xam]at h;refine⟨f,hf,?_,h.2⟩;cases hb:f.body with
 |none=>rw[hb]at h;cases h.1
 |some c=>rfl
def WjV(f:Func)(ps:List PTy):Bool:=match f.body with
 |some c=>Wcd f.ntmps (WcK ps 0 0) c&&Nat.ble (Wa5 ps) f.ntmps&&Wbw ps
 |none=>false
theorem Wnn{P:Program}{T:Tab}{Γ:Ctx}(hM:P.follows .mixedOrders=true)(hT:WW P T)(hΓ:Wdv P Γ){f:Func}{k:FuncId}(hf:P.funcs[k]?=some f){sg:Sig}(bm:WjV f sg.ps=true){ann:Nat->List Ghost}
  (h:∀d o,sg.run d=some o->∃N,den T Γ ann N sg f d some=some o):Good P k sg:=by
 unfold WjV at bm;split at bm
 .rename_i c hb;simp only[Xi]at bm;exact WpW hM hT hΓ hf hb bm.1.1 bm.2 (Xfu bm.1.2) h
 .cases bm
end Go.Sx
namespace Go.Sx
def Wd1:Code->List Code
 | .seq a b=>Wd1 a++Wd1 b
 | .cond _ a b=>Wd1 a++Wd1 b
 | .block _ c=>Wd1 c
 | .loop c=>c::Wd1 c
 |_=>[]
def Wnz(f:Func):Code:=match f.body with
 |some c=>c
 |none=>.skip
def WmC(f:Func)(i:Nat):Code:=(Wd1 (Wnz f)).getD i .skip
noncomputable def Wqi{R:Type}(T:Tab)(Γ:Ctx)(ann:Nat->List Ghost)(N:Nat):Code->List Nat->(Ex->St->Option R)->Ex->St->Option R
 | .seq a b,p,k=>match p with
  |0::p=>Wqi T Γ ann N a p λe af=>match e with
   | .normal=>sx T Γ ann N b af k
   | .exit id=>k (.exit id) af
   | .ret=>k .ret af
  |_::p=>Wqi T Γ ann N b p k
  | []=>k
 | .cond _ x y,p,k=>match p with
  |0::p=>Wqi T Γ ann N x p k
  |_::p=>Wqi T Γ ann N y p k
  | []=>k
 | .block id c,p,k=>match p with
  |_::p=>Wqi T Γ ann N c p λe af=>match e with
   | .exit bn=>if bn=id then k .normal af else k (.exit bn) af
   | .normal=>k .normal af
   | .ret=>k .ret af
  | []=>k
 |_,_,k=>k
def Wrc{R:Type}(gs:List Ghost)(L:St->(Ex->St->Option R)->Option R)(K:Ex->St->Option R):Ex->St->Option R:=λe st=>match e with
 | .normal=>match WcF gs st with
  |some (c,af)=>bif c then L af K else none
  |none=>none
 | .exit id=>K (.exit id) st
 | .ret=>K .ret st
abbrev vI(x:Int):AVal:=.s (.one (.val (.int .i64) x))
abbrev vB(x:Bool):AVal:=.s (.one (.val .bool x))
abbrev vV(t:Ty)(x:t.den):AVal:=.s (.one (.val t x))
abbrev vO(i:Nat):AVal:=.s (.one (.own i))
abbrev vP(i o:Nat):AVal:=.s (.one (.ptr i o))
abbrev Qs(s:Sig):=Wd3 s.ps×WeW s.rs
structure Fn where
 F:Func
 a:Nat->List Ghost
 s:Nat->Sig
 c:Nat->Ctx
def W4:Nat->List Ghost:=λ_=>[]
def WcL:Nat->Ctx:=λ_=>[]
noncomputable def lpM{R:Type}(T:Tab)(Γ:Ctx)(ann:Nat->List Ghost)(N:Nat)(F:Func)(i k n:Nat)(st:St)(K:Ex->St->Option R):Option R:=WjT (Wg3 (ann k) λst k=>sx T Γ ann N (WmC F i) st k) n st K
noncomputable def cxF(T:Tab)(Γ:Ctx)(ann:Nat->List Ghost)(N:Nat)(sg:Sig)(F:Func)(p:List Nat):Ex->St->Option (Qs sg):=Wqi (R:=Qs sg) T Γ ann N (Wnz F) p (Wq9 T sg F.results.toList some)
noncomputable def cxL{R:Type}(T:Tab)(Γ:Ctx)(ann:Nat->List Ghost)(N:Nat)(F:Func)(i k:Nat)(p:List Nat)(n:Nat)(K:Ex->St->Option R):Ex->St->Option R:=Wqi T Γ ann N (WmC F i) p (Wrc (ann k) (lpM T Γ ann N F i k n) K)
end Go.Sx
namespace Go.Sx
open Go.ChangeShapes Go.WideShapes Go.ChangeAt Go.RowKit
set_option linter.unusedVariables false
set_option linter.unusedSimpArgs false
def Wfd:(t:Ty)->t.den->Prop
 | .int k,n=>(Lit.int k n).wf=true
 | .bool,_=>True
 | .str,s=>Xa s<=maxLen
 | .slice e,l=>Xa l<=maxLen/\∀x,List.Mem x l->Wfd e x
 | .own _,_=>False
 | .prod a b,d=>Wfd a d.1/\Wfd b d.2
def Wd6:(t:Ty)->t.den->Nat
 | .int _,_=>1
 | .bool,_=>1
 | .str,s=>Xa s+1
 | .slice e,l=>(List.map (Wd6 e) l).sum+1
 | .own _,_=>0
 | .prod a b,d=>Wd6 a d.1+Wd6 b d.2
structure Bulk{H:Type}(β:DataW H->Nat):Prop where
 lit:∀l,1<=β (.lit l)
 str:∀s,s.length+1<=β (.lit (.string s))
 nil:1<=β .nil
 slice:∀es sp,(es.map β).sum+1<=β (.slice es sp)
 agg:∀ps,(ps.map β).sum<=β (.agg ps)
def WgL(T:Tab):List (Nat×TypeId)->Nat->Option (List Ty)
 | [],_=>some []
 |(o,ft)::fs,off=>match Wc T ft with
  |some te=>bif Xbj o off&&te.plain then(WgL T fs (off+te.ty.size)).map (te.ty:: ·)else none
  |none=>none
def WcI:List Ty->Ty
 | []=>.bool
 | [t]=>t
 |t::ts=>.prod t (WcI ts)
def Wkv(T:Tab):Nat->TypeId->Bool
 |0,_=>false
 |n+1,t=>match Wc T t with
  |some te=>match te.shape with
   | .basic=>match te.ty with
    | .int _=>true
    | .bool=>true
    | .str=>true
    | .slice _=>false
    | .own _=>false
    | .prod _ _=>false
   | .slice e=>Wkv T n e&&(match Wc T e with|some cS=>cS.plain|none=>false)
   | .struct fs=>fs.all (λf=>Wkv T n f.2)&&(match WgL T fs 0 with
    |some (t::ts)=>decide (te.ty=WcI (t::ts))
    |_=>false)
   | .ptr _=>false
   | .arr _ _=>false
  |none=>false
section
variable{P:Program}{T:Tab}{H:Type}{enc:TypeId×Value->H}{β:DataW H->Nat}{w:World}
theorem WeY{t:TypeId}{te:TE}(h:TEok P T t te):P.cellsOf t=te.size:=by
 obtain⟨i,z,hi,hs,_⟩:=h.info;unfold Program.cellsOf;rw[hi];exact hs
def Wf4(w:World):GH:=λb o=>w.cell? ⟨b,o,none⟩
theorem WnM{b:Nat}{a:Addr}{n:Nat}{cs:List Value}(h:w.cells? b a n=some cs):cs.length=n/\∀(j:Nat) (v:Value),cs[j]?=some v->w.cell? (a.add j)=some v:=by
 unfold World.cells? at h;split at h
 .refine⟨by simpa using mapM_some_length h,λj v hj=>?_⟩;have hlt:j<n:=by
   have:=mapM_some_length h;have h2:=(Xr.1 hj).1;simp at this;omega
  have:=mapM_some_get h j j (by simp[hlt]);rw[this];exact hj
 .cases h
theorem Wlh{e:Ty}{a:Addr}(n:Nat)(hn:0<n):∀(k:Nat) (i0:Nat) (el:Nat->Option (DataW H×List MemPlace)) (f:List Value->Option (DataW H×List MemPlace)),
  (∀cs y,f cs=some y->∃d:e.den,Enc (Wf4 w) e d cs/\Wfd e d/\Wd6 e d<=β y.1)->
  (∀i,i0<=i->i<i0+k->∃y cs,w.cells? 0 (a.add (i*n)) n=some cs/\f cs=some y/\el i=some y)->
  ∃(l:List e.den) (cs:List Value),l.length=k/\EncL (Enc (Wf4 w) e) l cs/\(∀x∈l,Wfd e x)/\(∀(j:Nat) (v:Value),cs[j]?=some v->w.cell? (a.add (i0*n+j))=some v)/\
   cs.length=k*n/\(l.map (Wd6 e)).sum<=((Xdf k).map λi=>match el (i0+i)with|some y=>β y.1|none=>0).sum
 |0,i0,el,f,hf,he=>⟨[],[],rfl,rfl,by simp,by simp,by simp,by simp⟩
 |k+1,i0,el,f,hf,he=>by
  obtain⟨y,c1,h1,h2,h3⟩:=he i0 (Xl _) (by omega);obtain⟨d,uX,jr,hd3⟩:=hf _ _ h2;obtain⟨l,cs,g1,g2,g3,g4,g5,g6⟩:=Wlh n hn k (i0+1) el f hf (λi jA jB=>he i (by omega) (by omega));obtain⟨hl,hg⟩:=WnM h1;refine⟨d::l,c1++cs,by simp[g1],⟨c1,cs,rfl,uX,g2⟩,λx hx=>?_,λj v hj=>?_,?_,?_⟩
  .rcases Xm.1 hx with rfl|hx
   .exact jr
   .exact g3 x hx
  .rw[Xaq]at hj;split at hj
   .have:=hg j v hj;rw[Addr.add_add]at this;exact this
   .rename_i hlt;have:=g4 _ v hj;rw[hl]at this hlt;have e:(i0+1)*n+(j-n)=i0*n+j:=by rw[Xcp];omega
    rw[e]at this;exact this
  .rw[Xs,hl,g5,Xcp];omega
  .rw[List.range_succ_eq_map,Xaj,Xaj,Xei,Xei,Xeb];simp only[Xat,h3];have:((λi=>match el (i0+i)with|some y=>β y.1|none=>0)∘Nat.succ)= λi=>match el (i0+1+i)with|some y=>β y.1|none=>0:=by
    funext i;simp only[Function.comp,Nat.succ_eq_add_one];rw[show i0+(i+1)=i0+1+i by omega]
   rw[this];omega
theorem WpJ{β':DataW H×List MemPlace->Nat}(xs:List (DataW H×List MemPlace)):((Xdf xs.length).map λi=>match xs[0+i]? with|some y=>β' y|none=>0).sum=(xs.map β').sum:=by
 congr 1;apply List.ext_getElem
 .simp
 .intro i h1 h2;simp at h1;simp[h1]
theorem Wkk{t:Ty}{ts:List Ty}(h:ts≠ []):WcI (t::ts)= .prod t (WcI ts):=by
 cases ts with
 |nil=>exact absurd rfl h
 |cons _ _=>rfl
theorem WgM(hT:WW P T)(hβ:Bulk β)(f:TypeId->List Value->Option (DataW H×List MemPlace)){cs:List Value}:∀(fs:List (Nat×TypeId)) (off:Nat) (ts:List Ty) (ys:List (DataW H×List MemPlace)),ts≠ []->WgL T fs off=some ts->
  (∀fd∈fs,∀te cs y,Wc T fd.2=some te->f fd.2 cs=some y->∃d:te.ty.den,Enc (Wf4 w) te.ty d cs/\Wfd te.ty d/\Wd6 te.ty d<=β y.1)->
  ys.length=fs.length->(∀(i:Nat) (fd:Nat×TypeId),fs[i]?=some fd->f fd.2 ((cs.drop fd.1).take (P.cellsOf fd.2))=ys[i]?)->cs.length=off+(WcI ts).size->
  ∃d:(WcI ts).den,Enc (Wf4 w) (WcI ts) d (cs.drop off)/\Wfd (WcI ts) d/\Wd6 (WcI ts) d<=(ys.map λy=>β y.1).sum
 | [],off,ts,ys,hne,gw,_,_,_,_=>by injection gw with gw;exact absurd gw.symm hne
 |(o,ft)::fs,off,ts,ys,hne,gw,hf,hlen,sm,aX=>by
  cases ys with
  |nil=>simp at hlen
  |cons y ys=>
   simp only[WgL]at gw;split at gw
   .rename_i te hl;obtain⟨hc,gw⟩:=Wac gw;simp only[Xi]at hc;have ho:o=off:=by simpa using hc.1
    obtain⟨so,dj,rfl⟩:=Xw.1 gw;have hsz:P.cellsOf ft=te.ty.size:=by rw[WeY (hT _ _ hl),WH hc.2]
    have h0:=sm 0 (o,ft) rfl;simp only[Xdn,hsz,ho]at h0;obtain⟨d1,e1,e2,e3⟩:=hf (o,ft) (Xh ..) te _ y hl h0;cases cJ:fs with
    |nil=>
     subst cJ;simp only[WgL]at dj;injection dj with dj;subst dj;have ql:ys= []:=by cases ys with
      |nil=>rfl
      |cons _ _=>simp at hlen
     subst ql;have kZ:(cs.drop off).take te.ty.size=cs.drop off:=Xbr (by rw[List.length_drop,aX];simp[WcI]);rw[kZ]at e1;exact⟨d1,e1,e2,by rw[Xaj,Xbh,Xei,List.sum_nil,Xat];exact e3⟩
    |cons g gs=>
     have nC:so≠ []:=by
      rw[cJ]at dj;obtain⟨o2,ft2⟩:=g;simp only[WgL]at dj;split at dj
      .obtain⟨_,dj⟩:=Wac dj;obtain⟨x,_,rfl⟩:=Xw.1 dj;simp
      .cases dj
     have sq:=Wkk (t:=te.ty) nC;obtain⟨d2,f1,f2,f3⟩:=WgM hT hβ f (cs:=cs) fs (off+te.ty.size) so ys nC dj (λfd d6=>hf fd (Xe _ d6)) (by simpa using hlen)
      (λi fd hi=>by have:=sm (i+1) fd (by simpa using hi);simpa using this) (by rw[aX,sq,Ty.size];omega)
     rw[sq];refine⟨(d1,d2),⟨_,_,?_,e1,f1⟩,⟨e2,f2⟩,?_⟩
     .rw[←List.drop_drop];exact(List.take_append_drop _ _).symm
     .simp only[Wd6,Xaj,Xei];omega
   .cases gw
theorem Wh7(hT:WW P T)(hβ:Bulk β):∀(n fuel:Nat) (t:TypeId) (te:TE) (cs:List Value) (x:DataW H×List MemPlace),Wkv T n t=true->Wc T t=some te->
  DataW.trod enc P w 0 (λ_=>true) true fuel t cs=some x->∃d:te.ty.den,Enc (Wf4 w) te.ty d cs/\Wfd te.ty d/\Wd6 te.ty d<=β x.1
 |0,_,_,_,_,_,h,_,_=>by cases h
 |n+1,fuel,t,te,cs,x,h,hl,hx=>by
  have bh:=hT _ _ hl;simp only[Wkv,hl]at h;obtain⟨ty,agg,shape⟩:=te;cases shape with
  |basic=>
   have hu:=bh.und.2;cases ty with
   |int k=>
    obtain⟨m,rfl,rfl,hw⟩:=DataW.trod_int hu hx;exact⟨m,rfl,hw,hβ.lit _⟩
   |bool=>
    obtain⟨b,rfl,rfl⟩:=DataW.trod_bool hu hx;exact⟨b,rfl,trivial,hβ.lit _⟩
   |str=>
    obtain⟨s,rfl,rfl,hs⟩:=DataW.trod_string hu hx;refine⟨s.data.toList,by simp[Enc],?_,hβ.str _⟩;show s.data.toList.length<=maxLen;rw[Array.length_toList];exact hs
   |slice e=>cases h
   |own e=>cases h
   |prod a b=>cases h
  |slice e=>
   simp only[Xi]at h;obtain⟨ha,hu,cS,hle,fh⟩:=bh.und;simp only at fh;subst fh;have hp:cS.plain=true:=by have:=h.2;rw[hle]at this;exact this
   have hsz:P.cellsOf e=cS.ty.size:=by rw[WeY (hT _ _ hle),WH hp]
   rcases DataW.trod_slice hu hx with⟨rfl,rfl⟩|⟨a,len,cap,elems,rest,m,rfl,rfl,rfl,hb,uY,mS,qm,hel,jh,_⟩
   .exact⟨([]:List cS.ty.den),⟨_,rfl,.inl ⟨rfl,rfl⟩⟩,⟨by simp,λx hx=>by cases hx⟩,by simpa [Wd6]using hβ.nil⟩
   .have key:=Wlh (w:=w) (β:=β) (e:=cS.ty) (a:=a) cS.ty.size (WaR _) len 0 (λi=>elems[i]?) (λcs=>DataW.trod enc P w 0 (λ_=>true) true m e cs)
     (λcs y hy=>Wh7 hT hβ n m e cS cs y h.1 hle hy) (λi _ hi=>by
      rw[Xbd]at hi;have:=hel i hi;rw[hsz]at this;have hlt:i<elems.length:=by omega
      rw[Xq hlt]at this;obtain⟨cs,h1,h2⟩:=Xbp.1 this;exact⟨elems[i],cs,h1,h2,Xq hlt⟩)
    obtain⟨l,cs,g1,g2,g3,g4,g5,g6⟩:=key;refine⟨l,⟨_,rfl,?_⟩,⟨by rw[g1];omega,g3⟩,?_⟩
    .by_cases h0:len=0
     .subst h0;exact .inr (.inr ⟨a,cap,rfl,Xx g1⟩)
     .have pK:0<cs.length:=by rw[g5];exact Nat.mul_pos (by omega) (WaR _)
      have nD:=g4 0 _ (Xq pK);have nE:a.spot=none:=by
       rw[Xeq,Xat]at nD;have:=World.cell?_spot nD;simpa [Addr.add]using this
      obtain⟨b,off,spot⟩:=a;subst nE;refine .inr (.inl ⟨b,off,cap,cs,by rw[g1],by rw[g1];exact uY,mS,g2,λj v hj=>?_⟩);have:=g4 j v hj;rw[Xeq,Xbd,Wao]at this;exact this
    .have h1:=hβ.slice (elems.map (·.1)) (rest.map (·.1));have h2:((Xdf len).map λi=>match elems[0+i]? with|some y=>β y.1|none=>0).sum=(elems.map λy=>β y.1).sum:=by
      rw[←qm];exact WpJ elems
     rw[h2]at g6;rw[Xeb]at h1;simp only[Wd6];have h3:(List.map (β∘λx=>x.1) elems)=elems.map λy=>β y.1:=rfl;rw[h3]at h1;show(List.map (Wd6 cS.ty) l).sum+1<=_;omega
  |struct fs=>
   simp only[Xi]at h;obtain⟨ha,fields,hu,cJ,sr,_⟩:=bh.und;have h2:=h.2;split at h2
   .rename_i t1 ts uZ;have fh:ty=WcI (t1::ts):=of_decide_eq_true h2;subst fh;obtain⟨xs,m,rfl,rfl,hcl,gM,kO⟩:=DataW.trod_struct hu hx;have hsz:P.cellsOf t=(WcI (t1::ts)).size:=by rw[WeY bh];rfl
    have key:=WgM (w:=w) (P:=P) hT hβ (λt cs=>DataW.trod enc P w 0 (λ_=>true) true m t cs) (cs:=cs) fs 0 (t1::ts) xs (by simp) uZ
     (λfd d6 te cs y nA hy=>Wh7 hT hβ n m fd.2 te cs y (Xai.1 h.1 fd d6) nA hy) (by rw[gM,←cJ];simp)
     (λi fd hi=>by
      rw[←cJ]at hi;rw[Xak]at hi;obtain⟨fl,dQ,he⟩:=Xw.1 hi;subst he;exact kO i fl (by simpa using dQ)) (by rw[hcl,hsz,Xbd])
    obtain⟨d,g1,g2,g3⟩:=key;rw[Xce]at g1;refine⟨d,g1,g2,Xck g3 ?_⟩;have:=hβ.agg (xs.map (·.1));rw[Xeb]at this;exact this
   .cases h2
  |ptr e=>cases h
  |arr m e=>cases h
theorem Wda{G:GH}{w:World}:∀(t:Ty) (d:t.den) (vs:List Value),Enc G t d vs->TyRel G w t d vs []
 | .int _,_,_,h=>⟨rfl,h⟩
 | .bool,_,_,h=>⟨rfl,h⟩
 | .str,_,_,h=>⟨rfl,h⟩
 | .slice _,_,_,h=>⟨rfl,h⟩
 | .own _,_,_,h=>h.elim
 | .prod a b,d,vs,⟨c1,c2,he,h1,h2⟩=>⟨c1,c2,[],[],he,rfl,Wda a _ _ h1,Wda b _ _ h2⟩
def Wlm:(ps:List PTy)->Wdz ps->Prop
 | [],_=>True
 | .v t _::ps,d=>Wfd t d.1/\Wlm ps d.2
 | .box _::_,_=>False
 | .mut _::_,_=>False
 | .clos _ _::_,_=>False
 | .kv _ _::_,_=>False
 | .rp _::_,_=>False
 | .vj _::_,_=>False
 | .boxal _ _::_,_=>False
def WeA:(ps:List PTy)->Wdz ps->Nat
 | [],_=>0
 | .v t _::ps,d=>Wd6 t d.1+WeA ps d.2
 | .box _::_,_=>0
 | .mut _::_,_=>0
 | .clos _ _::_,_=>0
 | .kv _ _::_,_=>0
 | .rp _::_,_=>0
 | .vj _::_,_=>0
 | .boxal _ _::_,_=>0
def Wqn(P:Program)(T:Tab):List TypeId->List PTy->Bool
 | [],[]=>true
 |t::ts,p::ps=>(match p with
  | .v ty agg=>(match Wc T t with|some te=>decide (te.ty=ty)&&(te.agg==agg)|none=>false)&&Wkv T 20 t&&P.readableRec t&&Nat.blt t P.types.size&&Wqn P T ts ps
  | .box _=>false
  | .mut _=>false
  | .clos _ _=>false
  | .kv _ _=>false
  | .rp _=>false
  | .vj _=>false
  | .boxal _ _=>false)
 |_,_=>false
theorem WiY(hT:WW P T)(hβ:Bulk β):∀(ts:List TypeId) (ps:List PTy) (vs:List Value) (ds:List (DataW H)) (pl:List MemPlace),Wqn P T ts ps=true->DataW.TrodAll enc P w 0 (λ_=>true) true ts vs ds pl->
  (∀(j:Nat) (t:TypeId) (v:Value),ts[j]?=some t->vs[j]?=some v->∃base,Value.okWide P w .any base t v)->
  ∃d:Wdz ps,WaI (Wf4 w) w ps d vs [] []/\Wlm ps d/\WeA ps d<=(ds.map β).sum
 | [],[],vs,ds,pl,_,h,_=>by
  obtain⟨rfl,rfl,_⟩:=trodAll_nil h;exact⟨(),⟨rfl,rfl,rfl⟩,trivial,by simp[WeA]⟩
 | [],_::_,_,_,_,h,_,_=>by cases h
 |_::_,[],_,_,_,h,_,_=>by cases h
 |t::ts,.box _::ps,_,_,_,h,_,_=>by cases h
 |t::ts,.mut _::ps,_,_,_,h,_,_=>by cases h
 |t::ts,.clos _ _::ps,_,_,_,h,_,_=>by cases h
 |t::ts,.kv _ _::ps,_,_,_,h,_,_=>by cases h
 |t::ts,.rp _::ps,_,_,_,h,_,_=>by cases h
 |t::ts,.vj _::ps,_,_,_,h,_,_=>by cases h
 |t::ts,.boxal _ _::ps,_,_,_,h,_,_=>by cases h
 |t::ts,.v ty agg::ps,vs,ds,pl,hp,h,dv=>by
  obtain⟨v,vs',d,nF,p,q,rfl,rfl,rfl,h0,hr⟩:=trodAll_cons h;simp only[Wqn,Xi]at hp;obtain⟨⟨⟨⟨h1,h2⟩,h3⟩,h4⟩,h5⟩:=hp;split at h1
  .rename_i te hl;simp only[Xi]at h1;have e1:te.ty=ty:=of_decide_eq_true h1.1;have e2:te.agg=agg:=eq_of_beq h1.2;subst e1 e2;obtain⟨fuel,hx⟩:=h0;obtain⟨x,nG,ss,qn⟩:=Wh7 hT hβ 20 fuel t te _ (d,p) h2 hl hx;obtain⟨base,bm⟩:=dv 0 t v rfl rfl;obtain⟨dd,g1,g2,g3⟩:=WiY hT hβ ts ps vs' nF q h5 hr (λj t v hj hv=>dv (j+1) t v (by simpa using hj) (by simpa using hv));refine⟨(x,dd),⟨v,vs',[],[],rfl,rfl,?_,g1⟩,⟨ss,g2⟩,?_⟩
   .have hu:=(hT _ _ hl).und;unfold Wgr;obtain⟨ty,ag,shape⟩:=te;simp only at nG ss qn⊢;have dh:∀u:Value,u.cells= #[u]->u=v->v.cells.toList= [v]:=λu h e=>by rw[←e,h]
    cases shape with
    |basic=>
     obtain⟨ha,hu⟩:=hu;simp only at ha;subst ha;simp only[Xby,if_false];have:v.cells.toList= [v]:=by
      cases ty with
      |int k=>obtain⟨n,rfl⟩:=okWide_int hu bm;rfl
      |bool=>obtain⟨n,rfl⟩:=okWide_bool hu bm;rfl
      |str=>obtain⟨n,rfl⟩:=okWide_string hu bm;rfl
      |slice e=>cases hu
      |own e=>cases hu
      |prod a b=>cases hu
     rw[this]at nG;exact Wda _ _ _ nG
    |slice e=>
     obtain⟨ha,hu,_⟩:=hu;simp only at ha;subst ha;simp only[Xby,if_false];obtain⟨a,l,c,rfl⟩:=okWide_slice hu bm;exact Wda _ _ _ nG
    |struct fs=>
     obtain⟨ha,fields,hu,_⟩:=hu;simp only at ha;subst ha;simp only[if_true];obtain⟨cs,rfl,_⟩:=okWide_struct hu bm;exact⟨cs.toList,by simp,Wda _ _ _ nG⟩
    |ptr e=>simp only[Wkv,hl]at h2;cases h2
    |arr m e=>simp only[Wkv,hl]at h2;cases h2
   .have qn:Wd6 te.ty x<=β d:=qn;simp only[WeA,Xaj,Xei];omega
  .cases h1
theorem Wjh:∀(ts:List TypeId) (vs:List Value) (ds:List (DataW H)) (pl:List MemPlace),DataW.TrodAll enc P w 0 (λ_=>true) true ts vs ds pl->ds.length=ts.length
 | [],vs,ds,pl,h=>by obtain⟨_,rfl,_⟩:=trodAll_nil h;rfl
 |t::ts,vs,ds,pl,h=>by
  obtain⟨v,vs',d,nF,p,q,rfl,rfl,rfl,h0,hr⟩:=trodAll_cons h;simp[Wjh ts vs' nF q hr]
theorem WiO(gE:laidOutB P=true){W W':World}(hb:Below W.heap.size W W'){sp:Nat->Bool}:∀(ts:List TypeId) (ps:List PTy) (vs:List Value) (ds:List (DataW H)) (pl:List MemPlace),Wqn P T ts ps=true->
  DataW.TrodAll enc P W 0 (λ_=>true) true ts vs ds pl->(∀p∈pl,p.block<W.heap.size)->(∀p∈pl,sp p.block=true)->DataW.TrodAll enc P W' 0 sp true ts vs ds pl
 | [],ps,vs,ds,pl,_,h,_,_=>by
  obtain⟨rfl,rfl,rfl⟩:=trodAll_nil h;exact trodAll_mk0
 |t::ts,[],_,_,_,h,_,_,_=>by cases h
 |t::ts,.box _::ps,_,_,_,h,_,_,_=>by cases h
 |t::ts,.mut _::ps,_,_,_,h,_,_,_=>by cases h
 |t::ts,.clos _ _::ps,_,_,_,h,_,_,_=>by cases h
 |t::ts,.kv _ _::ps,_,_,_,h,_,_,_=>by cases h
 |t::ts,.rp _::ps,_,_,_,h,_,_,_=>by cases h
 |t::ts,.vj _::ps,_,_,_,h,_,_,_=>by cases h
 |t::ts,.boxal _ _::ps,_,_,_,h,_,_,_=>by cases h
 |t::ts,.v ty agg::ps,vs,ds,pl,hp,h,hlt,jh=>by
  obtain⟨v,vs',d,nF,p,q,rfl,rfl,rfl,h0,hr⟩:=trodAll_cons h;simp only[Wqn,Xi]at hp;obtain⟨⟨⟨⟨h1,h2⟩,h3⟩,h4⟩,h5⟩:=hp;have hrow:t<P.types.size:=by rw[Xgr]at h4;exact h4
  exact⟨p,q,WideElems.Trod_stays gE h3 hrow h0 (λx hx=>hb.same (hlt x (Xj _ hx))) (λx hx=>jh x (Xj _ hx)),
   WiO gE hb ts ps vs' nF q h5 hr (λx hx=>hlt x (Xg _ hx)) (λx hx=>jh x (Xg _ hx)),rfl⟩
theorem WoW{f:Func}{s:ChangeSpec}{apart fresh eh again:Bool}{W W':World}{args:Array Value}{v:Value}{ds gs:List (DataW H)}{before pa pv:List MemPlace}
  (hW:DataW.Whole enc P f.params.toList s.vars apart W args.toList ds gs before)
  (fJ:∀(b:Nat) (sp:Nat->Bool) (hd:Bool),DataW.TrodAll enc P W' b sp hd f.resultTypes.toList (v.resultList f.resultTypes.size) (s.fn H (ds++gs)).results [])
  (hargs:∀sp:Nat->Bool,(∀p∈before,sp p.block=true)->DataW.TrodAll enc P W' 0 sp true f.params.toList args.toList (s.fn H (ds++gs)).args pa)
  (kq:∀sp:Nat->Bool,(∀p∈before,sp p.block=true)->DataW.TrodVars enc P W' sp s.vars (s.fn H (ds++gs)).vars pv)
  (dg:before=pa++pv) (hk:W.keptBut W' (· ∈before)) (su:∀a,a.block<W.heap.size->W'.frozen? a=W.frozen? a)
  (bm:∀(j:Nat) (t:TypeId) (r:Value),f.resultTypes[j]?=some t->(v.resultList f.resultTypes.size)[j]?=some r->Value.okWide P W' .any 0 t r):
  s.post enc P f apart fresh eh again W args v W':=by
 have eP:∀p∈before,(λb=>decide (b<W.heap.size)) p.block=true:=λp hp=>by simpa using hW.lt p hp
 refine⟨ds,gs,before,[],pa,pv,hW,fJ _ _ _,hargs _ eP,kq _ eP,World.keptBut_mono (λp hp=>⟨hp,?_⟩) hk,λ_=>?_⟩
 .rw[dg,Xk]at hp;exact Or.inr hp
 .have hlt:=hW.lt;obtain⟨_,_,_,_,_,hz,hn⟩:=hW;refine⟨bm,_,_,([]++pa)++pv,⟨[]++pa,pv,trodAll_append (hargs _ (λ_ _=>rfl)) (fJ _ _ _),kq _ (λ_ _=>rfl),rfl,?_,?_⟩,?_⟩
  .intro b off hp;have cK:MemPlace.cell b off∈before:=by rw[dg];simpa using hp
   rw[su ⟨b,off,none⟩ (hlt _ cK)];exact hz b off cK
  .intro ha;have:=hn ha;rw[dg]at this;simpa using this
  .intro p hp _;rw[dg];simpa using hp
theorem law_row(hT:WW P T)(gE:laidOutB P=true){f:Func}{k:FuncId}{s:ChangeSpec}(cq:s.vars= [])(hs:∀ds:List (DataW H),ds.length=f.params.toList.length->s.fn H ds={results:=[.lit (.bool true)],args:=ds})
  {ps:List PTy} (dg:Wqn P T f.params.toList ps=true) {tb:TypeId} (fJ:f.resultTypes= #[tb]) (sw:P.underlying tb=some .bool) {run:Nat->Wdz ps->Option (Wd3 ps×WeW [.v .bool false])}
  (iA:∀N,Good P k (Sig.of ps [.v .bool false] (run N))) (hβ:Bulk β) {ok:List (DataW H)->Prop} {M:Nat->Prop} (nH:∀ds m,ok ds->m<=(ds.map β).sum->M m)
  (qo:∀d:Wdz ps,Wlm ps d->M (WeA ps d)->∃N o,run N d=some (o,(true,()))) {apart fresh eh again:Bool}
  (W:World) (base:Nat) (args:Array Value) (ds gs:List (DataW H)) (before:List MemPlace)
  (dv:∀(j:Nat) t v,f.params[j]?=some t->args[j]?=some v->Value.okWide P W .any base t v)
  (hW:DataW.Whole enc P f.params.toList s.vars apart W args.toList ds gs before) (hk:ok ds):
  Calls P k args W λe W'=>∃v,e= .returned v/\s.post enc P f apart fresh eh again W args v W':=by
 have hW':=hW;have hlt:=hW.lt;obtain⟨p,q,hA,hV,sy,su,aH⟩:=hW;rw[cq]at hV;obtain⟨qp,hq⟩:=trodVars_none hV;subst qp hq;rw[Xcz]at sy;subst sy;obtain⟨d,h1,h2,h3⟩:=WiY (w:=W) hT hβ f.params.toList ps args.toList ds before dg hA (λj t v hj hv=>⟨base,dv j t v (by simpa using hj) (by simpa using hv)⟩);obtain⟨N,o,ho⟩:=qo d h2 (nH ds _ hk h3);have hc:=iA N d (o,(true,())) ho (Wf4 W) W args.toList [] [] h1 List.Pairwise.nil (by simp) (λb o v hv=>hv);have hargs:args.toList.toArray=args:=by simp
 rw[hargs]at hc;refine hc.mono λe W' ⟨rv,kf,ms,cd,G',he,ha⟩=>?_;have hb:Below W.heap.size W W':=⟨ha.le.os,ha.le.tape,ha.le.output,ha.le.size,λb hb=>ha.le.whole b hb (λo ⟨q,hq,_⟩=>by simp at hq)⟩;obtain⟨v,vs',n1,n2,e1,e2,e3,e4⟩:=ha.res;obtain⟨e5,_⟩:=e4;subst e5;have hv:v= .bool true:=by
  unfold Wgr at e3;simp only[Xby,if_false]at e3;have:=e3.2;simpa [Enc]using this
 subst hv;have u0:Wfy rv= .bool true:=by rw[e1];rfl
 rw[u0]at he;refine⟨.bool true,he,?_⟩;have hlen:=Wjh _ _ _ _ hA;have qq:=hs (ds++ []) (by rw[Xcz];exact hlen);refine WoW (pa:=before) (pv:=[]) hW' ?_ ?_ ?_ (by simp) (hb.frame _) (λa ha=>hb.frozen ha) (ok_one fJ rfl (okWide_bool_mk sw _))
 .intro b sp hd;rw[qq,fJ];exact trodAll_cons_mk (shut_bool sw _) trodAll_mk0
 .intro sp jh;rw[qq,Xcz];exact WiO gE hb _ _ _ _ _ dg hA hlt jh
 .intro sp jh;rw[qq,cq];rfl
end
end Go.Sx
namespace Go.Sx
set_option linter.unusedVariables false
def sortInts(xs:List Int):List Int:=xs.mergeSort λx y=>decide (x<=y)
def Zi8(N:Nat)(xs:List Int):Option ((List Int×Unit)×Unit):=bif decide (xs.length<4611686018427387904)then some ((sortInts xs,()),())else none
theorem sortInt_some{N:Nat}{xs:List Int}{o:(List Int×Unit)×Unit}(h:Zi8 N xs=some o):xs.length<4611686018427387904/\o=((sortInts xs,()),()):=by
 unfold Zi8 at h;by_cases h':xs.length<4611686018427387904
 .rw[show decide (xs.length<4611686018427387904)=true by simpa using h']at h;simp only[cond_true]at h;injection h with h;exact⟨h',h.symm⟩
 .rw[show decide (xs.length<4611686018427387904)=false by simpa using h']at h;cases h
end Go.Sx
namespace Go.Sx
set_option linter.unusedVariables false
def WhC{α:Type}(r:α->α->Bool):List α->Bool
 | []=>true
 |x::l=>l.all (r x)&&WhC r l
def lessBy{α:Type}(cf:α->α->Int)(x y:α):Bool:=decide (cf x y<0)
def apart{α:Type}(cf:α->α->Int)(x y:α):Bool:=lessBy cf x y||lessBy cf y x
def sortBy{α:Type}(cf:α->α->Int)(xs:List α):List α:=xs.mergeSort λx y=>!lessBy cf y x
def Zhv{α:Type}(rng:α->Bool)(cf:α->α->Int)(N:Nat)(xs:List α):Option ((List α×Unit)×Unit):=
 bif xs.all rng&&(WhC (apart cf) xs&&decide (xs.length<4611686018427387904))then some ((sortBy cf xs,()),())else none
structure SwoOn{α:Type}(rng:α->Bool)(cf:α->α->Int):Prop where
 irr:∀x,rng x=true->¬cf x x<0
 tr:∀x y z,rng x=true->rng y=true->rng z=true->cf x y<0->cf y z<0->cf x z<0
 nt:∀x y z,rng x=true->rng y=true->rng z=true->¬cf x y<0->¬cf y z<0->¬cf x z<0
theorem sortBy_some{α:Type}{rng:α->Bool}{cf:α->α->Int}{N:Nat}{xs:List α}{o:(List α×Unit)×Unit}(h:Zhv rng cf N xs=some o):
  (∀x∈xs,rng x=true)/\WhC (apart cf) xs=true/\xs.length<4611686018427387904/\o=((sortBy cf xs,()),()):=by
 unfold Zhv at h;cases hb:xs.all rng&&(WhC (apart cf) xs&&decide (xs.length<4611686018427387904))
 .rw[hb]at h;cases h
 .rw[hb]at h;simp only[cond_true]at h;injection h with h;simp only[Xi,decide_eq_true_eq]at hb;exact⟨Xai.1 hb.1,hb.2.1,hb.2.2,h.symm⟩
theorem pairs_get{α:Type}{r:α->α->Bool}:∀{l:List α},WhC r l=true->∀(i j:Nat) (hi:i<l.length) (hj:j<l.length),i<j->r l[i] l[j]=true
 | [],_,i,_,hi,_,_=>by simp at hi
 |x::l,h,0,j+1,hi,hj,hij=>by
  simp only[WhC,Xi]at h;exact Xai.1 h.1 _ (List.getElem_mem _)
 |x::l,h,i+1,j+1,hi,hj,hij=>by
  simp only[WhC,Xi]at h;simpa using pairs_get h.2 i j (by simpa using hi) (by simpa using hj) (by omega)
def WqQ(k:Int):Bool:=decide (-1000000000<=k)&&decide (k<=1000000000)
def WqF(a:Int×Int×Int):Bool:=WqQ a.1
def cfE(a b:Int×Int×Int):Int:=a.1-b.1
theorem Wn1{k:Int}(h:WqQ k=true):-1000000000<=k/\k<=1000000000:=by unfold WqQ at h;simpa using h
theorem Wrj:SwoOn WqF cfE:=⟨λx _=>by unfold cfE;omega,λx y z _ _ _=>by unfold cfE;omega,λx y z _ _ _=>by unfold cfE;omega⟩
end Go.Sx
